/-
  Dividing bit by bit: what the rounds of a quotient do (plain).
  Package ninepinref01: Div (contract).
  Package ninepinref01: Div (contract).
  Package ninepinref01: Div, whole (contract).
-/
import Derived.Test.YtdfdmeoalbpcdaaGreatDa
import Derived.Test.YtdfdmeoalbpcdaaGreatDe
import Derived.Test.YtdfdmeoalbpcdaaGreatDf
set_option linter.unusedSimpArgs false
set_option linter.unusedVariables false
set_option maxRecDepth 100000
namespace Go.Proofs.YtdfdmeoalbpcdaaGreat
open Go Go.RowKit
attribute [local irreducible] wpList
theorem tp_top {x : Int} : ∀ {k t : Nat},tp x k = t + 1 → bt x t = 1
  | 0,t,h => by unfold tp at h;omega
  | k + 1,t,h => by
    unfold tp at h
    split at h
    · exact tp_top h
    · obtain rfl : k = t := by omega
      have := Qhe x k
      omega
theorem ge_top {x : Int} (h0 : 0 ≤ x) {t : Nat} (h : bt x t = 1) : 2 ^ t ≤ x := by
  unfold bt at h
  have hp := Qak t
  rcases Int.lt_or_le x (2 ^ t) with h1|h1
  · rw [Int.ediv_eq_zero_of_lt h0 h1] at h
    omega
  · exact h1
theorem pow_le' {i j : Nat} (h : i ≤ j) : (2 : Int) ^ i ≤ 2 ^ j := by
  rw [Qee h]
  have h1 := Qak (j - i)
  have := Int.mul_le_mul_of_nonneg_left (show (1 : Int) ≤ 2 ^ (j - i) by omega) (Int.le_of_lt (Qak i))
  omega
/-- Ahead of the first round. -/
theorem dv_start {A B : Int} (hA : 0 ≤ A) (hB : 0 < B) {tx ty k : Nat} (hx : A < 2 ^ tx) (hy : ∀ t,ty = t + 1 → bt B t = 1) (hy0 : ty = 0 → B < 1) (hk : k + ty = tx + 1 ∨ (k = 0 ∧ tx < ty)) : A < B * 2 ^ k := by
  have hp := Qak k
  cases ty with
  | zero => have := hy0 rfl;omega
  | succ t =>
    have h1 := ge_top (Int.le_of_lt hB) (hy t rfl)
    have h2 : (2 : Int) ^ t * 2 ^ k ≤ B * 2 ^ k := Int.mul_le_mul_of_nonneg_right h1 (Int.le_of_lt hp)
    rw [← Int.pow_add] at h2
    have h3 := pow_le' (show tx ≤ t + k by omega)
    omega
theorem dv_room {B : Int} (hB : 0 ≤ B) {tx ty j E : Nat} (hy : B < 2 ^ ty) (hj : j + ty ≤ tx) (hE : tx ≤ E) : B * 2 ^ j / 2 ^ E = 0 := by
  refine Int.ediv_eq_zero_of_lt (Int.mul_nonneg hB (Int.le_of_lt (Qak j))) ?_
  have h1 := Int.mul_lt_mul_of_pos_right hy (Qak j)
  rw [← Int.pow_add] at h1
  have h2 := pow_le' (show ty + j ≤ E by omega)
  omega
theorem dv_split (A M : Int) (hM : 0 < M) : A % (M * 2) = M * (A / M % 2) + A % M := Qcg A M 2 hM (by omega)
theorem dv_up (A B : Int) (j : Nat) : A % (B * 2 ^ (j + 1)) = A % (B * 2 ^ j * 2) := by rw [Int.pow_succ,Int.mul_assoc]
theorem dv_q (A B : Int) (j : Nat) (hB : 0 < B) : A / (B * 2 ^ j) = 2 * (A / (B * 2 ^ (j + 1))) + A / (B * 2 ^ j) % 2 := by
  have hM : 0 < B * 2 ^ j := Int.mul_pos hB (Qak j)
  rw [Int.pow_succ,← Int.mul_assoc]
  generalize B * 2 ^ j = M at *
  rw [← Int.ediv_ediv_of_nonneg (Int.le_of_lt hM)]
  omega
/-- A round that takes nothing away. -/
theorem dv_no {A B : Int} (hB : 0 < B) {j : Nat} (h : A % (B * 2 ^ (j + 1)) < B * 2 ^ j) : A % (B * 2 ^ (j + 1)) = A % (B * 2 ^ j) ∧ A / (B * 2 ^ (j + 1)) * 2 ^ (j + 1) = A / (B * 2 ^ j) * 2 ^ j := by
  have hM : 0 < B * 2 ^ j := Int.mul_pos hB (Qak j)
  have hq := dv_q A B j hB
  rw [dv_up] at h
  rw [dv_up]
  have hs := dv_split A (B * 2 ^ j) hM
  have h1 := Int.emod_nonneg A (show B * 2 ^ j ≠ 0 by omega)
  have h0 : A / (B * 2 ^ j) % 2 = 0 := by
    rcases (show A / (B * 2 ^ j) % 2 = 0 ∨ A / (B * 2 ^ j) % 2 = 1 by omega) with e|e
    · exact e
    · rw [e] at hs;omega
  rw [h0] at hs hq
  refine ⟨by omega,?_⟩
  rw [hq,Int.add_zero,Int.pow_succ]
  grind
/-- A round that takes some away. -/
theorem dv_yes {A B : Int} (hB : 0 < B) {j : Nat} (h : ¬ A % (B * 2 ^ (j + 1)) < B * 2 ^ j) : A % (B * 2 ^ (j + 1)) + -(B * 2 ^ j) = A % (B * 2 ^ j) ∧ A / (B * 2 ^ (j + 1)) * 2 ^ (j + 1) + 2 ^ j = A / (B * 2 ^ j) * 2 ^ j := by
  have hM : 0 < B * 2 ^ j := Int.mul_pos hB (Qak j)
  have hq := dv_q A B j hB
  rw [dv_up] at h
  rw [dv_up]
  have hs := dv_split A (B * 2 ^ j) hM
  have h1 := Int.emod_lt_of_pos A hM
  have h0 : A / (B * 2 ^ j) % 2 = 1 := by
    rcases (show A / (B * 2 ^ j) % 2 = 0 ∨ A / (B * 2 ^ j) % 2 = 1 by omega) with e|e
    · rw [e] at hs;omega
    · exact e
  rw [h0] at hs hq
  refine ⟨by omega,?_⟩
  rw [hq,Int.pow_succ]
  grind
theorem Qnz (C : Int) (j L : Nat) : tab (upd (bt (C * 2 ^ (j + 1))) (j * 1) 1) L = tab (bt (C * 2 ^ (j + 1) + 2 ^ j)) L := by
  refine Qcv fun i _ => ?_
  have e : C * 2 ^ (j + 1) + 2 ^ j = (2 * C + 1) * 2 ^ j := by rw [Int.pow_succ];grind
  rw [Nat.mul_one,e]
  by_cases h : i = j
  · subst h
    have := Qgr (2 * C + 1) i 0
    rw [Nat.add_zero] at this
    rw [Qct,this]
    unfold bt
    rw [Int.pow_zero,Int.ediv_one]
    omega
  · rw [Qep _ _ h]
    rcases Nat.lt_or_ge i j with h1|h1
    · rw [bt_low0 C (by omega),bt_low0 (2 * C + 1) h1]
    · obtain ⟨m,rfl⟩ : ∃ m,i = (j + 1) + m := ⟨i - (j + 1),by omega⟩
      rw [Qgr,show j + 1 + m = j + (m + 1) by omega,Qgr]
      unfold bt
      rw [Int.pow_succ,Int.mul_comm _ 2,← Int.ediv_ediv_of_nonneg (by omega),show (2 * C + 1) / 2 = C by omega]
theorem dv_zero (A B : Int) (hA : 0 ≤ A) (k : Nat) (h : A < B * 2 ^ k) : A % (B * 2 ^ k) = A ∧ A / (B * 2 ^ k) * 2 ^ k = 0 := by
  rw [Int.emod_eq_of_lt hA h,Int.ediv_eq_zero_of_lt hA h]
  simp
theorem dv_done (A B : Int) : A % (B * 2 ^ 0) = A % B ∧ A / (B * 2 ^ 0) * 2 ^ 0 = A / B := by simp
theorem tab_zero (L : Nat) : tab (fun _ => 0) L = tab (bt 0) L := Qcv fun j _ => (Qia j).symm
theorem tab_one (L : Nat) : tab (upd (bt 0) 0 1) L = tab (bt 1) L := by
  have := Qnz 0 0 L
  simp only [Int.zero_mul,Int.zero_add,Nat.zero_mul,Int.pow_zero] at this
  exact this
end Go.Proofs.YtdfdmeoalbpcdaaGreat
set_option linter.unusedSimpArgs false
set_option linter.unusedVariables false
set_option maxRecDepth 100000
namespace Go.Proofs.YtdfdmeoalbpcdaaGreat
open Go Go.RowKit
attribute [local irreducible] wpList
theorem Qez {P : Program} {w : World} {fn : Func} {tmps : Array Value} {p q r : Nat} {t u : TypeId} {a b : Addr} {x y z : Value} (hf : fn.results = #[.cell p t,.cell q u,.tmp r])
    (h1 : tmps.getD p undef = .pointer (some a)) (h1' : (loadVar t a).run P w = .ok x w) (h2 : tmps.getD q undef = .pointer (some b)) (h2' : (loadVar u b).run P w = .ok y w) (h3 : tmps.getD r undef = z) :
    (results fn tmps).run P w = .ok (.tuple #[x,y,z]) w := by
  have e1 : tmps[p]?.getD undef = .pointer (some a) := by simpa using h1
  have e2 : tmps[q]?.getD undef = .pointer (some b) := by simpa using h2
  have e3 : tmps[r]?.getD undef = z := by simpa using h3
  simp [results,hf,e1,e2,e3,asAddr,h1',h2']
theorem tab_one' (L : Nat) : tab (upd (fun _ => 0) 0 1) L = tab (bt 1) L := by
  rw [← tab_one]
  refine Qcv fun j _ => ?_
  unfold upd
  split
  · rfl
  · exact (Qia j).symm
theorem bsl_one {w : World} {g L : Nat} {t : TypeId} (h : w.heap[g]? = some (.cells (tab (upd (fun _ => 0) 0 1) L).toArray t (0,0))) : BSl w (.slice (some ⟨g,0,none⟩) L L) 1 L :=
  BSl.of (t := t) (by rw [← tab_one'];exact h)
set_option maxHeartbeats 8000000 in
theorem rdiv_core (a b A B Q2 R1 R2 : Int) (sa sb : Bool) (v : Value)
    (hA0 : 0 ≤ A) (hB0 : 0 < B) (HA5 : Hid (A < 2 ^ 520)) (HB5 : Hid (B < 2 ^ 520)) (HBM : Hid (B ≤ M511)) (HQA : Hid (-(M511 * 256) ≤ Q2 ∧ Q2 < M511 * 256))
    (HV1 : Hid (Fit Q2 → v = .tuple #[W Q2,W R2,.bool true])) (HV2 : Hid (¬ Fit Q2 → v = .tuple #[.agg #[.int .u64 0,.int .u64 0,.int .u64 0,.int .u64 0,.int .u64 0,.int .u64 0,.int .u64 0,.int .u64 0],.agg #[.int .u64 0,.int .u64 0,.int .u64 0,.int .u64 0,.int .u64 0,.int .u64 0,.int .u64 0,.int .u64 0],.bool false]))
    (H1 : Hid ((sa == sb) = true → Q2 = A / B ∧ R1 = A % B))
    (H2 : Hid ((sa == sb) = false → A % B = 0 → Q2 = -(A / B) ∧ R1 = A % B))
    (H3 : Hid ((sa == sb) = false → A % B ≠ 0 → Q2 = -(A / B + 1) ∧ R1 = B + -(A % B)))
    (H4 : Hid (R2 = if sb then -R1 else R1)) (HR : Hid (Fit R2))
    (HSB : Hid (∀ w,Calls Tryz.prog 31 #[W b] w (Ret (.int .i64 (sgn b)) w))) (hsg : (sgn b == 0) = false)
    (ZA : Hid (∀ w,Calls Tryz.prog 63 #[W a] w (Ret (.bool sa) w)))
    (ZB : Hid (∀ w,Calls Tryz.prog 63 #[W b] w (Ret (.bool sb) w)))
    (SA : Hid (∀ w,Calls Tryz.prog 101 #[W a] w (RetN (fun g => .slice (some ⟨g,0,none⟩) 520 520) 3 (tab (bt A) 520) w)))
    (SB : Hid (∀ w,Calls Tryz.prog 101 #[W b] w (RetN (fun g => .slice (some ⟨g,0,none⟩) 520 520) 3 (tab (bt B) 520) w)))
    (w : World) : Calls Tryz.prog 70 #[W a,W b] w (Ret v w) := by
  go_enter Tryz.func70,Tryz.ntmps70
  have hp := Hp.start [] w
  go_wp2_with (first|((with_reducible apply Qau hp);exact za rfl;exact rfl;clear hp;(try clear w1);intro g w1 hp;simp only [zp,zq,z0,z1])|((with_reducible apply Qag hp);exact ii;exact rfl;clear hp;(try clear w1);intro g w1 hp;simp only [zp,zq,z0,z1])|((with_reducible apply Qab hp);exact zt rfl;exact ii;exact ii;(exact zl rfl);(simp only [n0,Nat.reduceAdd,nn];try rfl);simp only [zp,zq,z0,z1])|((with_reducible refine Qaf hp (HSB.out _) ?_);clear hp;(try clear w1);intro w1 hp))
  rename_i ga gb gp K hK
  obtain ⟨gp2,rfl⟩ : ∃ x : Nat,x = g := ⟨_,rfl⟩
  clear HSB hsg
  have hq := hp
  refine Qad hp hq [] (.q 0 (.q 2 (.l 1 (.l 3 (.q 4 (.q 5 .nil)))))) (by kernel_rfl) (by kernel_rfl) ?_
  clear hp hq;(try clear w1);intro w1 hp hq
  repeat' (first|(((with_reducible apply sd_q);exact zo rfl);(first|((with_reducible apply Qah hp);exact rfl;exact zt rfl;exact ii;exact ii;(exact zl rfl);(simp only [n0,Nat.reduceAdd,nn];try rfl);simp only [zp,zq,z0,z1])|((with_reducible apply Qat hp);exact zs rfl;simp only [zp,zq,z0,z1])))|(((with_reducible apply sd_l);exact zo rfl);(first|((with_reducible apply Qcu hq);(repeat (first|exact sb0|apply sb3));exact rfl;(focus (intro _;go_simp;try first|with_reducible rfl|exact ⟨rfl,rfl⟩));(with_reducible exact SA.out _);clear hp hq;(try clear w1);intro g w1 hp hq;simp only [zp,zq,z0,z1])|((with_reducible apply Qcu hq);(repeat (first|exact sb0|apply sb3));exact rfl;(focus (intro _;go_simp;try first|with_reducible rfl|exact ⟨rfl,rfl⟩));(with_reducible exact SB.out _);clear hp hq;(try clear w1);intro g w1 hp hq;simp only [zp,zq,z0,z1])))|((with_reducible apply Qao);clear hp;have hp := hq;clear hq))
  rename_i gx
  obtain ⟨gy,rfl⟩ : ∃ x : Nat,x = g := ⟨_,rfl⟩
  clear SA SB
  have hta := tp_le A 520
  have htb := tp_le B 520
  go_wp2_with (first|((with_reducible refine Qaf hp (Qnm A 520 (by omega) _ _ (BSl.of hp.blk)) ?_);clear hp;(try clear w1);intro w1 hp)|((with_reducible refine Qaf hp (Qnm B 520 (by omega) _ _ (BSl.of hp.blk)) ?_);clear hp;(try clear w1);intro w1 hp)|((with_reducible apply Qdc (n := 520) hp);exact ii;exact ii;exact (rfl : Value.int .i64 (520 : Int) = _);exact (rfl : Value.int .i64 (520 : Int) = _);omega;omega;clear hp;(try clear w1);intro g w1 hp;simp only [zp,zq,z0,z1]))
  obtain ⟨gq,rfl⟩ : ∃ x : Nat,x = g := ⟨_,rfl⟩
  have HTA := Lib.hid (lt_top hA0 HA5.out (tp_le A 520) fun j h1 h2 => Qnt A h1 h2)
  have HTB := Lib.hid (lt_top (Int.le_of_lt hB0) HB5.out (tp_le B 520) fun j h1 h2 => Qnt B h1 h2)
  have HTT : Hid (∀ t,tp B 520 = t + 1 → bt B t = 1) := Lib.hid fun t h => tp_top h
  generalize tp A 520 = tx at *
  generalize tp B 520 = ty at *
  have HT0 : Hid (ty = 0 → B < 1) := Lib.hid fun h => by have := HTB.out;rw [h] at this;simpa using this
  have hty : 0 < ty := by
    rcases Nat.eq_zero_or_pos ty with h|h
    · have := HT0.out h;omega
    · exact h
  go_loopw [10,11] (fun rv nv wr => ∃ (k : Nat) (c : Int) (gr : Nat),rv = .slice (some ⟨gr,0,none⟩) 520 520 ∧ nv = .int .i64 c ∧ (c = (k : Int) - 1 ∨ (c < 0 ∧ k = 0)) ∧ -600 ≤ c ∧ (k = 0 ∨ k + ty ≤ tx + 1) ∧ Hp [] w [⟨gr,3,tab (bt (A % (B * 2 ^ k))) 520⟩,⟨gq,3,tab (bt (A / (B * 2 ^ k) * 2 ^ k)) 520⟩,⟨gy,3,tab (bt B) 520⟩,⟨gp2,27,[.int .u64 0,.int .u64 0,.int .u64 0,.int .u64 0,.int .u64 0,.int .u64 0,.int .u64 0,.int .u64 0]⟩,⟨gp,27,[.int .u64 0,.int .u64 0,.int .u64 0,.int .u64 0,.int .u64 0,.int .u64 0,.int .u64 0,.int .u64 0]⟩,⟨gb,27,[.int .u64 (lb (b) 0),.int .u64 (lb (b) 1),.int .u64 (lb (b) 2),.int .u64 (lb (b) 3),.int .u64 (lb (b) 4),.int .u64 (lb (b) 5),.int .u64 (lb (b) 6),.int .u64 (lb (b) 7)]⟩,⟨ga,27,[.int .u64 (lb (a) 0),.int .u64 (lb (a) 1),.int .u64 (lb (a) 2),.int .u64 (lb (a) 3),.int .u64 (lb (a) 4),.int .u64 (lb (a) 5),.int .u64 (lb (a) 6),.int .u64 (lb (a) 7)]⟩] wr) (fun _ nv _ => (intOf nv + 1).toNat)
  case atStart =>
    have hk : (tx + 1 - ty) + ty = tx + 1 ∨ (tx + 1 - ty = 0 ∧ tx < ty) := by omega
    obtain ⟨e1,e2⟩ := dv_zero A B hA0 _ (dv_start hA0 hB0 HTA.out HTT.out HT0.out hk)
    refine ⟨tx + 1 - ty,_,gx,rfl,rfl,by omega,by omega,by omega,?_⟩
    rw [e1,e2,← tab_zero]
    exact hp.perm (List.perm_middle (l₁ := [_,_]))
  case round =>
    clear hp
    obtain ⟨k,c,gr,rfl,rfl,hc,hcm,hk,hp⟩ := hrel
    by_cases hn : 0 ≤ c
    · obtain ⟨j,rfl⟩ : ∃ j,k = j + 1 := ⟨k - 1,by omega⟩
      obtain rfl : c = (j : Int) := by omega
      have hj : j ≤ 520 := by omega
      have hR0 : 0 ≤ A % (B * 2 ^ (j + 1)) := Int.emod_nonneg _ (by have := Int.mul_pos hB0 (Qak (j + 1));omega)
      have hRA : A % (B * 2 ^ (j + 1)) ≤ A := Qjb hA0 (Int.mul_pos hB0 (Qak (j + 1)))
      have hNO := Lib.hid (@dv_no A B hB0 j)
      have hYES := Lib.hid (@dv_yes A B hB0 j)
      have hroom : B * 2 ^ j / 2 ^ 520 = 0 := dv_room (Int.le_of_lt hB0) HTB.out (by omega) hta
      have hxy : A % (B * 2 ^ (j + 1)) / 2 ^ 520 = B * 2 ^ j / 2 ^ 520 := by
        rw [hroom]
        exact Int.ediv_eq_zero_of_lt hR0 (Int.lt_of_le_of_lt hRA HA5.out)
      have HXY := Lib.hid hxy
      have FU : Hid (∀ v w,BSl w v B 520 → Calls Tryz.prog 103 #[v,.int .i64 j] w (RetN (fun g => .slice (some ⟨g,0,none⟩) 520 520) 3 (tab (bt (B * 2 ^ j)) 520) w)) := Lib.hid fun v w h => Qny B 520 j (by omega) (by omega) v w h
      clear hR0 hRA hroom hxy
      generalize A % (B * 2 ^ (j + 1)) = R at *
      obtain ⟨M,hM⟩ : ∃ M,M = B * 2 ^ j := ⟨_,rfl⟩
      rw [← hM] at hNO hYES HXY FU
      have HM := Lib.hid hM
      clear hM
      obtain ⟨C,hC⟩ : ∃ C,C = A / (B * 2 ^ (j + 1)) := ⟨_,rfl⟩
      rw [← hC] at hp hNO hYES
      clear hC
      have hj5 : (j : Int) < 520 := by omega
      by_cases hlt : R < M
      · obtain ⟨e1,e2⟩ := hNO.out hlt
        have E1 := Lib.hid e1
        have E2 := Lib.hid e2
        clear e1 e2 hNO hYES
        have LE : Hid (∀ v1 v2 w,BSl w v1 R 520 → BSl w v2 M 520 → Calls Tryz.prog 104 #[v1,v2] w (Ret (.bool true) w)) := Lib.hid fun v1 v2 w h1 h2 => by
          have := Qlt R M 520 (by omega) HXY.out v1 v2 w h1 h2
          rw [decide_eq_true hlt] at this
          exact this
        clear hlt
        go_wp2_with (first|((with_reducible refine Qci hp (FU.out _ _ (BSl.of hp.blk)) ?_);clear hp;(try clear w1);intro g w1 hp)|((with_reducible refine Qaf hp (LE.out _ _ _ (BSl.of hp.blk) (BSl.of hp.blk)) ?_);clear hp;(try clear w1);intro w1 hp))
        go_roundw
        case rel => exact ⟨j,_,gr,rfl,rfl,by omega,by omega,by omega,by rw [← HM.out,← E1.out,← E2.out];exact hp.sub (List.sublist_cons_self _ _)⟩
        case measure => simp [intOf]
      · obtain ⟨e1,e2⟩ := hYES.out hlt
        have E1 := Lib.hid e1
        have E2 := Lib.hid e2
        clear e1 e2 hNO hYES
        have LE : Hid (∀ v1 v2 w,BSl w v1 R 520 → BSl w v2 M 520 → Calls Tryz.prog 104 #[v1,v2] w (Ret (.bool false) w)) := Lib.hid fun v1 v2 w h1 h2 => by
          have := Qlt R M 520 (by omega) HXY.out v1 v2 w h1 h2
          rw [decide_eq_false hlt] at this
          exact this
        clear hlt
        go_wp2_with (first|((with_reducible apply Qae hp);exact zt rfl;(exact zi rfl);exact rfl;(exact OneTy.size);exact rfl;exact ii;(with_reducible exact Qgl (by omega));(exact Qkm (by omega));exact rfl;exact ii;clear hp;(try clear w1);intro w1 hp)|((with_reducible apply Qar);exact zx rfl;exact zk rfl;exact ii;(exact OneTy.size);omega;omega;((try simp only [m0,Int.reduceToNat,m1,m2,Nat.reduceMul,Nat.reduceAdd,m3,m4,m5,n0]);exact rfl);simp only [zp,zq,z0,z1])|((with_reducible refine Qci hp (FU.out _ _ (BSl.of hp.blk)) ?_);clear hp;(try clear w1);intro g w1 hp)|((with_reducible refine Qaf hp (LE.out _ _ _ (BSl.of hp.blk) (BSl.of hp.blk)) ?_);clear hp;(try clear w1);intro w1 hp)|((with_reducible refine Qci hp (Qcx M 520 (by omega) _ _ (BSl.of hp.blk)) ?_);clear hp;(try clear w1);intro g w1 hp)|((with_reducible refine Qci hp (Qfp R (-M) 520 (by omega) _ _ _ (BSl.of hp.blk) (BSl.of hp.blk)) ?_);clear hp;(try clear w1);intro g w1 hp))
        go_roundw
        case rel => exact ⟨j,_,_,rfl,rfl,by omega,by omega,by omega,by rw [← HM.out,← E1.out,← E2.out,← Qnz];exact hp.sub (.cons_cons _ (.cons _ (.cons _ (.cons _ (List.Sublist.refl _)))))⟩
        case measure => simp [intOf]
    · obtain rfl : k = 0 := by omega
      obtain ⟨e1,e2⟩ := dv_done A B
      rw [e1,e2] at hp
      clear e1 e2 hc hk hcm HTA HTB HTT HT0 hta htb
      have hR0 : 0 ≤ A % B := Int.emod_nonneg _ (by omega)
      have hRB : A % B < B := Int.emod_lt_of_pos _ hB0
      generalize A % B = R at *
      generalize A / B = Q at *
      have hRF : Fit R := by have := HBM.out;unfold Fit M511 at *;omega
      have OF : Hid (∀ v w,BSl w v R 520 → Calls Tryz.prog 107 #[v] w (Ret (.tuple #[W R,.bool true]) w)) := Lib.hid fun v w h => by
        have := Qmh R (by unfold Fit M511 at *;omega) v w h
        rw [fz,if_pos hRF,decide_eq_true hRF] at this
        exact this
      have SR : Hid (∀ w,Calls Tryz.prog 31 #[W R] w (Ret (.int .i64 (sgn R)) w)) := Lib.hid fun w => Qgm R hRF w
      clear hRF hA0 HBM
      go_wp2_with (first|((with_reducible apply Qag hp);exact ii;exact rfl;clear hp;(try clear w1);intro g w1 hp;simp only [zp,zq,z0,z1])|((with_reducible apply Qae hp);exact zt rfl;(exact za rfl);exact rfl;(exact AggTy.size);exact rfl;exact ii;(simp only [n0,Nat.reduceAdd,nn];try rfl);(exact zl rfl);exact rfl;exact ii;clear hp;(try clear w1);intro w1 hp)|((with_reducible refine Qaf hp (OF.out _ _ (BSl.of hp.blk)) ?_);clear hp;(try clear w1);intro w1 hp))
      have hq := hp
      refine Qad hp hq [] (.q 0 (.q 2 (.l 1 (.l 3 (.q 4 .nil))))) (by kernel_rfl) (by kernel_rfl) ?_
      clear hp hq;(try clear w1);intro w1 hp hq
      repeat' (first|(((with_reducible apply sd_q);exact zo rfl);(first|((with_reducible apply Qah hp);exact rfl;exact zt rfl;exact ii;exact ii;(exact zl rfl);(simp only [n0,Nat.reduceAdd,nn];try rfl);simp only [zp,zq,z0,z1])|((with_reducible apply Qaj hp);exact rfl;(focus (intro _;go_simp;(try go_ints);try with_reducible rfl));simp only [zp,zq,z0,z1])))|(((with_reducible apply sd_l);exact zo rfl);((with_reducible apply Qap hp);exact rfl;(focus (intro _;go_simp;try first|with_reducible rfl|exact ⟨rfl,rfl⟩));(with_reducible first|exact fun w => ZA.out w|exact fun w => ZB.out w);exact hq;clear hp hq;(try clear w1);intro w1 hp hq;simp only [zp,zq,z0,z1]))|((with_reducible apply Qao);clear hp;have hp := hq;clear hq))
      go_upto_if 63 with fail
      go_cut [9,10] (fun qv rv wx => ∃ g1 g2,qv = .slice (some ⟨g1,0,none⟩) 520 520 ∧ rv = .slice (some ⟨g2,0,none⟩) 520 520 ∧ Hp [] w [⟨g2,3,tab (bt R1) 520⟩,⟨g1,3,tab (bt Q2) 520⟩,⟨gp2,27,[.int .u64 0,.int .u64 0,.int .u64 0,.int .u64 0,.int .u64 0,.int .u64 0,.int .u64 0,.int .u64 0]⟩,⟨gp,27,[.int .u64 0,.int .u64 0,.int .u64 0,.int .u64 0,.int .u64 0,.int .u64 0,.int .u64 0,.int .u64 0]⟩,⟨gb,27,[.int .u64 (lb (b) 0),.int .u64 (lb (b) 1),.int .u64 (lb (b) 2),.int .u64 (lb (b) 3),.int .u64 (lb (b) 4),.int .u64 (lb (b) 5),.int .u64 (lb (b) 6),.int .u64 (lb (b) 7)]⟩,⟨ga,27,[.int .u64 (lb (a) 0),.int .u64 (lb (a) 1),.int .u64 (lb (a) 2),.int .u64 (lb (a) 3),.int .u64 (lb (a) 4),.int .u64 (lb (a) 5),.int .u64 (lb (a) 6),.int .u64 (lb (a) 7)]⟩] wx)
      case first =>
        cases hs : (sa == sb) with
        | true =>
          obtain ⟨e1,e2⟩ := H1.out hs
          have E1 := Lib.hid e1
          have E2 := Lib.hid e2
          clear e1 e2 H1 H2 H3
          go_wp2_with (fail)
          go_meet
          exact ⟨_,_,rfl,rfl,by rw [E1.out,E2.out];exact hp.sub (.cons _ (.cons_cons _ (.cons_cons _ (.cons _ (List.Sublist.refl _)))))⟩
        | false =>
          by_cases hz : R = 0
          · obtain ⟨e1,e2⟩ := H2.out hs hz
            have E1 := Lib.hid e1
            have E2 := Lib.hid e2
            have hsg : (sgn R == 0) = true := by rw [hz];rfl
            clear e1 e2 H1 H2 H3 hz
            go_wp2_with (first|((with_reducible apply Qab hp);exact zt rfl;exact ii;exact ii;(exact zl rfl);(simp only [n0,Nat.reduceAdd,nn];try rfl);simp only [zp,zq,z0,z1])|((with_reducible refine Qaf hp (SR.out _) ?_);clear hp;(try clear w1);intro w1 hp)|((with_reducible refine Qci hp (Qcx Q 520 (by omega) _ _ (BSl.of hp.blk)) ?_);clear hp;(try clear w1);intro g w1 hp))
            go_meet
            exact ⟨_,_,rfl,rfl,by rw [E1.out,E2.out];exact (hp.sub (.cons_cons _ (.cons _ (.cons_cons _ (.cons _ (.cons _ (List.Sublist.refl _))))))).perm (List.Perm.swap _ _ _)⟩
          · obtain ⟨e1,e2⟩ := H3.out hs hz
            have E1 := Lib.hid e1
            have E2 := Lib.hid e2
            have hsg : (sgn R == 0) = false := by have := Qky hz;simp [this]
            clear e1 e2 H1 H2 H3 hz
            go_wp2_with (first|((with_reducible apply Qab hp);exact zt rfl;exact ii;exact ii;(exact zl rfl);(simp only [n0,Nat.reduceAdd,nn];try rfl);simp only [zp,zq,z0,z1])|((with_reducible apply Qae hp);exact zt rfl;(exact zi rfl);exact rfl;(exact OneTy.size);exact rfl;exact ii;(with_reducible exact Qgl (by omega));(exact zl rfl);exact rfl;exact ii;clear hp;(try clear w1);intro w1 hp)|((with_reducible apply Qar);exact zx rfl;exact zk rfl;exact ii;(exact OneTy.size);omega;omega;((try simp only [m0,Int.reduceToNat,m1,m2,Nat.reduceMul,Nat.reduceAdd,m3,m4,m5,n0]);exact rfl);simp only [zp,zq,z0,z1])|((with_reducible refine Qaf hp (SR.out _) ?_);clear hp;(try clear w1);intro w1 hp)|((with_reducible apply Qdc (n := 520) hp);exact ii;exact ii;exact (rfl : Value.int .i64 (520 : Int) = _);exact (rfl : Value.int .i64 (520 : Int) = _);omega;omega;clear hp;(try clear w1);intro g w1 hp;simp only [zp,zq,z0,z1])|((with_reducible refine Qci hp (Qfp Q 1 520 (by omega) _ _ _ (BSl.of hp.blk) (bsl_one hp.blk)) ?_);clear hp;(try clear w1);intro g w1 hp)|((with_reducible refine Qci hp (Qcx R 520 (by omega) _ _ (BSl.of hp.blk)) ?_);clear hp;(try clear w1);intro g w1 hp)|((with_reducible refine Qci hp (Qfp B (-R) 520 (by omega) _ _ _ (BSl.of hp.blk) (BSl.of hp.blk)) ?_);clear hp;(try clear w1);intro g w1 hp)|((with_reducible refine Qci hp (Qcx (Q + 1) 520 (by omega) _ _ (BSl.of hp.blk)) ?_);clear hp;(try clear w1);intro g w1 hp))
            go_meet
            exact ⟨_,_,rfl,rfl,by rw [E1.out,E2.out];exact (hp.sub (.cons_cons _ (.cons_cons _ (.cons _ (.cons _ (.cons _ (.cons _ (.cons _ (.cons _ (.cons _ (List.Sublist.refl _))))))))))).perm (List.Perm.swap _ _ _)⟩
      case rest =>
        clear hp H1 H2 H3 OF SR hn HA5 HB5 ZA
        obtain ⟨g1,g2,rfl,rfl,hp⟩ := hcut
        have OR : Hid (∀ v w,BSl w v R2 520 → Calls Tryz.prog 107 #[v] w (Ret (.tuple #[W R2,.bool true]) w)) := Lib.hid fun v w h => by
          have := Qmh R2 (by have := HR.out;unfold Fit M511 at *;omega) v w h
          rw [fz,if_pos HR.out,decide_eq_true HR.out] at this
          exact this
        clear HR hB0 hR0 hRB
        by_cases hf : Fit Q2
        · obtain rfl := HV1.out hf
          have OQ : Hid (∀ v w,BSl w v Q2 520 → Calls Tryz.prog 107 #[v] w (Ret (.tuple #[W Q2,.bool true]) w)) := Lib.hid fun v w h => by
            have := Qmh Q2 HQA.out v w h
            rw [fz,if_pos hf,decide_eq_true hf] at this
            exact this
          clear hf HV1 HV2 HQA
          cases sb with
          | true =>
            obtain rfl : R2 = -R1 := H4.out
            clear H4
            go_wp2_with (first|((with_reducible refine Qge ?_);(conv => whnf);refine Bx.mk ?_;(try simp only [zp,zq,z0,z1]))|((with_reducible apply Qag hp);exact ii;exact rfl;clear hp;(try clear w1);intro g w1 hp;simp only [zp,zq,z0,z1])|((with_reducible apply Qab hp);exact zt rfl;exact ii;exact ii;(exact zl rfl);(simp only [n0,Nat.reduceAdd,nn];try rfl);simp only [zp,zq,z0,z1])|((with_reducible apply Qae hp);exact zt rfl;(exact za rfl);exact rfl;(exact AggTy.size);exact rfl;exact ii;(simp only [n0,Nat.reduceAdd,nn];try rfl);(exact zl rfl);exact rfl;exact ii;clear hp;(try clear w1);intro w1 hp)|((with_reducible refine Qaf hp (ZB.out _) ?_);clear hp;(try clear w1);intro w1 hp)|((with_reducible refine Qci hp (Qcx R1 520 (by omega) _ _ (BSl.of hp.blk)) ?_);clear hp;(try clear w1);intro g w1 hp)|((with_reducible refine Qaf hp (OQ.out _ _ (BSl.of hp.blk)) ?_);clear hp;(try clear w1);intro w1 hp)|((with_reducible refine Qaf hp (OR.out _ _ (BSl.of hp.blk)) ?_);clear hp;(try clear w1);intro w1 hp))
            have hq := hp
            clear hp
            have hp := hq.sub (.cons_cons _ (.cons_cons _ (.cons_cons _ (.cons_cons _ (.cons_cons _ (.cons _ (.cons _ (List.Sublist.refl _))))))))
            refine Qad hp hq [3] (.q 0 (.q 1 (.l 2 (.l 3 (.q 4 .nil))))) (by kernel_rfl) (by kernel_rfl) ?_
            clear hp hq;(try clear w1);intro w1 hp hq
            repeat' (first|(((with_reducible apply sd_q);exact zo rfl);(first|((with_reducible apply Qah hp);exact rfl;exact zt rfl;exact ii;exact ii;(exact zl rfl);(simp only [n0,Nat.reduceAdd,nn];try rfl);simp only [zp,zq,z0,z1])|((with_reducible apply Qat hp);exact zb rfl;simp only [zp,zq,z0,z1])))|(((with_reducible apply sd_l);exact zo rfl);((with_reducible apply Qam hq);exact rfl;exact zt rfl;(exact za rfl);exact rfl;(exact AggTy.size);exact rfl;exact ii;(simp only [n0,Nat.reduceAdd,nn];try rfl);(exact zl rfl);exact rfl;exact ii;(repeat (first|exact sb0|apply sb2|apply sb3));clear hp hq;(try clear w1);intro w1 hp hq))|((with_reducible apply Qao);clear hp;have hp := hq;clear hq))
            go_wp2
            exact bodyPost_ret (Qez rfl rfl (Qac hp (Nat.le_of_ble_eq_true rfl)) rfl (Qac hp (Nat.le_of_ble_eq_true rfl)) rfl) rfl ⟨rfl,hp.keep⟩
          | false =>
            obtain rfl : R2 = R1 := H4.out
            clear H4
            go_wp2_with (first|((with_reducible refine Qge ?_);(conv => whnf);refine Bx.mk ?_;(try simp only [zp,zq,z0,z1]))|((with_reducible apply Qag hp);exact ii;exact rfl;clear hp;(try clear w1);intro g w1 hp;simp only [zp,zq,z0,z1])|((with_reducible apply Qab hp);exact zt rfl;exact ii;exact ii;(exact zl rfl);(simp only [n0,Nat.reduceAdd,nn];try rfl);simp only [zp,zq,z0,z1])|((with_reducible apply Qae hp);exact zt rfl;(exact za rfl);exact rfl;(exact AggTy.size);exact rfl;exact ii;(simp only [n0,Nat.reduceAdd,nn];try rfl);(exact zl rfl);exact rfl;exact ii;clear hp;(try clear w1);intro w1 hp)|((with_reducible refine Qaf hp (ZB.out _) ?_);clear hp;(try clear w1);intro w1 hp)|((with_reducible refine Qaf hp (OQ.out _ _ (BSl.of hp.blk)) ?_);clear hp;(try clear w1);intro w1 hp)|((with_reducible refine Qaf hp (OR.out _ _ (BSl.of hp.blk)) ?_);clear hp;(try clear w1);intro w1 hp))
            have hq := hp
            clear hp
            have hp := hq.sub (.cons_cons _ (.cons_cons _ (.cons_cons _ (.cons_cons _ (.cons _ (.cons _ (List.Sublist.refl _)))))))
            refine Qad hp hq [3] (.q 0 (.q 1 (.l 2 (.l 3 (.q 4 .nil))))) (by kernel_rfl) (by kernel_rfl) ?_
            clear hp hq;(try clear w1);intro w1 hp hq
            repeat' (first|(((with_reducible apply sd_q);exact zo rfl);(first|((with_reducible apply Qah hp);exact rfl;exact zt rfl;exact ii;exact ii;(exact zl rfl);(simp only [n0,Nat.reduceAdd,nn];try rfl);simp only [zp,zq,z0,z1])|((with_reducible apply Qat hp);exact zb rfl;simp only [zp,zq,z0,z1])))|(((with_reducible apply sd_l);exact zo rfl);((with_reducible apply Qam hq);exact rfl;exact zt rfl;(exact za rfl);exact rfl;(exact AggTy.size);exact rfl;exact ii;(simp only [n0,Nat.reduceAdd,nn];try rfl);(exact zl rfl);exact rfl;exact ii;(repeat (first|exact sb0|apply sb2|apply sb3));clear hp hq;(try clear w1);intro w1 hp hq))|((with_reducible apply Qao);clear hp;have hp := hq;clear hq))
            go_wp2
            exact bodyPost_ret (Qez rfl rfl (Qac hp (Nat.le_of_ble_eq_true rfl)) rfl (Qac hp (Nat.le_of_ble_eq_true rfl)) rfl) rfl ⟨rfl,hp.keep⟩
        · obtain rfl := HV2.out hf
          have OQ : Hid (∀ v w,BSl w v Q2 520 → Calls Tryz.prog 107 #[v] w (Ret (.tuple #[W 0,.bool false]) w)) := Lib.hid fun v w h => by
            have := Qmh Q2 HQA.out v w h
            rw [fz,if_neg hf,decide_eq_false hf] at this
            exact this
          clear hf HV1 HV2 HQA
          cases sb with
          | true =>
            obtain rfl : R2 = -R1 := H4.out
            clear H4
            go_wp2_with (first|((with_reducible apply Qag hp);exact ii;exact rfl;clear hp;(try clear w1);intro g w1 hp;simp only [zp,zq,z0,z1])|((with_reducible apply Qab hp);exact zt rfl;exact ii;exact ii;(exact zl rfl);(simp only [n0,Nat.reduceAdd,nn];try rfl);simp only [zp,zq,z0,z1])|((with_reducible apply Qae hp);exact zt rfl;(exact za rfl);exact rfl;(exact AggTy.size);exact rfl;exact ii;(simp only [n0,Nat.reduceAdd,nn];try rfl);(exact zl rfl);exact rfl;exact ii;clear hp;(try clear w1);intro w1 hp)|((with_reducible refine Qaf hp (ZB.out _) ?_);clear hp;(try clear w1);intro w1 hp)|((with_reducible refine Qci hp (Qcx R1 520 (by omega) _ _ (BSl.of hp.blk)) ?_);clear hp;(try clear w1);intro g w1 hp)|((with_reducible refine Qaf hp (OQ.out _ _ (BSl.of hp.blk)) ?_);clear hp;(try clear w1);intro w1 hp)|((with_reducible refine Qaf hp (OR.out _ _ (BSl.of hp.blk)) ?_);clear hp;(try clear w1);intro w1 hp))
            exact bodyPost_ret (Qez rfl rfl (Qac hp (Nat.le_of_ble_eq_true rfl)) rfl (Qac hp (Nat.le_of_ble_eq_true rfl)) rfl) rfl ⟨rfl,hp.keep⟩
          | false =>
            obtain rfl : R2 = R1 := H4.out
            clear H4
            go_wp2_with (first|((with_reducible apply Qag hp);exact ii;exact rfl;clear hp;(try clear w1);intro g w1 hp;simp only [zp,zq,z0,z1])|((with_reducible apply Qab hp);exact zt rfl;exact ii;exact ii;(exact zl rfl);(simp only [n0,Nat.reduceAdd,nn];try rfl);simp only [zp,zq,z0,z1])|((with_reducible apply Qae hp);exact zt rfl;(exact za rfl);exact rfl;(exact AggTy.size);exact rfl;exact ii;(simp only [n0,Nat.reduceAdd,nn];try rfl);(exact zl rfl);exact rfl;exact ii;clear hp;(try clear w1);intro w1 hp)|((with_reducible refine Qaf hp (ZB.out _) ?_);clear hp;(try clear w1);intro w1 hp)|((with_reducible refine Qaf hp (OQ.out _ _ (BSl.of hp.blk)) ?_);clear hp;(try clear w1);intro w1 hp)|((with_reducible refine Qaf hp (OR.out _ _ (BSl.of hp.blk)) ?_);clear hp;(try clear w1);intro w1 hp))
            exact bodyPost_ret (Qez rfl rfl (Qac hp (Nat.le_of_ble_eq_true rfl)) rfl (Qac hp (Nat.le_of_ble_eq_true rfl)) rfl) rfl ⟨rfl,hp.keep⟩
end Go.Proofs.YtdfdmeoalbpcdaaGreat
set_option linter.unusedSimpArgs false
set_option linter.unusedVariables false
set_option maxRecDepth 100000
namespace Go.Proofs.YtdfdmeoalbpcdaaGreat
open Go Go.RowKit
attribute [local irreducible] wpList
theorem fq_signs {a b : Int} (hb : b ≠ 0) :
    ((decide (a < 0) == decide (b < 0)) = true → fq a b = ab a / ab b ∧ (if decide (b < 0) = true then -fr a b else fr a b) = ab a % ab b) ∧
    ((decide (a < 0) == decide (b < 0)) = false → ab a % ab b = 0 → fq a b = -(ab a / ab b) ∧ (if decide (b < 0) = true then -fr a b else fr a b) = ab a % ab b) ∧
    ((decide (a < 0) == decide (b < 0)) = false → ab a % ab b ≠ 0 → fq a b = -(ab a / ab b + 1) ∧ (if decide (b < 0) = true then -fr a b else fr a b) = ab b + -(ab a % ab b)) := by
  have hB : 0 < ab b := by unfold ab;split <;> omega
  have h1 := Int.mul_ediv_add_emod (ab a) (ab b)
  have h2 := Int.emod_nonneg (ab a) (show ab b ≠ 0 by omega)
  have h3 := Int.emod_lt_of_pos (ab a) hB
  generalize ab a / ab b = Q at *
  generalize ab a % ab b = R at *
  unfold ab at h1 hB h3 ⊢
  by_cases ha0 : a < 0 <;> by_cases hb0 : b < 0
  · simp only [ha0,hb0,if_true,decide_true,beq_self_eq_true,true_implies] at h1 hB h3 ⊢
    obtain ⟨e1,e2⟩ := Qfh (a := a) (b := b) (q := Q) (r := -R) (by grind) (.inr ⟨hb0,by omega,by omega⟩)
    rw [e1,e2]
    refine ⟨⟨rfl,by omega⟩,fun h => by simp at h,fun h => by simp at h⟩
  · simp only [ha0,hb0,if_true,if_false,decide_true,decide_false] at h1 hB h3 ⊢
    refine ⟨fun h => by simp at h,fun _ hz => ?_,fun _ hz => ?_⟩
    · obtain ⟨e1,e2⟩ := Qfh (a := a) (b := b) (q := -Q) (r := 0) (by subst hz;grind) (.inl ⟨by omega,by omega,by omega⟩)
      rw [e1,e2]
      exact ⟨rfl,by simp;omega⟩
    · obtain ⟨e1,e2⟩ := Qfh (a := a) (b := b) (q := -(Q + 1)) (r := b + -R) (by grind) (.inl ⟨by omega,by omega,by omega⟩)
      rw [e1,e2]
      exact ⟨rfl,by simp⟩
  · simp only [ha0,hb0,if_true,if_false,decide_true,decide_false] at h1 hB h3 ⊢
    refine ⟨fun h => by simp at h,fun _ hz => ?_,fun _ hz => ?_⟩
    · obtain ⟨e1,e2⟩ := Qfh (a := a) (b := b) (q := -Q) (r := 0) (by subst hz;grind) (.inr ⟨by omega,by omega,by omega⟩)
      rw [e1,e2]
      exact ⟨rfl,by omega⟩
    · obtain ⟨e1,e2⟩ := Qfh (a := a) (b := b) (q := -(Q + 1)) (r := R + b) (by grind) (.inr ⟨by omega,by omega,by omega⟩)
      rw [e1,e2]
      exact ⟨rfl,by omega⟩
  · simp only [ha0,hb0,if_true,if_false,decide_false,beq_self_eq_true,true_implies] at h1 hB h3 ⊢
    obtain ⟨e1,e2⟩ := Qfh (a := a) (b := b) (q := Q) (r := R) (by grind) (.inl ⟨by omega,by omega,by omega⟩)
    rw [e1,e2]
    refine ⟨⟨rfl,by simp⟩,fun h => by simp at h,fun h => by simp at h⟩
theorem fr_fit {a b : Int} (hb : Fit b) (hb0 : b ≠ 0) : Fit (fr a b) := by
  have key : (0 < b ∧ 0 ≤ fr a b ∧ fr a b < b) ∨ (b < 0 ∧ fr a b ≤ 0 ∧ b < fr a b) := by
    unfold fr fq
    by_cases h : b < 0
    · right
      rw [if_pos h]
      have h1 := Int.mul_ediv_add_emod (-a) (-b)
      have h2 := Int.emod_nonneg (-a) (show -b ≠ 0 by omega)
      have h3 := Int.emod_lt_of_pos (-a) (show 0 < -b by omega)
      rw [Int.neg_mul,Int.mul_comm] at h1
      omega
    · left
      rw [if_neg h]
      have h1 := Int.mul_ediv_add_emod a b
      have h2 := Int.emod_nonneg a hb0
      have h3 := Int.emod_lt_of_pos a (show 0 < b by omega)
      rw [Int.mul_comm] at h1
      omega
  unfold Fit M511 at *
  omega
theorem ab_div_le (a b : Int) : 0 ≤ ab a / ab b ∧ ab a / ab b ≤ ab a := by
  have h0 : 0 ≤ ab a := by unfold ab;split <;> omega
  have h1 : 0 ≤ ab b := by unfold ab;split <;> omega
  exact ⟨Int.ediv_nonneg h0 h1,Int.ediv_le_self _ h0⟩
theorem fq_room {a b : Int} (ha : Fit a) (hb0 : b ≠ 0) : -(M511 * 256) ≤ fq a b ∧ fq a b < M511 * 256 := by
  obtain ⟨h1,h2,h3⟩ := fq_signs (a := a) hb0
  have h4 := ab_div_le a b
  have h5 := Qof ha
  generalize ab a / ab b = Q at *
  have key : fq a b = Q ∨ fq a b = -Q ∨ fq a b = -(Q + 1) := by
    cases hs : (decide (a < 0) == decide (b < 0)) with
    | true => exact .inl (h1 hs).1
    | false =>
      by_cases hz : ab a % ab b = 0
      · exact .inr (.inl (h2 hs hz).1)
      · exact .inr (.inr (h3 hs hz).1)
  unfold M511 at *
  omega
set_option maxHeartbeats 4000000 in
theorem rdiv_any (a b : Int) (ha : Fit a) (hb : Fit b) (w : World) : Calls Tryz.prog 70 #[W a,W b] w (Ret (.tuple #[W (dvq a b),W (dvr a b),.bool (decide (dvok a b))]) w) := by
  have hs := fun w => Qgm b hb w
  by_cases hb0 : b = 0
  · have hn : ¬ dvok a b := fun h => h.1 hb0
    unfold dvq dvr
    rw [if_neg hn,if_neg hn,decide_eq_false hn,Qfe]
    rw [hb0] at hs ⊢
    have e0 : sgn 0 = 0 := rfl
    rw [e0] at hs
    have HS := Lib.hid hs
    clear hs ha hb hb0 hn e0
    go_enter Tryz.func70,Tryz.ntmps70
    have hp := Hp.start [] w
    go_wp2_with (first|((with_reducible apply Qau hp);exact za rfl;exact rfl;clear hp;(try clear w1);intro g w1 hp;simp only [zp,zq,z0,z1])|((with_reducible apply Qag hp);exact ii;exact rfl;clear hp;(try clear w1);intro g w1 hp;simp only [zp,zq,z0,z1])|((with_reducible apply Qab hp);exact zt rfl;exact ii;exact ii;(exact zl rfl);(simp only [n0,Nat.reduceAdd,nn];try rfl);simp only [zp,zq,z0,z1])|((with_reducible apply Qae hp);exact zt rfl;(exact za rfl);exact rfl;(exact AggTy.size);exact rfl;exact ii;(simp only [n0,Nat.reduceAdd,nn];try rfl);(exact zl rfl);exact rfl;exact ii;clear hp;(try clear w1);intro w1 hp)|((with_reducible refine Qaf hp (HS.out _) ?_);clear hp;(try clear w1);intro w1 hp))
    exact bodyPost_ret (Qez rfl rfl (Qac hp (Nat.le_of_ble_eq_true rfl)) rfl (Qac hp (Nat.le_of_ble_eq_true rfl)) rfl) rfl ⟨rfl,hp.keep⟩
  · obtain ⟨h1,h2,h3⟩ := fq_signs (a := a) hb0
    have hab := Qof ha
    have hbb := Qof hb
    have hbp : 0 < ab b := by unfold ab;split <;> omega
    refine rdiv_core a b (ab a) (ab b) (fq a b) (if decide (b < 0) = true then -fr a b else fr a b) (fr a b) (decide (a < 0)) (decide (b < 0)) _
      hab.1 hbp (Lib.hid (Qix ha rfl)) (Lib.hid (Qix hb rfl)) (Lib.hid hbb.2) (Lib.hid (fq_room ha hb0)) (Lib.hid fun hf => ?_) (Lib.hid fun hf => ?_)
      (Lib.hid h1) (Lib.hid h2) (Lib.hid h3) (Lib.hid ?_) (Lib.hid (fr_fit hb hb0)) (Lib.hid hs) (by have := Qky hb0;simp [this])
      (Lib.hid fun w => Qel a ha w) (Lib.hid fun w => Qel b hb w) (Lib.hid fun w => Qhv a ha w) (Lib.hid fun w => Qhv b hb w) w
    · have hk : dvok a b := ⟨hb0,hf⟩
      unfold dvq dvr
      rw [if_pos hk,if_pos hk,decide_eq_true hk]
    · have hk : ¬ dvok a b := fun h => hf h.2
      unfold dvq dvr
      rw [if_neg hk,if_neg hk,decide_eq_false hk,Qfe]
    · by_cases h : decide (b < 0) = true
      · rw [if_pos h,if_pos h];omega
      · rw [if_neg h,if_neg h]
end Go.Proofs.YtdfdmeoalbpcdaaGreat
