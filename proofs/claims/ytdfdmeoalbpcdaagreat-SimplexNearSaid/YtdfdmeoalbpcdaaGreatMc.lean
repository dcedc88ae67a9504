/-
  Package wide: Mul (contract).
-/
import Derived.Test.YtdfdmeoalbpcdaaGreatMb
import Derived.Test.YtdfdmeoalbpcdaaGreatEr
import Derived.WalkSmall
set_option linter.unusedSimpArgs false
set_option maxRecDepth 100000
namespace Go.Proofs.YtdfdmeoalbpcdaaGreat
open Go Go.RowKit
theorem sz_fit {a : Int} (h : Fit a) : 0 ≤ sz a ∧ sz a ≤ M511 ∧ a = if ng a then -sz a else sz a := by
  unfold sz
  rw [Qco h]
  unfold Fit at h
  unfold M511 at *
  by_cases hn : a < 0 <;> simp [hn] <;> omega
theorem prod_limbs (x y : Int) (hx : 0 ≤ x) (hx' : x < 18446744073709551616) (hy : 0 ≤ y) (hy' : y < 18446744073709551616) :
    ∃ h lo : Int,x * y = h * 18446744073709551616 + lo ∧ 0 ≤ lo ∧ lo < 18446744073709551616 ∧ 0 ≤ h ∧ (h ≤ 18446744073709551613 ∨ (h = 18446744073709551614 ∧ lo ≤ 1)) := by
  have h1 := Int.mul_nonneg hx hy
  have h2 := Int.mul_le_mul (show x ≤ 18446744073709551615 by omega) (show y ≤ 18446744073709551615 by omega) hy (by omega)
  exact ⟨x * y / 18446744073709551616,x * y % 18446744073709551616,by omega,by omega,by omega,by omega,by omega⟩
theorem mul64_limbs (x y h lo : Int) (hx : 0 ≤ x) (hx' : x < 18446744073709551616) (hy : 0 ≤ y) (hy' : y < 18446744073709551616) (hT : x * y = h * 18446744073709551616 + lo) (h0 : 0 ≤ lo) (h1 : lo < 18446744073709551616) (w : World) :
    Calls Tryz.prog 76 #[.int .u64 x,.int .u64 y] w (Ret (.tuple #[.int .u64 h,.int .u64 lo]) w) := by
  have := mul64_any x y hx hx' hy hy' w
  rw [show x * y / 18446744073709551616 = h by omega,show x * y % 18446744073709551616 = lo by omega] at this
  exact this
theorem mul_sign {a b : Int} (ha : Fit a) (hb : Fit b) : a * b = if (ng a != ng b) then -(sz a * sz b) else sz a * sz b := by
  obtain ⟨_,_,ea⟩ := sz_fit ha
  obtain ⟨_,_,eb⟩ := sz_fit hb
  generalize sz a = A at *
  generalize sz b = B at *
  generalize ng a = x at *
  generalize ng b = y at *
  subst ea;subst eb
  cases x <;> cases y <;> simp [Int.mul_neg,Int.neg_mul]
theorem Qhc {n : Int} {s : Bool} {T : Int} (h : n = if s then -T else T) (hT : M512 ≤ T) : ¬ Fit n := by
  unfold Fit M511
  unfold M512 at hT
  cases s <;> simp at h <;> omega
/-- Behind the body: it has panicked. -/
theorem Qiz {n : Int} {w w1 : World} {ts : Array Value} {g gy gx gk gp gb ga : Nat} {c1 c2 c3 c4 c5 : List Value} {u : TypeId} {pv : Value} (hf : ¬ Fit n)
    (h4 : ts.getD 4 undef = .pointer (some ⟨gp,0,none⟩)) (h5 : ts.getD 5 undef = .pointer (some ⟨gk,0,none⟩))
    (hp : Hp [] w [⟨g,51,c1⟩,⟨gy,51,c2⟩,⟨gx,51,c3⟩,⟨gk,4,[.bool false]⟩,⟨gp,27,[.int .u64 0,.int .u64 0,.int .u64 0,.int .u64 0,.int .u64 0,.int .u64 0,.int .u64 0,.int .u64 0]⟩,⟨gb,27,c4⟩,⟨ga,27,c5⟩] w1) :
    Leaves Tryz.prog Tryz.f36 ts (Ret (.tuple #[W (fz n),.bool (decide (Fit n))]) w) [{ target := .fn (.func 75) #[.pointer (some ⟨gp,0,none⟩),.pointer (some ⟨gk,0,none⟩)],args := #[] }] (.panicking [{ v := .iface u pv,recovered := false }]) w1 := by
  refine leaves_cons (f := 75) (args := #[.pointer (some ⟨gp,0,none⟩),.pointer (some ⟨gk,0,none⟩)]) (by simp) (by simp [go_sem]) ?_
  have hne : gp ≠ gk := by
    have := hp.nd
    simp at this
    exact fun h => this.2.2.2.1.1 h.symm
  refine (mul_catch gp gk _ false u pv w1 hne (by simp) (hp.blk (cs := [.int .u64 0,.int .u64 0,.int .u64 0,.int .u64 0,.int .u64 0,.int .u64 0,.int .u64 0,.int .u64 0])) (hp.blk (cs := [.bool false]))).mono fun e u' w' h => ?_
  obtain ⟨rfl,rfl,hp'⟩ := h
  have hp2 := hp.callX2 hp' (inferInstance) (inferInstance)
  have e : W (fz n) = .agg #[.int .u64 0,.int .u64 0,.int .u64 0,.int .u64 0,.int .u64 0,.int .u64 0,.int .u64 0,.int .u64 0] := by unfold fz;rw [if_neg hf];exact Qfe
  rw [e,decide_eq_false hf]
  exact ⟨_,Qan rfl ⟨_,h4,Qac hp2 (Nat.le_of_ble_eq_true rfl)⟩ ⟨_,h5,Qbt hp2 rfl⟩,rfl,hp2.keep⟩
theorem mul_step {M c L x B h lo : Int} {i k : Nat} (Heq : M + c * P64 (i + k) = L + x * P64 i * (B % P64 k)) (HT : x * lb B k = h * 18446744073709551616 + lo) :
    put M (i + k) ((lb M (i + k) + (lo + c) % 18446744073709551616) % 18446744073709551616) + (h + (lo + c) / 18446744073709551616 + (lb M (i + k) + (lo + c) % 18446744073709551616) / 18446744073709551616) * P64 (i + (k + 1)) = L + x * P64 i * (B % P64 (k + 1)) := by
  rw [Qey B k,show i + (k + 1) = (i + k) + 1 from rfl,Qhq]
  unfold put
  have hP := Qih i k
  generalize lb M (i + k) = m at *
  generalize lb B k = y at *
  generalize P64 (i + k) = P at *
  generalize P64 i = Pi at *
  generalize P64 k = Pk at *
  generalize B % Pk = b at *
  have e1 : lo + c = 18446744073709551616 * ((lo + c) / 18446744073709551616) + (lo + c) % 18446744073709551616 := by omega
  generalize (lo + c) / 18446744073709551616 = q1 at *
  generalize (lo + c) % 18446744073709551616 = r1 at *
  have e2 : m + r1 = 18446744073709551616 * ((m + r1) / 18446744073709551616) + (m + r1) % 18446744073709551616 := by omega
  generalize (m + r1) / 18446744073709551616 = q2 at *
  generalize (m + r1) % 18446744073709551616 = r2 at *
  subst hP
  grind
theorem Qjb {a p : Int} (ha : 0 ≤ a) (hp : 0 < p) : a % p ≤ a := by
  have h1 := Int.emod_add_mul_ediv a p
  have h2 := Int.mul_nonneg (Int.le_of_lt hp) (Int.ediv_nonneg ha (Int.le_of_lt hp))
  omega
theorem mul_ge {A B L x : Int} {i : Nat} (K : Nat) (hA : 0 ≤ A) (hB : 0 ≤ B) (hx : x = lb A i) (hL : L = (A % P64 i) * B) : L + x * P64 i * (B % P64 K) ≤ A * B := by
  have h1 : A % P64 (i + 1) = P64 i * x + A % P64 i := by rw [hx];exact Qey A i
  have h2 : A % P64 (i + 1) ≤ A := Qjb hA (Qef _)
  have h3 : B % P64 K ≤ B := Qjb hB (Qef _)
  have h4 : 0 ≤ P64 i * x := Int.mul_nonneg (Int.le_of_lt (Qef _)) (hx ▸ Qbj _ _)
  have h5 := Int.mul_le_mul_of_nonneg_right h2 hB
  have h6 := Int.mul_le_mul_of_nonneg_left h3 h4
  rw [h1,Int.add_mul] at h5
  rw [hL,Int.mul_comm x]
  omega
theorem mul_over {A B L x M d : Int} {i k K : Nat} (hA : 0 ≤ A) (hB : 0 ≤ B) (hx : x = lb A i) (hL : L = (A % P64 i) * B) (hM : 0 ≤ M) (hd : 1 ≤ d) (hik : 8 ≤ i + k)
    (h : M + d * P64 (i + k) = L + x * P64 i * (B % P64 K)) : M512 ≤ A * B := by
  have h1 := mul_ge K hA hB hx hL
  have h2 := P64_le hik
  have h3 := Int.mul_le_mul_of_nonneg_right hd (Int.le_of_lt (Qef (i + k)))
  rw [Qhk] at h2
  omega
theorem Qmi {A B L x M c h lo : Int} {i k : Nat} (hA : 0 ≤ A) (hB : 0 ≤ B) (hx : x = lb A i) (hL : L = (A % P64 i) * B) (hM : 0 ≤ M) (hik : 8 ≤ i + k)
    (Heq : M + c * P64 (i + k) = L + x * P64 i * (B % P64 k)) (HT : x * lb B k = h * 18446744073709551616 + lo) (hd : 1 ≤ c + (h * 18446744073709551616 + lo)) : M512 ≤ A * B := by
  refine mul_over (K := k + 1) hA hB hx hL hM hd hik ?_
  rw [Qey B k,← HT,Qih] at *
  grind
theorem mul_same {B L x M c h lo : Int} {i k : Nat} (Heq : M + c * P64 (i + k) = L + x * P64 i * (B % P64 k)) (HT : x * lb B k = h * 18446744073709551616 + lo) (hc : c = 0) (hh : h = 0) (hl : lo = 0) (K : Nat) :
    M + 0 * P64 K = L + x * P64 i * (B % P64 (k + 1)) := by
  subst hc;subst hh;subst hl
  rw [Qey B k]
  grind
theorem mul_next {A B L x M : Int} {i : Nat} (hB : 0 ≤ B) (hB' : B < M512) (hx : x = lb A i) (hL : L = (A % P64 i) * B) (Heq : M + 0 * P64 (i + 8) = L + x * P64 i * (B % P64 8)) : M = A % P64 (i + 1) * B := by
  rw [Qhk,Int.emod_eq_of_lt hB hB'] at Heq
  rw [Qey A i,← hx,Int.add_mul,← hL]
  grind
/-- Behind the body: it has returned. -/
theorem door_good {n : Int} {w w1 : World} {ts : Array Value} {g gy gx gk gp gb ga : Nat} {c1 c2 c3 c4 c5 : List Value} (hf : Fit n)
    (h4 : ts.getD 4 undef = .pointer (some ⟨gp,0,none⟩)) (h5 : ts.getD 5 undef = .pointer (some ⟨gk,0,none⟩))
    (hp : Hp [] w [⟨g,51,c1⟩,⟨gy,51,c2⟩,⟨gx,51,c3⟩,⟨gk,4,[.bool true]⟩,⟨gp,27,[.int .u64 (lb (n) 0),.int .u64 (lb (n) 1),.int .u64 (lb (n) 2),.int .u64 (lb (n) 3),.int .u64 (lb (n) 4),.int .u64 (lb (n) 5),.int .u64 (lb (n) 6),.int .u64 (lb (n) 7)]⟩,⟨gb,27,c4⟩,⟨ga,27,c5⟩] w1) :
    Leaves Tryz.prog Tryz.f36 ts (Ret (.tuple #[W (fz n),.bool (decide (Fit n))]) w) [{ target := .fn (.func 75) #[.pointer (some ⟨gp,0,none⟩),.pointer (some ⟨gk,0,none⟩)],args := #[] }] .returning w1 := by
  refine leaves_cons (f := 75) (args := #[.pointer (some ⟨gp,0,none⟩),.pointer (some ⟨gk,0,none⟩)]) (by simp) (by simp [go_sem]) ?_
  refine (mul_idle gp gk w1).mono fun e u' w' h => ?_
  obtain ⟨rfl,rfl,rfl⟩ := h
  rw [fz,if_pos hf,decide_eq_true hf]
  exact ⟨_,Qan rfl ⟨_,h4,Qac hp (Nat.le_of_ble_eq_true rfl)⟩ ⟨_,h5,Qbt hp rfl⟩,rfl,hp.keep⟩
set_option maxHeartbeats 8000000 in
theorem mul_any (a b : Int) (ha : Fit a) (hb : Fit b) (w : World) : Calls Tryz.prog 36 #[W a,W b] w (Ret (.tuple #[W (fz (a * b)),.bool (decide (Fit (a * b)))]) w) := by
  have hmf : ∀ (fn : Fn) (first cap : Array Value) (w : World),(Instr.makeFunc fn first cap).run Tryz.prog w = .ok (.func fn first cap) w := fun _ _ _ _ => rfl
  go_enter_defers Tryz.func36,Tryz.ntmps36
  have hp := Hp.start [] w
  go_upto_region 2 with (first|((with_reducible apply Qau hp);exact za rfl;exact rfl;clear hp;(try clear w1);intro g w1 hp;simp only [zp,zq,z0,z1])|((with_reducible apply Qag hp);exact ii;exact rfl;clear hp;(try clear w1);intro g w1 hp;simp only [zp,zq,z0,z1]))
  rename_i ga gb gp K hK
  go_cut [6,7] from 16 to 21 (fun s6 s7 wx => ∃ gx gy,s6 = .pointer (some ⟨gx,0,none⟩) ∧ s7 = .pointer (some ⟨gy,0,none⟩) ∧
    Hp [] w [⟨gy,51,[.int .u64 (lb (sz b) 0),.int .u64 (lb (sz b) 1),.int .u64 (lb (sz b) 2),.int .u64 (lb (sz b) 3),.int .u64 (lb (sz b) 4),.int .u64 (lb (sz b) 5),.int .u64 (lb (sz b) 6),.int .u64 (lb (sz b) 7)]⟩,⟨gx,51,[.int .u64 (lb (sz a) 0),.int .u64 (lb (sz a) 1),.int .u64 (lb (sz a) 2),.int .u64 (lb (sz a) 3),.int .u64 (lb (sz a) 4),.int .u64 (lb (sz a) 5),.int .u64 (lb (sz a) 6),.int .u64 (lb (sz a) 7)]⟩,⟨g,4,[.bool false]⟩,⟨gp,27,[.int .u64 0,.int .u64 0,.int .u64 0,.int .u64 0,.int .u64 0,.int .u64 0,.int .u64 0,.int .u64 0]⟩,⟨gb,27,[.int .u64 (lb (b) 0),.int .u64 (lb (b) 1),.int .u64 (lb (b) 2),.int .u64 (lb (b) 3),.int .u64 (lb (b) 4),.int .u64 (lb (b) 5),.int .u64 (lb (b) 6),.int .u64 (lb (b) 7)]⟩,⟨ga,27,[.int .u64 (lb (a) 0),.int .u64 (lb (a) 1),.int .u64 (lb (a) 2),.int .u64 (lb (a) 3),.int .u64 (lb (a) 4),.int .u64 (lb (a) 5),.int .u64 (lb (a) 6),.int .u64 (lb (a) 7)]⟩] wx)
  case first =>
    have hq := hp
    refine Qad hp hq [9] (.q 0 (.q 1 (.q 3 (.q 4 (.b3 2 (.b3 5 (.b2 6 (.l 7 (.l 8 (.l 9 .nil))) 7 (.l 6 (.l 8 (.l 9 .nil)))) 6 (.b2 5 (.l 7 (.l 8 (.l 9 .nil))) 7 (.l 5 (.l 8 (.l 9 .nil)))) 7 (.b2 5 (.l 6 (.l 8 (.l 9 .nil))) 6 (.l 5 (.l 8 (.l 9 .nil))))) 6 (.b2 2 (.b2 5 (.l 7 (.l 8 (.l 9 .nil))) 7 (.l 5 (.l 8 (.l 9 .nil)))) 7 (.l 2 (.l 5 (.l 8 (.l 9 .nil))))) 7 (.b2 2 (.b2 5 (.l 6 (.l 8 (.l 9 .nil))) 6 (.l 5 (.l 8 (.l 9 .nil)))) 6 (.l 2 (.l 5 (.l 8 (.l 9 .nil)))))))))) (by kernel_rfl) (by kernel_rfl) ?_
    clear hp hq;(try clear w1);intro w1 hp hq
    repeat' (first|(((with_reducible apply sd_q);exact zo rfl);(first|((with_reducible apply Qah hp);exact rfl;exact zt rfl;exact ii;exact ii;(exact zl rfl);(simp only [n0,Nat.reduceAdd,nn];try rfl);simp only [zp,zq,z0,z1])|((with_reducible apply Qaj hp);exact rfl;(focus (intro _;go_simp;(try go_ints);try with_reducible rfl));simp only [zp,zq,z0,z1])))|(((with_reducible apply sd_l);exact zo rfl);(first|((with_reducible apply Qcm hq);(repeat (first|exact sb0|apply sb3));exact rfl;exact ii;exact rfl;clear hp hq;(try clear w1);intro g w1 hp hq;simp only [zp,zq,z0,z1])|((with_reducible apply Qap hp);exact rfl;(focus (intro _;go_simp;try first|with_reducible rfl|exact ⟨rfl,rfl⟩));(with_reducible exact fun w => Qne _ w);exact hq;clear hp hq;(try clear w1);intro w1 hp hq;simp only [zp,zq,z0,z1])|((with_reducible apply Qam hq);exact rfl;exact zt rfl;(exact za rfl);exact rfl;(exact AggTy.size);exact rfl;exact ii;(simp only [n0,Nat.reduceAdd,nn];try rfl);(exact zl rfl);exact rfl;exact ii;(repeat (first|exact sb0|apply sb3));clear hp hq;(try clear w1);intro w1 hp hq)))|(with_reducible apply Qfa)|(with_reducible apply sd_b3)|((with_reducible apply Qao);clear hp;have hp := hq;clear hq))
    all_goals (go_wp2_with fail;go_meet;first|exact ⟨_,_,rfl,rfl,hp⟩|exact ⟨_,_,rfl,rfl,hp.perm (List.Perm.swap ..)⟩)
  case rest =>
    clear hp
    obtain ⟨gx,gy,rfl,rfl,hp⟩ := hcut
    obtain ⟨gk,rfl⟩ : ∃ x : Nat,x = g := ⟨_,rfl⟩
    have hA := sz_fit ha
    have hB := sz_fit hb
    have hab := mul_sign ha hb
    generalize sz a = A at *
    generalize sz b = B at *
    have HA := Lib.hid hA
    have HB := Lib.hid hB
    have Hab := Lib.hid hab
    clear hA hB hab
    go_wp2_with ((with_reducible apply Qag hp);exact ii;exact rfl;clear hp;(try clear w1);intro g w1 hp;simp only [zp,zq,z0,z1])
    rename_i K2 hK2
    go_loopw [22] (fun i wr => ∃ (k : Nat) (L : Int),k ≤ 8 ∧ i = .int .i64 k ∧ L = (A % P64 k) * B ∧ 0 ≤ L ∧ L < M512 ∧
      Hp [] w [⟨g,51,LB (lb L)⟩,⟨gy,51,LB (lb B)⟩,⟨gx,51,LB (lb A)⟩,⟨gk,4,[.bool false]⟩,⟨gp,27,[.int .u64 0,.int .u64 0,.int .u64 0,.int .u64 0,.int .u64 0,.int .u64 0,.int .u64 0,.int .u64 0]⟩,⟨gb,27,[.int .u64 (lb (b) 0),.int .u64 (lb (b) 1),.int .u64 (lb (b) 2),.int .u64 (lb (b) 3),.int .u64 (lb (b) 4),.int .u64 (lb (b) 5),.int .u64 (lb (b) 6),.int .u64 (lb (b) 7)]⟩,⟨ga,27,[.int .u64 (lb (a) 0),.int .u64 (lb (a) 1),.int .u64 (lb (a) 2),.int .u64 (lb (a) 3),.int .u64 (lb (a) 4),.int .u64 (lb (a) 5),.int .u64 (lb (a) 6),.int .u64 (lb (a) 7)]⟩] wr) (fun i _ => 8 - (intOf i).toNat)
    case atStart =>
      refine ⟨0,0,by omega,rfl,by simp [P64_zero,Int.emod_one],by omega,by unfold M512;omega,?_⟩
      have e : LB (lb 0) = [.int .u64 0,.int .u64 0,.int .u64 0,.int .u64 0,.int .u64 0,.int .u64 0,.int .u64 0,.int .u64 0] := by simp [LB,Qcy]
      rw [e]
      exact hp
    case round =>
      clear hp
      obtain ⟨i,L,hi,rfl,hL,hL0,hL1,hp⟩ := hrel
      have HL := Lib.hid hL
      clear hL
      have HL1 := Lib.hid hL1
      clear hL1
      by_cases hi8 : i < 8
      · have hx0 := Qbj A i
        have hx1 := Qfz A i
        have hi1 : (i : Int) < 8 := by omega
        by_cases hx : lb A i = 0
        · have hx' : (lb A i == 0) = true := by simp [hx]
          have Hx := Lib.hid hx
          clear hx
          go_wp2_with ((with_reducible apply Qai hp);exact zt rfl;exact ii;exact ii;(exact Qcp (by omega));simp only [zp,zq,z0,z1])
          go_roundw
          case rel =>
            refine ⟨i + 1,L,by omega,by go_num,?_,hL0,HL1.out,hp⟩
            rw [Qey,Hx.out,Int.mul_zero,Int.zero_add];exact HL.out
          case measure => simp [intOf];omega
        · have hx' : (lb A i == 0) = false := by simp [hx]
          have Hx := Lib.hid hx
          clear hx
          go_wp2_with ((with_reducible apply Qai hp);exact zt rfl;exact ii;exact ii;(exact Qcp (by omega));simp only [zp,zq,z0,z1])
          rename_i K3 hK3
          go_loopw [29,10] (fun j cv wr => ∃ (k : Nat) (M c : Int),k ≤ 8 ∧ j = .int .i64 k ∧ cv = .int .u64 c ∧ 0 ≤ c ∧ c < 18446744073709551616 ∧ 0 ≤ M ∧ M < M512 ∧
            M + c * P64 (i + k) = L + lb A i * P64 i * (B % P64 k) ∧ (8 < i + k → c = 0) ∧
            Hp [] w [⟨g,51,LB (lb M)⟩,⟨gy,51,LB (lb B)⟩,⟨gx,51,LB (lb A)⟩,⟨gk,4,[.bool false]⟩,⟨gp,27,[.int .u64 0,.int .u64 0,.int .u64 0,.int .u64 0,.int .u64 0,.int .u64 0,.int .u64 0,.int .u64 0]⟩,⟨gb,27,[.int .u64 (lb (b) 0),.int .u64 (lb (b) 1),.int .u64 (lb (b) 2),.int .u64 (lb (b) 3),.int .u64 (lb (b) 4),.int .u64 (lb (b) 5),.int .u64 (lb (b) 6),.int .u64 (lb (b) 7)]⟩,⟨ga,27,[.int .u64 (lb (a) 0),.int .u64 (lb (a) 1),.int .u64 (lb (a) 2),.int .u64 (lb (a) 3),.int .u64 (lb (a) 4),.int .u64 (lb (a) 5),.int .u64 (lb (a) 6),.int .u64 (lb (a) 7)]⟩] wr) (fun j _ _ => 8 - (intOf j).toNat)
          case atStart => exact ⟨0,L,0,by omega,rfl,rfl,by omega,by omega,hL0,HL1.out,by rw [P64_zero,Int.emod_one];omega,fun _ => rfl,hp⟩
          case round =>
            clear hp
            obtain ⟨k,M,c,hk,rfl,rfl,hc0,hc1,hM0,hM1,heq,hcz,hp⟩ := hrel
            have HM1 := Lib.hid hM1
            clear hM1
            have Heq := Lib.hid heq
            clear heq
            have Hcz := Lib.hid hcz
            clear hcz
            by_cases hk8 : k < 8
            · have hk1 : (k : Int) < 8 := by omega
              obtain ⟨h,lo,hT,hlo0,hlo1,hh0,hh1⟩ := prod_limbs (lb A i) (lb B k) hx0 hx1 (Qbj _ _) (Qfz _ _)
              have HT := Lib.hid hT
              clear hT
              have hw1 : h + (lo + c) / 18446744073709551616 < 18446744073709551616 := by omega
              have hmul := mul64_limbs (lb A i) (lb B k) h lo hx0 hx1 (Qbj _ _) (Qfz _ _) HT.out hlo0 hlo1
              have Hmul := Lib.hid hmul
              clear hmul
              have hr1 := fun w => Qfg lo c 0 hlo0 hc0 (by omega) (by omega) w
              by_cases hik : (i : Int) + (k : Int) < 8
              · have hl0 := Qbj M (i + k)
                have hl1 := Qfz M (i + k)
                have hw2 : h + (lo + c) / 18446744073709551616 + (lb M (i + k) + (lo + c) % 18446744073709551616) / 18446744073709551616 < 18446744073709551616 := by omega
                have hr2 := fun w => Qfg (lb M (i + k)) ((lo + c) % 18446744073709551616) 0 hl0 (by omega) (by omega) (by omega) w
                go_wp2_with (fail)
                have hq := hp
                refine Qad hp hq [] (.q 0 (.q 1 (.q 2 (.q 3 (.q 4 (.q 5 (.l 6 (.q 7 (.q 8 (.q 9 (.q 10 (.q 11 .nil)))))))))))) (by kernel_rfl) (by kernel_rfl) ?_
                clear hp hq;(try clear w1);intro w1 hp hq
                repeat' (first|(((with_reducible apply sd_q);exact zo rfl);(first|((with_reducible apply Qba hp);exact rfl;exact zt rfl;exact ii;exact ii;(exact Qcp (by omega));simp only [zp,zq,z0,z1])|((with_reducible apply Qaq hp);(first|exact zi rfl|exact zu rfl);simp only [zp,zq,z0,z1])|((with_reducible apply Qat hp);exact zi rfl;simp only [zp,zq,z0,z1])|((with_reducible apply Qaj hp);exact rfl;(focus (intro _;go_simp;(try go_ints);try with_reducible rfl));simp only [zp,zq,z0,z1])))|(((with_reducible apply sd_l);exact zo rfl);((with_reducible apply Qap hp);exact rfl;(focus (intro _;go_simp;try first|with_reducible rfl|exact ⟨rfl,rfl⟩));(with_reducible exact fun w => Hmul.out w);exact hq;clear hp hq;(try clear w1);intro w1 hp hq;simp only [zp,zq,z0,z1]))|((with_reducible apply Qao);clear hp;have hp := hq;clear hq))
                go_wp2_with (first|((with_reducible apply Qai hp);exact zt rfl;exact ii;exact ii;(exact Qcp (by omega));simp only [zp,zq,z0,z1])|((with_reducible apply Qae hp);exact zt rfl;(exact zi rfl);exact rfl;(exact OneTy.size);exact rfl;exact ii;(with_reducible exact Qfd (by omega));(exact Qhy (by omega));exact rfl;exact ii;clear hp;(try clear w1);intro w1 hp))
                go_roundw
                case rel =>
                  obtain ⟨hm0,hm1⟩ := put_bd M (i + k) ((lb M (i + k) + (lo + c) % 18446744073709551616) % 18446744073709551616) hM0 HM1.out (by omega) (by omega) (by omega)
                  refine ⟨k + 1,_,_,by omega,by go_num,rfl,by omega,hw2,hm0,hm1,mul_step Heq.out HT.out,fun h => absurd h (by omega),?_⟩
                  rw [← LB_put _ _ _ (by omega) (by omega),show (lb M (i + k) + (lo + c) % 18446744073709551616) % 18446744073709551616 = (lb M (i + k) + (lo + c)) % 18446744073709551616 by omega]
                  exact hp
                case measure => simp [intOf];omega
              · have hik' : (lo + c) % 18446744073709551616 < 18446744073709551616 := by omega
                by_cases hlow : (lo + c) % 18446744073709551616 = 0
                · have hlow' : ((lo + c) % 18446744073709551616 != 0) = false := by simp [hlow]
                  by_cases hhigh : h + (lo + c) / 18446744073709551616 = 0
                  · have hhigh' : (h + (lo + c) / 18446744073709551616 != 0) = false := by simp [hhigh]
                    go_wp2_with (fail)
                    have hq := hp
                    refine Qad hp hq [] (.q 0 (.q 1 (.q 2 (.q 3 (.q 4 (.q 5 (.l 6 (.q 7 (.q 8 (.q 9 (.q 10 (.q 11 .nil)))))))))))) (by kernel_rfl) (by kernel_rfl) ?_
                    clear hp hq;(try clear w1);intro w1 hp hq
                    repeat' (first|(((with_reducible apply sd_q);exact zo rfl);(first|((with_reducible apply Qba hp);exact rfl;exact zt rfl;exact ii;exact ii;(exact Qcp (by omega));simp only [zp,zq,z0,z1])|((with_reducible apply Qaq hp);(first|exact zi rfl|exact zu rfl);simp only [zp,zq,z0,z1])|((with_reducible apply Qat hp);exact zi rfl;simp only [zp,zq,z0,z1])|((with_reducible apply Qaj hp);exact rfl;(focus (intro _;go_simp;(try go_ints);try with_reducible rfl));simp only [zp,zq,z0,z1])))|(((with_reducible apply sd_l);exact zo rfl);((with_reducible apply Qap hp);exact rfl;(focus (intro _;go_simp;try first|with_reducible rfl|exact ⟨rfl,rfl⟩));(with_reducible exact fun w => Hmul.out w);exact hq;clear hp hq;(try clear w1);intro w1 hp hq;simp only [zp,zq,z0,z1]))|((with_reducible apply Qao);clear hp;have hp := hq;clear hq))
                    go_wp2_with (fail)
                    go_roundw
                    case rel => exact ⟨k + 1,M,0,by omega,by go_num,rfl,by omega,by omega,hM0,HM1.out,mul_same Heq.out HT.out (by omega) (by omega) (by omega) _,fun _ => rfl,hp⟩
                    case measure => simp [intOf];omega
                  · have hhigh' : (h + (lo + c) / 18446744073709551616 != 0) = true := by simp [hhigh]
                    go_wp2_with (fail)
                    have hq := hp
                    refine Qad hp hq [] (.q 0 (.q 1 (.q 2 (.q 3 (.q 4 (.q 5 (.l 6 (.q 7 (.q 8 (.q 9 (.q 10 (.q 11 .nil)))))))))))) (by kernel_rfl) (by kernel_rfl) ?_
                    clear hp hq;(try clear w1);intro w1 hp hq
                    repeat' (first|(((with_reducible apply sd_q);exact zo rfl);(first|((with_reducible apply Qba hp);exact rfl;exact zt rfl;exact ii;exact ii;(exact Qcp (by omega));simp only [zp,zq,z0,z1])|((with_reducible apply Qaq hp);(first|exact zi rfl|exact zu rfl);simp only [zp,zq,z0,z1])|((with_reducible apply Qat hp);exact zi rfl;simp only [zp,zq,z0,z1])|((with_reducible apply Qaj hp);exact rfl;(focus (intro _;go_simp;(try go_ints);try with_reducible rfl));simp only [zp,zq,z0,z1])))|(((with_reducible apply sd_l);exact zo rfl);((with_reducible apply Qap hp);exact rfl;(focus (intro _;go_simp;try first|with_reducible rfl|exact ⟨rfl,rfl⟩));(with_reducible exact fun w => Hmul.out w);exact hq;clear hp hq;(try clear w1);intro w1 hp hq;simp only [zp,zq,z0,z1]))|((with_reducible apply Qao);clear hp;have hp := hq;clear hq))
                    go_wp2_with (fail)
                    (exact Qiz (Qhc Hab.out (Qmi HA.out.1 HB.out.1 rfl HL.out hM0 (by omega) Heq.out HT.out (by omega))) rfl rfl hp)
                · have hlow' : ((lo + c) % 18446744073709551616 != 0) = true := by simp [hlow]
                  go_wp2_with (fail)
                  have hq := hp
                  refine Qad hp hq [] (.q 0 (.q 1 (.q 2 (.q 3 (.q 4 (.q 5 (.l 6 (.q 7 (.q 8 (.q 9 (.q 10 (.q 11 .nil)))))))))))) (by kernel_rfl) (by kernel_rfl) ?_
                  clear hp hq;(try clear w1);intro w1 hp hq
                  repeat' (first|(((with_reducible apply sd_q);exact zo rfl);(first|((with_reducible apply Qba hp);exact rfl;exact zt rfl;exact ii;exact ii;(exact Qcp (by omega));simp only [zp,zq,z0,z1])|((with_reducible apply Qaq hp);(first|exact zi rfl|exact zu rfl);simp only [zp,zq,z0,z1])|((with_reducible apply Qat hp);exact zi rfl;simp only [zp,zq,z0,z1])|((with_reducible apply Qaj hp);exact rfl;(focus (intro _;go_simp;(try go_ints);try with_reducible rfl));simp only [zp,zq,z0,z1])))|(((with_reducible apply sd_l);exact zo rfl);((with_reducible apply Qap hp);exact rfl;(focus (intro _;go_simp;try first|with_reducible rfl|exact ⟨rfl,rfl⟩));(with_reducible exact fun w => Hmul.out w);exact hq;clear hp hq;(try clear w1);intro w1 hp hq;simp only [zp,zq,z0,z1]))|((with_reducible apply Qao);clear hp;have hp := hq;clear hq))
                  go_wp2_with (fail)
                  (exact Qiz (Qhc Hab.out (Qmi HA.out.1 HB.out.1 rfl HL.out hM0 (by omega) Heq.out HT.out (by omega))) rfl rfl hp)
            · obtain rfl : k = 8 := by omega
              by_cases hcc : c = 0
              · have hcc' : (c != 0) = false := by simp [hcc]
                go_wp2_with (fail)
                go_roundw
                case rel =>
                  have hnx := HB.out
                  exact ⟨i + 1,M,by omega,by go_num,mul_next hnx.1 (by have := hnx.2.1;unfold M511 at this;unfold M512;omega) rfl HL.out (by have := Heq.out;rw [hcc] at this;exact this),hM0,HM1.out,hp⟩
                case measure => simp [intOf];omega
              · have hcc' : (c != 0) = true := by simp [hcc]
                go_wp2_with (fail)
                (exact Qiz (Qhc Hab.out (mul_over (d := c) HA.out.1 HB.out.1 rfl HL.out hM0 (by omega) (by omega) Heq.out)) rfl rfl hp)
      · obtain rfl : i = 8 := by omega
        have hL2 : L = A * B := by
          have h1 := HL.out
          have h2 := HA.out
          rw [Qhk,Int.emod_eq_of_lt h2.1 (by have := h2.2.1;unfold M511 at this;unfold M512;omega)] at h1
          exact h1
        have hp : Hp [] w [⟨g,51,[.int .u64 (lb (A * B) 0),.int .u64 (lb (A * B) 1),.int .u64 (lb (A * B) 2),.int .u64 (lb (A * B) 3),.int .u64 (lb (A * B) 4),.int .u64 (lb (A * B) 5),.int .u64 (lb (A * B) 6),.int .u64 (lb (A * B) 7)]⟩,⟨gy,51,[.int .u64 (lb (B) 0),.int .u64 (lb (B) 1),.int .u64 (lb (B) 2),.int .u64 (lb (B) 3),.int .u64 (lb (B) 4),.int .u64 (lb (B) 5),.int .u64 (lb (B) 6),.int .u64 (lb (B) 7)]⟩,⟨gx,51,[.int .u64 (lb (A) 0),.int .u64 (lb (A) 1),.int .u64 (lb (A) 2),.int .u64 (lb (A) 3),.int .u64 (lb (A) 4),.int .u64 (lb (A) 5),.int .u64 (lb (A) 6),.int .u64 (lb (A) 7)]⟩,⟨gk,4,[.bool false]⟩,⟨gp,27,[.int .u64 0,.int .u64 0,.int .u64 0,.int .u64 0,.int .u64 0,.int .u64 0,.int .u64 0,.int .u64 0]⟩,⟨gb,27,[.int .u64 (lb (b) 0),.int .u64 (lb (b) 1),.int .u64 (lb (b) 2),.int .u64 (lb (b) 3),.int .u64 (lb (b) 4),.int .u64 (lb (b) 5),.int .u64 (lb (b) 6),.int .u64 (lb (b) 7)]⟩,⟨ga,27,[.int .u64 (lb (a) 0),.int .u64 (lb (a) 1),.int .u64 (lb (a) 2),.int .u64 (lb (a) 3),.int .u64 (lb (a) 4),.int .u64 (lb (a) 5),.int .u64 (lb (a) 6),.int .u64 (lb (a) 7)]⟩] wr := by rw [← hL2];exact hp
        have hs0 : 0 ≤ A * B := by rw [← hL2];exact hL0
        have hs1 : A * B < M512 := by rw [← hL2];exact HL1.out
        have Hs1 := Lib.hid hs1
        clear hs1
        have e0 := Hab.out
        by_cases hf : Fit (a * b)
        · have hsg : ∀ w,Calls Tryz.prog 46 #[W (A * B),.bool (!(ng a == ng b))] w (Ret (W (a * b)) w) := fun w => by
            rw [e0] at hf ⊢
            exact Qeh (A * B) (ng a != ng b) hs0 hf w
          have Hsg := Lib.hid hsg
          clear hsg
          have E0 := Lib.hid e0
          clear e0
          have Hff := Lib.hid hf
          clear hf
          go_wp2_with (fail)
          have hq := hp
          refine Qad hp hq [9,10] (.q 0 (.q 1 (.q 2 (.q 4 (.q 5 (.l 3 (.l 6 (.q 7 (.l 8 (.l 9 (.l 10 .nil))))))))))) (by kernel_rfl) (by kernel_rfl) ?_
          clear hp hq;(try clear w1);intro w1 hp hq
          repeat' (first|(((with_reducible apply sd_q);exact zo rfl);(first|((with_reducible apply Qah hp);exact rfl;exact zt rfl;exact ii;exact ii;(exact zl rfl);(simp only [n0,Nat.reduceAdd,nn];try rfl);simp only [zp,zq,z0,z1])|((with_reducible apply Qaj hp);exact rfl;(focus (intro _;go_simp;(try go_ints);try with_reducible rfl));simp only [zp,zq,z0,z1])))|(((with_reducible apply sd_l);exact zo rfl);(first|((with_reducible apply Qap hp);exact rfl;(focus (intro _;go_simp;try first|with_reducible rfl|exact ⟨rfl,rfl⟩));(with_reducible first|exact fun w => Qdb _ w|exact fun w => Hsg.out w);exact hq;clear hp hq;(try clear w1);intro w1 hp hq;simp only [zp,zq,z0,z1])|((with_reducible apply Qbb hq);exact rfl;exact zt rfl;(first|exact za rfl|exact zb rfl);exact rfl;exact Sz.z;exact rfl;exact ii;(simp only [n0,Nat.reduceAdd,nn];try rfl);(exact zl rfl);exact rfl;exact ii;exact rfl;clear hp hq;(try clear w1);intro w1 hq;have hp := True.intro)))|((with_reducible apply Qao);clear hp;have hp := hq;clear hq))
          go_wp2
          exact door_good Hff.out rfl rfl hp
        · have hsg : ∀ w,Calls Tryz.prog 46 #[W (A * B),.bool (!(ng a == ng b))] w (Dies (.iface 115 (.agg #[])) w) := fun w => by
            rw [e0] at hf
            exact Qin (A * B) (ng a != ng b) hs0 Hs1.out hf w
          have Hsg := Lib.hid hsg
          clear hsg
          have E0 := Lib.hid e0
          clear e0
          have Hff := Lib.hid hf
          clear hf
          go_wp2_with (fail)
          have hq := hp
          refine Qkp [(4,.pointer (some ⟨gp,0,none⟩)),(5,.pointer (some ⟨gk,0,none⟩))] [{ target := .fn (.func 75) #[.pointer (some ⟨gp,0,none⟩),.pointer (some ⟨gk,0,none⟩)],args := #[] }] (fun c w1 => c = [{ v := .iface 115 (.agg #[]),recovered := false }] ∧ Hp [] w [⟨g,51,[.int .u64 (lb (A * B) 0),.int .u64 (lb (A * B) 1),.int .u64 (lb (A * B) 2),.int .u64 (lb (A * B) 3),.int .u64 (lb (A * B) 4),.int .u64 (lb (A * B) 5),.int .u64 (lb (A * B) 6),.int .u64 (lb (A * B) 7)]⟩,⟨gy,51,[.int .u64 (lb (B) 0),.int .u64 (lb (B) 1),.int .u64 (lb (B) 2),.int .u64 (lb (B) 3),.int .u64 (lb (B) 4),.int .u64 (lb (B) 5),.int .u64 (lb (B) 6),.int .u64 (lb (B) 7)]⟩,⟨gx,51,[.int .u64 (lb (A) 0),.int .u64 (lb (A) 1),.int .u64 (lb (A) 2),.int .u64 (lb (A) 3),.int .u64 (lb (A) 4),.int .u64 (lb (A) 5),.int .u64 (lb (A) 6),.int .u64 (lb (A) 7)]⟩,⟨gk,4,[.bool false]⟩,⟨gp,27,[.int .u64 0,.int .u64 0,.int .u64 0,.int .u64 0,.int .u64 0,.int .u64 0,.int .u64 0,.int .u64 0]⟩,⟨gb,27,[.int .u64 (lb (b) 0),.int .u64 (lb (b) 1),.int .u64 (lb (b) 2),.int .u64 (lb (b) 3),.int .u64 (lb (b) 4),.int .u64 (lb (b) 5),.int .u64 (lb (b) 6),.int .u64 (lb (b) 7)]⟩,⟨ga,27,[.int .u64 (lb (a) 0),.int .u64 (lb (a) 1),.int .u64 (lb (a) 2),.int .u64 (lb (a) 3),.int .u64 (lb (a) 4),.int .u64 (lb (a) 5),.int .u64 (lb (a) 6),.int .u64 (lb (a) 7)]⟩] w1) (fun c a w1 hJ hD hk => by obtain ⟨rfl,hp⟩ := hk;show Leaves _ _ _ _ _ _ _;rw [hD];exact Qiz Hff.out (hJ (4,.pointer (some ⟨gp,0,none⟩)) (by simp)) (hJ (5,.pointer (some ⟨gk,0,none⟩)) (by simp)) hp) hp hq [9,10] (.q 0 (.q 1 (.q 2 (.q 4 (.q 5 (.l 3 (.l 6 (.q 7 (.l 8 (.l 9 (.l 10 .nil))))))))))) (by kernel_rfl) (by kernel_rfl) (by first|kernel_rfl|rfl) ?_
          clear hp hq;(try clear w1);intro w1 hp hq
          ((with_reducible apply sd_q);exact zo rfl)
          ((with_reducible apply Qah hp);exact rfl;exact zt rfl;exact ii;exact ii;(exact zl rfl);(simp only [n0,Nat.reduceAdd,nn];try rfl);simp only [zp,zq,z0,z1])
          ((with_reducible apply sd_q);exact zo rfl)
          ((with_reducible apply Qaj hp);exact rfl;(focus (intro _;go_simp;(try go_ints);try with_reducible rfl));simp only [zp,zq,z0,z1])
          ((with_reducible apply sd_q);exact zo rfl)
          ((with_reducible apply Qah hp);exact rfl;exact zt rfl;exact ii;exact ii;(exact zl rfl);(simp only [n0,Nat.reduceAdd,nn];try rfl);simp only [zp,zq,z0,z1])
          ((with_reducible apply sd_q);exact zo rfl)
          ((with_reducible apply Qaj hp);exact rfl;(focus (intro _;go_simp;(try go_ints);try with_reducible rfl));simp only [zp,zq,z0,z1])
          ((with_reducible apply sd_q);exact zo rfl)
          ((with_reducible apply Qah hp);exact rfl;exact zt rfl;exact ii;exact ii;(exact zl rfl);(simp only [n0,Nat.reduceAdd,nn];try rfl);simp only [zp,zq,z0,z1])
          ((with_reducible apply sd_l);exact zo rfl)
          ((with_reducible apply Qap hp);exact rfl;(focus (intro _;go_simp;try first|with_reducible rfl|exact ⟨rfl,rfl⟩));(with_reducible exact fun w => Qdb _ w);exact hq;clear hp hq;(try clear w1);intro w1 hp hq;simp only [zp,zq,z0,z1])
          ((with_reducible apply sd_l);exact zo rfl)
          ((with_reducible apply Qap hp);exact rfl;(focus (intro _;go_simp;try first|with_reducible rfl|exact ⟨rfl,rfl⟩));(with_reducible exact fun w => Qdb _ w);exact hq;clear hp hq;(try clear w1);intro w1 hp hq;simp only [zp,zq,z0,z1])
          ((with_reducible apply sd_q);exact zo rfl)
          ((with_reducible apply Qaj hp);exact rfl;(focus (intro _;go_simp;(try go_ints);try with_reducible rfl));simp only [zp,zq,z0,z1])
          ((with_reducible apply sd_l);exact zo rfl)
          ((with_reducible apply sd_callD hq);exact rfl;(focus (intro _;go_simp;try first|with_reducible rfl|exact ⟨rfl,rfl⟩));(with_reducible exact Hsg.out _);clear hp hq;(try clear w1);intro w1 hp;exact ⟨by simp,rfl,rfl,hp⟩)
end Go.Proofs.YtdfdmeoalbpcdaaGreat
