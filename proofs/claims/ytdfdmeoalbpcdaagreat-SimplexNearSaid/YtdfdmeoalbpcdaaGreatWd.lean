/-
  Package wide: limbs added, turned over, held against each other (contracts).
  Package wide: turning over, sizes (contracts).
  Package wide: numbers of an int64, signs, comparing, sums and differences (contracts).
  Package wide: comparing, sums and differences (contracts).
-/
import Derived.Test.YtdfdmeoalbpcdaaGreatTypes
import Derived.Test.YtdfdmeoalbpcdaaGreatEr
import Derived.Test.YtdfdmeoalbpcdaaGreatDraw
import Derived.Laws.Externs
import Derived.Lib.Hide
import Derived.Deep.DeepCutAuto
set_option linter.unusedSimpArgs false
set_option maxRecDepth 100000
namespace Go.Proofs.YtdfdmeoalbpcdaaGreat
open Go Go.RowKit
theorem Qfg (x y c : Int) (hx : 0 ≤ x) (hy : 0 ≤ y) (h0 : 0 ≤ c) (h1 : c ≤ 1) (w : World) :
    (callFunc 77 #[.int .u64 x,.int .u64 y,.int .u64 c]).run Tryz.prog w =
      .ok (.value (.tuple #[.int .u64 ((x + y + c) % 18446744073709551616),.int .u64 ((x + y + c) / 18446744073709551616)])) w := by
  rw [run_callFunc_extern Tryz.func77 (by kernel_rfl) (by kernel_rfl) (by kernel_rfl) (e := add64Entry) (by kernel_rfl),run_add64 x y c hx hy h0 h1]
  rfl
theorem adder1_any (x y c : Int) (g : Nat) (hx : 0 ≤ x) (hy : 0 ≤ y) (h0 : 0 ≤ c) (h1 : c ≤ 1) (w : World) (hb : w.heap[g]? = some (.cells #[.int .u64 c] 24 (0,0))) :
    Calls Tryz.prog 112 #[.int .u64 x,.int .u64 y,.pointer (some ⟨g,0,none⟩)] w
      (RetX g 24 [.int .u64 ((x + y + c) / 18446744073709551616)] (.int .u64 ((x + y + c) % 18446744073709551616)) w) := by
  have hr := fun w => Qfg x y c hx hy h0 h1 w
  have hp := Hp.startX (cs := [.int .u64 c]) hb
  clear hb
  go_enter Tryz.func112,Tryz.ntmps112
  go_wp2_with (first|((with_reducible apply Qai hp);exact zt rfl;exact ii;exact ii;(exact zio rfl);simp only [zp,zq,z0,z1])|((with_reducible apply Qae hp);exact zt rfl;(exact zi rfl);exact rfl;(exact OneTy.size);exact rfl;exact ii;(simp only [n0,Nat.reduceAdd,nn];try rfl);(exact zl rfl);exact rfl;exact ii;clear hp;(try clear w1);intro w1 hp))
  exact bodyPost_ret (Qaa rfl rfl) rfl ⟨rfl,hp.keep,hp.blk⟩
theorem adder_any (c : Int) (w : World) :
    Calls Tryz.prog 82 #[.int .u64 c] w (RetN (fun g => .func (.func 112) #[] #[.pointer (some ⟨g,0,none⟩)]) 24 [.int .u64 c] w) := by
  go_enter Tryz.func82,Tryz.ntmps82
  have hp := Hp.start [] w
  go_wp2_with ((with_reducible apply Qau hp);exact zi rfl;exact rfl;clear hp;(try clear w1);intro g w1 hp;simp only [zp,zq,z0,z1])
  exact bodyPost_ret (Qaa rfl rfl) rfl ⟨g,rfl,hp.keep,hp.fresh,hp.blk⟩
set_option maxHeartbeats 4000000 in
theorem Qgs (a b c : Int) (h0 : 0 ≤ c) (h1 : c ≤ 1) (w : World) : Calls Tryz.prog 44 #[W a,W b,.int .u64 c] w (Ret (W (a + b + c)) w) := by
  go_enter Tryz.func44,Tryz.ntmps44
  have hp := Hp.start [] w
  go_wp2_with (first|((with_reducible apply Qau hp);exact za rfl;exact rfl;clear hp;(try clear w1);intro g w1 hp;simp only [zp,zq,z0,z1])|((with_reducible apply Qag hp);exact ii;exact rfl;clear hp;(try clear w1);intro g w1 hp;simp only [zp,zq,z0,z1])|((with_reducible refine Qci hp (adder_any _ _) ?_);clear hp;(try clear w1);intro g w1 hp))
  rename_i ga gb gr K hK
  go_loopw [11] (fun i wr => ∃ (k : Nat) (F : Nat → Int),k ≤ 8 ∧ i = .int .i64 k ∧ (∀ j,j < k → F j = lb (a + b + c) j) ∧ (∀ j,k ≤ j → F j = lb a j) ∧
      Hp [] w [⟨g,24,[.int .u64 (cy a b c k)]⟩,⟨gr,51,[.int .u64 0,.int .u64 0,.int .u64 0,.int .u64 0,.int .u64 0,.int .u64 0,.int .u64 0,.int .u64 0]⟩,⟨gb,51,LB (lb b)⟩,⟨ga,51,LB F⟩] wr) (fun i _ => 8 - (intOf i).toNat)
  case atStart => exact ⟨0,lb a,by omega,rfl,fun j h => by omega,fun j _ => rfl,by rw [cy_zero];exact hp⟩
  case round =>
    clear hp
    obtain ⟨k,F,hk,rfl,hlo,hhi,hp⟩ := hrel
    have Hlo := Lib.hid hlo
    clear hlo
    have hF := Lib.hid (hhi k (Nat.le_refl _))
    have Hhi := Lib.hid hhi
    clear hhi
    have hcy := cy_bd a b c k h0 h1
    have hFn : 0 ≤ F k := by rw [hF.out];exact Qbj _ _
    by_cases hlt : k < 8
    · go_wp2_with (fail)
      have hq := hp
      replace hp := hp.sub (List.sublist_cons_self ..)
      refine Qad hp hq [10] (.q 0 (.q 1 (.q 2 (.q 3 (.q 4 (.q 5 (.q 6 (.q 7 (.l 8 (.q 9 (.l 10 .nil))))))))))) (by kernel_rfl) (by kernel_rfl) ?_
      clear hp hq;(try clear w1);intro w1 hp hq
      repeat' (first|(((with_reducible apply sd_q);exact zo rfl);(first|((with_reducible apply Qba hp);exact rfl;exact zt rfl;exact ii;exact ii;(exact Qcp (by omega));simp only [zp,zq,z0,z1])|((with_reducible apply Qaq hp);(first|exact zf rfl|exact zi rfl);simp only [zp,zq,z0,z1])|((with_reducible apply Qaj hp);exact rfl;(focus (intro _;go_simp;(try go_ints);try with_reducible rfl));simp only [zp,zq,z0,z1])))|(((with_reducible apply sd_l);exact zo rfl);(first|((with_reducible apply sd_callX hq);exact rfl;(focus (intro _;go_simp;try first|with_reducible rfl|exact ⟨rfl,rfl⟩));(with_reducible exact adder1_any _ _ _ _ hFn (Qbj _ _) hcy.1 hcy.2 _ hq.blk);exact ii;(repeat (first|exact sb0|apply sb3));clear hp hq;(try clear w1);intro w1 hp hq;simp only [zp,zq,z0,z1])|((with_reducible apply Qbb hq);exact rfl;exact zt rfl;(exact zi rfl);exact rfl;(exact OneTy.size);exact rfl;exact ii;(with_reducible exact Qfd (by omega));(exact Qhy (by omega));exact rfl;exact ii;exact rfl;clear hp hq;(try clear w1);intro w1 hq;have hp := True.intro)))|((with_reducible apply Qao);clear hp;have hp := hq;clear hq))
      go_wp2_with fail
      go_roundw
      case rel =>
        refine ⟨k + 1,upd F k ((F k + lb b k + cy a b c k) % 18446744073709551616),by omega,by go_num,?_,?_,?_⟩
        · intro j hj
          by_cases e : j = k
          · subst e;rw [Qct,hF.out];exact sum_lb a b c j
          · rw [Qep _ _ e];exact Hlo.out j (by omega)
        · intro j hj
          rw [Qep _ _ (by omega)];exact Hhi.out j (by omega)
        · have e : (F k + lb b k + cy a b c k) / 18446744073709551616 = cy a b c (k + 1) := by rw [hF.out];exact cy_succ a b c k
          rw [← e];exact hp
      case measure => simp [intOf];omega
    · obtain rfl : k = 8 := by omega
      have e : LB F = LB (lb (a + b + c)) := Qed fun j hj => Hlo.out j hj
      rw [e] at hp
      clear e Hlo Hhi hF hFn
      have hp' : Hp [] w [⟨g,24,[.int .u64 (cy a b c 8)]⟩,⟨gr,51,[.int .u64 0,.int .u64 0,.int .u64 0,.int .u64 0,.int .u64 0,.int .u64 0,.int .u64 0,.int .u64 0]⟩,⟨gb,51,LB (lb b)⟩,⟨ga,51,[.int .u64 (lb (a + b + c) 0),.int .u64 (lb (a + b + c) 1),.int .u64 (lb (a + b + c) 2),.int .u64 (lb (a + b + c) 3),.int .u64 (lb (a + b + c) 4),.int .u64 (lb (a + b + c) 5),.int .u64 (lb (a + b + c) 6),.int .u64 (lb (a + b + c) 7)]⟩] wr := hp
      clear hp
      have hp := hp'
      clear hp'
      go_wp2_with (first|((with_reducible apply Qab hp);exact zt rfl;exact ii;exact ii;(exact zl rfl);(simp only [n0,Nat.reduceAdd,nn];try rfl);simp only [zp,zq,z0,z1])|((with_reducible apply Qae hp);exact zt rfl;(exact za rfl);exact rfl;(exact AggTy.size);exact rfl;exact ii;(simp only [n0,Nat.reduceAdd,nn];try rfl);(exact zl rfl);exact rfl;exact ii;clear hp;(try clear w1);intro w1 hp))
      exact bodyPost_ret (Qaa rfl ⟨_,rfl,Qac hp (Nat.le_of_ble_eq_true rfl)⟩) rfl ⟨rfl,hp.keep⟩
end Go.Proofs.YtdfdmeoalbpcdaaGreat
set_option linter.unusedSimpArgs false
set_option maxRecDepth 100000
namespace Go.Proofs.YtdfdmeoalbpcdaaGreat
open Go Go.RowKit
theorem Qdb (n : Int) (w : World) : Calls Tryz.prog 38 #[W n] w (Ret (.bool (ng n)) w) := by
  have h0 := Qbj n 7
  have h1 := Qfz n 7
  go_enter Tryz.func38,Tryz.ntmps38
  have hp := Hp.start [] w
  go_wp2_with (first|((with_reducible apply Qau hp);exact za rfl;exact rfl;clear hp;(try clear w1);intro g w1 hp;simp only [zp,zq,z0,z1])|((with_reducible apply Qai hp);exact zt rfl;exact ii;exact ii;(exact zio rfl);simp only [zp,zq,z0,z1]))
  refine bodyPost_ret (Qaa (v := .bool (ng n)) rfl ?_) rfl ⟨rfl,hp.keep⟩
  show Value.bool _ = Value.bool _
  congr 1
  unfold ng
  rw [Bool.eq_iff_iff,beq_iff_eq,decide_eq_true_iff]
  omega
theorem negT (n : Int) (h : ng n = true) (w : World) : Calls Tryz.prog 38 #[W n] w (Ret (.bool true) w) := h ▸ Qdb n w
theorem negF (n : Int) (h : ng n = false) (w : World) : Calls Tryz.prog 38 #[W n] w (Ret (.bool false) w) := h ▸ Qdb n w
set_option maxHeartbeats 4000000 in
theorem Qmn (a : Int) (w : World) : Calls Tryz.prog 45 #[W a] w (Ret (W (-a - 1)) w) := by
  go_enter Tryz.func45,Tryz.ntmps45
  have hp := Hp.start [] w
  go_wp2_with (first|((with_reducible apply Qau hp);exact za rfl;exact rfl;clear hp;(try clear w1);intro g w1 hp;simp only [zp,zq,z0,z1])|((with_reducible apply Qag hp);exact ii;exact rfl;clear hp;(try clear w1);intro g w1 hp;simp only [zp,zq,z0,z1]))
  rename_i ga K hK
  go_loopw [4] (fun i wr => ∃ (k : Nat) (F : Nat → Int),k ≤ 8 ∧ i = .int .i64 k ∧ (∀ j,j < k → F j = lb (-a - 1) j) ∧ (∀ j,k ≤ j → F j = lb a j) ∧
      Hp [] w [⟨g,51,[.int .u64 0,.int .u64 0,.int .u64 0,.int .u64 0,.int .u64 0,.int .u64 0,.int .u64 0,.int .u64 0]⟩,⟨ga,51,LB F⟩] wr) (fun i _ => 8 - (intOf i).toNat)
  case atStart => exact ⟨0,lb a,by omega,rfl,fun j h => by omega,fun j _ => rfl,hp⟩
  case round =>
    clear hp
    obtain ⟨k,F,hk,rfl,hlo,hhi,hp⟩ := hrel
    have hF := Lib.hid (hhi k (Nat.le_refl _))
    have hFn : 0 ≤ F k := by rw [hF.out];exact Qbj _ _
    have hFn' : F k < 18446744073709551616 := by rw [hF.out];exact Qfz _ _
    have Hlo := Lib.hid hlo
    clear hlo
    have Hhi := Lib.hid hhi
    clear hhi
    by_cases hlt : k < 8
    · go_wp2_with (first|((with_reducible apply Qai hp);exact zt rfl;exact ii;exact ii;(exact Qcp (by omega));simp only [zp,zq,z0,z1])|((with_reducible apply Qae hp);exact zt rfl;(exact zi rfl);exact rfl;(exact OneTy.size);exact rfl;exact ii;(with_reducible exact Qfd (by omega));(exact Qhy (by omega));exact rfl;exact ii;clear hp;(try clear w1);intro w1 hp))
      go_roundw
      case rel =>
        rw [Qog _ hFn hFn',hF.out,← lb_not a k] at hp
        refine ⟨k + 1,upd F k (lb (-a - 1) k),by omega,by go_num,?_,?_,hp⟩
        · intro j hj
          by_cases e : j = k
          · subst e;rw [Qct]
          · rw [Qep _ _ e];exact Hlo.out j (by omega)
        · intro j hj
          rw [Qep _ _ (by omega)];exact Hhi.out j (by omega)
      case measure => simp [intOf];omega
    · obtain rfl : k = 8 := by omega
      have e : LB F = LB (lb (-a - 1)) := Qed fun j hj => Hlo.out j hj
      rw [e] at hp
      clear e Hlo Hhi hF hFn hFn'
      have hp' : Hp [] w [⟨g,51,[.int .u64 0,.int .u64 0,.int .u64 0,.int .u64 0,.int .u64 0,.int .u64 0,.int .u64 0,.int .u64 0]⟩,⟨ga,51,[.int .u64 (lb (-a - 1) 0),.int .u64 (lb (-a - 1) 1),.int .u64 (lb (-a - 1) 2),.int .u64 (lb (-a - 1) 3),.int .u64 (lb (-a - 1) 4),.int .u64 (lb (-a - 1) 5),.int .u64 (lb (-a - 1) 6),.int .u64 (lb (-a - 1) 7)]⟩] wr := hp
      clear hp
      have hp := hp'
      clear hp'
      go_wp2_with (first|((with_reducible apply Qab hp);exact zt rfl;exact ii;exact ii;(exact zl rfl);(simp only [n0,Nat.reduceAdd,nn];try rfl);simp only [zp,zq,z0,z1])|((with_reducible apply Qae hp);exact zt rfl;(exact za rfl);exact rfl;(exact AggTy.size);exact rfl;exact ii;(simp only [n0,Nat.reduceAdd,nn];try rfl);(exact zl rfl);exact rfl;exact ii;clear hp;(try clear w1);intro w1 hp))
      exact bodyPost_ret (Qaa rfl ⟨_,rfl,Qac hp (Nat.le_of_ble_eq_true rfl)⟩) rfl ⟨rfl,hp.keep⟩
theorem plus_zero (a c : Int) (h0 : 0 ≤ c) (h1 : c ≤ 1) (w : World) : Calls Tryz.prog 44 #[W a,.agg #[.int .u64 0,.int .u64 0,.int .u64 0,.int .u64 0,.int .u64 0,.int .u64 0,.int .u64 0,.int .u64 0],.int .u64 c] w (Ret (W (a + c)) w) := by
  have h := Qgs a 0 c h0 h1 w
  rw [Qfe,Int.add_zero] at h
  exact h
theorem plus_not (a : Int) (w : World) : Calls Tryz.prog 44 #[W (-a - 1),.agg #[.int .u64 0,.int .u64 0,.int .u64 0,.int .u64 0,.int .u64 0,.int .u64 0,.int .u64 0,.int .u64 0],.int .u64 1] w (Ret (W (-a)) w) := by
  have h := plus_zero (-a - 1) 1 (by omega) (by omega) w
  rw [show -a - 1 + 1 = -a by omega] at h
  exact h
theorem Qgi (a : Int) (w : World) : Calls Tryz.prog 81 #[W a] w (Ret (W (-a)) w) := by
  go_enter Tryz.func81,Tryz.ntmps81
  have hp := Hp.start [] w
  go_wp2_with (first|((with_reducible apply Qau hp);exact za rfl;exact rfl;clear hp;(try clear w1);intro g w1 hp;simp only [zp,zq,z0,z1])|((with_reducible apply Qag hp);exact ii;exact rfl;clear hp;(try clear w1);intro g w1 hp;simp only [zp,zq,z0,z1])|((with_reducible apply Qab hp);exact zt rfl;exact ii;exact ii;(exact zl rfl);(simp only [n0,Nat.reduceAdd,nn];try rfl);simp only [zp,zq,z0,z1])|((with_reducible apply Qae hp);exact zt rfl;exact za rfl;exact rfl;(exact AggTy.size);exact rfl;exact ii;(simp only [n0,Nat.reduceAdd,nn];try rfl);(exact zl rfl);exact rfl;exact ii;clear hp;(try clear w1);intro w1 hp)|((with_reducible first|refine Qaf hp (Qmn _ _) ?_|refine Qaf hp (plus_not _ _) ?_);clear hp;(try clear w1);intro w1 hp))
  exact bodyPost_ret (Qaa rfl ⟨_,rfl,Qac hp (Nat.le_of_ble_eq_true rfl)⟩) rfl ⟨rfl,hp.keep⟩
/-- What 'size' makes of a number of 512 bits: its absolute value, if it is read with a sign. -/
def sz (a : Int) : Int := if ng a then -a else a
theorem Qne (a : Int) (w : World) : Calls Tryz.prog 43 #[W a] w (Ret (W (sz a)) w) := by
  unfold sz
  cases h : ng a
  all_goals
    go_enter Tryz.func43,Tryz.ntmps43
    have hp := Hp.start [] w
    go_wp2_with (first|((with_reducible apply Qau hp);exact za rfl;exact rfl;clear hp;(try clear w1);intro g w1 hp;simp only [zp,zq,z0,z1])|((with_reducible apply Qag hp);exact ii;exact rfl;clear hp;(try clear w1);intro g w1 hp;simp only [zp,zq,z0,z1])|((with_reducible apply Qab hp);exact zt rfl;exact ii;exact ii;(exact zl rfl);(simp only [n0,Nat.reduceAdd,nn];try rfl);simp only [zp,zq,z0,z1])|((with_reducible apply Qae hp);exact zt rfl;exact za rfl;exact rfl;(exact AggTy.size);exact rfl;exact ii;(simp only [n0,Nat.reduceAdd,nn];try rfl);(exact zl rfl);exact rfl;exact ii;clear hp;(try clear w1);intro w1 hp)|((with_reducible first|refine Qaf hp (negF _ (by assumption) _) ?_|refine Qaf hp (negT _ (by assumption) _) ?_|refine Qaf hp (Qgi _ _) ?_);clear hp;(try clear w1);intro w1 hp))
    exact bodyPost_ret (Qaa rfl ⟨_,rfl,Qac hp (Nat.le_of_ble_eq_true rfl)⟩) rfl ⟨rfl,hp.keep⟩
end Go.Proofs.YtdfdmeoalbpcdaaGreat
set_option linter.unusedSimpArgs false
set_option maxRecDepth 100000
namespace Go.Proofs.YtdfdmeoalbpcdaaGreat
open Go Go.RowKit
theorem lb_small (n : Int) (h0 : -9223372036854775808 ≤ n) (h1 : n < 9223372036854775808) (i : Nat) (hi : 1 ≤ i) : lb n i = if n < 0 then 18446744073709551615 else 0 := by
  have hp : (9223372036854775808 : Int) ≤ 2 ^ (64 * i) := by
    obtain ⟨j,rfl⟩ : ∃ j,i = j + 1 := ⟨i - 1,by omega⟩
    rw [Qdy]
    have := Qak (64 * j)
    omega
  unfold lb
  split
  · have : n / 2 ^ (64 * i) = -1 := by
      have h2 : n / 2 ^ (64 * i) < 0 := Int.ediv_neg_of_neg_of_pos (by omega) (by omega)
      have h3 : -1 ≤ n / 2 ^ (64 * i) := by
        rw [Int.le_ediv_iff_mul_le (by omega)]
        omega
      omega
    rw [this];omega
  · rw [Int.ediv_eq_zero_of_lt (by omega) (by omega)];rfl
theorem Qlw (n : Int) : lb n 0 = n % 18446744073709551616 := by simp [lb]
set_option maxHeartbeats 4000000 in
theorem Qnv (n : Int) (h0 : -9223372036854775808 ≤ n) (h1 : n < 9223372036854775808) (w : World) : Calls Tryz.prog 8 #[.int .i64 n] w (Ret (W n) w) := by
  go_enter Tryz.func8,Tryz.ntmps8
  have hp := Hp.start [] w
  go_wp2_with ((with_reducible apply Qag hp);exact ii;exact rfl;clear hp;(try clear w1);intro g w1 hp;simp only [zp,zq,z0,z1])
  rename_i ga K hK
  go_loopw [5] (fun i wr => ∃ (k : Nat) (F : Nat → Int),k ≤ 8 ∧ i = .int .i64 k ∧ (∀ j,j < k → F j = if n < 0 then 18446744073709551615 else 0) ∧
      Hp [] w [⟨g,51,LB F⟩,⟨ga,27,[.int .u64 0,.int .u64 0,.int .u64 0,.int .u64 0,.int .u64 0,.int .u64 0,.int .u64 0,.int .u64 0]⟩] wr) (fun i _ => 8 - (intOf i).toNat)
  case atStart => exact ⟨0,fun _ => 0,by omega,rfl,fun j h => by omega,hp⟩
  case round =>
    clear hp
    obtain ⟨k,F,hk,rfl,hlo,hp⟩ := hrel
    have Hlo := Lib.hid hlo
    clear hlo
    by_cases hlt : k < 8
    · go_wp2_with ((with_reducible apply Qae hp);exact zt rfl;(exact zi rfl);exact rfl;(exact OneTy.size);exact rfl;exact ii;(with_reducible exact Qfd (by omega));(exact Qhy (by omega));exact rfl;exact ii;clear hp;(try clear w1);intro w1 hp)
      go_roundw
      case rel =>
        have e : IntKind.u64.wrap (n / 9223372036854775808) = if n < 0 then 18446744073709551615 else 0 := by
          rw [IntKind.wrap_u64]
          split <;> omega
        rw [e] at hp
        refine ⟨k + 1,upd F k (if n < 0 then 18446744073709551615 else 0),by omega,by go_num,?_,hp⟩
        intro j hj
        by_cases e : j = k
        · subst e;rw [Qct]
        · rw [Qep _ _ e];exact Hlo.out j (by omega)
      case measure => simp [intOf];omega
    · obtain rfl : k = 8 := by omega
      have e : LB F = LB (fun _ => if n < 0 then 18446744073709551615 else 0) := Qed fun j hj => Hlo.out j hj
      rw [e] at hp
      clear e Hlo
      have e0 : IntKind.u64.wrap n = lb n 0 := by rw [IntKind.wrap_u64,Qlw]
      have E0 := Lib.hid e0
      clear e0
      generalize hf : (if n < 0 then 18446744073709551615 else 0 : Int) = f at hp
      have Hf := Lib.hid hf
      clear hf
      have hp' : Hp [] w [⟨g,51,[.int .u64 f,.int .u64 f,.int .u64 f,.int .u64 f,.int .u64 f,.int .u64 f,.int .u64 f,.int .u64 f]⟩,⟨ga,27,[.int .u64 0,.int .u64 0,.int .u64 0,.int .u64 0,.int .u64 0,.int .u64 0,.int .u64 0,.int .u64 0]⟩] wr := hp
      clear hp
      have hp := hp'
      clear hp'
      go_wp2_with (first|((with_reducible apply Qab hp);exact zt rfl;exact ii;exact ii;(exact zl rfl);(simp only [n0,Nat.reduceAdd,nn];try rfl);simp only [zp,zq,z0,z1])|((with_reducible apply Qae hp);exact zt rfl;(first|exact za rfl|exact zi rfl);exact rfl;exact Sz.z;exact rfl;exact ii;(simp only [n0,Nat.reduceAdd,nn];try rfl);(exact zl rfl);exact rfl;exact ii;clear hp;(try clear w1);intro w1 hp))
      have hl : ∀ i,1 ≤ i → f = lb n i := fun i hi => by rw [lb_small n h0 h1 i hi,Hf.out]
      have e : W n = .agg #[.int .u64 (IntKind.u64.wrap n),.int .u64 f,.int .u64 f,.int .u64 f,.int .u64 f,.int .u64 f,.int .u64 f,.int .u64 f] := by
        simp only [W,← hl 1 (by omega),← hl 2 (by omega),← hl 3 (by omega),← hl 4 (by omega),← hl 5 (by omega),← hl 6 (by omega),← hl 7 (by omega),E0.out]
      exact bodyPost_ret (Qaa rfl ⟨_,rfl,Qac hp (Nat.le_of_ble_eq_true rfl)⟩) rfl ⟨congrArg Ending.returned e.symm,hp.keep⟩
/-- The sign of a number. -/
def sgn (n : Int) : Int := if n < 0 then -1 else if n = 0 then 0 else 1
theorem Qcn (n : Int) (h : Fit n) (w : World) : Calls Tryz.prog 21 #[W n] w (Ret (.int .i64 (sgn n)) w) := by
  unfold sgn
  have hn := Qco h
  have hz := Qdr h Qbp
  rw [Qce] at hz
  by_cases hlt : n < 0
  · rw [if_pos hlt]
    rw [decide_eq_true hlt] at hn
    clear hz
    go_enter Tryz.func21,Tryz.ntmps21
    have hp := Hp.start [] w
    go_wp2_with (first|((with_reducible apply Qau hp);exact za rfl;exact rfl;clear hp;(try clear w1);intro g w1 hp;simp only [zp,zq,z0,z1])|((with_reducible apply Qab hp);exact zt rfl;exact ii;exact ii;(exact zl rfl);(simp only [n0,Nat.reduceAdd,nn];try rfl);simp only [zp,zq,z0,z1])|((with_reducible refine Qaf hp (negT _ (by assumption) _) ?_);clear hp;(try clear w1);intro w1 hp))
    exact bodyPost_ret (Qaa rfl rfl) rfl ⟨rfl,hp.keep⟩
  · rw [if_neg hlt]
    rw [decide_eq_false hlt] at hn
    by_cases h0 : n = 0
    · rw [if_pos h0]
      rw [decide_eq_true h0] at hz
      clear h0 h hlt
      go_enter Tryz.func21,Tryz.ntmps21
      have hp := Hp.start [] w
      go_wp2_with (first|((with_reducible apply Qau hp);exact za rfl;exact rfl;clear hp;(try clear w1);intro g w1 hp;simp only [zp,zq,z0,z1])|((with_reducible apply Qab hp);exact zt rfl;exact ii;exact ii;(exact zl rfl);(simp only [n0,Nat.reduceAdd,nn];try rfl);simp only [zp,zq,z0,z1])|((with_reducible refine Qaf hp (negF _ (by assumption) _) ?_);clear hp;(try clear w1);intro w1 hp))
      exact bodyPost_ret (Qaa rfl rfl) rfl ⟨rfl,hp.keep⟩
    · rw [if_neg h0]
      rw [decide_eq_false h0] at hz
      clear h0 h hlt
      go_enter Tryz.func21,Tryz.ntmps21
      have hp := Hp.start [] w
      go_wp2_with (first|((with_reducible apply Qau hp);exact za rfl;exact rfl;clear hp;(try clear w1);intro g w1 hp;simp only [zp,zq,z0,z1])|((with_reducible apply Qab hp);exact zt rfl;exact ii;exact ii;(exact zl rfl);(simp only [n0,Nat.reduceAdd,nn];try rfl);simp only [zp,zq,z0,z1])|((with_reducible refine Qaf hp (negF _ (by assumption) _) ?_);clear hp;(try clear w1);intro w1 hp))
      exact bodyPost_ret (Qaa rfl rfl) rfl ⟨rfl,hp.keep⟩
end Go.Proofs.YtdfdmeoalbpcdaaGreat
set_option linter.unusedSimpArgs false
set_option maxRecDepth 100000
namespace Go.Proofs.YtdfdmeoalbpcdaaGreat
open Go Go.RowKit
theorem Qoj (a b A B : Int) (h8 : A - a % 2 ^ (64 * 8) = B - b % 2 ^ (64 * 8)) : ∀ d k,k + d = 8 → (∀ j,k ≤ j → j < 8 → lb a j = lb b j) → A - a % 2 ^ (64 * k) = B - b % 2 ^ (64 * k)
  | 0, k, hk, _ => by obtain rfl : k = 8 := by omega
                      exact h8
  | d + 1,k,hk,h => by
    have h1 := Qoj a b A B h8 d (k + 1) (by omega) fun j h1 h2 => h j (by omega) h2
    have h2 := Qlo a k
    have h3 := Qlo b k
    rw [h k (by omega) (by omega)] at h2
    omega
theorem high_eq (a b : Int) (k : Nat) (hk : k ≤ 8) (h : ∀ j,k ≤ j → j < 8 → lb a j = lb b j) : a % M512 - a % 2 ^ (64 * k) = b % M512 - b % 2 ^ (64 * k) :=
  Qoj a b _ _ (by rw [M512_eq,Int.sub_self,Int.sub_self]) (8 - k) k (by omega) h
theorem Qlr (a b : Int) (k : Nat) (hk : k < 8) (h : ∀ j,k + 1 ≤ j → j < 8 → lb a j = lb b j) (hl : lb a k < lb b k) : a % M512 < b % M512 := by
  have h1 := high_eq a b (k + 1) (by omega) h
  have h2 := Qlo a k
  have h3 := Qlo b k
  have hp := Qak (64 * k)
  have h4 := Int.emod_lt_of_pos a hp
  have h5 := Int.emod_nonneg b (by omega : (2 : Int) ^ (64 * k) ≠ 0)
  have h6 : (2 : Int) ^ (64 * k) * (lb a k + 1) ≤ 2 ^ (64 * k) * lb b k := Int.mul_le_mul_of_nonneg_left (by omega) (by omega)
  rw [Int.mul_add] at h6
  omega
theorem Qlb (a b : Int) (h : ∀ j,j < 8 → lb a j = lb b j) : a % M512 = b % M512 := by
  have := high_eq a b 0 (by omega) fun j _ hj => h j hj
  simp [Int.emod_one] at this
  omega
/-- How two numbers of 512 bits, without a sign, are to one another. -/
def uc (a b : Int) : Int := if a % M512 < b % M512 then -1 else if a % M512 = b % M512 then 0 else 1
set_option maxHeartbeats 4000000 in
theorem Qkd (a b : Int) (w : World) : Calls Tryz.prog 39 #[W a,W b] w (Ret (.int .i64 (uc a b)) w) := by
  go_enter Tryz.func39,Tryz.ntmps39
  have hp := Hp.start [] w
  go_wp2_with ((with_reducible apply Qau hp);exact za rfl;exact rfl;clear hp;(try clear w1);intro g w1 hp;simp only [zp,zq,z0,z1])
  rename_i ga K hK
  go_loopw [5] (fun i wr => ∃ (k : Nat),k ≤ 8 ∧ i = .int .i64 ((k : Int) - 1) ∧ (∀ j,k ≤ j → j < 8 → lb a j = lb b j) ∧
      Hp [] w [⟨g,51,LB (lb b)⟩,⟨ga,51,LB (lb a)⟩] wr) (fun i _ => (intOf i + 1).toNat)
  case atStart => exact ⟨8,by omega,rfl,fun j _ _ => by omega,hp⟩
  case round =>
    clear hp
    obtain ⟨k,hk,rfl,heq,hp⟩ := hrel
    have Heq := Lib.hid heq
    clear heq
    by_cases hlt : k = 0
    · subst hlt
      have e : uc a b = 0 := by
        have := Qlb a b fun j hj => Heq.out j (by omega) hj
        simp [uc,this]
      have E := Lib.hid e
      clear e
      go_wp2_with (fail)
      exact bodyPost_ret (Qaa rfl rfl) rfl ⟨by rw [E.out];rfl,hp.keep⟩
    · obtain ⟨i,rfl⟩ : ∃ i,k = i + 1 := ⟨k - 1,by omega⟩
      have e : ((i + 1 : Nat) : Int) - 1 = (i : Int) := by omega
      rw [e]
      clear e hlt
      have hi : i < 8 := by omega
      have hi0 : (0 : Int) ≤ (i : Int) := by omega
      have hi1 : (i : Int) < 8 := by omega
      by_cases h1 : lb a i = lb b i
      · have h1' : (lb a i != lb b i) = false := by simp [h1]
        have H1 := Lib.hid h1
        clear h1
        go_wp2_with (fail)
        have hq := hp
        refine Qad hp hq [] (.q 0 (.q 1 (.q 2 (.q 3 (.q 4 (.q 5 (.q 6 .nil))))))) (by kernel_rfl) (by kernel_rfl) ?_
        clear hp hq;(try clear w1);intro w1 hp hq
        repeat' (first|(((with_reducible apply sd_q);exact zo rfl);(first|((with_reducible apply Qba hp);exact rfl;exact zt rfl;exact ii;exact ii;(exact Qcp (by omega));simp only [zp,zq,z0,z1])|((with_reducible apply Qaq hp);exact zi rfl;simp only [zp,zq,z0,z1])|((with_reducible apply Qaj hp);exact rfl;(focus (intro _;go_simp;(try go_ints);try with_reducible rfl));simp only [zp,zq,z0,z1])))|((with_reducible apply Qao);clear hp;have hp := hq;clear hq))
        go_wp2_with (fail)
        go_roundw
        case rel =>
          refine ⟨i,by omega,by go_num,?_,hp⟩
          intro j hj hj8
          by_cases e : j = i
          · subst e;exact H1.out
          · exact Heq.out j (by omega) hj8
        case measure => simp [intOf]
      · have h1' : (lb a i != lb b i) = true := by simp [h1]
        by_cases h2 : lb a i < lb b i
        · have e : uc a b = -1 := by
            unfold uc
            rw [if_pos (Qlr a b i hi Heq.out h2)]
          rw [e]
          go_wp2_with (fail)
          have hq := hp
          refine Qad hp hq [] (.q 0 (.q 1 (.q 2 (.q 3 (.q 4 (.q 5 (.q 6 .nil))))))) (by kernel_rfl) (by kernel_rfl) ?_
          clear hp hq;(try clear w1);intro w1 hp hq
          repeat' (first|(((with_reducible apply sd_q);exact zo rfl);(first|((with_reducible apply Qba hp);exact rfl;exact zt rfl;exact ii;exact ii;(exact Qcp (by omega));simp only [zp,zq,z0,z1])|((with_reducible apply Qaq hp);exact zi rfl;simp only [zp,zq,z0,z1])|((with_reducible apply Qaj hp);exact rfl;(focus (intro _;go_simp;(try go_ints);try with_reducible rfl));simp only [zp,zq,z0,z1])))|((with_reducible apply Qao);clear hp;have hp := hq;clear hq))
          go_wp2_with (fail)
          have hq := hp
          refine Qad hp hq [] (.q 0 (.q 1 (.q 2 (.q 3 (.q 4 (.q 5 (.q 6 .nil))))))) (by kernel_rfl) (by kernel_rfl) ?_
          clear hp hq;(try clear w1);intro w1 hp hq
          repeat' (first|(((with_reducible apply sd_q);exact zo rfl);(first|((with_reducible apply Qba hp);exact rfl;exact zt rfl;exact ii;exact ii;(exact Qcp (by omega));simp only [zp,zq,z0,z1])|((with_reducible apply Qaq hp);exact zi rfl;simp only [zp,zq,z0,z1])|((with_reducible apply Qaj hp);exact rfl;(focus (intro _;go_simp;(try go_ints);try with_reducible rfl));simp only [zp,zq,z0,z1])))|((with_reducible apply Qao);clear hp;have hp := hq;clear hq))
          go_wp2_with (fail)
          exact bodyPost_ret (Qaa rfl rfl) rfl ⟨rfl,hp.keep⟩
        · have e : uc a b = 1 := by
            have := Qlr b a i hi (fun j hj hj8 => (Heq.out j hj hj8).symm) (by omega)
            unfold uc
            rw [if_neg (by omega),if_neg (by omega)]
          rw [e]
          go_wp2_with (fail)
          have hq := hp
          refine Qad hp hq [] (.q 0 (.q 1 (.q 2 (.q 3 (.q 4 (.q 5 (.q 6 .nil))))))) (by kernel_rfl) (by kernel_rfl) ?_
          clear hp hq;(try clear w1);intro w1 hp hq
          repeat' (first|(((with_reducible apply sd_q);exact zo rfl);(first|((with_reducible apply Qba hp);exact rfl;exact zt rfl;exact ii;exact ii;(exact Qcp (by omega));simp only [zp,zq,z0,z1])|((with_reducible apply Qaq hp);exact zi rfl;simp only [zp,zq,z0,z1])|((with_reducible apply Qaj hp);exact rfl;(focus (intro _;go_simp;(try go_ints);try with_reducible rfl));simp only [zp,zq,z0,z1])))|((with_reducible apply Qao);clear hp;have hp := hq;clear hq))
          go_wp2_with (fail)
          have hq := hp
          refine Qad hp hq [] (.q 0 (.q 1 (.q 2 (.q 3 (.q 4 (.q 5 (.q 6 .nil))))))) (by kernel_rfl) (by kernel_rfl) ?_
          clear hp hq;(try clear w1);intro w1 hp hq
          repeat' (first|(((with_reducible apply sd_q);exact zo rfl);(first|((with_reducible apply Qba hp);exact rfl;exact zt rfl;exact ii;exact ii;(exact Qcp (by omega));simp only [zp,zq,z0,z1])|((with_reducible apply Qaq hp);exact zi rfl;simp only [zp,zq,z0,z1])|((with_reducible apply Qaj hp);exact rfl;(focus (intro _;go_simp;(try go_ints);try with_reducible rfl));simp only [zp,zq,z0,z1])))|((with_reducible apply Qao);clear hp;have hp := hq;clear hq))
          go_wp2_with (fail)
          exact bodyPost_ret (Qaa rfl rfl) rfl ⟨rfl,hp.keep⟩
theorem uc_fit {a b : Int} (ha : Fit a) (hb : Fit b) (h : ng a = ng b) : uc a b = if a < b then -1 else if a = b then 0 else 1 := by
  rw [Qco ha,Qco hb,decide_eq_decide] at h
  unfold Fit M511 at ha hb
  unfold uc M512
  congr 1
  · rw [eq_iff_iff];omega
  · congr 1
    rw [eq_iff_iff];omega
/-- How two numbers are to one another. -/
def cmp (a b : Int) : Int := if a < b then -1 else if a = b then 0 else 1
theorem cmp_any (a b : Int) (ha : Fit a) (hb : Fit b) (w : World) : Calls Tryz.prog 17 #[W a,W b] w (Ret (.int .i64 (cmp a b)) w) := by
  have hna := Qco ha
  have hnb := Qco hb
  have hu := uc_fit ha hb
  have ha' := ha
  have hb' := hb
  unfold Fit M511 at ha' hb'
  by_cases h1 : a < 0
  · rw [decide_eq_true h1] at hna
    by_cases h2 : b < 0
    · rw [decide_eq_true h2] at hnb
      have e : uc a b = cmp a b := hu (by rw [hna,hnb])
      have E := Lib.hid e
      clear e hu ha' hb' ha hb
      go_enter Tryz.func17,Tryz.ntmps17
      have hp := Hp.start [] w
      go_wp2_with ((with_reducible apply Qau hp);exact za rfl;exact rfl;clear hp;(try clear w1);intro g w1 hp;simp only [zp,zq,z0,z1])
      have hq := hp
      refine Qad hp hq [] (.q 0 (.q 1 (.q 3 (.q 4 (.l 2 (.l 5 (.q 6 (.q 7 .nil)))))))) (by kernel_rfl) (by kernel_rfl) ?_
      clear hp hq;(try clear w1);intro w1 hp hq
      repeat' (first|(((with_reducible apply sd_q);exact zo rfl);(first|((with_reducible apply Qah hp);exact rfl;exact zt rfl;exact ii;exact ii;(exact zl rfl);(simp only [n0,Nat.reduceAdd,nn];try rfl);simp only [zp,zq,z0,z1])|((with_reducible apply Qat hp);exact zb rfl;simp only [zp,zq,z0,z1])|((with_reducible apply Qaj hp);exact rfl;(focus (intro _;go_simp;(try go_ints);try with_reducible rfl));simp only [zp,zq,z0,z1])))|(((with_reducible apply sd_l);exact zo rfl);((with_reducible apply Qap hp);exact rfl;(focus (intro _;go_simp;try first|with_reducible rfl|exact ⟨rfl,rfl⟩));(with_reducible first|exact fun w => negT _ hna w|exact fun w => negT _ hnb w);exact hq;clear hp hq;(try clear w1);intro w1 hp hq;simp only [zp,zq,z0,z1]))|((with_reducible apply Qao);clear hp;have hp := hq;clear hq))
      go_wp2_with (first|((with_reducible apply Qab hp);exact zt rfl;exact ii;exact ii;(exact zl rfl);(simp only [n0,Nat.reduceAdd,nn];try rfl);simp only [zp,zq,z0,z1])|((with_reducible refine Qaf hp (Qkd _ _ _) ?_);clear hp;(try clear w1);intro w1 hp))
      exact bodyPost_ret (Qaa rfl rfl) rfl ⟨by rw [← E.out];rfl,hp.keep⟩
    · rw [decide_eq_false h2] at hnb
      have e : cmp a b = -1 := by unfold cmp;rw [if_pos (by omega)]
      have E := Lib.hid e
      clear e hu ha' hb' ha hb
      go_enter Tryz.func17,Tryz.ntmps17
      have hp := Hp.start [] w
      go_wp2_with ((with_reducible apply Qau hp);exact za rfl;exact rfl;clear hp;(try clear w1);intro g w1 hp;simp only [zp,zq,z0,z1])
      have hq := hp
      refine Qad hp hq [] (.q 0 (.q 1 (.q 3 (.q 4 (.l 2 (.l 5 (.q 6 (.q 7 .nil)))))))) (by kernel_rfl) (by kernel_rfl) ?_
      clear hp hq;(try clear w1);intro w1 hp hq
      repeat' (first|(((with_reducible apply sd_q);exact zo rfl);(first|((with_reducible apply Qah hp);exact rfl;exact zt rfl;exact ii;exact ii;(exact zl rfl);(simp only [n0,Nat.reduceAdd,nn];try rfl);simp only [zp,zq,z0,z1])|((with_reducible apply Qat hp);exact zb rfl;simp only [zp,zq,z0,z1])|((with_reducible apply Qaj hp);exact rfl;(focus (intro _;go_simp;(try go_ints);try with_reducible rfl));simp only [zp,zq,z0,z1])))|(((with_reducible apply sd_l);exact zo rfl);((with_reducible apply Qap hp);exact rfl;(focus (intro _;go_simp;try first|with_reducible rfl|exact ⟨rfl,rfl⟩));(with_reducible first|exact fun w => negT _ hna w|exact fun w => negF _ hnb w);exact hq;clear hp hq;(try clear w1);intro w1 hp hq;simp only [zp,zq,z0,z1]))|((with_reducible apply Qao);clear hp;have hp := hq;clear hq))
      go_wp2_with (fail)
      exact bodyPost_ret (Qaa rfl rfl) rfl ⟨by rw [E.out];rfl,hp.keep⟩
  · rw [decide_eq_false h1] at hna
    by_cases h2 : b < 0
    · rw [decide_eq_true h2] at hnb
      have e : cmp a b = 1 := by unfold cmp;rw [if_neg (by omega),if_neg (by omega)]
      have E := Lib.hid e
      clear e hu ha' hb' ha hb
      go_enter Tryz.func17,Tryz.ntmps17
      have hp := Hp.start [] w
      go_wp2_with ((with_reducible apply Qau hp);exact za rfl;exact rfl;clear hp;(try clear w1);intro g w1 hp;simp only [zp,zq,z0,z1])
      have hq := hp
      refine Qad hp hq [] (.q 0 (.q 1 (.q 3 (.q 4 (.l 2 (.l 5 (.q 6 (.q 7 .nil)))))))) (by kernel_rfl) (by kernel_rfl) ?_
      clear hp hq;(try clear w1);intro w1 hp hq
      repeat' (first|(((with_reducible apply sd_q);exact zo rfl);(first|((with_reducible apply Qah hp);exact rfl;exact zt rfl;exact ii;exact ii;(exact zl rfl);(simp only [n0,Nat.reduceAdd,nn];try rfl);simp only [zp,zq,z0,z1])|((with_reducible apply Qat hp);exact zb rfl;simp only [zp,zq,z0,z1])|((with_reducible apply Qaj hp);exact rfl;(focus (intro _;go_simp;(try go_ints);try with_reducible rfl));simp only [zp,zq,z0,z1])))|(((with_reducible apply sd_l);exact zo rfl);((with_reducible apply Qap hp);exact rfl;(focus (intro _;go_simp;try first|with_reducible rfl|exact ⟨rfl,rfl⟩));(with_reducible first|exact fun w => negF _ hna w|exact fun w => negT _ hnb w);exact hq;clear hp hq;(try clear w1);intro w1 hp hq;simp only [zp,zq,z0,z1]))|((with_reducible apply Qao);clear hp;have hp := hq;clear hq))
      go_wp2_with (fail)
      exact bodyPost_ret (Qaa rfl rfl) rfl ⟨by rw [E.out];rfl,hp.keep⟩
    · rw [decide_eq_false h2] at hnb
      have e : uc a b = cmp a b := hu (by rw [hna,hnb])
      have E := Lib.hid e
      clear e hu ha' hb' ha hb
      go_enter Tryz.func17,Tryz.ntmps17
      have hp := Hp.start [] w
      go_wp2_with ((with_reducible apply Qau hp);exact za rfl;exact rfl;clear hp;(try clear w1);intro g w1 hp;simp only [zp,zq,z0,z1])
      have hq := hp
      refine Qad hp hq [] (.q 0 (.q 1 (.q 3 (.q 4 (.l 2 (.l 5 (.q 6 (.q 7 .nil)))))))) (by kernel_rfl) (by kernel_rfl) ?_
      clear hp hq;(try clear w1);intro w1 hp hq
      repeat' (first|(((with_reducible apply sd_q);exact zo rfl);(first|((with_reducible apply Qah hp);exact rfl;exact zt rfl;exact ii;exact ii;(exact zl rfl);(simp only [n0,Nat.reduceAdd,nn];try rfl);simp only [zp,zq,z0,z1])|((with_reducible apply Qat hp);exact zb rfl;simp only [zp,zq,z0,z1])|((with_reducible apply Qaj hp);exact rfl;(focus (intro _;go_simp;(try go_ints);try with_reducible rfl));simp only [zp,zq,z0,z1])))|(((with_reducible apply sd_l);exact zo rfl);((with_reducible apply Qap hp);exact rfl;(focus (intro _;go_simp;try first|with_reducible rfl|exact ⟨rfl,rfl⟩));(with_reducible first|exact fun w => negF _ hna w|exact fun w => negF _ hnb w);exact hq;clear hp hq;(try clear w1);intro w1 hp hq;simp only [zp,zq,z0,z1]))|((with_reducible apply Qao);clear hp;have hp := hq;clear hq))
      go_wp2_with (first|((with_reducible apply Qab hp);exact zt rfl;exact ii;exact ii;(exact zl rfl);(simp only [n0,Nat.reduceAdd,nn];try rfl);simp only [zp,zq,z0,z1])|((with_reducible refine Qaf hp (Qkd _ _ _) ?_);clear hp;(try clear w1);intro w1 hp))
      exact bodyPost_ret (Qaa rfl rfl) rfl ⟨by rw [← E.out];rfl,hp.keep⟩
/-- What a sum (a difference) of two numbers comes to, by the three signs. -/
def addv (s : Int) : Bool → Bool → Bool → Value
  | true,true,false => .tuple #[.agg #[.int .u64 0,.int .u64 0,.int .u64 0,.int .u64 0,.int .u64 0,.int .u64 0,.int .u64 0,.int .u64 0],.bool false]
  | false,false,true => .tuple #[.agg #[.int .u64 0,.int .u64 0,.int .u64 0,.int .u64 0,.int .u64 0,.int .u64 0,.int .u64 0,.int .u64 0],.bool false]
  | _,_,_ => .tuple #[W s,.bool true]
set_option maxHeartbeats 4000000 in
theorem add_raw (a b : Int) (w : World) : Calls Tryz.prog 37 #[W a,W b] w (Ret (addv (a + b) (ng a) (ng b) (ng (a + b))) w) := by
  have hpl : ∀ w,Calls Tryz.prog 44 #[W a,W b,.int .u64 0] w (Ret (W (a + b)) w) := fun w => by
    have h := Qgs a b 0 (by omega) (by omega) w
    rw [Int.add_zero] at h
    exact h
  have Hpl := Lib.hid hpl
  clear hpl
  cases hna : ng a <;> cases hnb : ng b <;> cases hns : ng (a + b)
  all_goals
    go_enter Tryz.func37,Tryz.ntmps37
    have hp := Hp.start [] w
    go_wp2_with (first|((with_reducible apply Qau hp);exact za rfl;exact rfl;clear hp;(try clear w1);intro g w1 hp;simp only [zp,zq,z0,z1])|((with_reducible apply Qag hp);exact ii;exact rfl;clear hp;(try clear w1);intro g w1 hp;simp only [zp,zq,z0,z1])|((with_reducible apply Qab hp);exact zt rfl;exact ii;exact ii;(exact zl rfl);(simp only [n0,Nat.reduceAdd,nn];try rfl);simp only [zp,zq,z0,z1])|((with_reducible apply Qae hp);exact zt rfl;exact za rfl;exact rfl;(exact AggTy.size);exact rfl;exact ii;(simp only [n0,Nat.reduceAdd,nn];try rfl);(exact zl rfl);exact rfl;exact ii;clear hp;(try clear w1);intro w1 hp)|((with_reducible refine Qaf hp (Hpl.out _) ?_);clear hp;(try clear w1);intro w1 hp))
    have hq := hp
    refine Qad hp hq [] (.q 0 (.q 1 (.q 3 (.q 4 (.l 2 (.l 5 (.q 6 (.q 7 (.q 8 (.q 10 (.q 11 (.l 9 (.l 12 (.q 13 (.q 14 .nil))))))))))))))) (by kernel_rfl) (by kernel_rfl) ?_
    clear hp hq;(try clear w1);intro w1 hp hq
    repeat' (first|(((with_reducible apply sd_q);exact zo rfl);(first|((with_reducible apply Qah hp);exact rfl;exact zt rfl;exact ii;exact ii;(exact zl rfl);(simp only [n0,Nat.reduceAdd,nn];try rfl);simp only [zp,zq,z0,z1])|((with_reducible apply Qaq hp);exact zb rfl;simp only [zp,zq,z0,z1])|((with_reducible apply Qaj hp);exact rfl;(focus (intro _;go_simp;(try go_ints);try with_reducible rfl));simp only [zp,zq,z0,z1])|((with_reducible apply sd_skip hp);exact rfl;simp only [zp,zq,z0,z1])))|(((with_reducible apply sd_l);exact zo rfl);(first|((with_reducible apply Qap hp);exact rfl;(focus (intro _;go_simp;try first|with_reducible rfl|exact ⟨rfl,rfl⟩));(with_reducible first|exact fun w => negT _ (by assumption) w|exact fun w => negF _ (by assumption) w);exact hq;clear hp hq;(try clear w1);intro w1 hp hq;simp only [zp,zq,z0,z1])|((with_reducible apply Qil hp);exact rfl;simp only [zp,zq,z0,z1])))|((with_reducible apply Qao);clear hp;have hp := hq;clear hq))
    go_wp2_with (first|((with_reducible apply Qab hp);exact zt rfl;exact ii;exact ii;(exact zl rfl);(simp only [n0,Nat.reduceAdd,nn];try rfl);simp only [zp,zq,z0,z1])|((with_reducible apply Qae hp);exact zt rfl;exact za rfl;exact rfl;(exact AggTy.size);exact rfl;exact ii;(simp only [n0,Nat.reduceAdd,nn];try rfl);(exact zl rfl);exact rfl;exact ii;clear hp;(try clear w1);intro w1 hp))
    exact bodyPost_ret (Qan rfl ⟨_,rfl,Qac hp (Nat.le_of_ble_eq_true rfl)⟩ rfl) rfl ⟨rfl,hp.keep⟩
set_option maxHeartbeats 4000000 in
theorem sub_raw (a b : Int) (w : World) : Calls Tryz.prog 89 #[W a,W b] w (Ret (addv (a - b) (ng a) (!ng b) (ng (a - b))) w) := by
  have hpl : ∀ w,Calls Tryz.prog 44 #[W a,W (-b - 1),.int .u64 1] w (Ret (W (a - b)) w) := fun w => by
    have h := Qgs a (-b - 1) 1 (by omega) (by omega) w
    rw [show a + (-b - 1) + 1 = a - b by omega] at h
    exact h
  have Hpl := Lib.hid hpl
  clear hpl
  cases hna : ng a <;> cases hnb : ng b <;> cases hns : ng (a - b)
  all_goals
    go_enter Tryz.func89,Tryz.ntmps89
    have hp := Hp.start [] w
    go_upto_region 1 with (first|((with_reducible apply Qau hp);exact za rfl;exact rfl;clear hp;(try clear w1);intro g w1 hp;simp only [zp,zq,z0,z1])|((with_reducible apply Qag hp);exact ii;exact rfl;clear hp;(try clear w1);intro g w1 hp;simp only [zp,zq,z0,z1]))
    rename_i ga gb K hK
    go_cut [6] (fun s6 wx => ∃ g6,s6 = .pointer (some ⟨g6,0,none⟩) ∧ Hp [] w [⟨g6,51,[.int .u64 (lb (a - b) 0),.int .u64 (lb (a - b) 1),.int .u64 (lb (a - b) 2),.int .u64 (lb (a - b) 3),.int .u64 (lb (a - b) 4),.int .u64 (lb (a - b) 5),.int .u64 (lb (a - b) 6),.int .u64 (lb (a - b) 7)]⟩,⟨g,27,[.int .u64 0,.int .u64 0,.int .u64 0,.int .u64 0,.int .u64 0,.int .u64 0,.int .u64 0,.int .u64 0]⟩,⟨gb,27,[.int .u64 (lb (b) 0),.int .u64 (lb (b) 1),.int .u64 (lb (b) 2),.int .u64 (lb (b) 3),.int .u64 (lb (b) 4),.int .u64 (lb (b) 5),.int .u64 (lb (b) 6),.int .u64 (lb (b) 7)]⟩,⟨ga,27,[.int .u64 (lb (a) 0),.int .u64 (lb (a) 1),.int .u64 (lb (a) 2),.int .u64 (lb (a) 3),.int .u64 (lb (a) 4),.int .u64 (lb (a) 5),.int .u64 (lb (a) 6),.int .u64 (lb (a) 7)]⟩] wx)
    case first =>
      have hq := hp
      refine Qad hp hq [7] (.q 0 (.q 1 (.q 2 (.q 3 (.b2 4 (.b2 5 (.l 6 (.l 7 .nil)) 6 (.l 5 (.l 7 .nil))) 6 (.l 4 (.l 5 (.l 7 .nil)))))))) (by kernel_rfl) (by kernel_rfl) ?_
      clear hp hq;(try clear w1);intro w1 hp hq
      repeat' (first|(((with_reducible apply sd_q);exact zo rfl);(first|((with_reducible apply Qah hp);exact rfl;exact zt rfl;exact ii;exact ii;(exact zl rfl);(simp only [n0,Nat.reduceAdd,nn];try rfl);simp only [zp,zq,z0,z1])|((with_reducible apply Qaj hp);exact rfl;(focus (intro _;go_simp;(try go_ints);try with_reducible rfl));simp only [zp,zq,z0,z1])))|(((with_reducible apply sd_l);exact zo rfl);(first|((with_reducible apply Qcm hq);(repeat (exact sb0));exact rfl;exact ii;exact rfl;clear hp hq;(try clear w1);intro g w1 hp hq;simp only [zp,zq,z0,z1])|((with_reducible apply Qap hp);exact rfl;(focus (intro _;go_simp;try first|with_reducible rfl|exact ⟨rfl,rfl⟩));(with_reducible first|exact fun w => Qmn _ w|exact fun w => Hpl.out w);exact hq;clear hp hq;(try clear w1);intro w1 hp hq;simp only [zp,zq,z0,z1])|((with_reducible apply Qam hq);exact rfl;exact zt rfl;(exact za rfl);exact rfl;(exact AggTy.size);exact rfl;exact ii;(simp only [n0,Nat.reduceAdd,nn];try rfl);(exact zl rfl);exact rfl;exact ii;(repeat (first|exact sb0|apply sb3));clear hp hq;(try clear w1);intro w1 hp hq)))|(with_reducible apply Qfa)|((with_reducible apply Qao);clear hp;have hp := hq;clear hq))
      all_goals (go_wp2_with fail;go_meet;exact ⟨_,rfl,hp⟩)
    case rest =>
      clear hp
      obtain ⟨g6,rfl,hp⟩ := hcut
      go_wp2_with (fail)
      have hq := hp
      refine Qad hp hq [] (.q 0 (.q 1 (.q 3 (.q 4 (.l 2 (.l 5 (.q 6 (.q 7 (.q 8 (.q 10 (.q 11 (.l 9 (.l 12 (.q 13 (.q 14 .nil))))))))))))))) (by kernel_rfl) (by kernel_rfl) ?_
      clear hp hq;(try clear w1);intro w1 hp hq
      repeat' (first|(((with_reducible apply sd_q);exact zo rfl);(first|((with_reducible apply Qah hp);exact rfl;exact zt rfl;exact ii;exact ii;(exact zl rfl);(simp only [n0,Nat.reduceAdd,nn];try rfl);simp only [zp,zq,z0,z1])|((with_reducible apply Qaq hp);exact zb rfl;simp only [zp,zq,z0,z1])|((with_reducible apply Qaj hp);exact rfl;(focus (intro _;go_simp;(try go_ints);try with_reducible rfl));simp only [zp,zq,z0,z1])|((with_reducible apply sd_skip hp);exact rfl;simp only [zp,zq,z0,z1])))|(((with_reducible apply sd_l);exact zo rfl);(first|((with_reducible apply Qap hp);exact rfl;(focus (intro _;go_simp;try first|with_reducible rfl|exact ⟨rfl,rfl⟩));(with_reducible first|exact fun w => negT _ (by assumption) w|exact fun w => negF _ (by assumption) w);exact hq;clear hp hq;(try clear w1);intro w1 hp hq;simp only [zp,zq,z0,z1])|((with_reducible apply Qil hp);exact rfl;simp only [zp,zq,z0,z1])))|((with_reducible apply Qao);clear hp;have hp := hq;clear hq))
      go_wp2_with (first|((with_reducible apply Qab hp);exact zt rfl;exact ii;exact ii;(exact zl rfl);(simp only [n0,Nat.reduceAdd,nn];try rfl);simp only [zp,zq,z0,z1])|((with_reducible apply Qae hp);exact zt rfl;exact za rfl;exact rfl;(exact AggTy.size);exact rfl;exact ii;(simp only [n0,Nat.reduceAdd,nn];try rfl);(exact zl rfl);exact rfl;exact ii;clear hp;(try clear w1);intro w1 hp))
      exact bodyPost_ret (Qan rfl ⟨_,rfl,Qac hp (Nat.le_of_ble_eq_true rfl)⟩ rfl) rfl ⟨rfl,hp.keep⟩
end Go.Proofs.YtdfdmeoalbpcdaaGreat
