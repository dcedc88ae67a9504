/-
  math/bits.Mul64, over this translation: the product's upper and lower half. After the guide's own proof over any program.
  Package wide: a size with its sign (contracts).
-/
import Derived.Test.YtdfdmeoalbpcdaaGreatWd
import Derived.Lib.Mul64
import Derived.Laws.Bits64b
import Derived.Recover
import Derived.Test.YtdfdmeoalbpcdaaGreatSl
set_option linter.unusedSimpArgs false
set_option maxRecDepth 100000
namespace Go.Proofs.YtdfdmeoalbpcdaaGreat
open Go Go.RowKit
namespace Mul64
theorem maskN (a : Nat) (ha : a < 18446744073709551616) : bits .and .u64 (a : Int) 4294967295 = ((a % 4294967296 : Nat) : Int) := by
  have h := bits_and_u64_nat a 4294967295 ha (by omega)
  have e : a &&& 4294967295 = a % 4294967296 := Nat.and_two_pow_sub_one_eq_mod a 32
  rw [e] at h
  exact h
theorem divN (a : Nat) : (a : Int) / 4294967296 = ((a / 4294967296 : Nat) : Int) := by omega
theorem mulN (a b : Nat) : (a : Int) * (b : Int) = ((a * b : Nat) : Int) := (Int.natCast_mul a b).symm
theorem addN (a b : Nat) : (a : Int) + (b : Int) = ((a + b : Nat) : Int) := (Int.natCast_add a b).symm
theorem wrapN (a : Nat) (ha : a < 18446744073709551616) : IntKind.u64.wrap (a : Int) = (a : Int) := by rw [IntKind.wrap_u64];omega
theorem wrapM (a : Nat) : IntKind.u64.wrap (a : Int) = ((a % 18446744073709551616 : Nat) : Int) := by rw [IntKind.wrap_u64];omega
end Mul64
set_option maxHeartbeats 1000000 in
theorem mul64_nat (x y : Nat) (hx : x < 18446744073709551616) (hy : y < 18446744073709551616) (w : World) :
    Calls Tryz.prog 76 #[.int .u64 x,.int .u64 y] w fun e w' => e = .returned (.tuple #[.int .u64 ((x * y / 18446744073709551616 : Nat) : Int),.int .u64 ((x * y % 18446744073709551616 : Nat) : Int)]) ∧ w' = w := by
  obtain ⟨bd,bt,bw,hhi⟩ := Lib.mul64_hi x y hx hy
  have ba := Lib.half_mul_le (a := x / 4294967296) (b := y / 4294967296) (by omega) (by omega)
  have bb := Lib.half_mul_le (a := x / 4294967296) (b := y % 4294967296) (by omega) (by omega)
  have bc := Lib.half_mul_le (a := x % 4294967296) (b := y / 4294967296) (by omega) (by omega)
  have ba' : x / 4294967296 * (y / 4294967296) < 18446744073709551616 := by omega
  have bb' : x / 4294967296 * (y % 4294967296) < 18446744073709551616 := by omega
  have bc' : x % 4294967296 * (y / 4294967296) < 18446744073709551616 := by omega
  have bh1 : x / 4294967296 * (y / 4294967296) + (x / 4294967296 * (y % 4294967296) + x % 4294967296 * (y % 4294967296) / 4294967296) / 4294967296 < 18446744073709551616 := by omega
  have bh : x / 4294967296 * (y / 4294967296) + (x / 4294967296 * (y % 4294967296) + x % 4294967296 * (y % 4294967296) / 4294967296) / 4294967296 + ((x / 4294967296 * (y % 4294967296) + x % 4294967296 * (y % 4294967296) / 4294967296) % 4294967296 + x % 4294967296 * (y / 4294967296)) / 4294967296 < 18446744073709551616 := by omega
  go_enter Tryz.func76,Tryz.ntmps76
  go_wp2
  simp only [Mul64.maskN x hx,Mul64.maskN y hy,Mul64.divN,Mul64.mulN,Mul64.addN,Mul64.wrapN _ bd,Mul64.wrapN _ bb',Mul64.wrapN _ bt,Mul64.maskN _ bt,Mul64.wrapN _ bc',Mul64.wrapN _ bw,Mul64.wrapN _ ba',Mul64.wrapN _ bh1,Mul64.wrapN _ bh,Mul64.wrapM (x * y)]
  rw [hhi]
  go_ret2
  exact ⟨rfl,rfl⟩
theorem mul64_any (x y : Int) (hx : 0 ≤ x) (hx' : x < 18446744073709551616) (hy : 0 ≤ y) (hy' : y < 18446744073709551616) (w : World) :
    Calls Tryz.prog 76 #[.int .u64 x,.int .u64 y] w (Ret (.tuple #[.int .u64 (x * y / 18446744073709551616),.int .u64 (x * y % 18446744073709551616)]) w) := by
  obtain ⟨m,rfl⟩ := Int.eq_ofNat_of_zero_le hx
  obtain ⟨n,rfl⟩ := Int.eq_ofNat_of_zero_le hy
  refine (mul64_nat m n (by omega) (by omega) w).mono fun e w' ⟨he,hw⟩ => ?_
  subst he;subst hw
  exact ⟨rfl,Keep.refl _ _⟩
set_option maxHeartbeats 1000000 in
/-- The deferred closure of Mul, where the body has panicked. -/
theorem mul_catch (gp gk : Nat) (cs : List Value) (b : Bool) (u : TypeId) (pv : Value) (w : World) (hne : gp ≠ gk) (hl : cs.length = 8) (hcp : w.heap[gp]? = some (.cells cs.toArray 27 (0,0))) (hck : w.heap[gk]? = some (.cells #[.bool b] 4 (0,0))) :
    CallsD Tryz.prog 75 #[.pointer (some ⟨gp,0,none⟩),.pointer (some ⟨gk,0,none⟩)] (.panicking [{ v := .iface u pv,recovered := false }]) w fun e u' w' =>
      e = .returned (.tuple #[]) ∧ u' = .panicking [{ v := .iface u pv,recovered := true }] ∧ Hp [gp,gk] w [⟨gp,27,[.int .u64 0,.int .u64 0,.int .u64 0,.int .u64 0,.int .u64 0,.int .u64 0,.int .u64 0,.int .u64 0]⟩,⟨gk,4,[.bool false]⟩] w' := by
  refine callsD_of_wpS Tryz.func75 rfl fun c₀ css hu => ?_
  apply wpS_seq
  apply wpS_region
  simp [wpOpsS,go_sem,recoverD,hu,Tryz.ntmps75,Exit.thenS]
  match cs,hl with
  | [c0,c1,c2,c3,c4,c5,c6,c7],_ =>
    have hp := Hp.startX2 (cs := [c0,c1,c2,c3,c4,c5,c6,c7]) (ds := [.bool b]) hne hcp hck
    clear hcp hck
    refine wpS_of_wp ?_
    simp only [Array.replicate_succ,Array.replicate_zero,List.push_toArray,List.append_toArray,List.nil_append,List.cons_append,List.setIfInBounds_toArray,List.set_cons_zero,List.set_cons_succ]
    go_wp2_with ((with_reducible apply Qae hp);exact zt rfl;(first|exact za rfl|exact zb rfl);exact rfl;exact Sz.z;exact rfl;exact ii;(simp only [n0,Nat.reduceAdd,nn];try rfl);(exact zl rfl);exact rfl;exact ii;clear hp;(try clear w1);intro w1 hp)
    exact ⟨rfl,_,rfl,_,results_none rfl _ _ _,rfl,rfl,hp⟩
set_option maxHeartbeats 1000000 in
/-- The deferred closure of Mul, where the body has returned. -/
theorem mul_idle (gp gk : Nat) (w : World) :
    CallsD Tryz.prog 75 #[.pointer (some ⟨gp,0,none⟩),.pointer (some ⟨gk,0,none⟩)] .returning w fun e u' w' => e = .returned (.tuple #[]) ∧ u' = .returning ∧ w' = w := by
  refine callsD_of_wpS Tryz.func75 rfl fun c₀ css hu => ?_
  apply wpS_seq
  apply wpS_region
  simp [wpOpsS,go_sem,recoverD,hu,Tryz.ntmps75,Exit.thenS]
  refine wpS_of_wp ?_
  simp only [Array.replicate_succ,Array.replicate_zero,List.push_toArray,List.append_toArray,List.nil_append,List.cons_append,List.setIfInBounds_toArray,List.set_cons_zero,List.set_cons_succ]
  go_wp2
  cases c₀
  simp_all [bodyPostS,results,Tryz.results75]
end Go.Proofs.YtdfdmeoalbpcdaaGreat

set_option linter.unusedSimpArgs false
set_option maxRecDepth 100000
namespace Go.Proofs.YtdfdmeoalbpcdaaGreat
open Go Go.RowKit
theorem Qhr {a : Int} (h : eqb a 0 = true) : a % M512 = 0 := by
  have : ∀ j,j < 8 → lb a j = lb 0 j := by
    simp only [eqb,Bool.and_eq_true,beq_iff_eq] at h
    obtain ⟨h0,h1,h2,h3,h4,h5,h6,h7⟩ := h
    intro j hj
    match j,hj with
    | 0,_ => exact h0
    | 1,_ => exact h1
    | 2,_ => exact h2
    | 3,_ => exact h3
    | 4,_ => exact h4
    | 5,_ => exact h5
    | 6,_ => exact h6
    | 7,_ => exact h7
  have := Qlb a 0 this
  rw [this]
  rfl
set_option maxHeartbeats 1000000 in
/-- A size, given a sign: nothing is given up. -/
theorem signed_good (u : Int) (s : Bool) (h : ∀ v,v = (if s then -u else u) → eqb v 0 = true ∨ (eqb v 0 = false ∧ ng v = s)) (w : World) : Calls Tryz.prog 46 #[W u,.bool s] w (Ret (W (if s then -u else u)) w) := by
  cases s
  · rcases h u rfl with h|⟨h,hn⟩ <;> rw [Qce] at h
    all_goals
      go_enter Tryz.func46,Tryz.ntmps46
      have hp := Hp.start [] w
      go_wp2_with (first|((with_reducible apply Qau hp);exact za rfl;exact rfl;clear hp;(try clear w1);intro g w1 hp;simp only [zp,zq,z0,z1])|((with_reducible apply Qag hp);exact ii;exact rfl;clear hp;(try clear w1);intro g w1 hp;simp only [zp,zq,z0,z1])|((with_reducible apply Qab hp);exact zt rfl;exact ii;exact ii;(exact zl rfl);(simp only [n0,Nat.reduceAdd,nn];try rfl);simp only [zp,zq,z0,z1])|((with_reducible apply Qae hp);exact zt rfl;exact za rfl;exact rfl;(exact AggTy.size);exact rfl;exact ii;(simp only [n0,Nat.reduceAdd,nn];try rfl);(exact zl rfl);exact rfl;exact ii;clear hp;(try clear w1);intro w1 hp)|((with_reducible first|refine Qaf hp (negT _ (by assumption) _) ?_|refine Qaf hp (negF _ (by assumption) _) ?_|refine Qaf hp (Qgi _ _) ?_);clear hp;(try clear w1);intro w1 hp)|((with_reducible apply Qbm);exact rfl)|((with_reducible apply Qds);exact rfl;simp only [zp,zq,z0,z1]))
      exact bodyPost_ret (Qaa rfl ⟨_,rfl,Qac hp (Nat.le_of_ble_eq_true rfl)⟩) rfl ⟨rfl,hp.keep⟩
  · rcases h (-u) rfl with h|⟨h,hn⟩ <;> rw [Qce] at h
    all_goals
      go_enter Tryz.func46,Tryz.ntmps46
      have hp := Hp.start [] w
      go_wp2_with (first|((with_reducible apply Qau hp);exact za rfl;exact rfl;clear hp;(try clear w1);intro g w1 hp;simp only [zp,zq,z0,z1])|((with_reducible apply Qag hp);exact ii;exact rfl;clear hp;(try clear w1);intro g w1 hp;simp only [zp,zq,z0,z1])|((with_reducible apply Qab hp);exact zt rfl;exact ii;exact ii;(exact zl rfl);(simp only [n0,Nat.reduceAdd,nn];try rfl);simp only [zp,zq,z0,z1])|((with_reducible apply Qae hp);exact zt rfl;exact za rfl;exact rfl;(exact AggTy.size);exact rfl;exact ii;(simp only [n0,Nat.reduceAdd,nn];try rfl);(exact zl rfl);exact rfl;exact ii;clear hp;(try clear w1);intro w1 hp)|((with_reducible first|refine Qaf hp (negT _ (by assumption) _) ?_|refine Qaf hp (negF _ (by assumption) _) ?_|refine Qaf hp (Qgi _ _) ?_);clear hp;(try clear w1);intro w1 hp)|((with_reducible apply Qbm);exact rfl)|((with_reducible apply Qds);exact rfl;simp only [zp,zq,z0,z1]))
      exact bodyPost_ret (Qaa rfl ⟨_,rfl,Qac hp (Nat.le_of_ble_eq_true rfl)⟩) rfl ⟨rfl,hp.keep⟩
set_option maxHeartbeats 1000000 in
/-- A size, given a sign that it has no room for: it gives up. -/
theorem signed_bad (u : Int) (s : Bool) (h : ∀ v,v = (if s then -u else u) → eqb v 0 = false ∧ ng v = !s) (w : World) : Calls Tryz.prog 46 #[W u,.bool s] w (Dies (.iface 115 (.agg #[])) w) := by
  cases s
  · obtain ⟨h,hn⟩ := h u rfl
    rw [Qce] at h
    rw [Bool.not_false] at hn
    go_enter Tryz.func46,Tryz.ntmps46
    have hp := Hp.start [] w
    go_wp2_with (first|((with_reducible apply Qau hp);exact za rfl;exact rfl;clear hp;(try clear w1);intro g w1 hp;simp only [zp,zq,z0,z1])|((with_reducible apply Qag hp);exact ii;exact rfl;clear hp;(try clear w1);intro g w1 hp;simp only [zp,zq,z0,z1])|((with_reducible apply Qab hp);exact zt rfl;exact ii;exact ii;(exact zl rfl);(simp only [n0,Nat.reduceAdd,nn];try rfl);simp only [zp,zq,z0,z1])|((with_reducible first|refine Qaf hp (negT _ (by assumption) _) ?_|refine Qaf hp (negF _ (by assumption) _) ?_|refine Qaf hp (Qgi _ _) ?_);clear hp;(try clear w1);intro w1 hp)|((with_reducible apply Qbm);exact rfl))
    exact ⟨rfl,rfl,hp.keep⟩
  · obtain ⟨h,hn⟩ := h (-u) rfl
    rw [Qce] at h
    rw [Bool.not_true] at hn
    go_enter Tryz.func46,Tryz.ntmps46
    have hp := Hp.start [] w
    go_wp2_with (first|((with_reducible apply Qau hp);exact za rfl;exact rfl;clear hp;(try clear w1);intro g w1 hp;simp only [zp,zq,z0,z1])|((with_reducible apply Qag hp);exact ii;exact rfl;clear hp;(try clear w1);intro g w1 hp;simp only [zp,zq,z0,z1])|((with_reducible apply Qab hp);exact zt rfl;exact ii;exact ii;(exact zl rfl);(simp only [n0,Nat.reduceAdd,nn];try rfl);simp only [zp,zq,z0,z1])|((with_reducible apply Qae hp);exact zt rfl;exact za rfl;exact rfl;(exact AggTy.size);exact rfl;exact ii;(simp only [n0,Nat.reduceAdd,nn];try rfl);(exact zl rfl);exact rfl;exact ii;clear hp;(try clear w1);intro w1 hp)|((with_reducible first|refine Qaf hp (negT _ (by assumption) _) ?_|refine Qaf hp (negF _ (by assumption) _) ?_|refine Qaf hp (Qgi _ _) ?_);clear hp;(try clear w1);intro w1 hp)|((with_reducible apply Qbm);exact rfl))
    exact ⟨rfl,rfl,hp.keep⟩
/-- A number cut to 512 bits, if it fits; else 0. -/
def fz (n : Int) : Int := if Fit n then n else 0
theorem Qeh (u : Int) (s : Bool) (h0 : 0 ≤ u) (hf : Fit (if s then -u else u)) (w : World) : Calls Tryz.prog 46 #[W u,.bool s] w (Ret (W (if s then -u else u)) w) := by
  refine signed_good u s (fun v hv => ?_) w
  rw [← hv] at hf
  by_cases hz : v = 0
  · subst hz
    left
    unfold eqb
    simp only [beq_self_eq_true,Bool.and_self]
  · right
    refine ⟨?_,?_⟩
    · rw [Qdr hf Qbp,decide_eq_false hz]
    · rw [Qco hf]
      cases s
      · simp only [Bool.false_eq_true,if_false] at hv
        simp;omega
      · simp only [if_true] at hv
        simp;omega
theorem Qin (u : Int) (s : Bool) (h0 : 0 ≤ u) (h1 : u < M512) (hf : ¬ Fit (if s then -u else u)) (w : World) : Calls Tryz.prog 46 #[W u,.bool s] w (Dies (.iface 115 (.agg #[])) w) := by
  refine signed_bad u s (fun v hv => ?_) w
  rw [← hv] at hf
  have hM : v % M512 = if s then M512 - u else u := by
    unfold Fit M511 at hf
    unfold M512 at h1 ⊢
    cases s
    · simp only [Bool.false_eq_true,if_false] at hv ⊢
      omega
    · simp only [if_true] at hv ⊢
      omega
  refine ⟨?_,?_⟩
  · cases h : eqb v 0
    · rfl
    · have := Qhr h
      rw [hM] at this
      unfold Fit M511 at hf
      unfold M512 at h1 this
      cases s
      · simp only [Bool.false_eq_true,if_false] at hv this
        omega
      · simp only [if_true] at hv this
        omega
  · have e : ng v = ng (v % M512 - if s then 0 else M512) := by
      unfold ng
      rw [lb_congr (a := v) (b := v % M512 - if s then 0 else M512) ?_ 7 (by omega)]
      cases s <;> simp [M512] <;> omega
    rw [e,hM]
    unfold Fit M511 at hf
    unfold M512 at h1 ⊢
    cases s
    · simp only [Bool.false_eq_true,if_false] at hv ⊢
      rw [Qco (by unfold Fit M511;omega)]
      simp;omega
    · simp only [if_true] at hv ⊢
      rw [Qco (by unfold Fit M511;omega)]
      simp;omega
end Go.Proofs.YtdfdmeoalbpcdaaGreat
