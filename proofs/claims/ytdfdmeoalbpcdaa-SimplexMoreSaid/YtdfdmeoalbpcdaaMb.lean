/-
  Package wide: a size with its sign (contracts).
-/
import Derived.Test.YtdfdmeoalbpcdaaMa
import Derived.Test.YtdfdmeoalbpcdaaHeb
set_option linter.unusedSimpArgs false
set_option maxRecDepth 100000
namespace Go.Proofs.Ytdfdmeoalbpcdaa
open Go Go.RowKit
theorem Qfz {a : Int} (h : eqb a 0 = true) : a % M512 = 0 := by
  have : ∀ j,j < 8 → lb a j = lb 0 j := by
    simp only [eqb,Bool.and_eq_true,beq_iff_eq] at h
    obtain ⟨h0,h1,h2,h3,h4,h5,h6,h7⟩ := h
    intro j hj
    match j,hj with
    | 0,_ => exact h0
    | 1,_ => exact h1
    | 2,_ => exact h2
    | 3,_ => exact h3
    | 4,_ => exact h4
    | 5,_ => exact h5
    | 6,_ => exact h6
    | 7,_ => exact h7
  have := Qhx a 0 this
  rw [this]
  rfl
set_option maxHeartbeats 1000000 in
/-- A size, given a sign: nothing is given up. -/
theorem Qmg (u : Int) (s : Bool) (h : ∀ v,v = (if s then -u else u) → eqb v 0 = true ∨ (eqb v 0 = false ∧ ng v = s)) (w : World) : Calls Try.prog 63 #[W u,.bool s] w (Ret (W (if s then -u else u)) w) := by
  cases s
  · rcases h u rfl with h|⟨h,hn⟩ <;> rw [Qcs] at h
    all_goals
      go_enter Try.func63,Try.ntmps63
      have hp := Hp.start [] w
      go_wp2_with (first|((with_reducible apply Qan hp);exact za rfl;exact rfl;clear hp;(try clear w1);intro g w1 hp;simp only [zp,zq,z0,z1])|((with_reducible apply Qaf hp);exact ii;exact rfl;clear hp;(try clear w1);intro g w1 hp;simp only [zp,zq,z0,z1])|((with_reducible apply Qab hp);exact zt rfl;exact ii;exact ii;(first|exact zl rfl|exact Qac (by omega));(first|(with_reducible exact Qaa (by omega))|(simp only [n0,Nat.reduceAdd,nn];try rfl));simp only [zp,zq,z0,z1])|((with_reducible apply Qag hp);exact zt rfl;exact za rfl;exact rfl;exact Sz.z;exact rfl;exact ii;(first|(with_reducible exact Qaa (by omega))|(simp only [n0,Nat.reduceAdd,nn];try rfl));(first|exact zl rfl|exact Qac (by omega));exact rfl;exact ii;clear hp;(try clear w1);intro w1 hp)|((with_reducible first|refine Qau hp (negT _ (by assumption) _) ?_|refine Qau hp (negF _ (by assumption) _) ?_|refine Qau hp (Qfc _ _) ?_);clear hp;(try clear w1);intro w1 hp)|((with_reducible apply Qco);exact rfl)|((with_reducible apply Qcy);exact rfl;simp only [zp,zq,z0,z1]))
      exact bodyPost_ret (Qak rfl ⟨_,rfl,Qaq hp (Nat.le_of_ble_eq_true rfl)⟩) rfl ⟨rfl,hp.keep⟩
  · rcases h (-u) rfl with h|⟨h,hn⟩ <;> rw [Qcs] at h
    all_goals
      go_enter Try.func63,Try.ntmps63
      have hp := Hp.start [] w
      go_wp2_with (first|((with_reducible apply Qan hp);exact za rfl;exact rfl;clear hp;(try clear w1);intro g w1 hp;simp only [zp,zq,z0,z1])|((with_reducible apply Qaf hp);exact ii;exact rfl;clear hp;(try clear w1);intro g w1 hp;simp only [zp,zq,z0,z1])|((with_reducible apply Qab hp);exact zt rfl;exact ii;exact ii;(first|exact zl rfl|exact Qac (by omega));(first|(with_reducible exact Qaa (by omega))|(simp only [n0,Nat.reduceAdd,nn];try rfl));simp only [zp,zq,z0,z1])|((with_reducible apply Qag hp);exact zt rfl;exact za rfl;exact rfl;exact Sz.z;exact rfl;exact ii;(first|(with_reducible exact Qaa (by omega))|(simp only [n0,Nat.reduceAdd,nn];try rfl));(first|exact zl rfl|exact Qac (by omega));exact rfl;exact ii;clear hp;(try clear w1);intro w1 hp)|((with_reducible first|refine Qau hp (negT _ (by assumption) _) ?_|refine Qau hp (negF _ (by assumption) _) ?_|refine Qau hp (Qfc _ _) ?_);clear hp;(try clear w1);intro w1 hp)|((with_reducible apply Qco);exact rfl)|((with_reducible apply Qcy);exact rfl;simp only [zp,zq,z0,z1]))
      exact bodyPost_ret (Qak rfl ⟨_,rfl,Qaq hp (Nat.le_of_ble_eq_true rfl)⟩) rfl ⟨rfl,hp.keep⟩
set_option maxHeartbeats 1000000 in
/-- A size, given a sign that it has no room for: it gives up. -/
theorem Qoo (u : Int) (s : Bool) (h : ∀ v,v = (if s then -u else u) → eqb v 0 = false ∧ ng v = !s) (w : World) : Calls Try.prog 63 #[W u,.bool s] w (Dies (.iface 104 (.agg #[])) w) := by
  cases s
  · obtain ⟨h,hn⟩ := h u rfl
    rw [Qcs] at h
    rw [Bool.not_false] at hn
    go_enter Try.func63,Try.ntmps63
    have hp := Hp.start [] w
    go_wp2_with (first|((with_reducible apply Qan hp);exact za rfl;exact rfl;clear hp;(try clear w1);intro g w1 hp;simp only [zp,zq,z0,z1])|((with_reducible apply Qaf hp);exact ii;exact rfl;clear hp;(try clear w1);intro g w1 hp;simp only [zp,zq,z0,z1])|((with_reducible apply Qab hp);exact zt rfl;exact ii;exact ii;(first|exact zl rfl|exact Qac (by omega));(first|(with_reducible exact Qaa (by omega))|(simp only [n0,Nat.reduceAdd,nn];try rfl));simp only [zp,zq,z0,z1])|((with_reducible apply Qag hp);exact zt rfl;exact za rfl;exact rfl;exact Sz.z;exact rfl;exact ii;(first|(with_reducible exact Qaa (by omega))|(simp only [n0,Nat.reduceAdd,nn];try rfl));(first|exact zl rfl|exact Qac (by omega));exact rfl;exact ii;clear hp;(try clear w1);intro w1 hp)|((with_reducible first|refine Qau hp (negT _ (by assumption) _) ?_|refine Qau hp (negF _ (by assumption) _) ?_|refine Qau hp (Qfc _ _) ?_);clear hp;(try clear w1);intro w1 hp)|((with_reducible apply Qco);exact rfl)|((with_reducible apply Qcy);exact rfl;simp only [zp,zq,z0,z1]))
    exact ⟨rfl,rfl,hp.keep⟩
  · obtain ⟨h,hn⟩ := h (-u) rfl
    rw [Qcs] at h
    rw [Bool.not_true] at hn
    go_enter Try.func63,Try.ntmps63
    have hp := Hp.start [] w
    go_wp2_with (first|((with_reducible apply Qan hp);exact za rfl;exact rfl;clear hp;(try clear w1);intro g w1 hp;simp only [zp,zq,z0,z1])|((with_reducible apply Qaf hp);exact ii;exact rfl;clear hp;(try clear w1);intro g w1 hp;simp only [zp,zq,z0,z1])|((with_reducible apply Qab hp);exact zt rfl;exact ii;exact ii;(first|exact zl rfl|exact Qac (by omega));(first|(with_reducible exact Qaa (by omega))|(simp only [n0,Nat.reduceAdd,nn];try rfl));simp only [zp,zq,z0,z1])|((with_reducible apply Qag hp);exact zt rfl;exact za rfl;exact rfl;exact Sz.z;exact rfl;exact ii;(first|(with_reducible exact Qaa (by omega))|(simp only [n0,Nat.reduceAdd,nn];try rfl));(first|exact zl rfl|exact Qac (by omega));exact rfl;exact ii;clear hp;(try clear w1);intro w1 hp)|((with_reducible first|refine Qau hp (negT _ (by assumption) _) ?_|refine Qau hp (negF _ (by assumption) _) ?_|refine Qau hp (Qfc _ _) ?_);clear hp;(try clear w1);intro w1 hp)|((with_reducible apply Qco);exact rfl)|((with_reducible apply Qcy);exact rfl;simp only [zp,zq,z0,z1]))
    exact ⟨rfl,rfl,hp.keep⟩
/-- A number cut to 512 bits, if it fits; else 0. -/
def fz (n : Int) : Int := if Fit n then n else 0
theorem Qdq (u : Int) (s : Bool) (h0 : 0 ≤ u) (hf : Fit (if s then -u else u)) (w : World) : Calls Try.prog 63 #[W u,.bool s] w (Ret (W (if s then -u else u)) w) := by
  refine Qmg u s (fun v hv => ?_) w
  rw [← hv] at hf
  by_cases hz : v = 0
  · subst hz
    left
    unfold eqb
    simp only [beq_self_eq_true,Bool.and_self]
  · right
    refine ⟨?_,?_⟩
    · rw [Qdd hf Qcl,decide_eq_false hz]
    · rw [Qct hf]
      cases s
      · simp only [Bool.false_eq_true,if_false] at hv
        simp;omega
      · simp only [if_true] at hv
        simp;omega
theorem Qgp (u : Int) (s : Bool) (h0 : 0 ≤ u) (h1 : u < M512) (hf : ¬ Fit (if s then -u else u)) (w : World) : Calls Try.prog 63 #[W u,.bool s] w (Dies (.iface 104 (.agg #[])) w) := by
  refine Qoo u s (fun v hv => ?_) w
  rw [← hv] at hf
  have hM : v % M512 = if s then M512 - u else u := by
    unfold Fit M511 at hf
    unfold M512 at h1 ⊢
    cases s
    · simp only [Bool.false_eq_true,if_false] at hv ⊢
      omega
    · simp only [if_true] at hv ⊢
      omega
  refine ⟨?_,?_⟩
  · cases h : eqb v 0
    · rfl
    · have := Qfz h
      rw [hM] at this
      unfold Fit M511 at hf
      unfold M512 at h1 this
      cases s
      · simp only [Bool.false_eq_true,if_false] at hv this
        omega
      · simp only [if_true] at hv this
        omega
  · have e : ng v = ng (v % M512 - if s then 0 else M512) := by
      unfold ng
      rw [Qno (a := v) (b := v % M512 - if s then 0 else M512) ?_ 7 (by omega)]
      cases s <;> simp [M512] <;> omega
    rw [e,hM]
    unfold Fit M511 at hf
    unfold M512 at h1 ⊢
    cases s
    · simp only [Bool.false_eq_true,if_false] at hv ⊢
      rw [Qct (by unfold Fit M511;omega)]
      simp;omega
    · simp only [if_true] at hv ⊢
      rw [Qct (by unfold Fit M511;omega)]
      simp;omega
end Go.Proofs.Ytdfdmeoalbpcdaa
