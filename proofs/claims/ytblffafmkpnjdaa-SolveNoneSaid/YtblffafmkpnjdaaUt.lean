/-
  Law 23: Parting: the plain law.
-/
import Derived.Test.YtblffafmkpnjdaaUq
set_option linter.unusedSimpArgs false
set_option linter.unusedVariables false
set_option maxRecDepth 100000
namespace Go.Proofs.Ytblffafmkpnjdaa
open Go Go.RowKit

theorem rt_0 : rt 0 = 0 := rt_uniq (by omega) (by omega) (by omega)
theorem nar_0 (t s : Int) : nar t 0 s = 0 := by
  unfold nar
  simp only [Int.mul_zero, Int.zero_ediv, rt_0]
  split <;> rfl
theorem coneO_0 (t u : Int) : coneO t u 0 = (0, 0) := by
  unfold coneO
  rw [if_neg (by omega : ¬ (0 : Int) < 0)]
  cases h : outv t u 0 with
  | true => rw [if_pos rfl, nar_0, nar_0]
  | false =>
    rw [if_neg (by simp)]
    unfold outv at h
    have h1 := of_decide_eq_false h
    have ht : 0 ≤ t * t := sq_nn t
    have hu : 0 ≤ u * u := sq_nn u
    have e1 : t * t = 0 := by omega
    have e2 : u * u = 0 := by omega
    have e3 : t = 0 := by rcases Int.mul_eq_zero.1 e1 with h | h <;> exact h
    have e4 : u = 0 := by rcases Int.mul_eq_zero.1 e2 with h | h <;> exact h
    rw [e3, e4]
theorem cl_np {n : Int} (h : n ≤ 0) : cl n ≤ 0 := by
  unfold cl
  split
  · omega
  · split <;> omega
theorem force_0 (r : Rw) : r.force 0 0 0 = ⟨0, 0, 0⟩ := by
  unfold Rw.force
  have e : P3.cadd ⟨0, 0, 0⟩ ⟨0, 0, 0⟩ = ⟨0, 0, 0⟩ := cadd_zero (p3i4 (by omega))
  rw [cscale_by0, cscale_by0, cscale_by0, e, e]
theorem set_gb (L : List Inr) (k : Nat) : L.set k (L.getD k zI) = L := by
  by_cases h : k < L.length
  · rw [getD_eq h, List.set_getElem_self]
  · exact List.set_eq_of_length_le (by omega)
/-- A push of nothing changes no body within the limits. -/
theorem pushM_0 {L : List Inr} {r : Rw} (ha : (gb L (ik r.a)).lim) (hb : (gb L (ik r.b)).lim) : pushM L r 0 0 0 = L := by
  unfold pushM
  dsimp only
  unfold gb at ha hb
  rw [force_0, cscale_zero, push_still _ ha.1 ha.2, set_gb, push_still _ hb.1 hb.2, set_gb]
theorem warm_0 {L : List Inr} {r : Rw} (ha : (gb L (ik r.a)).lim) (hb : (gb L (ik r.b)).lim) (h0 : r.pn = 0 ∧ r.pt = 0 ∧ r.pu = 0) : warmM L r = (L, r) := by
  obtain ⟨h1, h2, h3⟩ := h0
  unfold warmM
  rw [h1, h2, h3, pushM_0 ha hb]
theorem slide_0 {L : List Inr} {r : Rw} (ha : (gb L (ik r.a)).lim) (hb : (gb L (ik r.b)).lim) (h0 : r.pn = 0 ∧ r.pt = 0 ∧ r.pu = 0) (t u : Int) : slideM L r t u = (L, r) := by
  obtain ⟨h1, h2, h3⟩ := h0
  unfold slideM
  dsimp only
  rw [h1, Int.mul_zero, Int.zero_ediv, cl_0, coneO_0]
  dsimp only
  rw [h2, h3, Int.sub_zero, cl_0, pushM_0 ha hb]
  obtain ⟨a, b, n, t, u, ra, rb, mn, mt, mu, aim, rub, pn, pt, pu⟩ := r
  dsimp only at h1 h2 h3
  subst h1 h2 h3
  rfl
theorem max0_np {a : Int} (h : a ≤ 0) : max0 a = 0 := by unfold max0; split <;> omega
/-- A row that asks for no more than there is. -/
theorem turn_0 {L : List Inr} {r : Rw} (ha : (gb L (ik r.a)).lim) (hb : (gb L (ik r.b)).lim) (h0 : r.pn = 0 ∧ r.pt = 0 ∧ r.pu = 0) (hm : 0 ≤ r.mn) (hv : r.aim ≤ (speedM L r).cdot r.n) : turnM L r = (L, r) := by
  unfold turnM
  dsimp only
  rw [slide_0 ha hb h0]
  dsimp only
  have e1 : cl (r.aim - (speedM L r).cdot r.n) ≤ 0 := cl_np (by omega)
  have e2 : r.mn * cl (r.aim - (speedM L r).cdot r.n) ≤ 0 := Int.mul_nonpos_of_nonneg_of_nonpos hm e1
  have e3 : r.mn * cl (r.aim - (speedM L r).cdot r.n) / 4294967296 ≤ 0 := by omega
  have e4 : cl (r.pn + cl (r.mn * cl (r.aim - (speedM L r).cdot r.n) / 4294967296)) ≤ 0 := by
    rw [h0.1]
    exact cl_np (by have := cl_np e3; omega)
  rw [max0_np e4, h0.1, Int.sub_zero, cl_0, pushM_0 ha hb]
  have er : ({ r with pn := 0 } : Rw) = r := by
    obtain ⟨a, b, n, t, u, ra, rb, mn, mt, mu, aim, rub, pn, pt, pu⟩ := r
    obtain ⟨h1, _⟩ := h0
    dsimp only at h1
    rw [h1]
  rw [er, slide_0 ha hb h0]
/-- One such row, any number of sweeps. -/
theorem parts_0 {a b : Inr} {r : Rw} (ha : a.lim) (hb : b.lim) (hn : r.a = 0 ∧ r.b = 1) (h0 : r.pn = 0 ∧ r.pt = 0 ∧ r.pu = 0) (hm : 0 ≤ r.mn) (hv : r.aim ≤ ((a.at r.ra).csub (b.at r.rb)).cdot r.n) (k : Nat) :
    sweepM 1 k (eachM warmM 1 ([a, b], [r])) = ([a, b], [r]) := by
  obtain ⟨n0, n1⟩ := hn
  have i0 : ik r.a = 0 := by rw [n0]; rfl
  have i1 : ik r.b = 1 := by rw [n1]; rfl
  have ha' : (gb [a, b] (ik r.a)).lim := by rw [i0]; exact ha
  have hb' : (gb [a, b] (ik r.b)).lim := by rw [i1]; exact hb
  have hs : speedM [a, b] r = (a.at r.ra).csub (b.at r.rb) := by unfold speedM; rw [i0, i1]; rfl
  have w0 := warm_0 ha' hb' h0
  have t0 := turn_0 ha' hb' h0 hm (by rw [hs]; exact hv)
  have e1 : eachM warmM 1 ([a, b], [r]) = ([a, b], [r]) := by
    unfold eachM
    show ((warmM [a, b] r).1, [r].set 0 (warmM [a, b] r).2) = _
    rw [w0]
    rfl
  rw [e1]
  induction k with
  | zero => rfl
  | succ k ih =>
    unfold sweepM
    rw [ih]
    unfold eachM
    show ((turnM [a, b] r).1, [r].set 0 (turnM [a, b] r).2) = _
    rw [t0]
    rfl
/-- Rows that push nothing, in no sweep. -/
theorem none_0 {L : List Inr} {S : List Rw} (hl : ∀ b ∈ L, b.lim) (h0 : ∀ r ∈ S, r.pn = 0 ∧ r.pt = 0 ∧ r.pu = 0) (hn : ∀ r ∈ S, r.names L.length) : ∀ k, k ≤ S.length → eachM warmM k (L, S) = (L, S)
  | 0, _ => rfl
  | k + 1, h => by
    have hk : k < S.length := by omega
    unfold eachM
    rw [none_0 hl h0 hn k (by omega)]
    dsimp only
    rw [getR_eq hk]
    have hm := List.getElem_mem hk
    obtain ⟨a0, a1, b0, b1⟩ := hn _ hm
    have lm : ∀ i, i < L.length → (gb L i).lim := fun i hi => by
      unfold gb
      rw [getD_eq hi]
      exact hl _ (List.getElem_mem hi)
    rw [warm_0 (lm _ (by unfold ik; omega)) (lm _ (by unfold ik; omega)) (h0 _ hm)]
    dsimp only
    rw [List.set_getElem_self]
end Go.Proofs.Ytblffafmkpnjdaa
