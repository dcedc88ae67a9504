/-
  The solver's model: what stays, what is within the limits (plain).
-/
import Derived.Test.YtblffafmkpnjdaaUp
set_option linter.unusedSimpArgs false
set_option linter.unusedVariables false
set_option maxRecDepth 100000
namespace Go.Proofs.Ytblffafmkpnjdaa
open Go Go.RowKit

/-- Pushed, any number of times. -/
inductive Pu : Inr → Inr → Prop
  | refl (x : Inr) : Pu x x
  | push {x y : Inr} (r f : P3) : Pu x y → Pu x (y.push r f)
theorem Pu.trans {x y z : Inr} (h : Pu x y) (h2 : Pu y z) : Pu x z := by
  induction h2 with
  | refl => exact h
  | push r f _ ih => exact .push r f ih
def Inr.lim (b : Inr) : Prop := b.v.lim = true ∧ b.s.lim = true
theorem push_lim (b : Inr) (r f : P3) : (b.push r f).lim := ⟨clam_lim _, clam_lim _⟩
theorem Pu.lim {x y : Inr} (h : Pu x y) (hx : x.lim) : y.lim := by
  cases h with
  | refl => exact hx
  | push r f _ => exact push_lim _ r f
theorem Pu.stay {x y : Inr} (h : Pu x y) : y.m = x.m ∧ y.p = x.p ∧ y.q = x.q ∧ y.r = x.r := by
  induction h with
  | refl => exact ⟨rfl, rfl, rfl, rfl⟩
  | push r f _ ih => exact ih
/-- A body that does not resist. -/
def Inr.still (b : Inr) : Prop := b.m = 0 ∧ b.p = ⟨0, 0, 0⟩ ∧ b.q = ⟨0, 0, 0⟩ ∧ b.r = ⟨0, 0, 0⟩ ∧ b.lim
theorem cscale_by0 (p : P3) : p.cscale 0 = ⟨0, 0, 0⟩ := by
  unfold P3.cscale
  simp only [Int.mul_zero, Int.zero_ediv, cl_0]
theorem cdot_of0 (p : P3) : P3.cdot ⟨0, 0, 0⟩ p = 0 := by
  unfold P3.cdot P3.dot
  simp only [Int.zero_mul, Int.add_zero, Int.zero_ediv, cl_0]
theorem still_push {b : Inr} (h : b.still) (r f : P3) : b.push r f = b := by
  obtain ⟨h1, h2, h3, h4, h5, h6⟩ := h
  obtain ⟨m, p, q, t, v, s⟩ := b
  dsimp only at *
  subst h1 h2 h3 h4
  unfold Inr.push
  dsimp only
  rw [cscale_by0, cdot_of0, cadd_zero (lim_i64 h5), cadd_zero (lim_i64 h6), clam_same h5, clam_same h6]
theorem Pu.fixed {x y : Inr} (h : Pu x y) (hx : x.still) : y = x := by
  induction h with
  | refl => rfl
  | push r f _ ih => rw [ih]; exact still_push hx r f
/-! ### One row -/
def gb (L : List Inr) (i : Nat) : Inr := L.getD i zI
theorem gb_set (L : List Inr) (j : Nat) (x : Inr) (i : Nat) : gb (L.set j x) i = if i = j ∧ j < L.length then x else gb L i := by
  unfold gb
  rw [List.getD_eq_getElem?_getD, List.getD_eq_getElem?_getD, List.getElem?_set]
  by_cases h : j = i
  · subst h
    by_cases h2 : j < L.length
    · simp [h2]
    · simp [h2]
  · have h3 : ¬ i = j := fun e => h e.symm
    simp [h, h3]
/-- What a row does to bodies. -/
structure Tch (r : Rw) (L L' : List Inr) : Prop where
  len : L'.length = L.length
  pu : ∀ i, Pu (gb L i) (gb L' i)
  off : ∀ i, i ≠ ik r.a → i ≠ ik r.b → gb L' i = gb L i
  lim : ∀ i, i = ik r.a ∨ i = ik r.b → (gb L' i).lim
theorem Tch.trans {r r' : Rw} {L L' L'' : List Inr} (ha : r'.a = r.a) (hb : r'.b = r.b) (h : Tch r L L') (h2 : Tch r' L' L'') : Tch r L L'' :=
  ⟨h2.len.trans h.len, fun i => (h.pu i).trans (h2.pu i), fun i h3 h4 => (h2.off i (by rw [ha]; exact h3) (by rw [hb]; exact h4)).trans (h.off i h3 h4), fun i hi => h2.lim i (by rw [ha, hb]; exact hi)⟩
theorem pushM_tch {L : List Inr} {r : Rw} (hn : r.names L.length) (n t u : Int) : Tch r L (pushM L r n t u) := by
  obtain ⟨a0, a1, b0, b1⟩ := hn
  have ha : ik r.a < L.length := by unfold ik; omega
  have hb : ik r.b < L.length := by unfold ik; omega
  refine ⟨pushM_length _ _ _ _ _, fun i => ?_, fun i h1 h2 => ?_, fun i hi => ?_⟩
  · unfold pushM
    dsimp only
    rw [gb_set, List.length_set]
    by_cases hi : i = ik r.b
    · rw [if_pos ⟨hi, hb⟩]
      refine .push _ _ ?_
      show Pu _ (gb (L.set _ _) _)
      rw [gb_set]
      by_cases hj : ik r.b = ik r.a
      · rw [if_pos ⟨hj, ha⟩, hi, hj]
        exact .push _ _ (.refl _)
      · rw [if_neg (fun h => hj h.1), hi]
        exact .refl _
    · rw [if_neg (fun h => hi h.1), gb_set]
      by_cases hj : i = ik r.a
      · rw [if_pos ⟨hj, ha⟩, hj]
        exact .push _ _ (.refl _)
      · rw [if_neg (fun h => hj h.1)]
        exact .refl _
  · unfold pushM
    dsimp only
    rw [gb_set, if_neg (fun h => h2 h.1), gb_set, if_neg (fun h => h1 h.1)]
  · unfold pushM
    dsimp only
    rw [gb_set, List.length_set]
    by_cases hi2 : i = ik r.b
    · rw [if_pos ⟨hi2, hb⟩]
      exact push_lim _ _ _
    · have hj := hi.resolve_right hi2
      rw [if_neg (fun h => hi2 h.1), gb_set, if_pos ⟨hj, ha⟩]
      exact push_lim _ _ _
theorem slideM_tch {L : List Inr} {r : Rw} (hn : r.names L.length) (t u : Int) : Tch r L (slideM L r t u).1 := pushM_tch hn _ _ _
theorem turnM_tch {L : List Inr} {r : Rw} (hn : r.names L.length) : Tch r L (turnM L r).1 := by
  unfold turnM
  dsimp only
  have h1 := slideM_tch hn (cl (r.pt - cl (r.mt * (speedM L r).cdot r.t / 4294967296))) (cl (r.pu - cl (r.mu * (speedM L r).cdot r.u / 4294967296)))
  generalize hs : slideM L r _ _ = s at *
  have ea : s.2.a = r.a := by rw [← hs]; rfl
  have eb : s.2.b = r.b := by rw [← hs]; rfl
  have hn2 : s.2.names s.1.length := by unfold Rw.names; rw [ea, eb, h1.len]; exact hn
  refine h1.trans ea eb ?_
  generalize max0 _ = n
  have h2 := pushM_tch hn2 (cl (n - r.pn)) 0 0
  refine h2.trans (r' := { s.2 with pn := n }) rfl rfl ?_
  refine slideM_tch ?_ _ _
  unfold Rw.names
  rw [h2.len]
  exact hn2
/-! ### A row's own numbers -/
/-- The same row, but for its pushes. -/
def Rw.stat (r r' : Rw) : Prop := r' = { r with pn := r'.pn, pt := r'.pt, pu := r'.pu }
theorem stat_refl (r : Rw) : r.stat r := rfl
theorem stat_trans {r r' r'' : Rw} (h : r.stat r') (h2 : r'.stat r'') : r.stat r'' := by
  unfold Rw.stat at *
  rw [h2, h]
theorem turnM_stat (L : List Inr) (r : Rw) : r.stat (turnM L r).2 := rfl
/-- It does not pull, and is within the cone. -/
def Rw.good (r : Rw) : Prop := 0 ≤ r.pn ∧ outv r.pt r.pu (cl (r.rub * r.pn / 4294967296)) = false
theorem coneO_in {t u c : Int} (ht : I64 t) (hu : I64 u) (hc : I64 c) (h0 : 0 ≤ c) : outv (coneO t u c).1 (coneO t u c).2 c = false := by
  unfold coneO
  rw [if_neg (by omega : ¬ c < 0)]
  cases h : outv t u c with
  | false => rw [if_neg (by simp)]; exact h
  | true =>
    rw [if_pos rfl]
    exact (nar_in ht hu hc h).1
theorem cl_nn {n : Int} (h : 0 ≤ n) : 0 ≤ cl n := by
  unfold cl
  split
  · omega
  · split <;> omega
theorem turnM_good {L : List Inr} {r : Rw} (hr : r.i64f) (h0 : 0 ≤ r.rub) : (turnM L r).2.good := by
  have hsi : ∀ t u : Int, I64 t → I64 u → I64 (slideM L r t u).2.pt ∧ I64 (slideM L r t u).2.pu := fun t u ht hu => coneO_i64 ht hu (cl_i64 _)
  unfold turnM
  dsimp only
  have h1 := hsi (cl (r.pt - cl (r.mt * (speedM L r).cdot r.t / 4294967296))) (cl (r.pu - cl (r.mu * (speedM L r).cdot r.u / 4294967296))) (cl_i64 _) (cl_i64 _)
  have e2 : (slideM L r (cl (r.pt - cl (r.mt * (speedM L r).cdot r.t / 4294967296))) (cl (r.pu - cl (r.mu * (speedM L r).cdot r.u / 4294967296)))).2.rub = r.rub := rfl
  generalize slideM L r _ _ = s at *
  have hn : ∀ x, 0 ≤ max0 x := fun x => by unfold max0; split <;> omega
  generalize hnn : max0 _ = n
  have hn0 : 0 ≤ n := by rw [← hnn]; exact hn _
  refine ⟨hn0, ?_⟩
  unfold slideM
  dsimp only
  rw [e2]
  refine coneO_in h1.1 h1.2 (cl_i64 _) (cl_nn (Int.ediv_nonneg (Int.mul_nonneg h0 hn0) (by omega)))
/-! ### All rows -/
def gr (S : List Rw) (i : Nat) : Rw := S.getD i zR
theorem gr_set (S : List Rw) (j : Nat) (x : Rw) (i : Nat) : gr (S.set j x) i = if i = j ∧ j < S.length then x else gr S i := by
  unfold gr
  rw [List.getD_eq_getElem?_getD, List.getD_eq_getElem?_getD, List.getElem?_set]
  by_cases h : j = i
  · subst h
    by_cases h2 : j < S.length
    · simp [h2]
    · simp [h2]
  · have h3 : ¬ i = j := fun e => h e.symm
    simp [h, h3]
def Rw.on (r : Rw) (i : Nat) : Prop := i = ik r.a ∨ i = ik r.b
/-- What stays, and what comes to be, behind rows (k of which have been). -/
structure Kept (L0 : List Inr) (S0 : List Rw) (k : Nat) (st : List Inr × List Rw) : Prop where
  ll : st.1.length = L0.length
  lr : st.2.length = S0.length
  pu : ∀ i, Pu (gb L0 i) (gb st.1 i)
  off : ∀ i, (∀ j, j < S0.length → ¬ (gr S0 j).on i) → gb st.1 i = gb L0 i
  lim : ∀ i j, j < k → (gr S0 j).on i → (gb st.1 i).lim
  row : ∀ j, j < S0.length → (gr S0 j).stat (gr st.2 j) ∧ (gr st.2 j).good
/-- A step that may be. -/
def Fair (F : List Inr → Rw → List Inr × Rw) : Prop := ∀ L r, r.names L.length → r.i64f → 0 ≤ r.rub → r.good → Tch r L (F L r).1 ∧ r.stat (F L r).2 ∧ (F L r).2.good
theorem warm_fair : Fair warmM := fun L r hn hi h0 hg => ⟨pushM_tch hn _ _ _, rfl, hg⟩
theorem turn_fair : Fair turnM := fun L r hn hi h0 hg => ⟨turnM_tch hn, turnM_stat L r, turnM_good hi h0⟩
theorem on_stat {r r' : Rw} (h : r.stat r') (i : Nat) : r'.on i ↔ r.on i := by unfold Rw.on; rw [h]
theorem Kept.step {L0 : List Inr} {S0 : List Rw} {k m : Nat} {st : List Inr × List Rw} {F : List Inr → Rw → List Inr × Rw} (hF : Fair F) (h : Kept L0 S0 m st) (hk : k < S0.length) (hr0 : ∀ r ∈ S0, 0 ≤ r.rub) (hok : Okst L0.length S0.length st) :
    Kept L0 S0 m ((F st.1 (gr st.2 k)).1, st.2.set k (F st.1 (gr st.2 k)).2) ∧ ∀ i, (gr S0 k).on i → (gb (F st.1 (gr st.2 k)).1 i).lim := by
  obtain ⟨h1, h2⟩ := h.row k hk
  obtain ⟨o1, o2, o3, o4⟩ := hok
  have hk2 : k < st.2.length := by omega
  have hm : gr st.2 k ∈ st.2 := by
    unfold gr
    rw [List.getD_eq_getElem?_getD, List.getElem?_eq_getElem hk2]
    exact List.getElem_mem hk2
  obtain ⟨o5, o6⟩ := o4 _ hm
  have hm0 : gr S0 k ∈ S0 := by
    unfold gr
    rw [List.getD_eq_getElem?_getD, List.getElem?_eq_getElem hk]
    exact List.getElem_mem hk
  have hr : 0 ≤ (gr st.2 k).rub := by
    have := hr0 _ hm0
    rw [h1]
    exact this
  obtain ⟨t1, t2, t3⟩ := hF st.1 (gr st.2 k) (by rw [o2]; exact o6) o5 hr h2
  refine ⟨⟨t1.len.trans h.ll, by rw [List.length_set]; exact h.lr, fun i => (h.pu i).trans (t1.pu i), fun i hi => ?_, fun i j hj hij => ?_, fun j hj => ?_⟩, fun i hi => t1.lim i ((on_stat h1 i).2 hi)⟩
  · have hn := hi k hk
    rw [← on_stat h1] at hn
    exact (t1.off i (fun e => hn (.inl e)) (fun e => hn (.inr e))).trans (h.off i hi)
  · exact (t1.pu i).lim (h.lim i j hj hij)
  · dsimp only
    rw [gr_set]
    by_cases e : j = k
    · rw [if_pos ⟨e, hk2⟩, e]
      exact ⟨stat_trans h1 t2, t3⟩
    · rw [if_neg (fun h => e h.1)]
      exact h.row j hj
theorem Kept.each {L0 : List Inr} {S0 : List Rw} {m : Nat} {st : List Inr × List Rw} {F : List Inr → Rw → List Inr × Rw} (hF : Fair F) (hS : Steps F) (h : Kept L0 S0 m st) (hr0 : ∀ r ∈ S0, 0 ≤ r.rub) (hok : Okst L0.length S0.length st) :
    ∀ k, k ≤ S0.length → Kept L0 S0 (if m < k then k else m) (eachM F k st)
  | 0, _ => by rw [if_neg (by omega)]; exact h
  | k + 1, hk => by
    have ih := Kept.each hF hS h hr0 hok k (by omega)
    have ho := eachM_ok hS hok k (by omega)
    obtain ⟨s1, s2⟩ := ih.step hF (k := k) (by omega) hr0 ho
    unfold eachM
    refine ⟨s1.ll, s1.lr, s1.pu, s1.off, fun i j hj hij => ?_, s1.row⟩
    by_cases hjk : j = k
    · subst hjk
      exact s2 i hij
    · refine s1.lim i j ?_ hij
      split at hj <;> split <;> omega
theorem kept_start {L0 : List Inr} {S0 : List Rw} (hg : ∀ r ∈ S0, r.good) : Kept L0 S0 0 (L0, S0) := by
  refine ⟨rfl, rfl, fun i => .refl _, fun i _ => rfl, fun i j hj => by omega, fun j hj => ⟨stat_refl _, hg _ ?_⟩⟩
  unfold gr
  rw [List.getD_eq_getElem?_getD, List.getElem?_eq_getElem hj]
  exact List.getElem_mem hj
theorem kept_sweeps {L0 : List Inr} {S0 : List Rw} (hL : alli L0) (hS : ∀ r ∈ S0, r.i64f) (hc : checkM L0.length S0 = 0) (n : Nat) :
    Kept L0 S0 S0.length (sweepM S0.length n (eachM warmM S0.length (L0, S0))) := by
  have hb := fun r hr => bad_not ((checkM_ok hc).2.2 r hr)
  have hg : ∀ r ∈ S0, r.good := fun r hr => ⟨(hb r hr).2.2.2.1, (hb r hr).2.2.2.2⟩
  have hr0 : ∀ r ∈ S0, 0 ≤ r.rub := fun r hr => (hb r hr).2.1
  have hok : Okst L0.length S0.length (L0, S0) := ⟨hL, rfl, rfl, fun r hr => ⟨hS r hr, check_names hc r hr⟩⟩
  have h1 := (kept_start hg).each warm_fair warm_steps hr0 hok S0.length (Nat.le_refl _)
  have e1 : (if 0 < S0.length then S0.length else 0) = S0.length := by split <;> omega
  rw [e1] at h1
  have hok1 := eachM_ok warm_steps hok S0.length (Nat.le_refl _)
  induction n with
  | zero => exact h1
  | succ n ih =>
    have h2 := ih.each turn_fair turn_steps hr0 (sweepM_ok hok1 n) S0.length (Nat.le_refl _)
    rw [if_neg (by omega)] at h2
    exact h2
/-- Such rows may be once more. -/
theorem kept_check {L0 : List Inr} {S0 : List Rw} {k : Nat} {st : List Inr × List Rw} (h : Kept L0 S0 k st) (hc : checkM L0.length S0 = 0) : checkM st.1.length st.2 = 0 := by
  obtain ⟨c1, c2, c3⟩ := checkM_ok hc
  unfold checkM
  rw [h.ll, h.lr, if_neg (by omega), if_neg]
  rw [List.any_eq_true]
  rintro ⟨r, hr, hb⟩
  obtain ⟨j, hj, rfl⟩ := List.getElem_of_mem hr
  obtain ⟨h1, h2⟩ := h.row j (by rw [← h.lr]; exact hj)
  have e : gr st.2 j = st.2[j] := by
    unfold gr
    rw [List.getD_eq_getElem?_getD, List.getElem?_eq_getElem hj]
    rfl
  rw [e] at h1 h2
  have hj0 : j < S0.length := by rw [← h.lr]; exact hj
  have hm : gr S0 j ∈ S0 := by
    unfold gr
    rw [List.getD_eq_getElem?_getD, List.getElem?_eq_getElem hj0]
    exact List.getElem_mem hj0
  obtain ⟨⟨b1, b2, b3, b4, b5⟩, b6, b7, _⟩ := bad_not (c3 _ hm)
  generalize st.2[j] = r at *
  generalize gr S0 j = r0 at *
  obtain ⟨g1, g2⟩ := h2
  have ea : r.a = r0.a := by rw [h1]
  have eb : r.b = r0.b := by rw [h1]
  have er : r.rub = r0.rub := by rw [h1]
  have : r.bad L0.length = false := by
    unfold Rw.bad
    rw [ea, eb, g2, er, decide_eq_true b1, decide_eq_true b2, decide_eq_true b3, decide_eq_true b4, decide_eq_false (by omega : ¬ r0.rub < 0), decide_eq_false (by omega : ¬ 17179869184 < r0.rub), decide_eq_false (by omega : ¬ r.pn < 0)]
    simpa using b5
  rw [this] at hb
  cases hb
end Go.Proofs.Ytblffafmkpnjdaa
