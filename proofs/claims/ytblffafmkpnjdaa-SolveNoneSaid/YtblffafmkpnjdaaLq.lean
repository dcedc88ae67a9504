/-
  The arguments of a law: what is made of 64-bit integers alone: what is Inert, a Row.
-/
import Derived.Test.YtblffafmkpnjdaaLc
import Derived.Test.YtblffafmkpnjdaaYd
import Derived.Deep.Strs
set_option linter.unusedVariables false
set_option maxRecDepth 100000
namespace Go.Proofs.Ytblffafmkpnjdaa
open Go Go.ChangeShapes Go.WideShapes Go.ChangeAt Go.RowKit Go.Joins

section
variable {H : Type} (enc : TypeId × Value → H) (W : World) (base : Nat) (spare : Nat → Bool) (held : Bool)
/-- All cells of a type are 64-bit integers. -/
def Flat (t : TypeId) : Prop := ∀ fuel (cs : List Value) x, DataW.trod enc Try.prog W base spare held fuel t cs = some x → ∀ j, j < Try.prog.cellsOf t → ∃ n : Int, cs[j]? = some (.int .i64 n) ∧ I64 n
theorem flat_int {t : TypeId} (ht : Try.prog.underlying t = some (.int .i64)) (hc : Try.prog.cellsOf t = 1) : Flat enc W base spare held t := by
  intro fuel cs x h j hj
  obtain ⟨n, rfl, _, hw⟩ := DataW.trod_int ht h
  have e : j = 0 := by omega
  subst e
  exact ⟨n, rfl, i64_wf hw⟩
theorem flat_array {t e : TypeId} {n : Nat} (ht : Try.prog.underlying t = some (.array n e)) (c : Nat) (hc : Try.prog.cellsOf e = c) (h0 : 0 < c) (hn : Try.prog.cellsOf t = n * c) (he : Flat enc W base spare held e) : Flat enc W base spare held t := by
  intro fuel cs x h j hj
  obtain ⟨xs, m, _, _, hl, hxl, hf⟩ := DataW.trod_array ht h
  rw [hn] at hj
  have hi : j / c < n := Nat.div_lt_of_lt_mul (by rw [Nat.mul_comm]; exact hj)
  have hg := hf (j / c) hi
  obtain ⟨z, hz⟩ : ∃ z, xs[j / c]? = some z := ⟨xs[j / c]'(by omega), List.getElem?_eq_getElem _⟩
  rw [hz] at hg
  obtain ⟨k, hk, hw⟩ := he _ _ _ hg (j % c) (by rw [hc]; exact Nat.mod_lt _ h0)
  refine ⟨k, ?_, hw⟩
  rw [List.getElem?_take, hc, if_pos (Nat.mod_lt _ h0), List.getElem?_drop] at hk
  rw [show j = j / c * c + j % c from by rw [Nat.mul_comm]; exact (Nat.div_add_mod j c).symm]
  exact hk
theorem flat_struct {t : TypeId} {fs : Array Field} (ht : Try.prog.underlying t = some (.struct fs))
    (hc : ∀ j, j < Try.prog.cellsOf t → ∃ (i : Nat) (f : Field), fs[i]? = some f ∧ f.offset ≤ j ∧ j < f.offset + Try.prog.cellsOf f.type)
    (he : ∀ f ∈ fs, Flat enc W base spare held f.type) : Flat enc W base spare held t := by
  intro fuel cs x h j hj
  obtain ⟨xs, m, _, _, hl, hxl, hf⟩ := DataW.trod_struct ht h
  obtain ⟨i, f, hi, h1, h2⟩ := hc j hj
  have hg := hf i f hi
  have hlt : i < fs.size := by
    by_cases hs : i < fs.size
    · exact hs
    · rw [Array.getElem?_eq_none (by omega)] at hi; cases hi
  obtain ⟨z, hz⟩ : ∃ z, xs[i]? = some z := ⟨xs[i]'(by omega), List.getElem?_eq_getElem _⟩
  rw [hz] at hg
  obtain ⟨k, hk, hw⟩ := he f (Array.mem_of_getElem? hi) _ _ _ hg (j - f.offset) (by omega)
  refine ⟨k, ?_, hw⟩
  rw [List.getElem?_take, if_pos (by omega), List.getElem?_drop] at hk
  rw [show j = f.offset + (j - f.offset) from by omega]
  exact hk
/-- The cover of a struct's cells by its fields, by reckoning. -/
theorem cover {t : TypeId} {fs : Array Field} (h : ((List.range (Try.prog.cellsOf t)).all fun j => (List.range fs.size).any fun i => match fs[i]? with | some f => decide (f.offset ≤ j) && decide (j < f.offset + Try.prog.cellsOf f.type) | none => false) = true) :
    ∀ j, j < Try.prog.cellsOf t → ∃ (i : Nat) (f : Field), fs[i]? = some f ∧ f.offset ≤ j ∧ j < f.offset + Try.prog.cellsOf f.type := by
  intro j hj
  rw [List.all_eq_true] at h
  have := h j (List.mem_range.2 hj)
  rw [List.any_eq_true] at this
  obtain ⟨i, _, hi⟩ := this
  split at hi
  · rename_i f hf
    rw [Bool.and_eq_true, decide_eq_true_eq, decide_eq_true_eq] at hi
    exact ⟨i, f, hf, hi.1, hi.2⟩
  · cases hi
end
section
variable {H : Type} {enc : TypeId × Value → H} {W : World} {base : Nat} {spare : Nat → Bool} {held : Bool}
theorem flat_fix : Flat enc W base spare held 29 := flat_int enc W base spare held Try.underlying29 (by kernel_rfl)
theorem flat_idx : Flat enc W base spare held 3 := flat_int enc W base spare held Try.underlying3 (by kernel_rfl)
theorem flat_vec : Flat enc W base spare held 31 := by
  refine flat_struct enc W base spare held Try.underlying31 (cover (by kernel_rfl)) fun f hf => ?_
  simp only [List.mem_toArray, List.mem_cons, List.not_mem_nil, or_false] at hf
  rcases hf with rfl | rfl | rfl <;> exact flat_fix
theorem flat_vec3 : Flat enc W base spare held 36 := flat_array enc W base spare held Try.underlying36 3 (by kernel_rfl) (by omega) (by kernel_rfl) flat_vec
theorem flat_mat : Flat enc W base spare held 38 := by
  refine flat_struct enc W base spare held Try.underlying38 (cover (by kernel_rfl)) fun f hf => ?_
  simp only [List.mem_toArray, List.mem_cons, List.not_mem_nil, or_false] at hf
  rcases hf with rfl
  exact flat_vec3
theorem flat_inert : Flat enc W base spare held 40 := by
  refine flat_struct enc W base spare held Try.underlying40 (cover (by kernel_rfl)) fun f hf => ?_
  simp only [List.mem_toArray, List.mem_cons, List.not_mem_nil, or_false] at hf
  rcases hf with rfl | rfl | rfl | rfl
  · exact flat_fix
  · exact flat_mat
  · exact flat_vec
  · exact flat_vec
end
/-- The cells of what came in, named. -/
theorem flat_open {H : Type} {enc : TypeId × Value → H} {W' : World} {base : Nat} {spare : Nat → Bool} {held : Bool} {t : TypeId} {k : Nat} {cs : Array Value} {d : DataW H} {p : List MemPlace}
    (hf : Flat enc W' base spare held t) (hk : Try.prog.cellsOf t = k) (hs : cs.size = Try.prog.cellsOf t) (h : DataW.Trod enc Try.prog W' base spare held t (.agg cs) d p) :
    ∃ f : Nat → Int, (∀ i, i < k → I64 (f i)) ∧ cs = ((List.range k).map fun i => Value.int .i64 (f i)).toArray := by
  obtain ⟨fuel, h⟩ := h
  have one : ∀ i, i < k → ∃ n : Int, cs.toList[i]? = some (.int .i64 n) ∧ I64 n := fun i hi => hf fuel cs.toList _ h i (by omega)
  obtain ⟨f, hf⟩ := Deep.choose_lt one
  refine ⟨f, fun i hi => (hf i hi).2, ?_⟩
  cases cs with
  | mk l =>
    congr 1
    apply List.ext_getElem?
    intro i
    by_cases hi : i < k
    · rw [(hf i hi).1, List.getElem?_map, List.getElem?_range hi]; rfl
    · have hs' : l.length = k := by simpa [hk] using hs
      rw [List.getElem?_eq_none (by omega), List.getElem?_eq_none (by simp; omega)]
/-- What is Inert, that came in. -/
theorem open_inert {H : Type} {enc : TypeId × Value → H} {W' : World} {r : Reach} {b0 base : Nat} {spare : Nat → Bool} {held : Bool} {v : Value} {d : DataW H} {p : List MemPlace}
    (hv : Value.okWide Try.prog W' r b0 40 v) (h : DataW.Trod enc Try.prog W' base spare held 40 v d p) : ∃ b : Inr, v = NV b ∧ b.i64 := by
  obtain ⟨cs, rfl, hsz⟩ := okWide_struct Try.underlying40 hv
  obtain ⟨f, hf, rfl⟩ := flat_open flat_inert (k := 16) (by kernel_rfl) hsz h
  exact ⟨⟨f 0, ⟨f 1, f 2, f 3⟩, ⟨f 4, f 5, f 6⟩, ⟨f 7, f 8, f 9⟩, ⟨f 10, f 11, f 12⟩, ⟨f 13, f 14, f 15⟩⟩, rfl, hf 0 (by omega), ⟨hf 1 (by omega), hf 2 (by omega), hf 3 (by omega)⟩, ⟨hf 4 (by omega), hf 5 (by omega), hf 6 (by omega)⟩, ⟨hf 7 (by omega), hf 8 (by omega), hf 9 (by omega)⟩, ⟨hf 10 (by omega), hf 11 (by omega), hf 12 (by omega)⟩, ⟨hf 13 (by omega), hf 14 (by omega), hf 15 (by omega)⟩⟩
end Go.Proofs.Ytblffafmkpnjdaa
