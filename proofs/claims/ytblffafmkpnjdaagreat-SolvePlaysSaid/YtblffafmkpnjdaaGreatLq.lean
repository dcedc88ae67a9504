/-
  The arguments of a law: what is made of 64-bit integers alone: what is Inert, a Row.
-/
import Derived.Test.YtblffafmkpnjdaaGreatLc
import Derived.Test.YtblffafmkpnjdaaGreatYd
import Derived.Deep.Strs
set_option linter.unusedVariables false
set_option maxRecDepth 100000
namespace Go.Proofs.YtblffafmkpnjdaaGreat
open Go Go.ChangeShapes Go.WideShapes Go.ChangeAt Go.RowKit Go.Joins
section
variable {H : Type} (enc : TypeId × Value → H) (W : World) (base : Nat) (spare : Nat → Bool) (held : Bool)
/-- All cells of a type are 64-bit integers. -/
def Flat (t : TypeId) : Prop := ∀ fuel (cs : List Value) x,DataW.trod enc Tryz.prog W base spare held fuel t cs = some x → ∀ j,j < Tryz.prog.cellsOf t → ∃ n : Int,cs[j]? = some (.int .i64 n) ∧ I64 n
theorem flat_int {t : TypeId} (ht : Tryz.prog.underlying t = some (.int .i64)) (hc : Tryz.prog.cellsOf t = 1) : Flat enc W base spare held t := by
  intro fuel cs x h j hj
  obtain ⟨n,rfl,_,hw⟩ := DataW.trod_int ht h
  have e : j = 0 := by omega
  subst e
  exact ⟨n,rfl,i64_wf hw⟩
theorem flat_array {t e : TypeId} {n : Nat} (ht : Tryz.prog.underlying t = some (.array n e)) (c : Nat) (hc : Tryz.prog.cellsOf e = c) (h0 : 0 < c) (hn : Tryz.prog.cellsOf t = n * c) (he : Flat enc W base spare held e) : Flat enc W base spare held t := by
  intro fuel cs x h j hj
  obtain ⟨xs,m,_,_,hl,hxl,hf⟩ := DataW.trod_array ht h
  rw [hn] at hj
  have hi : j / c < n := Nat.div_lt_of_lt_mul (by rw [Nat.mul_comm];exact hj)
  have hg := hf (j / c) hi
  obtain ⟨z,hz⟩ : ∃ z,xs[j / c]? = some z := ⟨xs[j / c]'(by omega),List.getElem?_eq_getElem _⟩
  rw [hz] at hg
  obtain ⟨k,hk,hw⟩ := he _ _ _ hg (j % c) (by rw [hc];exact Nat.mod_lt _ h0)
  refine ⟨k,?_,hw⟩
  rw [List.getElem?_take,hc,if_pos (Nat.mod_lt _ h0),List.getElem?_drop] at hk
  rw [show j = j / c * c + j % c from by rw [Nat.mul_comm];exact (Nat.div_add_mod j c).symm]
  exact hk
theorem Qfo {t : TypeId} {fs : Array Field} (ht : Tryz.prog.underlying t = some (.struct fs))
    (hc : ∀ j,j < Tryz.prog.cellsOf t → ∃ (i : Nat) (f : Field),fs[i]? = some f ∧ f.offset ≤ j ∧ j < f.offset + Tryz.prog.cellsOf f.type)
    (he : ∀ f ∈ fs,Flat enc W base spare held f.type) : Flat enc W base spare held t := by
  intro fuel cs x h j hj
  obtain ⟨xs,m,_,_,hl,hxl,hf⟩ := DataW.trod_struct ht h
  obtain ⟨i,f,hi,h1,h2⟩ := hc j hj
  have hg := hf i f hi
  have hlt : i < fs.size := by
    by_cases hs : i < fs.size
    · exact hs
    · rw [Array.getElem?_eq_none (by omega)] at hi;cases hi
  obtain ⟨z,hz⟩ : ∃ z,xs[i]? = some z := ⟨xs[i]'(by omega),List.getElem?_eq_getElem _⟩
  rw [hz] at hg
  obtain ⟨k,hk,hw⟩ := he f (Array.mem_of_getElem? hi) _ _ _ hg (j - f.offset) (by omega)
  refine ⟨k,?_,hw⟩
  rw [List.getElem?_take,if_pos (by omega),List.getElem?_drop] at hk
  rw [show j = f.offset + (j - f.offset) from by omega]
  exact hk
/-- The cover of a struct's cells by its fields, by reckoning. -/
theorem cover {t : TypeId} {fs : Array Field} (h : ((List.range (Tryz.prog.cellsOf t)).all fun j => (List.range fs.size).any fun i => match fs[i]? with | some f => decide (f.offset ≤ j) && decide (j < f.offset + Tryz.prog.cellsOf f.type) | none => false) = true) :
    ∀ j,j < Tryz.prog.cellsOf t → ∃ (i : Nat) (f : Field),fs[i]? = some f ∧ f.offset ≤ j ∧ j < f.offset + Tryz.prog.cellsOf f.type := by
  intro j hj
  rw [List.all_eq_true] at h
  have := h j (List.mem_range.2 hj)
  rw [List.any_eq_true] at this
  obtain ⟨i,_,hi⟩ := this
  split at hi
  · rename_i f hf
    rw [Bool.and_eq_true,decide_eq_true_eq,decide_eq_true_eq] at hi
    exact ⟨i,f,hf,hi.1,hi.2⟩
  · cases hi
end
section
variable {H : Type} {enc : TypeId × Value → H} {W : World} {base : Nat} {spare : Nat → Bool} {held : Bool}
theorem Qmj : Flat enc W base spare held 22 := flat_int enc W base spare held Tryz.underlying22 (by kernel_rfl)
theorem flat_idx : Flat enc W base spare held 3 := flat_int enc W base spare held Tryz.underlying3 (by kernel_rfl)
theorem Qiw : Flat enc W base spare held 24 := by
  refine Qfo enc W base spare held Tryz.underlying24 (cover (by kernel_rfl)) fun f hf => ?_
  simp only [List.mem_toArray,List.mem_cons,List.not_mem_nil,or_false] at hf
  rcases hf with rfl | rfl | rfl <;> exact Qmj
theorem flat_vec3 : Flat enc W base spare held 25 := flat_array enc W base spare held Tryz.underlying25 3 (by kernel_rfl) (by omega) (by kernel_rfl) Qiw
theorem flat_mat : Flat enc W base spare held 27 := by
  refine Qfo enc W base spare held Tryz.underlying27 (cover (by kernel_rfl)) fun f hf => ?_
  simp only [List.mem_toArray,List.mem_cons,List.not_mem_nil,or_false] at hf
  rcases hf with rfl
  exact flat_vec3
theorem flat_inert : Flat enc W base spare held 29 := by
  refine Qfo enc W base spare held Tryz.underlying29 (cover (by kernel_rfl)) fun f hf => ?_
  simp only [List.mem_toArray,List.mem_cons,List.not_mem_nil,or_false] at hf
  rcases hf with rfl | rfl | rfl | rfl
  · exact Qmj
  · exact flat_mat
  · exact Qiw
  · exact Qiw
end
end Go.Proofs.YtblffafmkpnjdaaGreat
