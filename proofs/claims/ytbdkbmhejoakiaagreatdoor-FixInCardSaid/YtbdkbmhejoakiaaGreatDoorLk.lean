/-
  The arguments of a law: wide numbers, spans.
-/
import Derived.Test.YtbdkbmhejoakiaaGreatDoorLc
import Derived.Test.YtbdkbmhejoakiaaGreatDoorMp
import Derived.Deep.Strs
set_option linter.unusedVariables false
set_option maxRecDepth 100000
namespace Go.Proofs.YtbdkbmhejoakiaaGreatDoor
open Go Go.ChangeShapes Go.WideShapes Go.ChangeAt Go.RowKit Go.Joins

/-- Any eight limbs are those of a number. -/
theorem limbs_any (c : Nat → Int) (h : ∀ i, i < 8 → 0 ≤ c i ∧ c i < 18446744073709551616) : ∃ n, Fit n ∧ ∀ i, i < 8 → lb n i = c i := by
  have key : ∀ k, k ≤ 8 → ∃ n, 0 ≤ n ∧ n < M512 ∧ ∀ i, i < k → lb n i = c i := by
    intro k
    induction k with
    | zero => exact fun _ => ⟨0, by omega, by unfold M512; omega, fun i hi => by omega⟩
    | succ k ih =>
      intro hk
      obtain ⟨n, h0, h1, hn⟩ := ih (by omega)
      have hc := h k (by omega)
      have hb := put_bd n k (c k) h0 h1 hc.1 hc.2 (by omega)
      refine ⟨put n k (c k), hb.1, hb.2, fun i hi => ?_⟩
      rw [lb_put n k (c k) hc.1 hc.2 i]
      unfold upd
      by_cases e : i = k
      · rw [if_pos e, e]
      · rw [if_neg e]; exact hn i (by omega)
  obtain ⟨n, h0, h1, hn⟩ := key 8 (by omega)
  by_cases hm : n < M511
  · exact ⟨n, ⟨by unfold M511 at *; omega, hm⟩, hn⟩
  · refine ⟨n - M512, ⟨by unfold M511 M512 at *; omega, by unfold M511 M512 at *; omega⟩, fun i hi => ?_⟩
    rw [lb_congr (a := n - M512) (b := n) (by rw [Int.sub_emod_right]) i hi]
    exact hn i hi
theorem u64_wf {n : Int} (h : (Lit.int .u64 n).wf = true) : 0 ≤ n ∧ n < 18446744073709551616 := by
  simp [Lit.wf, IntKind.min, IntKind.max, IntKind.bits, IntKind.signed] at h
  omega
theorem cells_u64 : Tryz.prog.cellsOf 27 = 1 := by kernel_rfl
theorem cells_wide : Tryz.prog.cellsOf 30 = 8 := by kernel_rfl
theorem cells_limbs : Tryz.prog.cellsOf 28 = 8 := by kernel_rfl
/-- Eight cells of a wide number that came in. -/
theorem open_cells8 {H : Type} {enc : TypeId × Value → H} {W : World} {base : Nat} {spare : Nat → Bool} {held : Bool} {fuel : Nat} {cs : List Value} {x : DataW H × List MemPlace}
    (h : DataW.trod enc Tryz.prog W base spare held fuel 30 cs = some x) : ∃ n : Int, Fit n ∧ cs = LB (lb n) := by
  obtain ⟨y, m, rfl, hl, h⟩ := trod_struct1 Tryz.underlying30 h
  rw [cells_wide] at hl
  dsimp only at h
  rw [cells_limbs, List.drop_zero, List.take_of_length_le (by omega)] at h
  obtain ⟨xs, k, _, _, _, hxl, hf⟩ := DataW.trod_array Tryz.underlying28 h
  have one : ∀ i, i < 8 → ∃ n : Int, cs[i]? = some (.int .u64 n) ∧ 0 ≤ n ∧ n < 18446744073709551616 := by
    intro i hi
    have hg := hf i hi
    obtain ⟨z, hz⟩ : ∃ z, xs[i]? = some z := ⟨xs[i]'(by omega), List.getElem?_eq_getElem _⟩
    rw [cells_u64, hz, Nat.mul_one] at hg
    obtain ⟨n, e, _, hw⟩ := DataW.trod_int Tryz.underlying27 hg
    refine ⟨n, ?_, u64_wf hw⟩
    have := congrArg (fun l : List Value => l[0]?) e
    simpa using this
  obtain ⟨f, hf⟩ := Deep.choose_lt one
  obtain ⟨n, hn, hb⟩ := limbs_any f fun i hi => (hf i hi).2
  refine ⟨n, hn, ?_⟩
  apply List.ext_getElem?
  intro i
  by_cases hi : i < 8
  · rw [(hf i hi).1, LB_get hi, hb i hi]
  · rw [List.getElem?_eq_none (by omega), List.getElem?_eq_none (by rw [LB_length]; omega)]
/-- A wide number that came in. -/
theorem open_wide {H : Type} {enc : TypeId × Value → H} {W' : World} {r : Reach} {b0 base : Nat} {spare : Nat → Bool} {held : Bool} {v : Value} {d : DataW H} {p : List MemPlace}
    (hv : Value.okWide Tryz.prog W' r b0 30 v) (h : DataW.Trod enc Tryz.prog W' base spare held 30 v d p) : ∃ n : Int, v = W n ∧ Fit n := by
  obtain ⟨cs, rfl, hsz⟩ := okWide_struct Tryz.underlying30 hv
  obtain ⟨fuel, hf⟩ := h
  obtain ⟨n, hn, e⟩ := open_cells8 hf
  refine ⟨n, ?_, hn⟩
  cases cs
  simp only [Value.cells] at e
  subst e
  rfl
structure S3 where (x y z : Int)
def S3.fit (n : S3) : Prop := Fit n.x ∧ Fit n.y ∧ Fit n.z
end Go.Proofs.YtbdkbmhejoakiaaGreatDoor
