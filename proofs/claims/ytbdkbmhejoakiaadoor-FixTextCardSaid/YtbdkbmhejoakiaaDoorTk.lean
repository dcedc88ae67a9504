/-
  strconv.FormatUint at base 10: every number.
-/
import Derived.Test.YtbdkbmhejoakiaaDoorTl
import Derived.Test.YtbdkbmhejoakiaaDoorHeb
import Derived.Lib.AppendIntMem
set_option linter.unusedSimpArgs false
set_option linter.unusedVariables false
set_option maxRecDepth 100000
namespace Go.Proofs.YtbdkbmhejoakiaaDoor
open Go Go.RowKit Go.Sort Go.Lib Go.Shelf
attribute [local irreducible] wpList

theorem keep_grow (w : World) (k : Nat) (os : Array Obj) : Keep [] w (grow (w.drewN k) os) := by
  have h1 : Keep [] w (w.drewN k) := by
    induction k with
    | zero => rw [World.drewN_zero]; exact Keep.refl _ _
    | succ k ih => exact ⟨ih.os, ih.tape, ih.output, ih.size, ih.block⟩
  refine ⟨h1.os, h1.tape, h1.output, ?_, fun i hi hx => ?_⟩
  · show w.heap.size ≤ ((w.drewN k).heap ++ os).size
    rw [Array.size_append]
    have := h1.size
    omega
  · show ((w.drewN k).heap ++ os)[i]? = _
    rw [Array.getElem?_append_left (Nat.lt_of_lt_of_le hi h1.size)]
    exact h1.block i hi hx
set_option maxHeartbeats 6400000 in
theorem ifmt_any (u : Nat) (hu64 : u < 18446744073709551616) (w : World) (htab : Lib.TabIs Tryd.prog w "internal/strconv.uint64pow10" .u64 Lib.pow10Tab) :
    Calls Tryd.prog 59 #[.int .u64 u, .int .i64 10] w (Ret (.string ⟨(Lib.decDigits u).toArray⟩) w) := by
  by_cases hs : u < 100
  · have S1 : Hid (∀ w, Calls Tryd.prog 79 #[.int .i64 u] w (Ret (.string ⟨(Lib.decDigits u).toArray⟩) w)) := Lib.hid (fun w => (Any.internal_strconv_small { lays245 with } u hs w).mono fun e w' h => ⟨h.1, by rw [h.2]; exact Keep.refl _ _⟩)
    have hs' : (u : Int) < 100 := by omega
    generalize Lib.decDigits u = D at *
    clear hs htab hu64
    go_enter Tryd.func59, Tryd.ntmps59
    have hp := Hp.start [] w
    go_wp2_with (first
          | ((with_reducible apply sx_alloc hp); infer_instance; exact rfl; clear hp; (try clear w1); intro g w1 hp; simp only [zp, zq, z0, z1])
          | ((with_reducible refine sx_call hp (S1.out _) ?_); clear hp; (try clear w1); intro w1 hp))
    exact bodyPost_ret (results_one rfl rfl) rfl ⟨rfl, hp.keep⟩
  · have hu1 : 1 ≤ u := by omega
    have hnd20 : Lib.nDigits u ≤ 20 := by have := Lib.numDigits_eq u hu1 hu64; split at this <;> omega
    have hb3 : Lib.nDigits u ≤ 24 := by omega
    have hal : Tryd.prog.arrayLen 92 = 24 := by simp [Program.arrayLen, Tryd.underlying92]
    have hsl1 : ∀ W, (Instr.sliceAt 92 (.pointer (some ⟨w.heap.size, 0, none⟩)) none (some (.int .i64 (Lib.nDigits u : Int))) none).run Tryd.prog W = .ok (.slice (some ⟨w.heap.size, 0, none⟩) (Lib.nDigits u) 24) W := fun W => by
      rw [run_sliceAt_array_h W 92 ⟨w.heap.size, 0, none⟩ (by simp [Program.arrayLen, Program.elem, Tryd.underlying92]) .i64 (Lib.nDigits u : Int) (by omega) (by rw [hal]; omega)]
      go_simp
    have hH0 := Lib.holds_zero0 w 92 (Lib.nDigits u) hb3
    have hfmt := Any.internal_strconv_formatBase10 { lays245 with } w.heap.size 0 24 u (Array.replicate (Lib.nDigits u) 0) (w.alloc (.cells Lib.zeros24 92)) hH0 (by rw [Array.size_replicate]; exact Lib.lt_pow_nDigits u) hu64 (by rw [Array.size_replicate]; omega)
    rw [Array.size_replicate] at hfmt
    have ND := Lib.hid (Any.internal_strconv_numDigits { lays245 with } u hu1 hu64 (w.alloc (.cells Lib.zeros24 92)) (Lib.tabIs_alloc htab _))
    have HH0 := Lib.hid hH0
    have HF := Lib.hid hfmt
    have hs' : ¬ (u : Int) < 100 := by omega
    have hcvT : ∀ (k v' : Nat) (dk : Array UInt8), FmtInv (Lib.nDigits u) u 0 v' dk → (convert 57 9 (.slice (some ⟨w.heap.size, 0, none⟩) (Lib.nDigits u) 24)).run Tryd.prog ((putRow (fun (b : UInt8) => Value.int .u8 (b.toNat : Int)) (w.alloc (.cells Lib.zeros24 92)) w.heap.size 0 dk).drewN k) = .ok (.string ⟨(Lib.decDigits u).toArray⟩) ((putRow (fun (b : UInt8) => Value.int .u8 (b.toNat : Int)) (w.alloc (.cells Lib.zeros24 92)) w.heap.size 0 dk).drewN k) := by
      intro k v' dk hF
      have h := run_convert_bytes_back (P := Tryd.prog) ((putRow (fun (b : UInt8) => Value.int .u8 (b.toNat : Int)) (w.alloc (.cells Lib.zeros24 92)) w.heap.size 0 dk).drewN k) 57 9 5 ⟨w.heap.size, 0, none⟩ 24 (Lib.decDigits u) Tryd.underlying57 Tryd.underlying5 Tryd.underlying9 (fun j hj => by
        rw [Lib.row_is_numeral hF j hj, Lib.add_plain, World.cell?_drewN]
        exact cell?_putRow (fun (b : UInt8) => Value.int .u8 (b.toNat : Int)) _ w.heap.size 0 _ dk hH0 (by rw [hF.size, Array.size_replicate]) j (by rw [hF.size]; rw [Lib.decDigits_length] at hj; exact hj))
      rw [Lib.decDigits_length] at h
      exact h
    have HC := Lib.hid hcvT
    clear hH0 hal hfmt hs hcvT
    go_enter Tryd.func59, Tryd.ntmps59
    have hp := Hp.start [] w
    clear hp
    go_wp2_with (first | ((refine Calls.mono ND.out ?_); (rintro e w' ⟨rfl, rfl⟩)) | ((refine Calls.mono HF.out ?_); (rintro e w' ⟨rfl, k, v', dk, rfl, hF⟩); (have hcv := HC.out k v' dk hF)))
    obtain ⟨os, eo⟩ := Lib.fin_at w (.cells Lib.zeros24 92) dk k 0
    exact bodyPost_ret (results_one rfl rfl) rfl ⟨rfl, by rw [eo]; exact keep_grow w k os⟩
theorem ffmt_any (u : Nat) (hu64 : u < 18446744073709551616) (w : World) (htab : Lib.TabIs Tryd.prog w "internal/strconv.uint64pow10" .u64 Lib.pow10Tab) :
    Calls Tryd.prog 34 #[.int .u64 u, .int .i64 10] w (Ret (.string ⟨(Lib.decDigits u).toArray⟩) w) := by
  have I1 := Lib.hid (ifmt_any u hu64 w htab)
  generalize Lib.decDigits u = D at *
  clear htab hu64
  go_enter Tryd.func34, Tryd.ntmps34
  have hp := Hp.start [] w
  go_wp2_with (first
          | ((with_reducible refine sx_call hp (I1.out) ?_); clear hp; (try clear w1); intro w1 hp))
  exact bodyPost_ret (results_one rfl rfl) rfl ⟨rfl, hp.keep⟩
end Go.Proofs.YtbdkbmhejoakiaaDoor
