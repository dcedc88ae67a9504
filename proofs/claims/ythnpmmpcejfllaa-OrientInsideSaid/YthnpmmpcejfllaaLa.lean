/-
  ninepinlaw07: awake (contract).
-/
import Derived.Test.YthnpmmpcejfllaaHh
set_option linter.unusedSimpArgs false
set_option linter.unusedVariables false
set_option maxRecDepth 100000
namespace Go.Proofs.Ythnpmmpcejfllaa
open Go Go.RowKit

set_option maxHeartbeats 2000000 in
theorem awake7 (w : World) : Calls Try.prog 11 #[] w (Ret (.bool true) w) := by
  have S1 : ∀ w, Calls Try.prog 19 #[PV ⟨0, 0, 0⟩, PV ⟨1, 0, 0⟩, PV ⟨0, 1, 0⟩, PV ⟨5, 5, 1⟩] w (Ret (.tuple #[.int .i64 1, .int .i64 0]) w) := side_any ⟨0, 0, 0⟩ ⟨1, 0, 0⟩ ⟨0, 1, 0⟩ ⟨5, 5, 1⟩
  have hps : ∀ w g, w.heap[g]? = some (.cells [.int .i64 0, .int .i64 0, .int .i64 0, .int .i64 4, .int .i64 0, .int .i64 0, .int .i64 0, .int .i64 4, .int .i64 0].toArray 33 (0, 0)) →
      Calls Try.prog 17 #[.slice (some ⟨g, 0, none⟩) 3 3, PV ⟨1, 1, 0⟩] w (Ret (.tuple #[.bool true, .int .i64 0]) w) := fun w g h =>
    inside3 ⟨0, 0, 0⟩ ⟨4, 0, 0⟩ ⟨0, 4, 0⟩ ⟨1, 1, 0⟩ (by decide) (by decide) (by decide) w g 0 3 _ _ h rfl
  have hps2 : ∀ w g, w.heap[g]? = some (.cells [.int .i64 0, .int .i64 0, .int .i64 0, .int .i64 4, .int .i64 0, .int .i64 0, .int .i64 0, .int .i64 4, .int .i64 0].toArray 33 (0, 0)) →
      Calls Try.prog 17 #[.slice (some ⟨g, 0, none⟩) 3 3, PV ⟨3, 3, 0⟩] w (Ret (.tuple #[.bool false, .int .i64 0]) w) := fun w g h =>
    inside3 ⟨0, 0, 0⟩ ⟨4, 0, 0⟩ ⟨0, 4, 0⟩ ⟨3, 3, 0⟩ (by decide) (by decide) (by decide) w g 0 3 _ _ h rfl
  have hrk : ∀ w g, w.heap[g]? = some (.cells [.int .i64 0, .int .i64 0, .int .i64 0, .int .i64 2, .int .i64 0, .int .i64 0, .int .i64 4, .int .i64 0, .int .i64 0].toArray 33 (0, 0)) →
      Calls Try.prog 12 #[.slice (some ⟨g, 0, none⟩) 3 3] w (Ret (.tuple #[.int .i64 1, .int .i64 0]) w) := fun w g h =>
    rank_any (ps := [⟨0, 0, 0⟩, ⟨2, 0, 0⟩, ⟨4, 0, 0⟩]) (by unfold maxLen; decide) w (.inr ⟨g, 0, 3, _, _, _, rfl, h, rfl⟩)
  have hin : ∀ (x : Int), (x = 1 ∨ x = 3) → ∀ w g, w.heap[g]? = some (.cells [.int .i64 0, .int .i64 0, .int .i64 0, .int .i64 4, .int .i64 0, .int .i64 0, .int .i64 0, .int .i64 4, .int .i64 0].toArray 33 (0, 0)) →
      Calls Try.prog 17 #[.slice (some ⟨g, 0, none⟩) 3 3, .agg #[.int .i64 x, .int .i64 x, .int .i64 0]] w (Ret (.tuple #[.bool (x == 1), .int .i64 0]) w) := fun x hx w g h => by
    rcases hx with rfl | rfl
    · exact hps w g h
    · exact hps2 w g h
  have HS := Lib.hid S1
  have HI := Lib.hid hin
  have HR := Lib.hid hrk
  clear S1 hps hps2 hrk hin
  go_enter Try.func11, Try.ntmps11
  have hp := Hp.start [] w
  go_wp2_with (first
          | ((with_reducible apply sx_buildSlice hp); infer_instance; (first | exact AggTy.size | exact OneTy.size); infer_instance; exact zl rfl; decide; (first | exact (rfl : _ = numbered 0 [_]) | exact (rfl : _ = numbered 0 [_, _]) | exact (rfl : _ = numbered 0 [_, _, _]) | exact (rfl : _ = numbered 0 [_, _, _, _])); exact rfl; (first | exact (rfl : _ = List.map (fun x : List Value => x.toArray) [_]) | exact (rfl : _ = List.map (fun x : List Value => x.toArray) [_, _]) | exact (rfl : _ = List.map (fun x : List Value => x.toArray) [_, _, _]) | exact (rfl : _ = List.map (fun x : List Value => x.toArray) [_, _, _, _])); (intro l hl <;> simp only [List.mem_cons, List.not_mem_nil, or_false] at hl <;> rcases hl with rfl | rfl | rfl | rfl <;> rfl); exact rfl; clear hp; (try clear w1); intro g w1 hp; simp only [zp, zq, z0, z1])
          | ((with_reducible refine sx_call hp (HS.out _) ?_); clear hp; (try clear w1); intro w1 hp)
          | ((with_reducible refine sx_call hp (HI.out _ ?_ _ _ hp.blk) ?_); (first | exact .inl rfl | exact .inr rfl); clear hp; (try clear w1); intro w1 hp)
          | ((with_reducible refine sx_call hp (HR.out _ _ hp.blk) ?_); clear hp; (try clear w1); intro w1 hp)
          | ((with_reducible apply sx_strip); exact rfl)
          | ((with_reducible apply sx_unwanted); exact rfl; simp only [zp, zq, z0, z1]))
  exact bodyPost_ret (results_one rfl rfl) rfl ⟨rfl, hp.keep⟩
end Go.Proofs.Ythnpmmpcejfllaa
