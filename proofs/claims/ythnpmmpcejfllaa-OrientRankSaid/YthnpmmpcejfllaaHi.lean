/-
  Package orient: Inside, of three points that are a simplex (contract).
-/
import Derived.Test.YthnpmmpcejfllaaHh
set_option linter.unusedSimpArgs false
set_option linter.unusedVariables false
set_option maxRecDepth 100000
namespace Go.Proofs.Ythnpmmpcejfllaa
open Go Go.RowKit

theorem fine_one (p : P3) (w : World) (g : Nat) (h : w.heap[g]? = some (.cells [.int .i64 p.x, .int .i64 p.y, .int .i64 p.z].toArray 33 (0, 0))) : Calls Try.prog 29 #[.slice (some ⟨g, 0, none⟩) 1 1] w (Ret (.bool (fineb [p])) w) :=
  fine_far [p] _ (Lib.hid rfl) (by unfold maxLen; simp) w g 0 1 _ _ h rfl
set_option maxHeartbeats 2000000 in
theorem inside3 (a b c p : P3) (hf : fineb [a, b, c] = true) (hpm : p.may) (hs : simplexb [a, b, c] = true) (w : World) (g0 off cap : Nat) (bc : List Value) (t : TypeId) {z : Nat × Nat} (hbk : w.heap[g0]? = some (.cells bc.toArray t z)) (hv : (bc.drop off).take (3 * 3) = pcs [a, b, c]) :
    Calls Try.prog 17 #[.slice (some ⟨g0, off, none⟩) 3 cap, PV p] w (Ret (.tuple #[.bool (withinb a b c p), .int .i64 0]) w) := by
  have hps : PSl w (.slice (some ⟨g0, off, none⟩) 3 cap) [a, b, c] := .inr ⟨g0, off, cap, bc, t, z, rfl, hbk, hv⟩
  have hfn : ∀ w1, Keep [] w w1 → Calls Try.prog 29 #[.slice (some ⟨g0, off, none⟩) 3 cap] w1 (Ret (.bool true) w1) := fun w1 hk => by
    rw [← hf]
    exact fine_any (by unfold maxLen; simp) w1 (hps.keep hk)
  have hsx : ∀ w1, Keep [] w w1 → Calls Try.prog 30 #[.slice (some ⟨g0, off, none⟩) 3 cap] w1 (Ret (.bool true) w1) := fun w1 hk => by
    rw [← hs]
    exact simplex_any (by unfold maxLen; simp) w1 (hps.keep hk)
  have hone : ∀ w1 g, w1.heap[g]? = some (.cells [.int .i64 p.x, .int .i64 p.y, .int .i64 p.z].toArray 33 (0, 0)) → Calls Try.prog 29 #[.slice (some ⟨g, 0, none⟩) 1 1] w1 (Ret (.bool true) w1) := fun w1 g h => by
    have := fine_one p w1 g h
    rwa [show fineb [p] = true by simp [fineb, hpm]] at this
  have hin : ∀ w1, Keep [] w w1 → Calls Try.prog 32 #[.slice (some ⟨g0, off, none⟩) 3 cap, PV p] w1 (Ret (.bool (withinb a b c p)) w1) := fun w1 hk => by
    have hlt : g0 < w.heap.size := by
      rcases Nat.lt_or_ge g0 w.heap.size with h' | h'
      · exact h'
      · rw [Array.getElem?_eq_none h'] at hbk; cases hbk
    have hl := pcs_room (ps := [a, b, c]) hv
    have hat := fun k q (h : [a, b, c][k]? = some q) => pcs_at (ps := [a, b, c]) hv h
    exact within_any a b c p (fineb_mem hf (by simp)) (fineb_mem hf (by simp)) (fineb_mem hf (by simp)) hpm _ (Lib.hid rfl) w1 g0 off cap bc t ((hk.block g0 hlt (by simp)).trans hbk) (by rcases hl with h | h; cases h; simpa using h) (hat 0 a rfl) (hat 1 b rfl) (hat 2 c rfl)
  have Hfn := Lib.hid hfn
  have Hsx := Lib.hid hsx
  have Hone := Lib.hid hone
  have Hin := Lib.hid hin
  clear hfn hsx hone hin hps hf hs hpm hbk hv
  go_enter Try.func17, Try.ntmps17
  have hp := Hp.start [] w
  go_wp2_with (first
          | ((with_reducible apply sx_box hp); exact za rfl; exact rfl; clear hp; (try clear w1); intro g w1 hp; simp only [zp, zq, z0, z1])
          | ((with_reducible apply sx_load_agg hp); exact zt rfl; infer_instance; infer_instance; (first | exact zl rfl | exact LB_le (by omega)); (first | (with_reducible exact LB_set (by omega)) | (simp only [n0, Nat.reduceAdd, n1, n2, n3, n4, n5, n6, n7, n8, n9]; try rfl)); simp only [zp, zq, z0, z1])
          | ((with_reducible apply sx_indexAddr); exact zx rfl; exact zk rfl; infer_instance; (first | exact AggTy.size | exact OneTy.size); omega; omega; ((try simp only [m0, Int.reduceToNat, m1, m2, Nat.reduceMul, Nat.reduceAdd, m3, m4, m5, n0]); exact rfl); simp only [zp, zq, z0, z1])
          | ((with_reducible apply sx_load_far hp); exact zt rfl; assumption; infer_instance; assumption; (first | exact zl rfl | omega); simp only [zp, zq, z0, z1])
          | ((with_reducible apply sx_buildSlice hp); infer_instance; (first | exact AggTy.size | exact OneTy.size); infer_instance; exact zl rfl; decide; (first | exact (rfl : _ = numbered 0 [_]) | exact (rfl : _ = numbered 0 [_, _]) | exact (rfl : _ = numbered 0 [_, _, _]) | exact (rfl : _ = numbered 0 [_, _, _, _])); exact rfl; (first | exact (rfl : _ = List.map (fun x : List Value => x.toArray) [_]) | exact (rfl : _ = List.map (fun x : List Value => x.toArray) [_, _]) | exact (rfl : _ = List.map (fun x : List Value => x.toArray) [_, _, _]) | exact (rfl : _ = List.map (fun x : List Value => x.toArray) [_, _, _, _])); (intro l hl <;> simp only [List.mem_cons, List.not_mem_nil, or_false] at hl <;> rcases hl with rfl | rfl | rfl | rfl <;> rfl); exact rfl; clear hp; (try clear w1); intro g w1 hp; simp only [zp, zq, z0, z1])
          | ((with_reducible apply sx_strip); exact rfl)
          | ((with_reducible apply sx_unwanted); exact rfl; simp only [zp, zq, z0, z1])
          | ((with_reducible refine sx_call hp (Hfn.out _ hp.keep) ?_); clear hp; (try clear w1); intro w1 hp)
          | ((with_reducible refine sx_call hp (Hone.out _ _ hp.blk) ?_); clear hp; (try clear w1); intro w1 hp)
          | ((with_reducible refine sx_call hp (Hsx.out _ hp.keep) ?_); clear hp; (try clear w1); intro w1 hp)
          | ((with_reducible refine sx_call hp (Hin.out _ hp.keep) ?_); clear hp; (try clear w1); intro w1 hp))
  exact bodyPost_ret (results_two rfl rfl rfl) rfl ⟨rfl, hp.keep⟩
end Go.Proofs.Ythnpmmpcejfllaa
