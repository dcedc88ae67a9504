/-
  Points in slices; package orient: less, fine, Side (contracts).
-/
import Derived.Test.YthnpmmpcejfllaaGe
import Derived.Test.YthnpmmpcejfllaaSl
set_option linter.unusedSimpArgs false
set_option maxRecDepth 100000
namespace Go.Proofs.Ythnpmmpcejfllaa
open Go Go.RowKit

/-- Points, cell by cell. -/
def pcs : List P3 → List Value
  | [] => []
  | p :: ps => .int .i64 p.x :: .int .i64 p.y :: .int .i64 p.z :: pcs ps
theorem pcs_length : ∀ ps : List P3, (pcs ps).length = ps.length * 3
  | [] => rfl
  | p :: ps => by simp [pcs, pcs_length ps]; omega
theorem pcs_drop : ∀ (ps : List P3) (k : Nat) (p : P3), ps[k]? = some p → ((pcs ps).drop (k * 3)).take 3 = [.int .i64 p.x, .int .i64 p.y, .int .i64 p.z]
  | [], _, _, h => by simp at h
  | q :: ps, 0, p, h => by simp at h; subst h; rfl
  | q :: ps, k + 1, p, h => by
    have := pcs_drop ps k p (by simpa using h)
    rw [show (k + 1) * 3 = k * 3 + 3 by omega, pcs]
    simpa using this
theorem pcs_at {bc : List Value} {off : Nat} {ps : List P3} (h : (bc.drop off).take (ps.length * 3) = pcs ps) {k : Nat} {p : P3} (hk : ps[k]? = some p) : (bc.drop (off + k * 3)).take 3 = [.int .i64 p.x, .int .i64 p.y, .int .i64 p.z] := by
  have hlt : k < ps.length := by
    rcases Nat.lt_or_ge k ps.length with h' | h'
    · exact h'
    · rw [List.getElem?_eq_none h'] at hk; cases hk
  rw [← pcs_drop ps k p hk, ← h, List.drop_take, List.take_take, List.drop_drop, show min 3 (ps.length * 3 - k * 3) = 3 by omega]
theorem pcs_room {bc : List Value} {off : Nat} {ps : List P3} (h : (bc.drop off).take (ps.length * 3) = pcs ps) : ps = [] ∨ off + ps.length * 3 ≤ bc.length := by
  cases ps with
  | nil => exact .inl rfl
  | cons p ps =>
    right
    have := congrArg List.length h
    rw [pcs_length] at this
    simp at this
    simp
    omega
/-- A slice of points, as it lies in a world. -/
def PSl (w : World) (v : Value) (ps : List P3) : Prop :=
  (v = .slice none 0 0 ∧ ps = []) ∨ ∃ g off cap bc t z, v = .slice (some ⟨g, off, none⟩) ps.length cap ∧ w.heap[g]? = some (.cells (bc : List Value).toArray t z) ∧ (bc.drop off).take (ps.length * 3) = pcs ps
theorem PSl.keep {w w' : World} {v : Value} {ps : List P3} (h : PSl w v ps) (hk : Keep [] w w') : PSl w' v ps := by
  rcases h with h | ⟨g, off, cap, bc, t, z, h1, h2, h3⟩
  · exact .inl h
  · refine .inr ⟨g, off, cap, bc, t, z, h1, ?_, h3⟩
    have hlt : g < w.heap.size := by
      rcases Nat.lt_or_ge g w.heap.size with h' | h'
      · exact h'
      · rw [Array.getElem?_eq_none h'] at h2; cases h2
    rw [hk.block g hlt (by simp)]
    exact h2
def fineb (ps : List P3) : Bool := ps.all fun p => decide p.may

set_option maxHeartbeats 1000000 in
theorem oless_any (a b : P3) (h : (a.sub b).i64) (w : World) : Calls Try.prog 41 #[PV a, PV b] w (Ret (PV (a.sub b)) w) := by
  obtain ⟨ax, ay, az⟩ := a
  obtain ⟨bx, by', bz⟩ := b
  obtain ⟨h1, h2, h3⟩ := h
  unfold P3.sub I64 at *
  dsimp only at h1 h2 h3 ⊢
  go_enter Try.func41, Try.ntmps41
  have hp := Hp.start [] w
  go_wp2_with (first
          | ((with_reducible apply sx_box hp); exact za rfl; exact rfl; clear hp; (try clear w1); intro g w1 hp; simp only [zp, zq, z0, z1])
          | ((with_reducible apply sx_alloc hp); infer_instance; exact rfl; clear hp; (try clear w1); intro g w1 hp; simp only [zp, zq, z0, z1])
          | ((with_reducible apply sx_load_one hp); exact zt rfl; infer_instance; infer_instance; (first | exact zio rfl | exact LB_get (by omega)); simp only [zp, zq, z0, z1])
          | ((with_reducible apply sx_store hp); exact zt rfl; exact za rfl; exact rfl; (first | exact AggTy.size | exact OneTy.size); exact rfl; infer_instance; (first | (with_reducible exact LB_set (by omega)) | (simp only [n0, Nat.reduceAdd, n1, n2, n3, n4, n5, n6, n7, n8, n9]; try rfl)); (first | exact zl rfl | exact LB_le (by omega)); exact rfl; infer_instance; clear hp; (try clear w1); intro w1 hp))
  exact bodyPost_ret (results_one rfl ⟨_, rfl, run_load_agg hp (Nat.le_of_ble_eq_true rfl)⟩) rfl ⟨rfl, hp.keep⟩
set_option maxHeartbeats 2000000 in
theorem fine_far (ps : List P3) (r : Bool) (Hr : Hid (r = fineb ps)) (hlen : ps.length ≤ maxLen) (w : World) (g off cap : Nat) (bc : List Value) (t : TypeId) {z : Nat × Nat} (hb : w.heap[g]? = some (.cells bc.toArray t z)) (hv : (bc.drop off).take (ps.length * 3) = pcs ps) :
    Calls Try.prog 29 #[.slice (some ⟨g, off, none⟩) ps.length cap] w (Ret (.bool r) w) := by
  have Hv := Lib.hid hv
  clear hv
  unfold maxLen at hlen
  go_enter Try.func29, Try.ntmps29
  have hp := Hp.start [] w
  go_wp2_with (first
          | ((with_reducible apply sx_alloc hp); infer_instance; exact rfl; clear hp; (try clear w1); intro g w1 hp; simp only [zp, zq, z0, z1])
          | ((with_reducible apply sx_load_agg hp); exact zt rfl; infer_instance; infer_instance; (first | exact zl rfl | exact LB_le (by omega)); (first | (with_reducible exact LB_set (by omega)) | (simp only [n0, Nat.reduceAdd, n1, n2, n3, n4, n5, n6, n7, n8, n9]; try rfl)); simp only [zp, zq, z0, z1])
          | ((with_reducible apply sx_store hp); exact zt rfl; exact za rfl; exact rfl; (first | exact AggTy.size | exact OneTy.size); exact rfl; infer_instance; (first | (with_reducible exact LB_set (by omega)) | (simp only [n0, Nat.reduceAdd, n1, n2, n3, n4, n5, n6, n7, n8, n9]; try rfl)); (first | exact zl rfl | exact LB_le (by omega)); exact rfl; infer_instance; clear hp; (try clear w1); intro w1 hp)
          | ((with_reducible apply sx_indexAddr); exact zx rfl; exact zk rfl; infer_instance; (first | exact AggTy.size | exact OneTy.size); omega; omega; ((try simp only [m0, Int.reduceToNat, m1, m2, Nat.reduceMul, Nat.reduceAdd, m3, m4, m5, n0]); exact rfl); simp only [zp, zq, z0, z1])
          | ((with_reducible apply sx_load_far hp); exact zt rfl; assumption; infer_instance; assumption; (first | exact zl rfl | omega); simp only [zp, zq, z0, z1]))
  go_loopw [7] (fun i wr => ∃ k : Nat, k ≤ ps.length ∧ i = .int .i64 k ∧ fineb (ps.take k) = true ∧ Hp [] w [] wr) (fun i _ => ps.length - (intOf i).toNat)
  case atStart => exact ⟨0, by omega, rfl, rfl, hp⟩
  case round =>
    clear hp
    obtain ⟨k, hk, rfl, hf, hp⟩ := hrel
    have Hf := Lib.hid hf
    clear hf
    by_cases hk1 : k < ps.length
    · obtain ⟨p, hpk⟩ : ∃ p, ps[k]? = some p := ⟨_, List.getElem?_eq_getElem hk1⟩
      have hat := pcs_at Hv.out hpk
      have hroom : off + k * 3 + 3 ≤ bc.length := by
        rcases pcs_room Hv.out with h | h
        · subst h; simp at hk1
        · omega
      have Hpk := Lib.hid hpk
      clear hpk
      have hch := check_any p
      by_cases hm : p.may
      · simp only [if_pos hm] at hch
        have Hch := Lib.hid hch
        clear hch
        go_wp2_with (first
          | ((with_reducible apply sx_alloc hp); infer_instance; exact rfl; clear hp; (try clear w1); intro g w1 hp; simp only [zp, zq, z0, z1])
          | ((with_reducible apply sx_load_agg hp); exact zt rfl; infer_instance; infer_instance; (first | exact zl rfl | exact LB_le (by omega)); (first | (with_reducible exact LB_set (by omega)) | (simp only [n0, Nat.reduceAdd, n1, n2, n3, n4, n5, n6, n7, n8, n9]; try rfl)); simp only [zp, zq, z0, z1])
          | ((with_reducible apply sx_store hp); exact zt rfl; exact za rfl; exact rfl; (first | exact AggTy.size | exact OneTy.size); exact rfl; infer_instance; (first | (with_reducible exact LB_set (by omega)) | (simp only [n0, Nat.reduceAdd, n1, n2, n3, n4, n5, n6, n7, n8, n9]; try rfl)); (first | exact zl rfl | exact LB_le (by omega)); exact rfl; infer_instance; clear hp; (try clear w1); intro w1 hp)
          | ((with_reducible apply sx_indexAddr); exact zx rfl; exact zk rfl; infer_instance; (first | exact AggTy.size | exact OneTy.size); omega; omega; ((try simp only [m0, Int.reduceToNat, m1, m2, Nat.reduceMul, Nat.reduceAdd, m3, m4, m5, n0]); exact rfl); simp only [zp, zq, z0, z1])
          | ((with_reducible apply sx_load_far hp); exact zt rfl; assumption; infer_instance; assumption; (first | exact zl rfl | omega); simp only [zp, zq, z0, z1])
          | ((with_reducible refine sx_call hp (Hch.out _) ?_); clear hp; (try clear w1); intro w1 hp))
        go_roundw
        case rel =>
          refine ⟨k + 1, by omega, by go_num, ?_, hp.sub (List.nil_sublist _)⟩
          rw [fineb, List.take_add_one, Hpk.out, List.all_append]
          simp [hm]
          simpa [fineb] using Hf.out
        case measure => simp [intOf]; omega
      · simp only [if_neg hm] at hch
        have Hch := Lib.hid hch
        clear hch
        have hr : r = false := by
          rw [Hr.out, fineb, List.all_eq_false]
          exact ⟨p, List.mem_of_getElem? Hpk.out, by simp [hm]⟩
        subst hr
        go_wp2_with (first
          | ((with_reducible apply sx_alloc hp); infer_instance; exact rfl; clear hp; (try clear w1); intro g w1 hp; simp only [zp, zq, z0, z1])
          | ((with_reducible apply sx_load_agg hp); exact zt rfl; infer_instance; infer_instance; (first | exact zl rfl | exact LB_le (by omega)); (first | (with_reducible exact LB_set (by omega)) | (simp only [n0, Nat.reduceAdd, n1, n2, n3, n4, n5, n6, n7, n8, n9]; try rfl)); simp only [zp, zq, z0, z1])
          | ((with_reducible apply sx_store hp); exact zt rfl; exact za rfl; exact rfl; (first | exact AggTy.size | exact OneTy.size); exact rfl; infer_instance; (first | (with_reducible exact LB_set (by omega)) | (simp only [n0, Nat.reduceAdd, n1, n2, n3, n4, n5, n6, n7, n8, n9]; try rfl)); (first | exact zl rfl | exact LB_le (by omega)); exact rfl; infer_instance; clear hp; (try clear w1); intro w1 hp)
          | ((with_reducible apply sx_indexAddr); exact zx rfl; exact zk rfl; infer_instance; (first | exact AggTy.size | exact OneTy.size); omega; omega; ((try simp only [m0, Int.reduceToNat, m1, m2, Nat.reduceMul, Nat.reduceAdd, m3, m4, m5, n0]); exact rfl); simp only [zp, zq, z0, z1])
          | ((with_reducible apply sx_load_far hp); exact zt rfl; assumption; infer_instance; assumption; (first | exact zl rfl | omega); simp only [zp, zq, z0, z1])
          | ((with_reducible refine sx_call hp (Hch.out _) ?_); clear hp; (try clear w1); intro w1 hp))
        exact bodyPost_ret (results_one rfl rfl) rfl ⟨rfl, hp.keep⟩
    · obtain rfl : k = ps.length := by omega
      have hr : r = true := by
        rw [Hr.out]
        have := Hf.out
        rwa [List.take_length] at this
      subst hr
      go_wp2_with (first
          | ((with_reducible apply sx_alloc hp); infer_instance; exact rfl; clear hp; (try clear w1); intro g w1 hp; simp only [zp, zq, z0, z1])
          | ((with_reducible apply sx_load_agg hp); exact zt rfl; infer_instance; infer_instance; (first | exact zl rfl | exact LB_le (by omega)); (first | (with_reducible exact LB_set (by omega)) | (simp only [n0, Nat.reduceAdd, n1, n2, n3, n4, n5, n6, n7, n8, n9]; try rfl)); simp only [zp, zq, z0, z1])
          | ((with_reducible apply sx_store hp); exact zt rfl; exact za rfl; exact rfl; (first | exact AggTy.size | exact OneTy.size); exact rfl; infer_instance; (first | (with_reducible exact LB_set (by omega)) | (simp only [n0, Nat.reduceAdd, n1, n2, n3, n4, n5, n6, n7, n8, n9]; try rfl)); (first | exact zl rfl | exact LB_le (by omega)); exact rfl; infer_instance; clear hp; (try clear w1); intro w1 hp)
          | ((with_reducible apply sx_indexAddr); exact zx rfl; exact zk rfl; infer_instance; (first | exact AggTy.size | exact OneTy.size); omega; omega; ((try simp only [m0, Int.reduceToNat, m1, m2, Nat.reduceMul, Nat.reduceAdd, m3, m4, m5, n0]); exact rfl); simp only [zp, zq, z0, z1])
          | ((with_reducible apply sx_load_far hp); exact zt rfl; assumption; infer_instance; assumption; (first | exact zl rfl | omega); simp only [zp, zq, z0, z1]))
      exact bodyPost_ret (results_one rfl rfl) rfl ⟨rfl, hp.keep⟩
end Go.Proofs.Ythnpmmpcejfllaa
