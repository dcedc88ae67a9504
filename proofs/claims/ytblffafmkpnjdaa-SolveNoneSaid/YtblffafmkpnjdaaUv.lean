/-
  Law 23: slices read at one place; the same bodies, the same rows; a row among arguments.
-/
import Derived.Test.YtblffafmkpnjdaaUp
import Derived.Test.YtblffafmkpnjdaaLt
set_option linter.unusedSimpArgs false
set_option linter.unusedVariables false
set_option maxRecDepth 100000
namespace Go.Proofs.Ytblffafmkpnjdaa
open Go Go.RowKit Go.ChangeShapes Go.WideShapes Go.ChangeAt Go.Joins
attribute [local irreducible] wpList

@[go_sem 100000] theorem eq_inr_self (w : World) (d : Nat) (b : Inr) : (Op.equalIn (d + 5) 40 (.agg #[.int .i64 b.m, .int .i64 b.p.x, .int .i64 b.p.y, .int .i64 b.p.z, .int .i64 b.q.x, .int .i64 b.q.y, .int .i64 b.q.z, .int .i64 b.r.x, .int .i64 b.r.y, .int .i64 b.r.z, .int .i64 b.v.x, .int .i64 b.v.y, .int .i64 b.v.z, .int .i64 b.s.x, .int .i64 b.s.y, .int .i64 b.s.z]) (.agg #[.int .i64 b.m, .int .i64 b.p.x, .int .i64 b.p.y, .int .i64 b.p.z, .int .i64 b.q.x, .int .i64 b.q.y, .int .i64 b.q.z, .int .i64 b.r.x, .int .i64 b.r.y, .int .i64 b.r.z, .int .i64 b.v.x, .int .i64 b.v.y, .int .i64 b.v.z, .int .i64 b.s.x, .int .i64 b.s.y, .int .i64 b.s.z])).run Try.prog w = .ok true w := by
  rw [eq_inr w d b b, decide_eq_true rfl]
theorem FSl.shapeN {α : Type} {f : α → List Value} {m n : Nat} {w : World} {v : Value} {L : List α} (h : FSl f m w v L) (hn : L.length = n) : ∃ b c, v = .slice b n c := by
  subst hn
  exact h.shape
theorem fsl_at {α : Type} {f : α → List Value} {m n k : Nat} {w : World} {b : Option Addr} {c : Nat} {L : List α} (h : FSl f m w (.slice b n c) L) (hm : 0 < m) (hf : ∀ x, (f x).length = m) (hk : k < L.length) :
    ∃ g off bc t z, b = some ⟨g, off, none⟩ ∧ w.heap[g]? = some (.cells (bc : List Value).toArray t z) ∧ (bc.drop (off + k * m)).take m = f L[k] ∧ off + k * m + m ≤ bc.length := by
  obtain ⟨g, off, cap, bc, t, z, e, h1, h2⟩ := h.some (by intro e; rw [e] at hk; cases hk)
  injection e with e1 e2 e3
  obtain ⟨h3, h4⟩ := fl_at hm hf h2 hk
  exact ⟨g, off, bc, t, z, e1, h1, h3, h4⟩
set_option maxHeartbeats 2000000 in
theorem same_bodies0 (L : List Inr) (b0 b1 : Option Addr) (c0 c1 n : Nat) (hn : n ≤ 4294967296) (w : World) (HL : Hid (L.length = n)) (H1 : Hid (FSl NVl 16 w (.slice b0 n c0) L)) (H2 : Hid (FSl NVl 16 w (.slice b1 n c1) L)) : Calls Try.prog 20 #[.slice b0 n c0, .slice b1 n c1] w (Ret (.bool true) w) := by
  go_enter Try.func20, Try.ntmps20
  have hp := Hp.start [] w
  go_wp2_with (first
          | ((with_reducible apply sx_load_agg hp); exact zt rfl; infer_instance; infer_instance; (first | exact zl rfl | exact LB_le (by omega)); (first | (with_reducible exact LB_set (by omega)) | (simp only [n0, Nat.reduceAdd, n1, n2, n3, n4, n5, n6, n7, n8, n9]; try rfl)); simp only [zp, zq, z0, z1])
          | ((with_reducible apply sx_indexAddr); exact zx rfl; exact zk rfl; infer_instance; (first | exact AggTy.size | exact OneTy.size); omega; omega; ((try simp only [m0, Int.reduceToNat, m1, m2, Nat.reduceMul, Nat.reduceAdd, m3, m4, m5, n0]); exact rfl); simp only [zp, zq, z0, z1])
          | ((with_reducible apply sx_load_far hp); exact zt rfl; assumption; infer_instance; assumption; (first | exact zl rfl | omega); simp only [zp, zq, z0, z1]))
  go_loopw [5] (fun i wr => ∃ k : Nat, k ≤ n ∧ i = .int .i64 k ∧ Hp [] w [] wr) (fun i _ => n - (intOf i).toNat)
  case atStart => exact ⟨0, by omega, rfl, hp⟩
  case round =>
    clear hp
    obtain ⟨k, hk, rfl, hp⟩ := hrel
    by_cases hk1 : k < n
    · have hk2 : (k : Int) < n := by omega
      obtain ⟨g1, o1, d1, t1, y1, rfl, hd1, ha1, hl1⟩ := fsl_at H1.out (by omega) NVl_length (by rw [HL.out]; exact hk1)
      obtain ⟨g3, o3, d3, t3, y3, rfl, hd3, ha3, hl3⟩ := fsl_at H2.out (by omega) NVl_length (by rw [HL.out]; exact hk1)
      have hkl : k < L.length := by rw [HL.out]; exact hk1
      generalize L[k] = bb at *
      unfold NVl at ha1 ha3
      clear hkl
      go_wp2_with (first
          | ((with_reducible apply sx_load_agg hp); exact zt rfl; infer_instance; infer_instance; (first | exact zl rfl | exact LB_le (by omega)); (first | (with_reducible exact LB_set (by omega)) | (simp only [n0, Nat.reduceAdd, n1, n2, n3, n4, n5, n6, n7, n8, n9]; try rfl)); simp only [zp, zq, z0, z1])
          | ((with_reducible apply sx_indexAddr); exact zx rfl; exact zk rfl; infer_instance; (first | exact AggTy.size | exact OneTy.size); omega; omega; ((try simp only [m0, Int.reduceToNat, m1, m2, Nat.reduceMul, Nat.reduceAdd, m3, m4, m5, n0]); exact rfl); simp only [zp, zq, z0, z1])
          | ((with_reducible apply sx_load_far hp); exact zt rfl; assumption; infer_instance; assumption; (first | exact zl rfl | omega); simp only [zp, zq, z0, z1]))
      have hq := hp
      refine wp_drawnG_hp hp hq [] (.q 0 (.q 1 (.q 2 (.q 3 (.q 4 (.q 5 (.q 6 (.q 7 (.q 8 .nil))))))))) (by kernel_rfl) (by kernel_rfl) ?_
      clear hp hq; (try clear w1); intro w1 hp hq
      repeat' (first
        | (((with_reducible apply sg_q); exact zo rfl); (first
            | ((with_reducible apply sg_load_agg hp); exact rfl; exact zt rfl; infer_instance; infer_instance; (first | exact zl rfl | exact LB_le (by omega)); (first | (with_reducible exact LB_set (by omega)) | (simp only [n0, Nat.reduceAdd, n1, n2, n3, n4, n5, n6, n7, n8, n9]; try rfl)); simp only [zp, zq, z0, z1])
            | ((with_reducible apply sg_load_far hp); exact rfl; exact zt rfl; assumption; infer_instance; assumption; (first | exact zl rfl | omega); simp only [zp, zq, z0, z1])
            | ((with_reducible apply sg_move hp); (first | exact zi rfl | exact zs rfl); simp only [zp, zq, z0, z1])
            | ((with_reducible apply sg_indexAddr hp); exact rfl; exact zx rfl; exact zk rfl; infer_instance; (first | exact AggTy.size | exact OneTy.size); omega; omega; ((try simp only [m0, Int.reduceToNat, m1, m2, Nat.reduceMul, Nat.reduceAdd, m3, m4, m5, n0]); exact rfl); simp only [zp, zq, z0, z1])
            | ((with_reducible apply sg_pure hp); exact rfl; (focus (intro _; go_simp; (try go_ints); try with_reducible rfl)); simp only [zp, zq, z0, z1])))
        | ((with_reducible apply sg_nil hq); clear hp hq; (try clear w1); intro w1 hp))
      go_wp2_with (first
          | ((with_reducible apply sx_load_agg hp); exact zt rfl; infer_instance; infer_instance; (first | exact zl rfl | exact LB_le (by omega)); (first | (with_reducible exact LB_set (by omega)) | (simp only [n0, Nat.reduceAdd, n1, n2, n3, n4, n5, n6, n7, n8, n9]; try rfl)); simp only [zp, zq, z0, z1])
          | ((with_reducible apply sx_indexAddr); exact zx rfl; exact zk rfl; infer_instance; (first | exact AggTy.size | exact OneTy.size); omega; omega; ((try simp only [m0, Int.reduceToNat, m1, m2, Nat.reduceMul, Nat.reduceAdd, m3, m4, m5, n0]); exact rfl); simp only [zp, zq, z0, z1])
          | ((with_reducible apply sx_load_far hp); exact zt rfl; assumption; infer_instance; assumption; (first | exact zl rfl | omega); simp only [zp, zq, z0, z1]))
      go_roundw
      case rel => exact ⟨k + 1, by omega, by go_num, hp.sub (List.nil_sublist _)⟩
      case measure => simp [intOf]; omega
    · obtain rfl : k = n := by omega
      go_wp2_with (first
          | ((with_reducible apply sx_load_agg hp); exact zt rfl; infer_instance; infer_instance; (first | exact zl rfl | exact LB_le (by omega)); (first | (with_reducible exact LB_set (by omega)) | (simp only [n0, Nat.reduceAdd, n1, n2, n3, n4, n5, n6, n7, n8, n9]; try rfl)); simp only [zp, zq, z0, z1])
          | ((with_reducible apply sx_indexAddr); exact zx rfl; exact zk rfl; infer_instance; (first | exact AggTy.size | exact OneTy.size); omega; omega; ((try simp only [m0, Int.reduceToNat, m1, m2, Nat.reduceMul, Nat.reduceAdd, m3, m4, m5, n0]); exact rfl); simp only [zp, zq, z0, z1])
          | ((with_reducible apply sx_load_far hp); exact zt rfl; assumption; infer_instance; assumption; (first | exact zl rfl | omega); simp only [zp, zq, z0, z1]))
      exact bodyPost_ret (results_one rfl rfl) rfl ⟨rfl, hp.keep⟩
theorem same_bodies (L : List Inr) (v1 v2 : Value) (hn : L.length ≤ 4294967296) (w : World) (h1 : FSl NVl 16 w v1 L) (h2 : FSl NVl 16 w v2 L) : Calls Try.prog 20 #[v1, v2] w (Ret (.bool true) w) := by
  obtain ⟨b0, c0, rfl⟩ := h1.shape
  obtain ⟨b1, c1, rfl⟩ := h2.shape
  exact same_bodies0 L b0 b1 c0 c1 _ hn w (Lib.hid rfl) (Lib.hid h1) (Lib.hid h2)
set_option maxHeartbeats 2000000 in
theorem same_rows0 (L : List Rw) (b0 b1 : Option Addr) (c0 c1 n : Nat) (hn : n ≤ 4294967296) (w : World) (HL : Hid (L.length = n)) (H1 : Hid (FSl RVl 25 w (.slice b0 n c0) L)) (H2 : Hid (FSl RVl 25 w (.slice b1 n c1) L)) : Calls Try.prog 21 #[.slice b0 n c0, .slice b1 n c1] w (Ret (.bool true) w) := by
  go_enter Try.func21, Try.ntmps21
  have hp := Hp.start [] w
  go_wp2_with (first
          | ((with_reducible apply sx_load_agg hp); exact zt rfl; infer_instance; infer_instance; (first | exact zl rfl | exact LB_le (by omega)); (first | (with_reducible exact LB_set (by omega)) | (simp only [n0, Nat.reduceAdd, n1, n2, n3, n4, n5, n6, n7, n8, n9]; try rfl)); simp only [zp, zq, z0, z1])
          | ((with_reducible apply sx_indexAddr); exact zx rfl; exact zk rfl; infer_instance; (first | exact AggTy.size | exact OneTy.size); omega; omega; ((try simp only [m0, Int.reduceToNat, m1, m2, Nat.reduceMul, Nat.reduceAdd, m3, m4, m5, n0]); exact rfl); simp only [zp, zq, z0, z1])
          | ((with_reducible apply sx_load_far hp); exact zt rfl; assumption; infer_instance; assumption; (first | exact zl rfl | omega); simp only [zp, zq, z0, z1]))
  go_loopw [5] (fun i wr => ∃ k : Nat, k ≤ n ∧ i = .int .i64 k ∧ Hp [] w [] wr) (fun i _ => n - (intOf i).toNat)
  case atStart => exact ⟨0, by omega, rfl, hp⟩
  case round =>
    clear hp
    obtain ⟨k, hk, rfl, hp⟩ := hrel
    by_cases hk1 : k < n
    · have hk2 : (k : Int) < n := by omega
      obtain ⟨g1, o1, d1, t1, y1, rfl, hd1, ha1, hl1⟩ := fsl_at H1.out (by omega) RVl_length (by rw [HL.out]; exact hk1)
      obtain ⟨g3, o3, d3, t3, y3, rfl, hd3, ha3, hl3⟩ := fsl_at H2.out (by omega) RVl_length (by rw [HL.out]; exact hk1)
      have hkl : k < L.length := by rw [HL.out]; exact hk1
      generalize L[k] = bb at *
      unfold RVl at ha1 ha3
      clear hkl
      go_wp2_with (first
          | ((with_reducible apply sx_load_agg hp); exact zt rfl; infer_instance; infer_instance; (first | exact zl rfl | exact LB_le (by omega)); (first | (with_reducible exact LB_set (by omega)) | (simp only [n0, Nat.reduceAdd, n1, n2, n3, n4, n5, n6, n7, n8, n9]; try rfl)); simp only [zp, zq, z0, z1])
          | ((with_reducible apply sx_indexAddr); exact zx rfl; exact zk rfl; infer_instance; (first | exact AggTy.size | exact OneTy.size); omega; omega; ((try simp only [m0, Int.reduceToNat, m1, m2, Nat.reduceMul, Nat.reduceAdd, m3, m4, m5, n0]); exact rfl); simp only [zp, zq, z0, z1])
          | ((with_reducible apply sx_load_far hp); exact zt rfl; assumption; infer_instance; assumption; (first | exact zl rfl | omega); simp only [zp, zq, z0, z1]))
      have hq := hp
      refine wp_drawnG_hp hp hq [] (.q 0 (.q 1 (.q 2 (.q 3 (.q 4 (.q 5 (.q 6 (.q 7 (.q 8 .nil))))))))) (by kernel_rfl) (by kernel_rfl) ?_
      clear hp hq; (try clear w1); intro w1 hp hq
      repeat' (first
        | (((with_reducible apply sg_q); exact zo rfl); (first
            | ((with_reducible apply sg_load_agg hp); exact rfl; exact zt rfl; infer_instance; infer_instance; (first | exact zl rfl | exact LB_le (by omega)); (first | (with_reducible exact LB_set (by omega)) | (simp only [n0, Nat.reduceAdd, n1, n2, n3, n4, n5, n6, n7, n8, n9]; try rfl)); simp only [zp, zq, z0, z1])
            | ((with_reducible apply sg_load_far hp); exact rfl; exact zt rfl; assumption; infer_instance; assumption; (first | exact zl rfl | omega); simp only [zp, zq, z0, z1])
            | ((with_reducible apply sg_move hp); (first | exact zi rfl | exact zs rfl); simp only [zp, zq, z0, z1])
            | ((with_reducible apply sg_indexAddr hp); exact rfl; exact zx rfl; exact zk rfl; infer_instance; (first | exact AggTy.size | exact OneTy.size); omega; omega; ((try simp only [m0, Int.reduceToNat, m1, m2, Nat.reduceMul, Nat.reduceAdd, m3, m4, m5, n0]); exact rfl); simp only [zp, zq, z0, z1])
            | ((with_reducible apply sg_pure hp); exact rfl; (focus (intro _; go_simp; (try go_ints); try with_reducible rfl)); simp only [zp, zq, z0, z1])))
        | ((with_reducible apply sg_nil hq); clear hp hq; (try clear w1); intro w1 hp))
      go_wp2_with (first
          | ((with_reducible apply sx_load_agg hp); exact zt rfl; infer_instance; infer_instance; (first | exact zl rfl | exact LB_le (by omega)); (first | (with_reducible exact LB_set (by omega)) | (simp only [n0, Nat.reduceAdd, n1, n2, n3, n4, n5, n6, n7, n8, n9]; try rfl)); simp only [zp, zq, z0, z1])
          | ((with_reducible apply sx_indexAddr); exact zx rfl; exact zk rfl; infer_instance; (first | exact AggTy.size | exact OneTy.size); omega; omega; ((try simp only [m0, Int.reduceToNat, m1, m2, Nat.reduceMul, Nat.reduceAdd, m3, m4, m5, n0]); exact rfl); simp only [zp, zq, z0, z1])
          | ((with_reducible apply sx_load_far hp); exact zt rfl; assumption; infer_instance; assumption; (first | exact zl rfl | omega); simp only [zp, zq, z0, z1]))
      go_roundw
      case rel => exact ⟨k + 1, by omega, by go_num, hp.sub (List.nil_sublist _)⟩
      case measure => simp [intOf]; omega
    · obtain rfl : k = n := by omega
      go_wp2_with (first
          | ((with_reducible apply sx_load_agg hp); exact zt rfl; infer_instance; infer_instance; (first | exact zl rfl | exact LB_le (by omega)); (first | (with_reducible exact LB_set (by omega)) | (simp only [n0, Nat.reduceAdd, n1, n2, n3, n4, n5, n6, n7, n8, n9]; try rfl)); simp only [zp, zq, z0, z1])
          | ((with_reducible apply sx_indexAddr); exact zx rfl; exact zk rfl; infer_instance; (first | exact AggTy.size | exact OneTy.size); omega; omega; ((try simp only [m0, Int.reduceToNat, m1, m2, Nat.reduceMul, Nat.reduceAdd, m3, m4, m5, n0]); exact rfl); simp only [zp, zq, z0, z1])
          | ((with_reducible apply sx_load_far hp); exact zt rfl; assumption; infer_instance; assumption; (first | exact zl rfl | omega); simp only [zp, zq, z0, z1]))
      exact bodyPost_ret (results_one rfl rfl) rfl ⟨rfl, hp.keep⟩
theorem same_rows (L : List Rw) (v1 v2 : Value) (hn : L.length ≤ 4294967296) (w : World) (h1 : FSl RVl 25 w v1 L) (h2 : FSl RVl 25 w v2 L) : Calls Try.prog 21 #[v1, v2] w (Ret (.bool true) w) := by
  obtain ⟨b0, c0, rfl⟩ := h1.shape
  obtain ⟨b1, c1, rfl⟩ := h2.shape
  exact same_rows0 L b0 b1 c0 c1 _ hn w (Lib.hid rfl) (Lib.hid h1) (Lib.hid h2)
theorem open_rowf {H : Type} {enc : TypeId × Value → H} {W' : World} {r : Reach} {b0 base : Nat} {spare : Nat → Bool} {held : Bool} {v : Value} {d : DataW H} {p : List MemPlace}
    (hv : Value.okWide Try.prog W' r b0 33 v) (h : DataW.Trod enc Try.prog W' base spare held 33 v d p) : ∃ b : Rw, v = RoV b ∧ b.i64f := by
  obtain ⟨cs, rfl, hsz⟩ := okWide_struct Try.underlying33 hv
  obtain ⟨f, hf, rfl⟩ := flat_open flat_row (k := 25) (by kernel_rfl) hsz h
  exact ⟨⟨f 0, f 1, ⟨f 2, f 3, f 4⟩, ⟨f 5, f 6, f 7⟩, ⟨f 8, f 9, f 10⟩, ⟨f 11, f 12, f 13⟩, ⟨f 14, f 15, f 16⟩, f 17, f 18, f 19, f 20, f 21, f 22, f 23, f 24⟩, rfl, by
    refine ⟨⟨?_, ?_, ⟨?_, ?_, ?_⟩, ⟨?_, ?_, ?_⟩, ⟨?_, ?_, ?_⟩, ⟨?_, ?_, ?_⟩, ⟨?_, ?_, ?_⟩⟩, ⟨?_, ?_, ?_, ?_, ?_, ?_, ?_, ?_⟩⟩ <;> exact hf _ (by omega)⟩
end Go.Proofs.Ytblffafmkpnjdaa
