/-
  Law 23: Parting: the walk (printed by gen_ux.py).
-/
import Derived.Test.YtblffafmkpnjdaaUt
import Derived.Test.YtblffafmkpnjdaaUv
set_option linter.unusedSimpArgs false
set_option linter.unusedVariables false
set_option maxRecDepth 100000
namespace Go.Proofs.Ytblffafmkpnjdaa
open Go Go.RowKit
attribute [local irreducible] wpList

theorem hp_at {X : List Nat} {w0 w : World} {H : List Bk} (hp : Hp X w0 H w) {b : Bk} (hb : b ∈ H) : w.heap[b.g]? = some (.cells b.cs.toArray b.t (0, 0)) := (hp.own b hb).2
/-- The row as the law has it. -/
def Rw.rest (r : Rw) : Rw := { r with a := 0, b := 1, pn := 0, pt := 0, pu := 0 }
theorem box_inr {w : World} {g : Nat} {t : TypeId} {z : Nat × Nat} {b : Inr} (f : w.heap[g]? = some (.cells ([.int .i64 b.m, .int .i64 b.p.x, .int .i64 b.p.y, .int .i64 b.p.z, .int .i64 b.q.x, .int .i64 b.q.y, .int .i64 b.q.z, .int .i64 b.r.x, .int .i64 b.r.y, .int .i64 b.r.z, .int .i64 b.v.x, .int .i64 b.v.y, .int .i64 b.v.z, .int .i64 b.s.x, .int .i64 b.s.y, .int .i64 b.s.z] : List Value).toArray t z)) : ∃ d : List Value, w.heap[g]? = some (.cells d.toArray t z) ∧ (d.drop 10).take 3 = [.int .i64 b.v.x, .int .i64 b.v.y, .int .i64 b.v.z] ∧ (d.drop 13).take 3 = [.int .i64 b.s.x, .int .i64 b.s.y, .int .i64 b.s.z] ∧ 16 ≤ d.length :=
  ⟨_, f, rfl, rfl, Nat.le_refl _⟩
theorem box_row {w : World} {g : Nat} {t : TypeId} {z : Nat × Nat} {r : Rw} (f : w.heap[g]? = some (.cells ([.int .i64 0, .int .i64 1, .int .i64 r.n.x, .int .i64 r.n.y, .int .i64 r.n.z, .int .i64 r.t.x, .int .i64 r.t.y, .int .i64 r.t.z, .int .i64 r.u.x, .int .i64 r.u.y, .int .i64 r.u.z, .int .i64 r.ra.x, .int .i64 r.ra.y, .int .i64 r.ra.z, .int .i64 r.rb.x, .int .i64 r.rb.y, .int .i64 r.rb.z, .int .i64 r.mn, .int .i64 r.mt, .int .i64 r.mu, .int .i64 r.aim, .int .i64 r.rub, .int .i64 0, .int .i64 0, .int .i64 0] : List Value).toArray t z)) : ∃ d : List Value, w.heap[g]? = some (.cells d.toArray t z) ∧ d[17]? = some (.int .i64 r.mn) ∧ d[20]? = some (.int .i64 r.aim) ∧ (d.drop 2).take 3 = [.int .i64 r.n.x, .int .i64 r.n.y, .int .i64 r.n.z] ∧ (d.drop 11).take 3 = [.int .i64 r.ra.x, .int .i64 r.ra.y, .int .i64 r.ra.z] ∧ (d.drop 14).take 3 = [.int .i64 r.rb.x, .int .i64 r.rb.y, .int .i64 r.rb.z] ∧ 25 ≤ d.length :=
  ⟨_, f, rfl, rfl, rfl, rfl, rfl, Nat.le_refl _⟩
set_option maxHeartbeats 4000000 in
theorem part_err (a b : Inr) (r : Rw) (s : Int) (L' : List Inr) (S' : List Rw) (e : Int) (he : (e != 0) = true) (w : World)
    (SV : Hid (∀ vb vr w1, FSl NVl 16 w1 vb [a, b] → FSl RVl 25 w1 vr [r.rest] → Calls Try.prog 9 #[vb, vr, .int .i64 s] w1 (SolR w1 L' S' e))) :
    Calls Try.prog 5 #[NV a, NV b, RoV r, .int .i64 s] w (Ret (.bool true) w) := by
  go_enter Try.func5, Try.ntmps5
  have hp := Hp.start [] w
  go_upto_region 8 with (first
          | ((with_reducible apply sx_box hp); exact za rfl; exact rfl; clear hp; (try clear w1); intro g w1 hp; simp only [zp, zq, z0, z1])
          | ((with_reducible apply sx_alloc hp); infer_instance; exact rfl; clear hp; (try clear w1); intro g w1 hp; simp only [zp, zq, z0, z1])
          | ((with_reducible apply sx_load_agg hp); exact zt rfl; infer_instance; infer_instance; (first | exact zl rfl | exact LB_le (by omega)); (first | (with_reducible exact LB_set (by omega)) | (simp only [n0, Nat.reduceAdd, n1, n2, n3, n4, n5, n6, n7, n8, n9]; try rfl)); simp only [zp, zq, z0, z1])
          | ((with_reducible apply sx_load_one hp); exact zt rfl; infer_instance; infer_instance; (first | exact zio rfl | exact LB_get (by omega)); simp only [zp, zq, z0, z1])
          | ((with_reducible apply sx_store hp); exact zt rfl; (first | exact za rfl | exact zi rfl); exact rfl; (first | exact AggTy.size | exact OneTy.size); exact rfl; infer_instance; (first | (with_reducible exact LB_set (by omega)) | (simp only [n0, Nat.reduceAdd, n1, n2, n3, n4, n5, n6, n7, n8, n9]; try rfl)); (first | exact zl rfl | exact LB_le (by omega)); exact rfl; infer_instance; clear hp; (try clear w1); intro w1 hp)
          | ((with_reducible apply sx_indexAddr); exact zx rfl; exact zk rfl; infer_instance; (first | exact AggTy.size | exact OneTy.size); omega; omega; ((try simp only [m0, Int.reduceToNat, m1, m2, Nat.reduceMul, Nat.reduceAdd, m3, m4, m5, n0]); exact rfl); simp only [zp, zq, z0, z1])
          | ((with_reducible apply sx_load_far hp); exact zt rfl; assumption; infer_instance; assumption; (first | exact zl rfl | omega); simp only [zp, zq, z0, z1])
          | ((with_reducible apply sx_load_far1 hp); exact zt rfl; assumption; infer_instance; (first | assumption | (first | exact zio rfl | exact LB_get (by omega))); simp only [zp, zq, z0, z1])
          | ((with_reducible apply sx_buildSlice hp); infer_instance; (first | exact AggTy.size | exact OneTy.size); infer_instance; exact zl rfl; decide; (first | exact (rfl : _ = numbered 0 [_]) | exact (rfl : _ = numbered 0 [_, _]) | exact (rfl : _ = numbered 0 [_, _, _]) | exact (rfl : _ = numbered 0 [_, _, _, _])); exact rfl; (first | exact (rfl : _ = List.map (fun x : List Value => x.toArray) [_]) | exact (rfl : _ = List.map (fun x : List Value => x.toArray) [_, _]) | exact (rfl : _ = List.map (fun x : List Value => x.toArray) [_, _, _]) | exact (rfl : _ = List.map (fun x : List Value => x.toArray) [_, _, _, _])); (intro l hl <;> simp only [List.mem_cons, List.not_mem_nil, or_false] at hl <;> rcases hl with rfl | rfl | rfl | rfl <;> rfl); exact rfl; clear hp; (try clear w1); intro g w1 hp; simp only [zp, zq, z0, z1])
          | ((with_reducible refine Calls.mono (SV.out _ _ _ (FSl.lit hp.blk NVl_length rfl rfl) (FSl.lit hp.blk RVl_length rfl rfl)) ?_); (rintro _ w2 ⟨hk, vb, vr, rfl, hb, hr⟩); (have f2 := hk.blk (hp_at hp (List.mem_cons_of_mem _ List.mem_cons_self))); (have f3 := hk.blk (hp_at hp (List.mem_cons_of_mem _ (List.mem_cons_of_mem _ List.mem_cons_self)))); (have f4 := hk.blk (hp_at hp (List.mem_cons_of_mem _ (List.mem_cons_of_mem _ (List.mem_cons_of_mem _ List.mem_cons_self))))); (have f5 := hk.blk (hp_at hp (List.mem_cons_of_mem _ (List.mem_cons_of_mem _ (List.mem_cons_of_mem _ (List.mem_cons_of_mem _ List.mem_cons_self)))))); (dsimp only at f2 f3 f4 f5); (have HK := Lib.hid (hp.keep.trans hk)); (have HB := Lib.hid hb); (have HR := Lib.hid hr); clear hb hr hk hp; (try clear w1); (have hp := Hp.start [] w2)))
  obtain ⟨dA, fA, xa, ya, za'⟩ := box_inr f5
  obtain ⟨dB, fB, xb, yb, zb'⟩ := box_inr f4
  obtain ⟨dR, fR, r17, r20, r2, r11, r14, zr'⟩ := box_row f3
  clear f3 f4 f5
  go_wp2_with (first
          | ((with_reducible apply sx_guard); (conv => whnf); refine Bx.mk ?_; (try simp only [zp, zq, z0, z1]))
          | ((with_reducible apply sx_box hp); exact za rfl; exact rfl; clear hp; (try clear w1); intro g w1 hp; simp only [zp, zq, z0, z1])
          | ((with_reducible apply sx_alloc hp); infer_instance; exact rfl; clear hp; (try clear w1); intro g w1 hp; simp only [zp, zq, z0, z1])
          | ((with_reducible apply sx_load_agg hp); exact zt rfl; infer_instance; infer_instance; (first | exact zl rfl | exact LB_le (by omega)); (first | (with_reducible exact LB_set (by omega)) | (simp only [n0, Nat.reduceAdd, n1, n2, n3, n4, n5, n6, n7, n8, n9]; try rfl)); simp only [zp, zq, z0, z1])
          | ((with_reducible apply sx_load_one hp); exact zt rfl; infer_instance; infer_instance; (first | exact zio rfl | exact LB_get (by omega)); simp only [zp, zq, z0, z1])
          | ((with_reducible apply sx_store hp); exact zt rfl; (first | exact za rfl | exact zi rfl); exact rfl; (first | exact AggTy.size | exact OneTy.size); exact rfl; infer_instance; (first | (with_reducible exact LB_set (by omega)) | (simp only [n0, Nat.reduceAdd, n1, n2, n3, n4, n5, n6, n7, n8, n9]; try rfl)); (first | exact zl rfl | exact LB_le (by omega)); exact rfl; infer_instance; clear hp; (try clear w1); intro w1 hp)
          | ((with_reducible apply sx_indexAddr); exact zx rfl; exact zk rfl; infer_instance; (first | exact AggTy.size | exact OneTy.size); omega; omega; ((try simp only [m0, Int.reduceToNat, m1, m2, Nat.reduceMul, Nat.reduceAdd, m3, m4, m5, n0]); exact rfl); simp only [zp, zq, z0, z1])
          | ((with_reducible apply sx_load_far hp); exact zt rfl; assumption; infer_instance; assumption; (first | exact zl rfl | omega); simp only [zp, zq, z0, z1])
          | ((with_reducible apply sx_load_far1 hp); exact zt rfl; assumption; infer_instance; (first | assumption | (first | exact zio rfl | exact LB_get (by omega))); simp only [zp, zq, z0, z1])
          | ((with_reducible apply sx_buildSlice hp); infer_instance; (first | exact AggTy.size | exact OneTy.size); infer_instance; exact zl rfl; decide; (first | exact (rfl : _ = numbered 0 [_]) | exact (rfl : _ = numbered 0 [_, _]) | exact (rfl : _ = numbered 0 [_, _, _]) | exact (rfl : _ = numbered 0 [_, _, _, _])); exact rfl; (first | exact (rfl : _ = List.map (fun x : List Value => x.toArray) [_]) | exact (rfl : _ = List.map (fun x : List Value => x.toArray) [_, _]) | exact (rfl : _ = List.map (fun x : List Value => x.toArray) [_, _, _]) | exact (rfl : _ = List.map (fun x : List Value => x.toArray) [_, _, _, _])); (intro l hl <;> simp only [List.mem_cons, List.not_mem_nil, or_false] at hl <;> rcases hl with rfl | rfl | rfl | rfl <;> rfl); exact rfl; clear hp; (try clear w1); intro g w1 hp; simp only [zp, zq, z0, z1])
          | ((with_reducible refine sx_call hp (awake23 _) ?_); clear hp; (try clear w1); intro w1 hp))
  exact bodyPost_ret (results_one rfl rfl) rfl ⟨rfl, HK.out.trans hp.keep⟩
set_option maxHeartbeats 4000000 in
theorem part_mn (a b : Inr) (r : Rw) (s : Int) (L' : List Inr) (S' : List Rw) (hm : decide (r.mn < 0) = true) (w : World)
    (SV : Hid (∀ vb vr w1, FSl NVl 16 w1 vb [a, b] → FSl RVl 25 w1 vr [r.rest] → Calls Try.prog 9 #[vb, vr, .int .i64 s] w1 (SolR w1 L' S' 0))) :
    Calls Try.prog 5 #[NV a, NV b, RoV r, .int .i64 s] w (Ret (.bool true) w) := by
  go_enter Try.func5, Try.ntmps5
  have hp := Hp.start [] w
  go_upto_region 8 with (first
          | ((with_reducible apply sx_box hp); exact za rfl; exact rfl; clear hp; (try clear w1); intro g w1 hp; simp only [zp, zq, z0, z1])
          | ((with_reducible apply sx_alloc hp); infer_instance; exact rfl; clear hp; (try clear w1); intro g w1 hp; simp only [zp, zq, z0, z1])
          | ((with_reducible apply sx_load_agg hp); exact zt rfl; infer_instance; infer_instance; (first | exact zl rfl | exact LB_le (by omega)); (first | (with_reducible exact LB_set (by omega)) | (simp only [n0, Nat.reduceAdd, n1, n2, n3, n4, n5, n6, n7, n8, n9]; try rfl)); simp only [zp, zq, z0, z1])
          | ((with_reducible apply sx_load_one hp); exact zt rfl; infer_instance; infer_instance; (first | exact zio rfl | exact LB_get (by omega)); simp only [zp, zq, z0, z1])
          | ((with_reducible apply sx_store hp); exact zt rfl; (first | exact za rfl | exact zi rfl); exact rfl; (first | exact AggTy.size | exact OneTy.size); exact rfl; infer_instance; (first | (with_reducible exact LB_set (by omega)) | (simp only [n0, Nat.reduceAdd, n1, n2, n3, n4, n5, n6, n7, n8, n9]; try rfl)); (first | exact zl rfl | exact LB_le (by omega)); exact rfl; infer_instance; clear hp; (try clear w1); intro w1 hp)
          | ((with_reducible apply sx_indexAddr); exact zx rfl; exact zk rfl; infer_instance; (first | exact AggTy.size | exact OneTy.size); omega; omega; ((try simp only [m0, Int.reduceToNat, m1, m2, Nat.reduceMul, Nat.reduceAdd, m3, m4, m5, n0]); exact rfl); simp only [zp, zq, z0, z1])
          | ((with_reducible apply sx_load_far hp); exact zt rfl; assumption; infer_instance; assumption; (first | exact zl rfl | omega); simp only [zp, zq, z0, z1])
          | ((with_reducible apply sx_load_far1 hp); exact zt rfl; assumption; infer_instance; (first | assumption | (first | exact zio rfl | exact LB_get (by omega))); simp only [zp, zq, z0, z1])
          | ((with_reducible apply sx_buildSlice hp); infer_instance; (first | exact AggTy.size | exact OneTy.size); infer_instance; exact zl rfl; decide; (first | exact (rfl : _ = numbered 0 [_]) | exact (rfl : _ = numbered 0 [_, _]) | exact (rfl : _ = numbered 0 [_, _, _]) | exact (rfl : _ = numbered 0 [_, _, _, _])); exact rfl; (first | exact (rfl : _ = List.map (fun x : List Value => x.toArray) [_]) | exact (rfl : _ = List.map (fun x : List Value => x.toArray) [_, _]) | exact (rfl : _ = List.map (fun x : List Value => x.toArray) [_, _, _]) | exact (rfl : _ = List.map (fun x : List Value => x.toArray) [_, _, _, _])); (intro l hl <;> simp only [List.mem_cons, List.not_mem_nil, or_false] at hl <;> rcases hl with rfl | rfl | rfl | rfl <;> rfl); exact rfl; clear hp; (try clear w1); intro g w1 hp; simp only [zp, zq, z0, z1])
          | ((with_reducible refine Calls.mono (SV.out _ _ _ (FSl.lit hp.blk NVl_length rfl rfl) (FSl.lit hp.blk RVl_length rfl rfl)) ?_); (rintro _ w2 ⟨hk, vb, vr, rfl, hb, hr⟩); (have f2 := hk.blk (hp_at hp (List.mem_cons_of_mem _ List.mem_cons_self))); (have f3 := hk.blk (hp_at hp (List.mem_cons_of_mem _ (List.mem_cons_of_mem _ List.mem_cons_self)))); (have f4 := hk.blk (hp_at hp (List.mem_cons_of_mem _ (List.mem_cons_of_mem _ (List.mem_cons_of_mem _ List.mem_cons_self))))); (have f5 := hk.blk (hp_at hp (List.mem_cons_of_mem _ (List.mem_cons_of_mem _ (List.mem_cons_of_mem _ (List.mem_cons_of_mem _ List.mem_cons_self)))))); (dsimp only at f2 f3 f4 f5); (have HK := Lib.hid (hp.keep.trans hk)); (have HB := Lib.hid hb); (have HR := Lib.hid hr); clear hb hr hk hp; (try clear w1); (have hp := Hp.start [] w2)))
  obtain ⟨dA, fA, xa, ya, za'⟩ := box_inr f5
  obtain ⟨dB, fB, xb, yb, zb'⟩ := box_inr f4
  obtain ⟨dR, fR, r17, r20, r2, r11, r14, zr'⟩ := box_row f3
  clear f3 f4 f5
  go_wp2_with (first
          | ((with_reducible apply sx_guard); (conv => whnf); refine Bx.mk ?_; (try simp only [zp, zq, z0, z1]))
          | ((with_reducible apply sx_box hp); exact za rfl; exact rfl; clear hp; (try clear w1); intro g w1 hp; simp only [zp, zq, z0, z1])
          | ((with_reducible apply sx_alloc hp); infer_instance; exact rfl; clear hp; (try clear w1); intro g w1 hp; simp only [zp, zq, z0, z1])
          | ((with_reducible apply sx_load_agg hp); exact zt rfl; infer_instance; infer_instance; (first | exact zl rfl | exact LB_le (by omega)); (first | (with_reducible exact LB_set (by omega)) | (simp only [n0, Nat.reduceAdd, n1, n2, n3, n4, n5, n6, n7, n8, n9]; try rfl)); simp only [zp, zq, z0, z1])
          | ((with_reducible apply sx_load_one hp); exact zt rfl; infer_instance; infer_instance; (first | exact zio rfl | exact LB_get (by omega)); simp only [zp, zq, z0, z1])
          | ((with_reducible apply sx_store hp); exact zt rfl; (first | exact za rfl | exact zi rfl); exact rfl; (first | exact AggTy.size | exact OneTy.size); exact rfl; infer_instance; (first | (with_reducible exact LB_set (by omega)) | (simp only [n0, Nat.reduceAdd, n1, n2, n3, n4, n5, n6, n7, n8, n9]; try rfl)); (first | exact zl rfl | exact LB_le (by omega)); exact rfl; infer_instance; clear hp; (try clear w1); intro w1 hp)
          | ((with_reducible apply sx_indexAddr); exact zx rfl; exact zk rfl; infer_instance; (first | exact AggTy.size | exact OneTy.size); omega; omega; ((try simp only [m0, Int.reduceToNat, m1, m2, Nat.reduceMul, Nat.reduceAdd, m3, m4, m5, n0]); exact rfl); simp only [zp, zq, z0, z1])
          | ((with_reducible apply sx_load_far hp); exact zt rfl; assumption; infer_instance; assumption; (first | exact zl rfl | omega); simp only [zp, zq, z0, z1])
          | ((with_reducible apply sx_load_far1 hp); exact zt rfl; assumption; infer_instance; (first | assumption | (first | exact zio rfl | exact LB_get (by omega))); simp only [zp, zq, z0, z1])
          | ((with_reducible apply sx_buildSlice hp); infer_instance; (first | exact AggTy.size | exact OneTy.size); infer_instance; exact zl rfl; decide; (first | exact (rfl : _ = numbered 0 [_]) | exact (rfl : _ = numbered 0 [_, _]) | exact (rfl : _ = numbered 0 [_, _, _]) | exact (rfl : _ = numbered 0 [_, _, _, _])); exact rfl; (first | exact (rfl : _ = List.map (fun x : List Value => x.toArray) [_]) | exact (rfl : _ = List.map (fun x : List Value => x.toArray) [_, _]) | exact (rfl : _ = List.map (fun x : List Value => x.toArray) [_, _, _]) | exact (rfl : _ = List.map (fun x : List Value => x.toArray) [_, _, _, _])); (intro l hl <;> simp only [List.mem_cons, List.not_mem_nil, or_false] at hl <;> rcases hl with rfl | rfl | rfl | rfl <;> rfl); exact rfl; clear hp; (try clear w1); intro g w1 hp; simp only [zp, zq, z0, z1])
          | ((with_reducible refine sx_call hp (awake23 _) ?_); clear hp; (try clear w1); intro w1 hp))
  exact bodyPost_ret (results_one rfl rfl) rfl ⟨rfl, HK.out.trans hp.keep⟩
set_option maxHeartbeats 4000000 in
theorem part_l0 (a b : Inr) (r : Rw) (s : Int) (L' : List Inr) (S' : List Rw) (hm : decide (r.mn < 0) = false) (LA : Hid (∀ w, Calls Try.prog 13 #[PV a.v] w (Ret (.bool false) w))) (w : World)
    (SV : Hid (∀ vb vr w1, FSl NVl 16 w1 vb [a, b] → FSl RVl 25 w1 vr [r.rest] → Calls Try.prog 9 #[vb, vr, .int .i64 s] w1 (SolR w1 L' S' 0))) :
    Calls Try.prog 5 #[NV a, NV b, RoV r, .int .i64 s] w (Ret (.bool true) w) := by
  go_enter Try.func5, Try.ntmps5
  have hp := Hp.start [] w
  go_upto_region 8 with (first
          | ((with_reducible apply sx_box hp); exact za rfl; exact rfl; clear hp; (try clear w1); intro g w1 hp; simp only [zp, zq, z0, z1])
          | ((with_reducible apply sx_alloc hp); infer_instance; exact rfl; clear hp; (try clear w1); intro g w1 hp; simp only [zp, zq, z0, z1])
          | ((with_reducible apply sx_load_agg hp); exact zt rfl; infer_instance; infer_instance; (first | exact zl rfl | exact LB_le (by omega)); (first | (with_reducible exact LB_set (by omega)) | (simp only [n0, Nat.reduceAdd, n1, n2, n3, n4, n5, n6, n7, n8, n9]; try rfl)); simp only [zp, zq, z0, z1])
          | ((with_reducible apply sx_load_one hp); exact zt rfl; infer_instance; infer_instance; (first | exact zio rfl | exact LB_get (by omega)); simp only [zp, zq, z0, z1])
          | ((with_reducible apply sx_store hp); exact zt rfl; (first | exact za rfl | exact zi rfl); exact rfl; (first | exact AggTy.size | exact OneTy.size); exact rfl; infer_instance; (first | (with_reducible exact LB_set (by omega)) | (simp only [n0, Nat.reduceAdd, n1, n2, n3, n4, n5, n6, n7, n8, n9]; try rfl)); (first | exact zl rfl | exact LB_le (by omega)); exact rfl; infer_instance; clear hp; (try clear w1); intro w1 hp)
          | ((with_reducible apply sx_indexAddr); exact zx rfl; exact zk rfl; infer_instance; (first | exact AggTy.size | exact OneTy.size); omega; omega; ((try simp only [m0, Int.reduceToNat, m1, m2, Nat.reduceMul, Nat.reduceAdd, m3, m4, m5, n0]); exact rfl); simp only [zp, zq, z0, z1])
          | ((with_reducible apply sx_load_far hp); exact zt rfl; assumption; infer_instance; assumption; (first | exact zl rfl | omega); simp only [zp, zq, z0, z1])
          | ((with_reducible apply sx_load_far1 hp); exact zt rfl; assumption; infer_instance; (first | assumption | (first | exact zio rfl | exact LB_get (by omega))); simp only [zp, zq, z0, z1])
          | ((with_reducible apply sx_buildSlice hp); infer_instance; (first | exact AggTy.size | exact OneTy.size); infer_instance; exact zl rfl; decide; (first | exact (rfl : _ = numbered 0 [_]) | exact (rfl : _ = numbered 0 [_, _]) | exact (rfl : _ = numbered 0 [_, _, _]) | exact (rfl : _ = numbered 0 [_, _, _, _])); exact rfl; (first | exact (rfl : _ = List.map (fun x : List Value => x.toArray) [_]) | exact (rfl : _ = List.map (fun x : List Value => x.toArray) [_, _]) | exact (rfl : _ = List.map (fun x : List Value => x.toArray) [_, _, _]) | exact (rfl : _ = List.map (fun x : List Value => x.toArray) [_, _, _, _])); (intro l hl <;> simp only [List.mem_cons, List.not_mem_nil, or_false] at hl <;> rcases hl with rfl | rfl | rfl | rfl <;> rfl); exact rfl; clear hp; (try clear w1); intro g w1 hp; simp only [zp, zq, z0, z1])
          | ((with_reducible refine Calls.mono (SV.out _ _ _ (FSl.lit hp.blk NVl_length rfl rfl) (FSl.lit hp.blk RVl_length rfl rfl)) ?_); (rintro _ w2 ⟨hk, vb, vr, rfl, hb, hr⟩); (have f2 := hk.blk (hp_at hp (List.mem_cons_of_mem _ List.mem_cons_self))); (have f3 := hk.blk (hp_at hp (List.mem_cons_of_mem _ (List.mem_cons_of_mem _ List.mem_cons_self)))); (have f4 := hk.blk (hp_at hp (List.mem_cons_of_mem _ (List.mem_cons_of_mem _ (List.mem_cons_of_mem _ List.mem_cons_self))))); (have f5 := hk.blk (hp_at hp (List.mem_cons_of_mem _ (List.mem_cons_of_mem _ (List.mem_cons_of_mem _ (List.mem_cons_of_mem _ List.mem_cons_self)))))); (dsimp only at f2 f3 f4 f5); (have HK := Lib.hid (hp.keep.trans hk)); (have HB := Lib.hid hb); (have HR := Lib.hid hr); clear hb hr hk hp; (try clear w1); (have hp := Hp.start [] w2)))
  obtain ⟨dA, fA, xa, ya, za'⟩ := box_inr f5
  obtain ⟨dB, fB, xb, yb, zb'⟩ := box_inr f4
  obtain ⟨dR, fR, r17, r20, r2, r11, r14, zr'⟩ := box_row f3
  clear f3 f4 f5
  go_wp2_with (first
          | ((with_reducible apply sx_guard); (conv => whnf); refine Bx.mk ?_; (try simp only [zp, zq, z0, z1]))
          | ((with_reducible apply sx_box hp); exact za rfl; exact rfl; clear hp; (try clear w1); intro g w1 hp; simp only [zp, zq, z0, z1])
          | ((with_reducible apply sx_alloc hp); infer_instance; exact rfl; clear hp; (try clear w1); intro g w1 hp; simp only [zp, zq, z0, z1])
          | ((with_reducible apply sx_load_agg hp); exact zt rfl; infer_instance; infer_instance; (first | exact zl rfl | exact LB_le (by omega)); (first | (with_reducible exact LB_set (by omega)) | (simp only [n0, Nat.reduceAdd, n1, n2, n3, n4, n5, n6, n7, n8, n9]; try rfl)); simp only [zp, zq, z0, z1])
          | ((with_reducible apply sx_load_one hp); exact zt rfl; infer_instance; infer_instance; (first | exact zio rfl | exact LB_get (by omega)); simp only [zp, zq, z0, z1])
          | ((with_reducible apply sx_store hp); exact zt rfl; (first | exact za rfl | exact zi rfl); exact rfl; (first | exact AggTy.size | exact OneTy.size); exact rfl; infer_instance; (first | (with_reducible exact LB_set (by omega)) | (simp only [n0, Nat.reduceAdd, n1, n2, n3, n4, n5, n6, n7, n8, n9]; try rfl)); (first | exact zl rfl | exact LB_le (by omega)); exact rfl; infer_instance; clear hp; (try clear w1); intro w1 hp)
          | ((with_reducible apply sx_indexAddr); exact zx rfl; exact zk rfl; infer_instance; (first | exact AggTy.size | exact OneTy.size); omega; omega; ((try simp only [m0, Int.reduceToNat, m1, m2, Nat.reduceMul, Nat.reduceAdd, m3, m4, m5, n0]); exact rfl); simp only [zp, zq, z0, z1])
          | ((with_reducible apply sx_load_far hp); exact zt rfl; assumption; infer_instance; assumption; (first | exact zl rfl | omega); simp only [zp, zq, z0, z1])
          | ((with_reducible apply sx_load_far1 hp); exact zt rfl; assumption; infer_instance; (first | assumption | (first | exact zio rfl | exact LB_get (by omega))); simp only [zp, zq, z0, z1])
          | ((with_reducible apply sx_buildSlice hp); infer_instance; (first | exact AggTy.size | exact OneTy.size); infer_instance; exact zl rfl; decide; (first | exact (rfl : _ = numbered 0 [_]) | exact (rfl : _ = numbered 0 [_, _]) | exact (rfl : _ = numbered 0 [_, _, _]) | exact (rfl : _ = numbered 0 [_, _, _, _])); exact rfl; (first | exact (rfl : _ = List.map (fun x : List Value => x.toArray) [_]) | exact (rfl : _ = List.map (fun x : List Value => x.toArray) [_, _]) | exact (rfl : _ = List.map (fun x : List Value => x.toArray) [_, _, _]) | exact (rfl : _ = List.map (fun x : List Value => x.toArray) [_, _, _, _])); (intro l hl <;> simp only [List.mem_cons, List.not_mem_nil, or_false] at hl <;> rcases hl with rfl | rfl | rfl | rfl <;> rfl); exact rfl; clear hp; (try clear w1); intro g w1 hp; simp only [zp, zq, z0, z1])
          | ((with_reducible first | refine sx_call hp (LA.out _) ?_ | refine sx_call hp (awake23 _) ?_); clear hp; (try clear w1); intro w1 hp))
  exact bodyPost_ret (results_one rfl rfl) rfl ⟨rfl, HK.out.trans hp.keep⟩
set_option maxHeartbeats 4000000 in
theorem part_l1 (a b : Inr) (r : Rw) (s : Int) (L' : List Inr) (S' : List Rw) (hm : decide (r.mn < 0) = false) (LA : Hid (∀ w, Calls Try.prog 13 #[PV a.v] w (Ret (.bool true) w))) (LW : Hid (∀ w, Calls Try.prog 13 #[PV a.s] w (Ret (.bool false) w))) (w : World)
    (SV : Hid (∀ vb vr w1, FSl NVl 16 w1 vb [a, b] → FSl RVl 25 w1 vr [r.rest] → Calls Try.prog 9 #[vb, vr, .int .i64 s] w1 (SolR w1 L' S' 0))) :
    Calls Try.prog 5 #[NV a, NV b, RoV r, .int .i64 s] w (Ret (.bool true) w) := by
  go_enter Try.func5, Try.ntmps5
  have hp := Hp.start [] w
  go_upto_region 8 with (first
          | ((with_reducible apply sx_box hp); exact za rfl; exact rfl; clear hp; (try clear w1); intro g w1 hp; simp only [zp, zq, z0, z1])
          | ((with_reducible apply sx_alloc hp); infer_instance; exact rfl; clear hp; (try clear w1); intro g w1 hp; simp only [zp, zq, z0, z1])
          | ((with_reducible apply sx_load_agg hp); exact zt rfl; infer_instance; infer_instance; (first | exact zl rfl | exact LB_le (by omega)); (first | (with_reducible exact LB_set (by omega)) | (simp only [n0, Nat.reduceAdd, n1, n2, n3, n4, n5, n6, n7, n8, n9]; try rfl)); simp only [zp, zq, z0, z1])
          | ((with_reducible apply sx_load_one hp); exact zt rfl; infer_instance; infer_instance; (first | exact zio rfl | exact LB_get (by omega)); simp only [zp, zq, z0, z1])
          | ((with_reducible apply sx_store hp); exact zt rfl; (first | exact za rfl | exact zi rfl); exact rfl; (first | exact AggTy.size | exact OneTy.size); exact rfl; infer_instance; (first | (with_reducible exact LB_set (by omega)) | (simp only [n0, Nat.reduceAdd, n1, n2, n3, n4, n5, n6, n7, n8, n9]; try rfl)); (first | exact zl rfl | exact LB_le (by omega)); exact rfl; infer_instance; clear hp; (try clear w1); intro w1 hp)
          | ((with_reducible apply sx_indexAddr); exact zx rfl; exact zk rfl; infer_instance; (first | exact AggTy.size | exact OneTy.size); omega; omega; ((try simp only [m0, Int.reduceToNat, m1, m2, Nat.reduceMul, Nat.reduceAdd, m3, m4, m5, n0]); exact rfl); simp only [zp, zq, z0, z1])
          | ((with_reducible apply sx_load_far hp); exact zt rfl; assumption; infer_instance; assumption; (first | exact zl rfl | omega); simp only [zp, zq, z0, z1])
          | ((with_reducible apply sx_load_far1 hp); exact zt rfl; assumption; infer_instance; (first | assumption | (first | exact zio rfl | exact LB_get (by omega))); simp only [zp, zq, z0, z1])
          | ((with_reducible apply sx_buildSlice hp); infer_instance; (first | exact AggTy.size | exact OneTy.size); infer_instance; exact zl rfl; decide; (first | exact (rfl : _ = numbered 0 [_]) | exact (rfl : _ = numbered 0 [_, _]) | exact (rfl : _ = numbered 0 [_, _, _]) | exact (rfl : _ = numbered 0 [_, _, _, _])); exact rfl; (first | exact (rfl : _ = List.map (fun x : List Value => x.toArray) [_]) | exact (rfl : _ = List.map (fun x : List Value => x.toArray) [_, _]) | exact (rfl : _ = List.map (fun x : List Value => x.toArray) [_, _, _]) | exact (rfl : _ = List.map (fun x : List Value => x.toArray) [_, _, _, _])); (intro l hl <;> simp only [List.mem_cons, List.not_mem_nil, or_false] at hl <;> rcases hl with rfl | rfl | rfl | rfl <;> rfl); exact rfl; clear hp; (try clear w1); intro g w1 hp; simp only [zp, zq, z0, z1])
          | ((with_reducible refine Calls.mono (SV.out _ _ _ (FSl.lit hp.blk NVl_length rfl rfl) (FSl.lit hp.blk RVl_length rfl rfl)) ?_); (rintro _ w2 ⟨hk, vb, vr, rfl, hb, hr⟩); (have f2 := hk.blk (hp_at hp (List.mem_cons_of_mem _ List.mem_cons_self))); (have f3 := hk.blk (hp_at hp (List.mem_cons_of_mem _ (List.mem_cons_of_mem _ List.mem_cons_self)))); (have f4 := hk.blk (hp_at hp (List.mem_cons_of_mem _ (List.mem_cons_of_mem _ (List.mem_cons_of_mem _ List.mem_cons_self))))); (have f5 := hk.blk (hp_at hp (List.mem_cons_of_mem _ (List.mem_cons_of_mem _ (List.mem_cons_of_mem _ (List.mem_cons_of_mem _ List.mem_cons_self)))))); (dsimp only at f2 f3 f4 f5); (have HK := Lib.hid (hp.keep.trans hk)); (have HB := Lib.hid hb); (have HR := Lib.hid hr); clear hb hr hk hp; (try clear w1); (have hp := Hp.start [] w2)))
  obtain ⟨dA, fA, xa, ya, za'⟩ := box_inr f5
  obtain ⟨dB, fB, xb, yb, zb'⟩ := box_inr f4
  obtain ⟨dR, fR, r17, r20, r2, r11, r14, zr'⟩ := box_row f3
  clear f3 f4 f5
  go_wp2_with (first
          | ((with_reducible apply sx_guard); (conv => whnf); refine Bx.mk ?_; (try simp only [zp, zq, z0, z1]))
          | ((with_reducible apply sx_box hp); exact za rfl; exact rfl; clear hp; (try clear w1); intro g w1 hp; simp only [zp, zq, z0, z1])
          | ((with_reducible apply sx_alloc hp); infer_instance; exact rfl; clear hp; (try clear w1); intro g w1 hp; simp only [zp, zq, z0, z1])
          | ((with_reducible apply sx_load_agg hp); exact zt rfl; infer_instance; infer_instance; (first | exact zl rfl | exact LB_le (by omega)); (first | (with_reducible exact LB_set (by omega)) | (simp only [n0, Nat.reduceAdd, n1, n2, n3, n4, n5, n6, n7, n8, n9]; try rfl)); simp only [zp, zq, z0, z1])
          | ((with_reducible apply sx_load_one hp); exact zt rfl; infer_instance; infer_instance; (first | exact zio rfl | exact LB_get (by omega)); simp only [zp, zq, z0, z1])
          | ((with_reducible apply sx_store hp); exact zt rfl; (first | exact za rfl | exact zi rfl); exact rfl; (first | exact AggTy.size | exact OneTy.size); exact rfl; infer_instance; (first | (with_reducible exact LB_set (by omega)) | (simp only [n0, Nat.reduceAdd, n1, n2, n3, n4, n5, n6, n7, n8, n9]; try rfl)); (first | exact zl rfl | exact LB_le (by omega)); exact rfl; infer_instance; clear hp; (try clear w1); intro w1 hp)
          | ((with_reducible apply sx_indexAddr); exact zx rfl; exact zk rfl; infer_instance; (first | exact AggTy.size | exact OneTy.size); omega; omega; ((try simp only [m0, Int.reduceToNat, m1, m2, Nat.reduceMul, Nat.reduceAdd, m3, m4, m5, n0]); exact rfl); simp only [zp, zq, z0, z1])
          | ((with_reducible apply sx_load_far hp); exact zt rfl; assumption; infer_instance; assumption; (first | exact zl rfl | omega); simp only [zp, zq, z0, z1])
          | ((with_reducible apply sx_load_far1 hp); exact zt rfl; assumption; infer_instance; (first | assumption | (first | exact zio rfl | exact LB_get (by omega))); simp only [zp, zq, z0, z1])
          | ((with_reducible apply sx_buildSlice hp); infer_instance; (first | exact AggTy.size | exact OneTy.size); infer_instance; exact zl rfl; decide; (first | exact (rfl : _ = numbered 0 [_]) | exact (rfl : _ = numbered 0 [_, _]) | exact (rfl : _ = numbered 0 [_, _, _]) | exact (rfl : _ = numbered 0 [_, _, _, _])); exact rfl; (first | exact (rfl : _ = List.map (fun x : List Value => x.toArray) [_]) | exact (rfl : _ = List.map (fun x : List Value => x.toArray) [_, _]) | exact (rfl : _ = List.map (fun x : List Value => x.toArray) [_, _, _]) | exact (rfl : _ = List.map (fun x : List Value => x.toArray) [_, _, _, _])); (intro l hl <;> simp only [List.mem_cons, List.not_mem_nil, or_false] at hl <;> rcases hl with rfl | rfl | rfl | rfl <;> rfl); exact rfl; clear hp; (try clear w1); intro g w1 hp; simp only [zp, zq, z0, z1])
          | ((with_reducible first | refine sx_call hp (LA.out _) ?_ | refine sx_call hp (LW.out _) ?_ | refine sx_call hp (awake23 _) ?_); clear hp; (try clear w1); intro w1 hp))
  exact bodyPost_ret (results_one rfl rfl) rfl ⟨rfl, HK.out.trans hp.keep⟩
set_option maxHeartbeats 4000000 in
theorem part_l2 (a b : Inr) (r : Rw) (s : Int) (L' : List Inr) (S' : List Rw) (hm : decide (r.mn < 0) = false) (LA : Hid (∀ w, Calls Try.prog 13 #[PV a.v] w (Ret (.bool true) w))) (LW : Hid (∀ w, Calls Try.prog 13 #[PV a.s] w (Ret (.bool true) w))) (LB : Hid (∀ w, Calls Try.prog 13 #[PV b.v] w (Ret (.bool false) w))) (w : World)
    (SV : Hid (∀ vb vr w1, FSl NVl 16 w1 vb [a, b] → FSl RVl 25 w1 vr [r.rest] → Calls Try.prog 9 #[vb, vr, .int .i64 s] w1 (SolR w1 L' S' 0))) :
    Calls Try.prog 5 #[NV a, NV b, RoV r, .int .i64 s] w (Ret (.bool true) w) := by
  go_enter Try.func5, Try.ntmps5
  have hp := Hp.start [] w
  go_upto_region 8 with (first
          | ((with_reducible apply sx_box hp); exact za rfl; exact rfl; clear hp; (try clear w1); intro g w1 hp; simp only [zp, zq, z0, z1])
          | ((with_reducible apply sx_alloc hp); infer_instance; exact rfl; clear hp; (try clear w1); intro g w1 hp; simp only [zp, zq, z0, z1])
          | ((with_reducible apply sx_load_agg hp); exact zt rfl; infer_instance; infer_instance; (first | exact zl rfl | exact LB_le (by omega)); (first | (with_reducible exact LB_set (by omega)) | (simp only [n0, Nat.reduceAdd, n1, n2, n3, n4, n5, n6, n7, n8, n9]; try rfl)); simp only [zp, zq, z0, z1])
          | ((with_reducible apply sx_load_one hp); exact zt rfl; infer_instance; infer_instance; (first | exact zio rfl | exact LB_get (by omega)); simp only [zp, zq, z0, z1])
          | ((with_reducible apply sx_store hp); exact zt rfl; (first | exact za rfl | exact zi rfl); exact rfl; (first | exact AggTy.size | exact OneTy.size); exact rfl; infer_instance; (first | (with_reducible exact LB_set (by omega)) | (simp only [n0, Nat.reduceAdd, n1, n2, n3, n4, n5, n6, n7, n8, n9]; try rfl)); (first | exact zl rfl | exact LB_le (by omega)); exact rfl; infer_instance; clear hp; (try clear w1); intro w1 hp)
          | ((with_reducible apply sx_indexAddr); exact zx rfl; exact zk rfl; infer_instance; (first | exact AggTy.size | exact OneTy.size); omega; omega; ((try simp only [m0, Int.reduceToNat, m1, m2, Nat.reduceMul, Nat.reduceAdd, m3, m4, m5, n0]); exact rfl); simp only [zp, zq, z0, z1])
          | ((with_reducible apply sx_load_far hp); exact zt rfl; assumption; infer_instance; assumption; (first | exact zl rfl | omega); simp only [zp, zq, z0, z1])
          | ((with_reducible apply sx_load_far1 hp); exact zt rfl; assumption; infer_instance; (first | assumption | (first | exact zio rfl | exact LB_get (by omega))); simp only [zp, zq, z0, z1])
          | ((with_reducible apply sx_buildSlice hp); infer_instance; (first | exact AggTy.size | exact OneTy.size); infer_instance; exact zl rfl; decide; (first | exact (rfl : _ = numbered 0 [_]) | exact (rfl : _ = numbered 0 [_, _]) | exact (rfl : _ = numbered 0 [_, _, _]) | exact (rfl : _ = numbered 0 [_, _, _, _])); exact rfl; (first | exact (rfl : _ = List.map (fun x : List Value => x.toArray) [_]) | exact (rfl : _ = List.map (fun x : List Value => x.toArray) [_, _]) | exact (rfl : _ = List.map (fun x : List Value => x.toArray) [_, _, _]) | exact (rfl : _ = List.map (fun x : List Value => x.toArray) [_, _, _, _])); (intro l hl <;> simp only [List.mem_cons, List.not_mem_nil, or_false] at hl <;> rcases hl with rfl | rfl | rfl | rfl <;> rfl); exact rfl; clear hp; (try clear w1); intro g w1 hp; simp only [zp, zq, z0, z1])
          | ((with_reducible refine Calls.mono (SV.out _ _ _ (FSl.lit hp.blk NVl_length rfl rfl) (FSl.lit hp.blk RVl_length rfl rfl)) ?_); (rintro _ w2 ⟨hk, vb, vr, rfl, hb, hr⟩); (have f2 := hk.blk (hp_at hp (List.mem_cons_of_mem _ List.mem_cons_self))); (have f3 := hk.blk (hp_at hp (List.mem_cons_of_mem _ (List.mem_cons_of_mem _ List.mem_cons_self)))); (have f4 := hk.blk (hp_at hp (List.mem_cons_of_mem _ (List.mem_cons_of_mem _ (List.mem_cons_of_mem _ List.mem_cons_self))))); (have f5 := hk.blk (hp_at hp (List.mem_cons_of_mem _ (List.mem_cons_of_mem _ (List.mem_cons_of_mem _ (List.mem_cons_of_mem _ List.mem_cons_self)))))); (dsimp only at f2 f3 f4 f5); (have HK := Lib.hid (hp.keep.trans hk)); (have HB := Lib.hid hb); (have HR := Lib.hid hr); clear hb hr hk hp; (try clear w1); (have hp := Hp.start [] w2)))
  obtain ⟨dA, fA, xa, ya, za'⟩ := box_inr f5
  obtain ⟨dB, fB, xb, yb, zb'⟩ := box_inr f4
  obtain ⟨dR, fR, r17, r20, r2, r11, r14, zr'⟩ := box_row f3
  clear f3 f4 f5
  go_wp2_with (first
          | ((with_reducible apply sx_guard); (conv => whnf); refine Bx.mk ?_; (try simp only [zp, zq, z0, z1]))
          | ((with_reducible apply sx_box hp); exact za rfl; exact rfl; clear hp; (try clear w1); intro g w1 hp; simp only [zp, zq, z0, z1])
          | ((with_reducible apply sx_alloc hp); infer_instance; exact rfl; clear hp; (try clear w1); intro g w1 hp; simp only [zp, zq, z0, z1])
          | ((with_reducible apply sx_load_agg hp); exact zt rfl; infer_instance; infer_instance; (first | exact zl rfl | exact LB_le (by omega)); (first | (with_reducible exact LB_set (by omega)) | (simp only [n0, Nat.reduceAdd, n1, n2, n3, n4, n5, n6, n7, n8, n9]; try rfl)); simp only [zp, zq, z0, z1])
          | ((with_reducible apply sx_load_one hp); exact zt rfl; infer_instance; infer_instance; (first | exact zio rfl | exact LB_get (by omega)); simp only [zp, zq, z0, z1])
          | ((with_reducible apply sx_store hp); exact zt rfl; (first | exact za rfl | exact zi rfl); exact rfl; (first | exact AggTy.size | exact OneTy.size); exact rfl; infer_instance; (first | (with_reducible exact LB_set (by omega)) | (simp only [n0, Nat.reduceAdd, n1, n2, n3, n4, n5, n6, n7, n8, n9]; try rfl)); (first | exact zl rfl | exact LB_le (by omega)); exact rfl; infer_instance; clear hp; (try clear w1); intro w1 hp)
          | ((with_reducible apply sx_indexAddr); exact zx rfl; exact zk rfl; infer_instance; (first | exact AggTy.size | exact OneTy.size); omega; omega; ((try simp only [m0, Int.reduceToNat, m1, m2, Nat.reduceMul, Nat.reduceAdd, m3, m4, m5, n0]); exact rfl); simp only [zp, zq, z0, z1])
          | ((with_reducible apply sx_load_far hp); exact zt rfl; assumption; infer_instance; assumption; (first | exact zl rfl | omega); simp only [zp, zq, z0, z1])
          | ((with_reducible apply sx_load_far1 hp); exact zt rfl; assumption; infer_instance; (first | assumption | (first | exact zio rfl | exact LB_get (by omega))); simp only [zp, zq, z0, z1])
          | ((with_reducible apply sx_buildSlice hp); infer_instance; (first | exact AggTy.size | exact OneTy.size); infer_instance; exact zl rfl; decide; (first | exact (rfl : _ = numbered 0 [_]) | exact (rfl : _ = numbered 0 [_, _]) | exact (rfl : _ = numbered 0 [_, _, _]) | exact (rfl : _ = numbered 0 [_, _, _, _])); exact rfl; (first | exact (rfl : _ = List.map (fun x : List Value => x.toArray) [_]) | exact (rfl : _ = List.map (fun x : List Value => x.toArray) [_, _]) | exact (rfl : _ = List.map (fun x : List Value => x.toArray) [_, _, _]) | exact (rfl : _ = List.map (fun x : List Value => x.toArray) [_, _, _, _])); (intro l hl <;> simp only [List.mem_cons, List.not_mem_nil, or_false] at hl <;> rcases hl with rfl | rfl | rfl | rfl <;> rfl); exact rfl; clear hp; (try clear w1); intro g w1 hp; simp only [zp, zq, z0, z1])
          | ((with_reducible first | refine sx_call hp (LA.out _) ?_ | refine sx_call hp (LW.out _) ?_ | refine sx_call hp (LB.out _) ?_ | refine sx_call hp (awake23 _) ?_); clear hp; (try clear w1); intro w1 hp))
  exact bodyPost_ret (results_one rfl rfl) rfl ⟨rfl, HK.out.trans hp.keep⟩
set_option maxHeartbeats 4000000 in
theorem part_l3 (a b : Inr) (r : Rw) (s : Int) (L' : List Inr) (S' : List Rw) (hm : decide (r.mn < 0) = false) (LA : Hid (∀ w, Calls Try.prog 13 #[PV a.v] w (Ret (.bool true) w))) (LW : Hid (∀ w, Calls Try.prog 13 #[PV a.s] w (Ret (.bool true) w))) (LB : Hid (∀ w, Calls Try.prog 13 #[PV b.v] w (Ret (.bool true) w))) (LX : Hid (∀ w, Calls Try.prog 13 #[PV b.s] w (Ret (.bool false) w))) (w : World)
    (SV : Hid (∀ vb vr w1, FSl NVl 16 w1 vb [a, b] → FSl RVl 25 w1 vr [r.rest] → Calls Try.prog 9 #[vb, vr, .int .i64 s] w1 (SolR w1 L' S' 0))) :
    Calls Try.prog 5 #[NV a, NV b, RoV r, .int .i64 s] w (Ret (.bool true) w) := by
  go_enter Try.func5, Try.ntmps5
  have hp := Hp.start [] w
  go_upto_region 8 with (first
          | ((with_reducible apply sx_box hp); exact za rfl; exact rfl; clear hp; (try clear w1); intro g w1 hp; simp only [zp, zq, z0, z1])
          | ((with_reducible apply sx_alloc hp); infer_instance; exact rfl; clear hp; (try clear w1); intro g w1 hp; simp only [zp, zq, z0, z1])
          | ((with_reducible apply sx_load_agg hp); exact zt rfl; infer_instance; infer_instance; (first | exact zl rfl | exact LB_le (by omega)); (first | (with_reducible exact LB_set (by omega)) | (simp only [n0, Nat.reduceAdd, n1, n2, n3, n4, n5, n6, n7, n8, n9]; try rfl)); simp only [zp, zq, z0, z1])
          | ((with_reducible apply sx_load_one hp); exact zt rfl; infer_instance; infer_instance; (first | exact zio rfl | exact LB_get (by omega)); simp only [zp, zq, z0, z1])
          | ((with_reducible apply sx_store hp); exact zt rfl; (first | exact za rfl | exact zi rfl); exact rfl; (first | exact AggTy.size | exact OneTy.size); exact rfl; infer_instance; (first | (with_reducible exact LB_set (by omega)) | (simp only [n0, Nat.reduceAdd, n1, n2, n3, n4, n5, n6, n7, n8, n9]; try rfl)); (first | exact zl rfl | exact LB_le (by omega)); exact rfl; infer_instance; clear hp; (try clear w1); intro w1 hp)
          | ((with_reducible apply sx_indexAddr); exact zx rfl; exact zk rfl; infer_instance; (first | exact AggTy.size | exact OneTy.size); omega; omega; ((try simp only [m0, Int.reduceToNat, m1, m2, Nat.reduceMul, Nat.reduceAdd, m3, m4, m5, n0]); exact rfl); simp only [zp, zq, z0, z1])
          | ((with_reducible apply sx_load_far hp); exact zt rfl; assumption; infer_instance; assumption; (first | exact zl rfl | omega); simp only [zp, zq, z0, z1])
          | ((with_reducible apply sx_load_far1 hp); exact zt rfl; assumption; infer_instance; (first | assumption | (first | exact zio rfl | exact LB_get (by omega))); simp only [zp, zq, z0, z1])
          | ((with_reducible apply sx_buildSlice hp); infer_instance; (first | exact AggTy.size | exact OneTy.size); infer_instance; exact zl rfl; decide; (first | exact (rfl : _ = numbered 0 [_]) | exact (rfl : _ = numbered 0 [_, _]) | exact (rfl : _ = numbered 0 [_, _, _]) | exact (rfl : _ = numbered 0 [_, _, _, _])); exact rfl; (first | exact (rfl : _ = List.map (fun x : List Value => x.toArray) [_]) | exact (rfl : _ = List.map (fun x : List Value => x.toArray) [_, _]) | exact (rfl : _ = List.map (fun x : List Value => x.toArray) [_, _, _]) | exact (rfl : _ = List.map (fun x : List Value => x.toArray) [_, _, _, _])); (intro l hl <;> simp only [List.mem_cons, List.not_mem_nil, or_false] at hl <;> rcases hl with rfl | rfl | rfl | rfl <;> rfl); exact rfl; clear hp; (try clear w1); intro g w1 hp; simp only [zp, zq, z0, z1])
          | ((with_reducible refine Calls.mono (SV.out _ _ _ (FSl.lit hp.blk NVl_length rfl rfl) (FSl.lit hp.blk RVl_length rfl rfl)) ?_); (rintro _ w2 ⟨hk, vb, vr, rfl, hb, hr⟩); (have f2 := hk.blk (hp_at hp (List.mem_cons_of_mem _ List.mem_cons_self))); (have f3 := hk.blk (hp_at hp (List.mem_cons_of_mem _ (List.mem_cons_of_mem _ List.mem_cons_self)))); (have f4 := hk.blk (hp_at hp (List.mem_cons_of_mem _ (List.mem_cons_of_mem _ (List.mem_cons_of_mem _ List.mem_cons_self))))); (have f5 := hk.blk (hp_at hp (List.mem_cons_of_mem _ (List.mem_cons_of_mem _ (List.mem_cons_of_mem _ (List.mem_cons_of_mem _ List.mem_cons_self)))))); (dsimp only at f2 f3 f4 f5); (have HK := Lib.hid (hp.keep.trans hk)); (have HB := Lib.hid hb); (have HR := Lib.hid hr); clear hb hr hk hp; (try clear w1); (have hp := Hp.start [] w2)))
  obtain ⟨dA, fA, xa, ya, za'⟩ := box_inr f5
  obtain ⟨dB, fB, xb, yb, zb'⟩ := box_inr f4
  obtain ⟨dR, fR, r17, r20, r2, r11, r14, zr'⟩ := box_row f3
  clear f3 f4 f5
  go_wp2_with (first
          | ((with_reducible apply sx_guard); (conv => whnf); refine Bx.mk ?_; (try simp only [zp, zq, z0, z1]))
          | ((with_reducible apply sx_box hp); exact za rfl; exact rfl; clear hp; (try clear w1); intro g w1 hp; simp only [zp, zq, z0, z1])
          | ((with_reducible apply sx_alloc hp); infer_instance; exact rfl; clear hp; (try clear w1); intro g w1 hp; simp only [zp, zq, z0, z1])
          | ((with_reducible apply sx_load_agg hp); exact zt rfl; infer_instance; infer_instance; (first | exact zl rfl | exact LB_le (by omega)); (first | (with_reducible exact LB_set (by omega)) | (simp only [n0, Nat.reduceAdd, n1, n2, n3, n4, n5, n6, n7, n8, n9]; try rfl)); simp only [zp, zq, z0, z1])
          | ((with_reducible apply sx_load_one hp); exact zt rfl; infer_instance; infer_instance; (first | exact zio rfl | exact LB_get (by omega)); simp only [zp, zq, z0, z1])
          | ((with_reducible apply sx_store hp); exact zt rfl; (first | exact za rfl | exact zi rfl); exact rfl; (first | exact AggTy.size | exact OneTy.size); exact rfl; infer_instance; (first | (with_reducible exact LB_set (by omega)) | (simp only [n0, Nat.reduceAdd, n1, n2, n3, n4, n5, n6, n7, n8, n9]; try rfl)); (first | exact zl rfl | exact LB_le (by omega)); exact rfl; infer_instance; clear hp; (try clear w1); intro w1 hp)
          | ((with_reducible apply sx_indexAddr); exact zx rfl; exact zk rfl; infer_instance; (first | exact AggTy.size | exact OneTy.size); omega; omega; ((try simp only [m0, Int.reduceToNat, m1, m2, Nat.reduceMul, Nat.reduceAdd, m3, m4, m5, n0]); exact rfl); simp only [zp, zq, z0, z1])
          | ((with_reducible apply sx_load_far hp); exact zt rfl; assumption; infer_instance; assumption; (first | exact zl rfl | omega); simp only [zp, zq, z0, z1])
          | ((with_reducible apply sx_load_far1 hp); exact zt rfl; assumption; infer_instance; (first | assumption | (first | exact zio rfl | exact LB_get (by omega))); simp only [zp, zq, z0, z1])
          | ((with_reducible apply sx_buildSlice hp); infer_instance; (first | exact AggTy.size | exact OneTy.size); infer_instance; exact zl rfl; decide; (first | exact (rfl : _ = numbered 0 [_]) | exact (rfl : _ = numbered 0 [_, _]) | exact (rfl : _ = numbered 0 [_, _, _]) | exact (rfl : _ = numbered 0 [_, _, _, _])); exact rfl; (first | exact (rfl : _ = List.map (fun x : List Value => x.toArray) [_]) | exact (rfl : _ = List.map (fun x : List Value => x.toArray) [_, _]) | exact (rfl : _ = List.map (fun x : List Value => x.toArray) [_, _, _]) | exact (rfl : _ = List.map (fun x : List Value => x.toArray) [_, _, _, _])); (intro l hl <;> simp only [List.mem_cons, List.not_mem_nil, or_false] at hl <;> rcases hl with rfl | rfl | rfl | rfl <;> rfl); exact rfl; clear hp; (try clear w1); intro g w1 hp; simp only [zp, zq, z0, z1])
          | ((with_reducible first | refine sx_call hp (LA.out _) ?_ | refine sx_call hp (LW.out _) ?_ | refine sx_call hp (LB.out _) ?_ | refine sx_call hp (LX.out _) ?_ | refine sx_call hp (awake23 _) ?_); clear hp; (try clear w1); intro w1 hp))
  exact bodyPost_ret (results_one rfl rfl) rfl ⟨rfl, HK.out.trans hp.keep⟩
set_option maxHeartbeats 8000000 in
theorem part_low (a b : Inr) (r : Rw) (s : Int) (L' : List Inr) (S' : List Rw) (hm : decide (r.mn < 0) = false) (LA : Hid (∀ w, Calls Try.prog 13 #[PV a.v] w (Ret (.bool true) w))) (LW : Hid (∀ w, Calls Try.prog 13 #[PV a.s] w (Ret (.bool true) w))) (LB : Hid (∀ w, Calls Try.prog 13 #[PV b.v] w (Ret (.bool true) w))) (LX : Hid (∀ w, Calls Try.prog 13 #[PV b.s] w (Ret (.bool true) w))) (x1 x y1 y d : P3) (v : Int)
    (C1 : Hid (∀ w, Calls Try.prog 17 #[PV a.s, PV r.ra] w (Ret (PV x1) w))) (A1 : Hid (∀ w, Calls Try.prog 16 #[PV a.v, PV x1] w (Ret (PV x) w)))
    (C2 : Hid (∀ w, Calls Try.prog 17 #[PV b.s, PV r.rb] w (Ret (PV y1) w))) (A2 : Hid (∀ w, Calls Try.prog 16 #[PV b.v, PV y1] w (Ret (PV y) w)))
    (S1 : Hid (∀ w, Calls Try.prog 19 #[PV x, PV y] w (Ret (PV d) w))) (D1 : Hid (∀ w, Calls Try.prog 18 #[PV d, PV r.n] w (Ret (.int .i64 v) w))) (hv : v < r.aim) (w : World)
    (SV : Hid (∀ vb vr w1, FSl NVl 16 w1 vb [a, b] → FSl RVl 25 w1 vr [r.rest] → Calls Try.prog 9 #[vb, vr, .int .i64 s] w1 (SolR w1 L' S' 0))) :
    Calls Try.prog 5 #[NV a, NV b, RoV r, .int .i64 s] w (Ret (.bool true) w) := by
  go_enter Try.func5, Try.ntmps5
  have hp := Hp.start [] w
  go_upto_region 8 with (first
          | ((with_reducible apply sx_box hp); exact za rfl; exact rfl; clear hp; (try clear w1); intro g w1 hp; simp only [zp, zq, z0, z1])
          | ((with_reducible apply sx_alloc hp); infer_instance; exact rfl; clear hp; (try clear w1); intro g w1 hp; simp only [zp, zq, z0, z1])
          | ((with_reducible apply sx_load_agg hp); exact zt rfl; infer_instance; infer_instance; (first | exact zl rfl | exact LB_le (by omega)); (first | (with_reducible exact LB_set (by omega)) | (simp only [n0, Nat.reduceAdd, n1, n2, n3, n4, n5, n6, n7, n8, n9]; try rfl)); simp only [zp, zq, z0, z1])
          | ((with_reducible apply sx_load_one hp); exact zt rfl; infer_instance; infer_instance; (first | exact zio rfl | exact LB_get (by omega)); simp only [zp, zq, z0, z1])
          | ((with_reducible apply sx_store hp); exact zt rfl; (first | exact za rfl | exact zi rfl); exact rfl; (first | exact AggTy.size | exact OneTy.size); exact rfl; infer_instance; (first | (with_reducible exact LB_set (by omega)) | (simp only [n0, Nat.reduceAdd, n1, n2, n3, n4, n5, n6, n7, n8, n9]; try rfl)); (first | exact zl rfl | exact LB_le (by omega)); exact rfl; infer_instance; clear hp; (try clear w1); intro w1 hp)
          | ((with_reducible apply sx_indexAddr); exact zx rfl; exact zk rfl; infer_instance; (first | exact AggTy.size | exact OneTy.size); omega; omega; ((try simp only [m0, Int.reduceToNat, m1, m2, Nat.reduceMul, Nat.reduceAdd, m3, m4, m5, n0]); exact rfl); simp only [zp, zq, z0, z1])
          | ((with_reducible apply sx_load_far hp); exact zt rfl; assumption; infer_instance; assumption; (first | exact zl rfl | omega); simp only [zp, zq, z0, z1])
          | ((with_reducible apply sx_load_far1 hp); exact zt rfl; assumption; infer_instance; (first | assumption | (first | exact zio rfl | exact LB_get (by omega))); simp only [zp, zq, z0, z1])
          | ((with_reducible apply sx_buildSlice hp); infer_instance; (first | exact AggTy.size | exact OneTy.size); infer_instance; exact zl rfl; decide; (first | exact (rfl : _ = numbered 0 [_]) | exact (rfl : _ = numbered 0 [_, _]) | exact (rfl : _ = numbered 0 [_, _, _]) | exact (rfl : _ = numbered 0 [_, _, _, _])); exact rfl; (first | exact (rfl : _ = List.map (fun x : List Value => x.toArray) [_]) | exact (rfl : _ = List.map (fun x : List Value => x.toArray) [_, _]) | exact (rfl : _ = List.map (fun x : List Value => x.toArray) [_, _, _]) | exact (rfl : _ = List.map (fun x : List Value => x.toArray) [_, _, _, _])); (intro l hl <;> simp only [List.mem_cons, List.not_mem_nil, or_false] at hl <;> rcases hl with rfl | rfl | rfl | rfl <;> rfl); exact rfl; clear hp; (try clear w1); intro g w1 hp; simp only [zp, zq, z0, z1])
          | ((with_reducible refine Calls.mono (SV.out _ _ _ (FSl.lit hp.blk NVl_length rfl rfl) (FSl.lit hp.blk RVl_length rfl rfl)) ?_); (rintro _ w2 ⟨hk, vb, vr, rfl, hb, hr⟩); (have f2 := hk.blk (hp_at hp (List.mem_cons_of_mem _ List.mem_cons_self))); (have f3 := hk.blk (hp_at hp (List.mem_cons_of_mem _ (List.mem_cons_of_mem _ List.mem_cons_self)))); (have f4 := hk.blk (hp_at hp (List.mem_cons_of_mem _ (List.mem_cons_of_mem _ (List.mem_cons_of_mem _ List.mem_cons_self))))); (have f5 := hk.blk (hp_at hp (List.mem_cons_of_mem _ (List.mem_cons_of_mem _ (List.mem_cons_of_mem _ (List.mem_cons_of_mem _ List.mem_cons_self)))))); (dsimp only at f2 f3 f4 f5); (have HK := Lib.hid (hp.keep.trans hk)); (have HB := Lib.hid hb); (have HR := Lib.hid hr); clear hb hr hk hp; (try clear w1); (have hp := Hp.start [] w2)))
  obtain ⟨dA, fA, xa, ya, za'⟩ := box_inr f5
  obtain ⟨dB, fB, xb, yb, zb'⟩ := box_inr f4
  obtain ⟨dR, fR, r17, r20, r2, r11, r14, zr'⟩ := box_row f3
  clear f3 f4 f5
  go_wp2_with (first
          | ((with_reducible apply sx_guard); (conv => whnf); refine Bx.mk ?_; (try simp only [zp, zq, z0, z1]))
          | ((with_reducible apply sx_box hp); exact za rfl; exact rfl; clear hp; (try clear w1); intro g w1 hp; simp only [zp, zq, z0, z1])
          | ((with_reducible apply sx_alloc hp); infer_instance; exact rfl; clear hp; (try clear w1); intro g w1 hp; simp only [zp, zq, z0, z1])
          | ((with_reducible apply sx_load_agg hp); exact zt rfl; infer_instance; infer_instance; (first | exact zl rfl | exact LB_le (by omega)); (first | (with_reducible exact LB_set (by omega)) | (simp only [n0, Nat.reduceAdd, n1, n2, n3, n4, n5, n6, n7, n8, n9]; try rfl)); simp only [zp, zq, z0, z1])
          | ((with_reducible apply sx_load_one hp); exact zt rfl; infer_instance; infer_instance; (first | exact zio rfl | exact LB_get (by omega)); simp only [zp, zq, z0, z1])
          | ((with_reducible apply sx_store hp); exact zt rfl; (first | exact za rfl | exact zi rfl); exact rfl; (first | exact AggTy.size | exact OneTy.size); exact rfl; infer_instance; (first | (with_reducible exact LB_set (by omega)) | (simp only [n0, Nat.reduceAdd, n1, n2, n3, n4, n5, n6, n7, n8, n9]; try rfl)); (first | exact zl rfl | exact LB_le (by omega)); exact rfl; infer_instance; clear hp; (try clear w1); intro w1 hp)
          | ((with_reducible apply sx_indexAddr); exact zx rfl; exact zk rfl; infer_instance; (first | exact AggTy.size | exact OneTy.size); omega; omega; ((try simp only [m0, Int.reduceToNat, m1, m2, Nat.reduceMul, Nat.reduceAdd, m3, m4, m5, n0]); exact rfl); simp only [zp, zq, z0, z1])
          | ((with_reducible apply sx_load_far hp); exact zt rfl; assumption; infer_instance; assumption; (first | exact zl rfl | omega); simp only [zp, zq, z0, z1])
          | ((with_reducible apply sx_load_far1 hp); exact zt rfl; assumption; infer_instance; (first | assumption | (first | exact zio rfl | exact LB_get (by omega))); simp only [zp, zq, z0, z1])
          | ((with_reducible apply sx_buildSlice hp); infer_instance; (first | exact AggTy.size | exact OneTy.size); infer_instance; exact zl rfl; decide; (first | exact (rfl : _ = numbered 0 [_]) | exact (rfl : _ = numbered 0 [_, _]) | exact (rfl : _ = numbered 0 [_, _, _]) | exact (rfl : _ = numbered 0 [_, _, _, _])); exact rfl; (first | exact (rfl : _ = List.map (fun x : List Value => x.toArray) [_]) | exact (rfl : _ = List.map (fun x : List Value => x.toArray) [_, _]) | exact (rfl : _ = List.map (fun x : List Value => x.toArray) [_, _, _]) | exact (rfl : _ = List.map (fun x : List Value => x.toArray) [_, _, _, _])); (intro l hl <;> simp only [List.mem_cons, List.not_mem_nil, or_false] at hl <;> rcases hl with rfl | rfl | rfl | rfl <;> rfl); exact rfl; clear hp; (try clear w1); intro g w1 hp; simp only [zp, zq, z0, z1])
          | ((with_reducible first | refine sx_call hp (LA.out _) ?_ | refine sx_call hp (LW.out _) ?_ | refine sx_call hp (LB.out _) ?_ | refine sx_call hp (LX.out _) ?_); clear hp; (try clear w1); intro w1 hp))
  have hq := hp
  refine wp_drawnG_hp hp hq [19] (.q 0 (.q 1 (.q 2 (.q 3 (.q 4 (.q 5 (.q 8 (.q 9 (.q 10 (.q 11 (.q 12 (.q 13 (.p 6 (.p 7 (.p 14 (.p 15 (.alt 16 (.l 17 (.l 18 (.l 19 .nil))) (.l 17 (.l 16 (.l 18 (.l 19 .nil))))))))))))))))))))) (by kernel_rfl) (by kernel_rfl) ?_
  clear hp hq; (try clear w1); intro w1 hp hq
  repeat' (first
    | (((with_reducible apply sg_q); exact zo rfl); (first
        | ((with_reducible apply sg_load_agg hp); exact rfl; exact zt rfl; infer_instance; infer_instance; (first | exact zl rfl | exact LB_le (by omega)); (first | (with_reducible exact LB_set (by omega)) | (simp only [n0, Nat.reduceAdd, n1, n2, n3, n4, n5, n6, n7, n8, n9]; try rfl)); simp only [zp, zq, z0, z1])
        | ((with_reducible apply sg_load_far hp); exact rfl; exact zt rfl; assumption; infer_instance; assumption; (first | exact zl rfl | omega); simp only [zp, zq, z0, z1])
        | ((with_reducible apply sg_pure hp); exact rfl; (focus (intro _; go_simp; (try go_ints); try with_reducible rfl)); simp only [zp, zq, z0, z1])))
    | (((with_reducible apply sg_p); exact zo rfl); ((with_reducible apply sg_call hp); exact rfl; (focus (intro _; go_simp; try first | with_reducible rfl | exact ⟨rfl, rfl⟩)); (with_reducible first | exact fun w => C1.out w | exact fun w => A1.out w | exact fun w => C2.out w | exact fun w => A2.out w); simp only [zp, zq, z0, z1]))
    | (((with_reducible apply sg_l); exact zo rfl); (first
        | ((with_reducible apply sg_alloc hq); (repeat (first | exact List.Sublist.refl _ | apply List.Sublist.cons)); exact rfl; infer_instance; exact rfl; clear hp hq; (try clear w1); intro g w1 hp hq; simp only [zp, zq, z0, z1])
        | ((with_reducible apply sg_store_far hq); exact rfl; exact zt rfl; (first | exact za rfl | exact zu rfl | exact zi rfl | exact zb rfl | exact zr rfl | exact zs rfl | exact zf rfl | exact zg rfl | exact zn rfl | exact zv rfl | exact zw rfl); exact rfl; (first | exact AggTy.size | exact OneTy.size); exact rfl; infer_instance; (first | (with_reducible exact LB_set (by omega)) | (simp only [n0, Nat.reduceAdd, n1, n2, n3, n4, n5, n6, n7, n8, n9]; try rfl)); (first | exact zl rfl | exact LB_le (by omega)); exact rfl; infer_instance; (repeat (first | exact List.Sublist.refl _ | apply List.Sublist.cons)); clear hp hq; (try clear w1); intro w1 hp hq)
        | ((with_reducible apply sg_store hq); exact rfl; exact zt rfl; (first | exact za rfl | exact zu rfl | exact zi rfl | exact zb rfl | exact zr rfl | exact zs rfl | exact zf rfl | exact zg rfl | exact zn rfl | exact zv rfl | exact zw rfl); exact rfl; (first | exact AggTy.size | exact OneTy.size); exact rfl; infer_instance; (first | (with_reducible exact LB_set (by omega)) | (simp only [n0, Nat.reduceAdd, n1, n2, n3, n4, n5, n6, n7, n8, n9]; try rfl)); (first | exact zl rfl | exact LB_le (by omega)); exact rfl; infer_instance; exact rfl; clear hp hq; (try clear w1); intro w1 hq; have hp := True.intro)))
    | (with_reducible apply sg_alt)
    | ((with_reducible apply sg_nil hq); clear hp hq; (try clear w1); intro w1 hp))
  all_goals
    go_wp2_with (first
          | ((with_reducible apply sx_box hp); exact za rfl; exact rfl; clear hp; (try clear w1); intro g w1 hp; simp only [zp, zq, z0, z1])
          | ((with_reducible apply sx_alloc hp); infer_instance; exact rfl; clear hp; (try clear w1); intro g w1 hp; simp only [zp, zq, z0, z1])
          | ((with_reducible apply sx_load_agg hp); exact zt rfl; infer_instance; infer_instance; (first | exact zl rfl | exact LB_le (by omega)); (first | (with_reducible exact LB_set (by omega)) | (simp only [n0, Nat.reduceAdd, n1, n2, n3, n4, n5, n6, n7, n8, n9]; try rfl)); simp only [zp, zq, z0, z1])
          | ((with_reducible apply sx_load_one hp); exact zt rfl; infer_instance; infer_instance; (first | exact zio rfl | exact LB_get (by omega)); simp only [zp, zq, z0, z1])
          | ((with_reducible apply sx_store hp); exact zt rfl; (first | exact za rfl | exact zi rfl); exact rfl; (first | exact AggTy.size | exact OneTy.size); exact rfl; infer_instance; (first | (with_reducible exact LB_set (by omega)) | (simp only [n0, Nat.reduceAdd, n1, n2, n3, n4, n5, n6, n7, n8, n9]; try rfl)); (first | exact zl rfl | exact LB_le (by omega)); exact rfl; infer_instance; clear hp; (try clear w1); intro w1 hp)
          | ((with_reducible apply sx_indexAddr); exact zx rfl; exact zk rfl; infer_instance; (first | exact AggTy.size | exact OneTy.size); omega; omega; ((try simp only [m0, Int.reduceToNat, m1, m2, Nat.reduceMul, Nat.reduceAdd, m3, m4, m5, n0]); exact rfl); simp only [zp, zq, z0, z1])
          | ((with_reducible apply sx_load_far hp); exact zt rfl; assumption; infer_instance; assumption; (first | exact zl rfl | omega); simp only [zp, zq, z0, z1])
          | ((with_reducible apply sx_load_far1 hp); exact zt rfl; assumption; infer_instance; (first | assumption | (first | exact zio rfl | exact LB_get (by omega))); simp only [zp, zq, z0, z1])
          | ((with_reducible apply sx_buildSlice hp); infer_instance; (first | exact AggTy.size | exact OneTy.size); infer_instance; exact zl rfl; decide; (first | exact (rfl : _ = numbered 0 [_]) | exact (rfl : _ = numbered 0 [_, _]) | exact (rfl : _ = numbered 0 [_, _, _]) | exact (rfl : _ = numbered 0 [_, _, _, _])); exact rfl; (first | exact (rfl : _ = List.map (fun x : List Value => x.toArray) [_]) | exact (rfl : _ = List.map (fun x : List Value => x.toArray) [_, _]) | exact (rfl : _ = List.map (fun x : List Value => x.toArray) [_, _, _]) | exact (rfl : _ = List.map (fun x : List Value => x.toArray) [_, _, _, _])); (intro l hl <;> simp only [List.mem_cons, List.not_mem_nil, or_false] at hl <;> rcases hl with rfl | rfl | rfl | rfl <;> rfl); exact rfl; clear hp; (try clear w1); intro g w1 hp; simp only [zp, zq, z0, z1]))
    have hq := hp
    refine wp_drawnG_hp hp hq [] (.q 0 (.q 1 (.q 3 (.q 4 (.p 2 (.p 5 (.q 6 .nil))))))) (by kernel_rfl) (by kernel_rfl) ?_
    clear hp hq; (try clear w1); intro w1 hp hq
    repeat' (first
      | (((with_reducible apply sg_q); exact zo rfl); (first
          | ((with_reducible apply sg_load_agg hp); exact rfl; exact zt rfl; infer_instance; infer_instance; (first | exact zl rfl | exact LB_le (by omega)); (first | (with_reducible exact LB_set (by omega)) | (simp only [n0, Nat.reduceAdd, n1, n2, n3, n4, n5, n6, n7, n8, n9]; try rfl)); simp only [zp, zq, z0, z1])
          | ((with_reducible apply sg_load_far hp); exact rfl; exact zt rfl; assumption; infer_instance; assumption; (first | exact zl rfl | omega); simp only [zp, zq, z0, z1])
          | ((with_reducible apply sg_assign hp); exact zi rfl; simp only [zp, zq, z0, z1])
          | ((with_reducible apply sg_pure hp); exact rfl; (focus (intro _; go_simp; (try go_ints); try with_reducible rfl)); simp only [zp, zq, z0, z1])))
      | (((with_reducible apply sg_p); exact zo rfl); ((with_reducible apply sg_call hp); exact rfl; (focus (intro _; go_simp; try first | with_reducible rfl | exact ⟨rfl, rfl⟩)); (with_reducible first | exact fun w => S1.out w | exact fun w => D1.out w); simp only [zp, zq, z0, z1]))
      | ((with_reducible apply sg_nil hq); clear hp hq; (try clear w1); intro w1 hp))
    go_wp2_with (first
          | ((with_reducible apply sx_box hp); exact za rfl; exact rfl; clear hp; (try clear w1); intro g w1 hp; simp only [zp, zq, z0, z1])
          | ((with_reducible apply sx_alloc hp); infer_instance; exact rfl; clear hp; (try clear w1); intro g w1 hp; simp only [zp, zq, z0, z1])
          | ((with_reducible apply sx_load_agg hp); exact zt rfl; infer_instance; infer_instance; (first | exact zl rfl | exact LB_le (by omega)); (first | (with_reducible exact LB_set (by omega)) | (simp only [n0, Nat.reduceAdd, n1, n2, n3, n4, n5, n6, n7, n8, n9]; try rfl)); simp only [zp, zq, z0, z1])
          | ((with_reducible apply sx_load_one hp); exact zt rfl; infer_instance; infer_instance; (first | exact zio rfl | exact LB_get (by omega)); simp only [zp, zq, z0, z1])
          | ((with_reducible apply sx_store hp); exact zt rfl; (first | exact za rfl | exact zi rfl); exact rfl; (first | exact AggTy.size | exact OneTy.size); exact rfl; infer_instance; (first | (with_reducible exact LB_set (by omega)) | (simp only [n0, Nat.reduceAdd, n1, n2, n3, n4, n5, n6, n7, n8, n9]; try rfl)); (first | exact zl rfl | exact LB_le (by omega)); exact rfl; infer_instance; clear hp; (try clear w1); intro w1 hp)
          | ((with_reducible apply sx_indexAddr); exact zx rfl; exact zk rfl; infer_instance; (first | exact AggTy.size | exact OneTy.size); omega; omega; ((try simp only [m0, Int.reduceToNat, m1, m2, Nat.reduceMul, Nat.reduceAdd, m3, m4, m5, n0]); exact rfl); simp only [zp, zq, z0, z1])
          | ((with_reducible apply sx_load_far hp); exact zt rfl; assumption; infer_instance; assumption; (first | exact zl rfl | omega); simp only [zp, zq, z0, z1])
          | ((with_reducible apply sx_load_far1 hp); exact zt rfl; assumption; infer_instance; (first | assumption | (first | exact zio rfl | exact LB_get (by omega))); simp only [zp, zq, z0, z1])
          | ((with_reducible apply sx_buildSlice hp); infer_instance; (first | exact AggTy.size | exact OneTy.size); infer_instance; exact zl rfl; decide; (first | exact (rfl : _ = numbered 0 [_]) | exact (rfl : _ = numbered 0 [_, _]) | exact (rfl : _ = numbered 0 [_, _, _]) | exact (rfl : _ = numbered 0 [_, _, _, _])); exact rfl; (first | exact (rfl : _ = List.map (fun x : List Value => x.toArray) [_]) | exact (rfl : _ = List.map (fun x : List Value => x.toArray) [_, _]) | exact (rfl : _ = List.map (fun x : List Value => x.toArray) [_, _, _]) | exact (rfl : _ = List.map (fun x : List Value => x.toArray) [_, _, _, _])); (intro l hl <;> simp only [List.mem_cons, List.not_mem_nil, or_false] at hl <;> rcases hl with rfl | rfl | rfl | rfl <;> rfl); exact rfl; clear hp; (try clear w1); intro g w1 hp; simp only [zp, zq, z0, z1])
          | ((with_reducible refine sx_call hp (awake23 _) ?_); clear hp; (try clear w1); intro w1 hp))
    exact bodyPost_ret (results_one rfl rfl) rfl ⟨rfl, HK.out.trans hp.keep⟩
set_option maxHeartbeats 8000000 in
theorem part_main (a b : Inr) (r : Rw) (s : Int) (hm : decide (r.mn < 0) = false) (LA : Hid (∀ w, Calls Try.prog 13 #[PV a.v] w (Ret (.bool true) w))) (LW : Hid (∀ w, Calls Try.prog 13 #[PV a.s] w (Ret (.bool true) w))) (LB : Hid (∀ w, Calls Try.prog 13 #[PV b.v] w (Ret (.bool true) w))) (LX : Hid (∀ w, Calls Try.prog 13 #[PV b.s] w (Ret (.bool true) w))) (x1 x y1 y d : P3) (v : Int)
    (C1 : Hid (∀ w, Calls Try.prog 17 #[PV a.s, PV r.ra] w (Ret (PV x1) w))) (A1 : Hid (∀ w, Calls Try.prog 16 #[PV a.v, PV x1] w (Ret (PV x) w)))
    (C2 : Hid (∀ w, Calls Try.prog 17 #[PV b.s, PV r.rb] w (Ret (PV y1) w))) (A2 : Hid (∀ w, Calls Try.prog 16 #[PV b.v, PV y1] w (Ret (PV y) w)))
    (S1 : Hid (∀ w, Calls Try.prog 19 #[PV x, PV y] w (Ret (PV d) w))) (D1 : Hid (∀ w, Calls Try.prog 18 #[PV d, PV r.n] w (Ret (.int .i64 v) w))) (hv : ¬ v < r.aim) (w : World)
    (SV : Hid (∀ vb vr w1, FSl NVl 16 w1 vb [a, b] → FSl RVl 25 w1 vr [r.rest] → Calls Try.prog 9 #[vb, vr, .int .i64 s] w1 (SolR w1 [a, b] [r.rest] 0))) :
    Calls Try.prog 5 #[NV a, NV b, RoV r, .int .i64 s] w (Ret (.bool true) w) := by
  go_enter Try.func5, Try.ntmps5
  have hp := Hp.start [] w
  go_upto_region 8 with (first
          | ((with_reducible apply sx_box hp); exact za rfl; exact rfl; clear hp; (try clear w1); intro g w1 hp; simp only [zp, zq, z0, z1])
          | ((with_reducible apply sx_alloc hp); infer_instance; exact rfl; clear hp; (try clear w1); intro g w1 hp; simp only [zp, zq, z0, z1])
          | ((with_reducible apply sx_load_agg hp); exact zt rfl; infer_instance; infer_instance; (first | exact zl rfl | exact LB_le (by omega)); (first | (with_reducible exact LB_set (by omega)) | (simp only [n0, Nat.reduceAdd, n1, n2, n3, n4, n5, n6, n7, n8, n9]; try rfl)); simp only [zp, zq, z0, z1])
          | ((with_reducible apply sx_load_one hp); exact zt rfl; infer_instance; infer_instance; (first | exact zio rfl | exact LB_get (by omega)); simp only [zp, zq, z0, z1])
          | ((with_reducible apply sx_store hp); exact zt rfl; (first | exact za rfl | exact zi rfl); exact rfl; (first | exact AggTy.size | exact OneTy.size); exact rfl; infer_instance; (first | (with_reducible exact LB_set (by omega)) | (simp only [n0, Nat.reduceAdd, n1, n2, n3, n4, n5, n6, n7, n8, n9]; try rfl)); (first | exact zl rfl | exact LB_le (by omega)); exact rfl; infer_instance; clear hp; (try clear w1); intro w1 hp)
          | ((with_reducible apply sx_indexAddr); exact zx rfl; exact zk rfl; infer_instance; (first | exact AggTy.size | exact OneTy.size); omega; omega; ((try simp only [m0, Int.reduceToNat, m1, m2, Nat.reduceMul, Nat.reduceAdd, m3, m4, m5, n0]); exact rfl); simp only [zp, zq, z0, z1])
          | ((with_reducible apply sx_load_far hp); exact zt rfl; assumption; infer_instance; assumption; (first | exact zl rfl | omega); simp only [zp, zq, z0, z1])
          | ((with_reducible apply sx_load_far1 hp); exact zt rfl; assumption; infer_instance; (first | assumption | (first | exact zio rfl | exact LB_get (by omega))); simp only [zp, zq, z0, z1])
          | ((with_reducible apply sx_buildSlice hp); infer_instance; (first | exact AggTy.size | exact OneTy.size); infer_instance; exact zl rfl; decide; (first | exact (rfl : _ = numbered 0 [_]) | exact (rfl : _ = numbered 0 [_, _]) | exact (rfl : _ = numbered 0 [_, _, _]) | exact (rfl : _ = numbered 0 [_, _, _, _])); exact rfl; (first | exact (rfl : _ = List.map (fun x : List Value => x.toArray) [_]) | exact (rfl : _ = List.map (fun x : List Value => x.toArray) [_, _]) | exact (rfl : _ = List.map (fun x : List Value => x.toArray) [_, _, _]) | exact (rfl : _ = List.map (fun x : List Value => x.toArray) [_, _, _, _])); (intro l hl <;> simp only [List.mem_cons, List.not_mem_nil, or_false] at hl <;> rcases hl with rfl | rfl | rfl | rfl <;> rfl); exact rfl; clear hp; (try clear w1); intro g w1 hp; simp only [zp, zq, z0, z1])
          | ((with_reducible refine Calls.mono (SV.out _ _ _ (FSl.lit hp.blk NVl_length rfl rfl) (FSl.lit hp.blk RVl_length rfl rfl)) ?_); (rintro _ w2 ⟨hk, vb, vr, rfl, hb, hr⟩); (have f2 := hk.blk (hp_at hp (List.mem_cons_of_mem _ List.mem_cons_self))); (have f3 := hk.blk (hp_at hp (List.mem_cons_of_mem _ (List.mem_cons_of_mem _ List.mem_cons_self)))); (have f4 := hk.blk (hp_at hp (List.mem_cons_of_mem _ (List.mem_cons_of_mem _ (List.mem_cons_of_mem _ List.mem_cons_self))))); (have f5 := hk.blk (hp_at hp (List.mem_cons_of_mem _ (List.mem_cons_of_mem _ (List.mem_cons_of_mem _ (List.mem_cons_of_mem _ List.mem_cons_self)))))); (dsimp only at f2 f3 f4 f5); (have HK := Lib.hid (hp.keep.trans hk)); (have HB := Lib.hid hb); (have HR := Lib.hid hr); clear hb hr hk hp; (try clear w1); (have hp := Hp.start [] w2)))
  obtain ⟨dA, fA, xa, ya, za'⟩ := box_inr f5
  obtain ⟨dB, fB, xb, yb, zb'⟩ := box_inr f4
  obtain ⟨dR, fR, r17, r20, r2, r11, r14, zr'⟩ := box_row f3
  clear f3 f4 f5
  have hb2 := FSl.lit (n := 2) (cap := 2) (L := [a, b]) f2 NVl_length rfl rfl
  have HV := Lib.hid hb2
  clear f2 hb2
  obtain ⟨b3, c3, rfl⟩ := HR.out.shape
  obtain ⟨g4, o4, d4, t4, y4, rfl, hd4, ha4, hl4⟩ := fsl_at (k := 0) HR.out (by omega) RVl_length Nat.zero_lt_one
  rw [Nat.zero_mul, Nat.add_zero] at ha4 hl4
  have x22 : d4[o4 + 22]? = some (.int .i64 0) := get_of 22 ha4 rfl
  have x23 : d4[o4 + 23]? = some (.int .i64 0) := get_of 23 ha4 rfl
  have x24 : d4[o4 + 24]? = some (.int .i64 0) := get_of 24 ha4 rfl
  clear ha4
  go_wp2_with (first
          | ((with_reducible apply sx_guard); (conv => whnf); refine Bx.mk ?_; (try simp only [zp, zq, z0, z1]))
          | ((with_reducible apply sx_box hp); exact za rfl; exact rfl; clear hp; (try clear w1); intro g w1 hp; simp only [zp, zq, z0, z1])
          | ((with_reducible apply sx_alloc hp); infer_instance; exact rfl; clear hp; (try clear w1); intro g w1 hp; simp only [zp, zq, z0, z1])
          | ((with_reducible apply sx_load_agg hp); exact zt rfl; infer_instance; infer_instance; (first | exact zl rfl | exact LB_le (by omega)); (first | (with_reducible exact LB_set (by omega)) | (simp only [n0, Nat.reduceAdd, n1, n2, n3, n4, n5, n6, n7, n8, n9]; try rfl)); simp only [zp, zq, z0, z1])
          | ((with_reducible apply sx_load_one hp); exact zt rfl; infer_instance; infer_instance; (first | exact zio rfl | exact LB_get (by omega)); simp only [zp, zq, z0, z1])
          | ((with_reducible apply sx_store hp); exact zt rfl; (first | exact za rfl | exact zi rfl); exact rfl; (first | exact AggTy.size | exact OneTy.size); exact rfl; infer_instance; (first | (with_reducible exact LB_set (by omega)) | (simp only [n0, Nat.reduceAdd, n1, n2, n3, n4, n5, n6, n7, n8, n9]; try rfl)); (first | exact zl rfl | exact LB_le (by omega)); exact rfl; infer_instance; clear hp; (try clear w1); intro w1 hp)
          | ((with_reducible apply sx_indexAddr); exact zx rfl; exact zk rfl; infer_instance; (first | exact AggTy.size | exact OneTy.size); omega; omega; ((try simp only [m0, Int.reduceToNat, m1, m2, Nat.reduceMul, Nat.reduceAdd, m3, m4, m5, n0]); exact rfl); simp only [zp, zq, z0, z1])
          | ((with_reducible apply sx_load_far hp); exact zt rfl; assumption; infer_instance; assumption; (first | exact zl rfl | omega); simp only [zp, zq, z0, z1])
          | ((with_reducible apply sx_load_far1 hp); exact zt rfl; assumption; infer_instance; (first | assumption | (first | exact zio rfl | exact LB_get (by omega))); simp only [zp, zq, z0, z1])
          | ((with_reducible apply sx_buildSlice hp); infer_instance; (first | exact AggTy.size | exact OneTy.size); infer_instance; exact zl rfl; decide; (first | exact (rfl : _ = numbered 0 [_]) | exact (rfl : _ = numbered 0 [_, _]) | exact (rfl : _ = numbered 0 [_, _, _]) | exact (rfl : _ = numbered 0 [_, _, _, _])); exact rfl; (first | exact (rfl : _ = List.map (fun x : List Value => x.toArray) [_]) | exact (rfl : _ = List.map (fun x : List Value => x.toArray) [_, _]) | exact (rfl : _ = List.map (fun x : List Value => x.toArray) [_, _, _]) | exact (rfl : _ = List.map (fun x : List Value => x.toArray) [_, _, _, _])); (intro l hl <;> simp only [List.mem_cons, List.not_mem_nil, or_false] at hl <;> rcases hl with rfl | rfl | rfl | rfl <;> rfl); exact rfl; clear hp; (try clear w1); intro g w1 hp; simp only [zp, zq, z0, z1])
          | ((with_reducible first | refine sx_call hp (LA.out _) ?_ | refine sx_call hp (LW.out _) ?_ | refine sx_call hp (LB.out _) ?_ | refine sx_call hp (LX.out _) ?_); clear hp; (try clear w1); intro w1 hp))
  have hq := hp
  refine wp_drawnG_hp hp hq [19] (.q 0 (.q 1 (.q 2 (.q 3 (.q 4 (.q 5 (.q 8 (.q 9 (.q 10 (.q 11 (.q 12 (.q 13 (.p 6 (.p 7 (.p 14 (.p 15 (.alt 16 (.l 17 (.l 18 (.l 19 .nil))) (.l 17 (.l 16 (.l 18 (.l 19 .nil))))))))))))))))))))) (by kernel_rfl) (by kernel_rfl) ?_
  clear hp hq; (try clear w1); intro w1 hp hq
  repeat' (first
    | (((with_reducible apply sg_q); exact zo rfl); (first
        | ((with_reducible apply sg_load_agg hp); exact rfl; exact zt rfl; infer_instance; infer_instance; (first | exact zl rfl | exact LB_le (by omega)); (first | (with_reducible exact LB_set (by omega)) | (simp only [n0, Nat.reduceAdd, n1, n2, n3, n4, n5, n6, n7, n8, n9]; try rfl)); simp only [zp, zq, z0, z1])
        | ((with_reducible apply sg_load_far hp); exact rfl; exact zt rfl; assumption; infer_instance; assumption; (first | exact zl rfl | omega); simp only [zp, zq, z0, z1])
        | ((with_reducible apply sg_pure hp); exact rfl; (focus (intro _; go_simp; (try go_ints); try with_reducible rfl)); simp only [zp, zq, z0, z1])))
    | (((with_reducible apply sg_p); exact zo rfl); ((with_reducible apply sg_call hp); exact rfl; (focus (intro _; go_simp; try first | with_reducible rfl | exact ⟨rfl, rfl⟩)); (with_reducible first | exact fun w => C1.out w | exact fun w => A1.out w | exact fun w => C2.out w | exact fun w => A2.out w); simp only [zp, zq, z0, z1]))
    | (((with_reducible apply sg_l); exact zo rfl); (first
        | ((with_reducible apply sg_alloc hq); (repeat (first | exact List.Sublist.refl _ | apply List.Sublist.cons)); exact rfl; infer_instance; exact rfl; clear hp hq; (try clear w1); intro g w1 hp hq; simp only [zp, zq, z0, z1])
        | ((with_reducible apply sg_store_far hq); exact rfl; exact zt rfl; (first | exact za rfl | exact zu rfl | exact zi rfl | exact zb rfl | exact zr rfl | exact zs rfl | exact zf rfl | exact zg rfl | exact zn rfl | exact zv rfl | exact zw rfl); exact rfl; (first | exact AggTy.size | exact OneTy.size); exact rfl; infer_instance; (first | (with_reducible exact LB_set (by omega)) | (simp only [n0, Nat.reduceAdd, n1, n2, n3, n4, n5, n6, n7, n8, n9]; try rfl)); (first | exact zl rfl | exact LB_le (by omega)); exact rfl; infer_instance; (repeat (first | exact List.Sublist.refl _ | apply List.Sublist.cons)); clear hp hq; (try clear w1); intro w1 hp hq)
        | ((with_reducible apply sg_store hq); exact rfl; exact zt rfl; (first | exact za rfl | exact zu rfl | exact zi rfl | exact zb rfl | exact zr rfl | exact zs rfl | exact zf rfl | exact zg rfl | exact zn rfl | exact zv rfl | exact zw rfl); exact rfl; (first | exact AggTy.size | exact OneTy.size); exact rfl; infer_instance; (first | (with_reducible exact LB_set (by omega)) | (simp only [n0, Nat.reduceAdd, n1, n2, n3, n4, n5, n6, n7, n8, n9]; try rfl)); (first | exact zl rfl | exact LB_le (by omega)); exact rfl; infer_instance; exact rfl; clear hp hq; (try clear w1); intro w1 hq; have hp := True.intro)))
    | (with_reducible apply sg_alt)
    | ((with_reducible apply sg_nil hq); clear hp hq; (try clear w1); intro w1 hp))
  all_goals
    go_wp2_with (first
          | ((with_reducible apply sx_box hp); exact za rfl; exact rfl; clear hp; (try clear w1); intro g w1 hp; simp only [zp, zq, z0, z1])
          | ((with_reducible apply sx_alloc hp); infer_instance; exact rfl; clear hp; (try clear w1); intro g w1 hp; simp only [zp, zq, z0, z1])
          | ((with_reducible apply sx_load_agg hp); exact zt rfl; infer_instance; infer_instance; (first | exact zl rfl | exact LB_le (by omega)); (first | (with_reducible exact LB_set (by omega)) | (simp only [n0, Nat.reduceAdd, n1, n2, n3, n4, n5, n6, n7, n8, n9]; try rfl)); simp only [zp, zq, z0, z1])
          | ((with_reducible apply sx_load_one hp); exact zt rfl; infer_instance; infer_instance; (first | exact zio rfl | exact LB_get (by omega)); simp only [zp, zq, z0, z1])
          | ((with_reducible apply sx_store hp); exact zt rfl; (first | exact za rfl | exact zi rfl); exact rfl; (first | exact AggTy.size | exact OneTy.size); exact rfl; infer_instance; (first | (with_reducible exact LB_set (by omega)) | (simp only [n0, Nat.reduceAdd, n1, n2, n3, n4, n5, n6, n7, n8, n9]; try rfl)); (first | exact zl rfl | exact LB_le (by omega)); exact rfl; infer_instance; clear hp; (try clear w1); intro w1 hp)
          | ((with_reducible apply sx_indexAddr); exact zx rfl; exact zk rfl; infer_instance; (first | exact AggTy.size | exact OneTy.size); omega; omega; ((try simp only [m0, Int.reduceToNat, m1, m2, Nat.reduceMul, Nat.reduceAdd, m3, m4, m5, n0]); exact rfl); simp only [zp, zq, z0, z1])
          | ((with_reducible apply sx_load_far hp); exact zt rfl; assumption; infer_instance; assumption; (first | exact zl rfl | omega); simp only [zp, zq, z0, z1])
          | ((with_reducible apply sx_load_far1 hp); exact zt rfl; assumption; infer_instance; (first | assumption | (first | exact zio rfl | exact LB_get (by omega))); simp only [zp, zq, z0, z1])
          | ((with_reducible apply sx_buildSlice hp); infer_instance; (first | exact AggTy.size | exact OneTy.size); infer_instance; exact zl rfl; decide; (first | exact (rfl : _ = numbered 0 [_]) | exact (rfl : _ = numbered 0 [_, _]) | exact (rfl : _ = numbered 0 [_, _, _]) | exact (rfl : _ = numbered 0 [_, _, _, _])); exact rfl; (first | exact (rfl : _ = List.map (fun x : List Value => x.toArray) [_]) | exact (rfl : _ = List.map (fun x : List Value => x.toArray) [_, _]) | exact (rfl : _ = List.map (fun x : List Value => x.toArray) [_, _, _]) | exact (rfl : _ = List.map (fun x : List Value => x.toArray) [_, _, _, _])); (intro l hl <;> simp only [List.mem_cons, List.not_mem_nil, or_false] at hl <;> rcases hl with rfl | rfl | rfl | rfl <;> rfl); exact rfl; clear hp; (try clear w1); intro g w1 hp; simp only [zp, zq, z0, z1]))
    have hq := hp
    refine wp_drawnG_hp hp hq [] (.q 0 (.q 1 (.q 3 (.q 4 (.p 2 (.p 5 (.q 6 .nil))))))) (by kernel_rfl) (by kernel_rfl) ?_
    clear hp hq; (try clear w1); intro w1 hp hq
    repeat' (first
      | (((with_reducible apply sg_q); exact zo rfl); (first
          | ((with_reducible apply sg_load_agg hp); exact rfl; exact zt rfl; infer_instance; infer_instance; (first | exact zl rfl | exact LB_le (by omega)); (first | (with_reducible exact LB_set (by omega)) | (simp only [n0, Nat.reduceAdd, n1, n2, n3, n4, n5, n6, n7, n8, n9]; try rfl)); simp only [zp, zq, z0, z1])
          | ((with_reducible apply sg_load_far hp); exact rfl; exact zt rfl; assumption; infer_instance; assumption; (first | exact zl rfl | omega); simp only [zp, zq, z0, z1])
          | ((with_reducible apply sg_assign hp); exact zi rfl; simp only [zp, zq, z0, z1])
          | ((with_reducible apply sg_pure hp); exact rfl; (focus (intro _; go_simp; (try go_ints); try with_reducible rfl)); simp only [zp, zq, z0, z1])))
      | (((with_reducible apply sg_p); exact zo rfl); ((with_reducible apply sg_call hp); exact rfl; (focus (intro _; go_simp; try first | with_reducible rfl | exact ⟨rfl, rfl⟩)); (with_reducible first | exact fun w => S1.out w | exact fun w => D1.out w); simp only [zp, zq, z0, z1]))
      | ((with_reducible apply sg_nil hq); clear hp hq; (try clear w1); intro w1 hp))
    go_wp2_with (first
          | ((with_reducible apply sx_guard); (conv => whnf); refine Bx.mk ?_; (try simp only [zp, zq, z0, z1]))
          | ((with_reducible apply sx_box hp); exact za rfl; exact rfl; clear hp; (try clear w1); intro g w1 hp; simp only [zp, zq, z0, z1])
          | ((with_reducible apply sx_alloc hp); infer_instance; exact rfl; clear hp; (try clear w1); intro g w1 hp; simp only [zp, zq, z0, z1])
          | ((with_reducible apply sx_load_agg hp); exact zt rfl; infer_instance; infer_instance; (first | exact zl rfl | exact LB_le (by omega)); (first | (with_reducible exact LB_set (by omega)) | (simp only [n0, Nat.reduceAdd, n1, n2, n3, n4, n5, n6, n7, n8, n9]; try rfl)); simp only [zp, zq, z0, z1])
          | ((with_reducible apply sx_load_one hp); exact zt rfl; infer_instance; infer_instance; (first | exact zio rfl | exact LB_get (by omega)); simp only [zp, zq, z0, z1])
          | ((with_reducible apply sx_store hp); exact zt rfl; (first | exact za rfl | exact zi rfl); exact rfl; (first | exact AggTy.size | exact OneTy.size); exact rfl; infer_instance; (first | (with_reducible exact LB_set (by omega)) | (simp only [n0, Nat.reduceAdd, n1, n2, n3, n4, n5, n6, n7, n8, n9]; try rfl)); (first | exact zl rfl | exact LB_le (by omega)); exact rfl; infer_instance; clear hp; (try clear w1); intro w1 hp)
          | ((with_reducible apply sx_indexAddr); exact zx rfl; exact zk rfl; infer_instance; (first | exact AggTy.size | exact OneTy.size); omega; omega; ((try simp only [m0, Int.reduceToNat, m1, m2, Nat.reduceMul, Nat.reduceAdd, m3, m4, m5, n0]); exact rfl); simp only [zp, zq, z0, z1])
          | ((with_reducible apply sx_load_far hp); exact zt rfl; assumption; infer_instance; assumption; (first | exact zl rfl | omega); simp only [zp, zq, z0, z1])
          | ((with_reducible apply sx_load_far1 hp); exact zt rfl; assumption; infer_instance; (first | assumption | (first | exact zio rfl | exact LB_get (by omega))); simp only [zp, zq, z0, z1])
          | ((with_reducible apply sx_buildSlice hp); infer_instance; (first | exact AggTy.size | exact OneTy.size); infer_instance; exact zl rfl; decide; (first | exact (rfl : _ = numbered 0 [_]) | exact (rfl : _ = numbered 0 [_, _]) | exact (rfl : _ = numbered 0 [_, _, _]) | exact (rfl : _ = numbered 0 [_, _, _, _])); exact rfl; (first | exact (rfl : _ = List.map (fun x : List Value => x.toArray) [_]) | exact (rfl : _ = List.map (fun x : List Value => x.toArray) [_, _]) | exact (rfl : _ = List.map (fun x : List Value => x.toArray) [_, _, _]) | exact (rfl : _ = List.map (fun x : List Value => x.toArray) [_, _, _, _])); (intro l hl <;> simp only [List.mem_cons, List.not_mem_nil, or_false] at hl <;> rcases hl with rfl | rfl | rfl | rfl <;> rfl); exact rfl; clear hp; (try clear w1); intro g w1 hp; simp only [zp, zq, z0, z1])
          | ((with_reducible refine sx_call hp (awake23 _) ?_); clear hp; (try clear w1); intro w1 hp)
          | ((with_reducible refine sx_call hp (same_bodies [a, b] _ _ (Nat.le_of_ble_eq_true rfl) _ (HB.out.keep hp.keep) (HV.out.keep hp.keep)) ?_); clear hp; (try clear w1); intro w1 hp))
    exact bodyPost_ret (results_one rfl rfl) rfl ⟨rfl, HK.out.trans hp.keep⟩
theorem part_law (a : Inr) (ha : a.i64) (b : Inr) (hb : b.i64) (r : Rw) (hr : r.i64f) (s : Int) (hs : I64 s) (w : World) : Calls Try.prog 5 #[NV a, NV b, RoV r, .int .i64 s] w (Ret (.bool true) w) := by
  have z0 : I64 0 := by unfold I64; omega
  have z1 : I64 1 := by unfold I64; omega
  have hL : alli [a, b] := fun x hx => by
    simp only [List.mem_cons, List.not_mem_nil, or_false] at hx
    rcases hx with rfl | rfl
    · exact ha
    · exact hb
  have hS : ∀ x ∈ [r.rest], x.i64f := fun x hx => by
    simp only [List.mem_cons, List.not_mem_nil, or_false] at hx
    subst hx
    exact ⟨⟨z0, z1, hr.1.2.2⟩, ⟨hr.2.1, hr.2.2.1, hr.2.2.2.1, hr.2.2.2.2.1, hr.2.2.2.2.2.1, z0, z0, z0⟩⟩
  have SV := fun vb vr w1 h1 h2 => solve_any [a, b] [r.rest] s hL hS vb vr w1 h1 h2
  unfold solveM at SV
  by_cases h3 : s < 0 ∨ 64 < s
  · simp only [if_pos h3] at SV
    exact part_err a b r s _ _ 3 (by decide) w (Lib.hid SV)
  simp only [if_neg h3] at SV
  by_cases hc : checkM ([a, b] : List Inr).length [r.rest] = 0
  case neg =>
    simp only [if_neg hc] at SV
    exact part_err a b r s _ _ _ (by simpa using hc) w (Lib.hid SV)
  simp only [if_pos hc] at SV
  by_cases hm : r.mn < 0
  · exact part_mn a b r s _ _ (decide_eq_true hm) w (Lib.hid SV)
  have hm' : decide (r.mn < 0) = false := decide_eq_false hm
  have LA := limited_any a.v
  have LW := limited_any a.s
  have LB := limited_any b.v
  have LX := limited_any b.s
  cases e1 : a.v.lim with
  | false =>
    rw [e1] at LA
    exact part_l0 a b r s _ _ hm' (Lib.hid LA) w (Lib.hid SV)
  | true =>
  rw [e1] at LA
  cases e2 : a.s.lim with
  | false =>
    rw [e2] at LW
    exact part_l1 a b r s _ _ hm' (Lib.hid LA) (Lib.hid LW) w (Lib.hid SV)
  | true =>
  rw [e2] at LW
  cases e3 : b.v.lim with
  | false =>
    rw [e3] at LB
    exact part_l2 a b r s _ _ hm' (Lib.hid LA) (Lib.hid LW) (Lib.hid LB) w (Lib.hid SV)
  | true =>
  rw [e3] at LB
  cases e4 : b.s.lim with
  | false =>
    rw [e4] at LX
    exact part_l3 a b r s _ _ hm' (Lib.hid LA) (Lib.hid LW) (Lib.hid LB) (Lib.hid LX) w (Lib.hid SV)
  | true =>
  rw [e4] at LX
  obtain ⟨_, _, _, _, av, aw⟩ := ha
  obtain ⟨_, _, _, _, bv, bw⟩ := hb
  obtain ⟨⟨_, _, hn, _, _, hra, hrb⟩, _⟩ := hr
  have C1 := vcross_any a.s r.ra aw hra
  have A1 := vadd_any a.v (P3.ccross a.s r.ra) av ⟨cl_i64 _, cl_i64 _, cl_i64 _⟩
  have C2 := vcross_any b.s r.rb bw hrb
  have A2 := vadd_any b.v (P3.ccross b.s r.rb) bv ⟨cl_i64 _, cl_i64 _, cl_i64 _⟩
  have S1 := vsub_any (a.at r.ra) (b.at r.rb) (cadd_i64 _ _) (cadd_i64 _ _)
  have D1 := vDot_any ((a.at r.ra).csub (b.at r.rb)) r.n (csub_i64 _ _) hn
  by_cases hv : ((a.at r.ra).csub (b.at r.rb)).cdot r.n < r.aim
  · exact part_low a b r s _ _ hm' (Lib.hid LA) (Lib.hid LW) (Lib.hid LB) (Lib.hid LX) _ _ _ _ _ _ (Lib.hid C1) (Lib.hid A1) (Lib.hid C2) (Lib.hid A2) (Lib.hid S1) (Lib.hid D1) hv w (Lib.hid SV)
  · have hp := parts_0 (a := a) (b := b) (r := r.rest) ⟨e1, e2⟩ ⟨e3, e4⟩ ⟨rfl, rfl⟩ ⟨rfl, rfl, rfl⟩ (by show 0 ≤ r.mn; omega) (by show r.aim ≤ ((a.at r.ra).csub (b.at r.rb)).cdot r.n; omega) s.toNat
    rw [show ([r.rest] : List Rw).length = 1 from rfl, hp] at SV
    exact part_main a b r s hm' (Lib.hid LA) (Lib.hid LW) (Lib.hid LB) (Lib.hid LX) _ _ _ _ _ _ (Lib.hid C1) (Lib.hid A1) (Lib.hid C2) (Lib.hid A2) (Lib.hid S1) (Lib.hid D1) hv w (Lib.hid SV)
end Go.Proofs.Ytblffafmkpnjdaa
