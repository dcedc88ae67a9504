/-
  Package ninepinref07: weigh (contract).
  Package ninepinref07: Inside (contract); the weights against the sides (plain).
  Package ninepinref07: Inside is the document's (contract).
  Package ninepinref07: Inside is the document's: the join; ninepinlaw07.OrientInside (contract).
-/
import Derived.Test.YthnpmmpcejfllaaBi
import Derived.Test.YthnpmmpcejfllaaPd
import Derived.Test.YthnpmmpcejfllaaSg
import Derived.Test.YthnpmmpcejfllaaBl
import Derived.Test.YthnpmmpcejfllaaBo
import Derived.Test.YthnpmmpcejfllaaHk
import Derived.Test.YthnpmmpcejfllaaLw
set_option linter.unusedSimpArgs false
set_option linter.unusedVariables false
set_option maxRecDepth 100000
namespace Go.Proofs.Ythnpmmpcejfllaa
open Go Go.RowKit
attribute [local irreducible] wpList

section
variable {α : Type} {a b c : α} {r : List α}
theorem qm1 : (a :: b :: c :: r).Perm (b :: a :: c :: r) := .swap _ _ _
theorem qm2 : (a :: b :: c :: r).Perm (a :: c :: b :: r) := .cons _ (.swap _ _ _)
theorem qm3 : (a :: b :: c :: r).Perm (b :: c :: a :: r) := qm1.trans qm2
theorem qm4 : (a :: b :: c :: r).Perm (c :: a :: b :: r) := qm2.trans qm1
theorem qm5 : (a :: b :: c :: r).Perm (c :: b :: a :: r) := qm3.trans qm1
end
set_option maxHeartbeats 8000000 in
theorem weigh4 (l0 l1 l2 l3 p q a b c : P3) (d0 d1 d2 d3 : Int) (w : World) (g0 off cap : Nat) (bc : List Value) (t : TypeId) {z : Nat × Nat} (hbk : w.heap[g0]? = some (.cells bc.toArray t z)) (hl : off + 12 ≤ bc.length) (h0 : (bc.drop (off)).take 3 = [.int .i64 l0.x, .int .i64 l0.y, .int .i64 l0.z]) (h1 : (bc.drop (off + 3)).take 3 = [.int .i64 l1.x, .int .i64 l1.y, .int .i64 l1.z]) (h2 : (bc.drop (off + 6)).take 3 = [.int .i64 l2.x, .int .i64 l2.y, .int .i64 l2.z]) (h3 : (bc.drop (off + 9)).take 3 = [.int .i64 l3.x, .int .i64 l3.y, .int .i64 l3.z])
    (L0 : Hid (∀ w, Calls Try.prog 53 #[PV p, PV l0] w (Ret (PV q) w))) (L1 : Hid (∀ w, Calls Try.prog 53 #[PV l1, PV l0] w (Ret (PV a) w))) (L2 : Hid (∀ w, Calls Try.prog 53 #[PV l2, PV l0] w (Ret (PV b) w))) (L3 : Hid (∀ w, Calls Try.prog 53 #[PV l3, PV l0] w (Ret (PV c) w))) (E0 : Hid (∀ w, Calls Try.prog 54 #[PV q, PV b, PV c] w (Ret (W d0) w))) (E1 : Hid (∀ w, Calls Try.prog 54 #[PV a, PV q, PV c] w (Ret (W d1) w))) (E2 : Hid (∀ w, Calls Try.prog 54 #[PV a, PV b, PV q] w (Ret (W d2) w))) (E3 : Hid (∀ w, Calls Try.prog 54 #[PV a, PV b, PV c] w (Ret (W d3) w))) :
    Calls Try.prog 35 #[.slice (some ⟨g0, off, none⟩) 4 cap, PV p] w (RetN (fun g => .tuple #[.slice (some ⟨g, 0, none⟩) 4 4, .bool true]) 43 [.int .u64 (lb (d0) 0), .int .u64 (lb (d0) 1), .int .u64 (lb (d0) 2), .int .u64 (lb (d0) 3), .int .u64 (lb (d0) 4), .int .u64 (lb (d0) 5), .int .u64 (lb (d0) 6), .int .u64 (lb (d0) 7), .int .u64 (lb (d1) 0), .int .u64 (lb (d1) 1), .int .u64 (lb (d1) 2), .int .u64 (lb (d1) 3), .int .u64 (lb (d1) 4), .int .u64 (lb (d1) 5), .int .u64 (lb (d1) 6), .int .u64 (lb (d1) 7), .int .u64 (lb (d2) 0), .int .u64 (lb (d2) 1), .int .u64 (lb (d2) 2), .int .u64 (lb (d2) 3), .int .u64 (lb (d2) 4), .int .u64 (lb (d2) 5), .int .u64 (lb (d2) 6), .int .u64 (lb (d2) 7), .int .u64 (lb (d3) 0), .int .u64 (lb (d3) 1), .int .u64 (lb (d3) 2), .int .u64 (lb (d3) 3), .int .u64 (lb (d3) 4), .int .u64 (lb (d3) 5), .int .u64 (lb (d3) 6), .int .u64 (lb (d3) 7)] w) := by
  go_enter Try.func35, Try.ntmps35
  have hp := Hp.start [] w
  go_upto_region 1 with (first
          | ((with_reducible apply sx_box hp); (first | exact za rfl | exact zu rfl | exact zi rfl | exact zb rfl | exact zr rfl | exact zs rfl | exact zf rfl | exact zg rfl | exact zn rfl | exact zv rfl | exact zw rfl); exact rfl; clear hp; (try clear w1); intro g w1 hp; simp only [zp, zq, z0, z1])
          | ((with_reducible apply sx_alloc hp); infer_instance; exact rfl; clear hp; (try clear w1); intro g w1 hp; simp only [zp, zq, z0, z1]))
  obtain ⟨gp, rfl⟩ : ∃ k : Nat, k = g := ⟨_, rfl⟩
  have hq := hp
  refine wp_drawnG_hp hp hq [6] (.q 0 (.q 1 (.q 2 (.q 3 (.p 4 (.l 5 (.l 6 .nil))))))) (by kernel_rfl) (by kernel_rfl) ?_
  clear hp hq; (try clear w1); intro w1 hp hq
  repeat' (first
    | (((with_reducible apply sg_q); exact zo rfl); (first
        | ((with_reducible apply sg_load_agg hp); exact rfl; exact zt rfl; infer_instance; infer_instance; (first | exact zl rfl | exact LB_le (by omega)); (first | (with_reducible exact LB_set (by omega)) | (simp only [n0, Nat.reduceAdd, n1, n2, n3, n4, n5, n6, n7, n8, n9]; try rfl)); simp only [zp, zq, z0, z1])
        | ((with_reducible apply sg_load_far hp); exact rfl; exact zt rfl; assumption; infer_instance; assumption; (first | exact zl rfl | omega); simp only [zp, zq, z0, z1])
        | ((with_reducible apply sg_move hp); exact zs rfl; simp only [zp, zq, z0, z1])
        | ((with_reducible apply sg_indexAddr hp); exact rfl; exact zx rfl; exact zk rfl; infer_instance; (first | exact AggTy.size | exact OneTy.size); omega; omega; ((try simp only [m0, Int.reduceToNat, m1, m2, Nat.reduceMul, Nat.reduceAdd, m3, m4, m5, n0]); exact rfl); simp only [zp, zq, z0, z1])
        | ((with_reducible apply sg_pure hp); exact rfl; (focus (intro _; go_simp; (try go_ints); try with_reducible rfl)); simp only [zp, zq, z0, z1])))
    | (((with_reducible apply sg_p); exact zo rfl); ((with_reducible apply sg_call hp); exact rfl; (focus (intro _; go_simp; try first | with_reducible rfl | exact ⟨rfl, rfl⟩)); (with_reducible first | exact fun w => L0.out w); simp only [zp, zq, z0, z1]))
    | (((with_reducible apply sg_l); exact zo rfl); (first
        | ((with_reducible apply sg_alloc hq); (repeat (first | exact List.Sublist.refl _ | exact List.nil_sublist _ | apply List.Sublist.cons_cons | apply List.Sublist.cons)); exact rfl; infer_instance; exact rfl; clear hp hq; (try clear w1); intro g w1 hp hq; simp only [zp, zq, z0, z1])
        | ((with_reducible apply sg_store_far hq); exact rfl; exact zt rfl; (first | exact za rfl | exact zu rfl | exact zi rfl | exact zb rfl | exact zr rfl | exact zs rfl | exact zf rfl | exact zg rfl | exact zn rfl | exact zv rfl | exact zw rfl); exact rfl; (first | exact AggTy.size | exact OneTy.size); exact rfl; infer_instance; (first | (with_reducible exact LB_set (by omega)) | (simp only [n0, Nat.reduceAdd, n1, n2, n3, n4, n5, n6, n7, n8, n9]; try rfl)); (first | exact zl rfl | exact LB_le (by omega)); exact rfl; infer_instance; (repeat (first | exact List.Sublist.refl _ | exact List.nil_sublist _ | apply List.Sublist.cons_cons | apply List.Sublist.cons)); clear hp hq; (try clear w1); intro w1 hp hq)
        | ((with_reducible apply sg_store hq); exact rfl; exact zt rfl; (first | exact za rfl | exact zu rfl | exact zi rfl | exact zb rfl | exact zr rfl | exact zs rfl | exact zf rfl | exact zg rfl | exact zn rfl | exact zv rfl | exact zw rfl); exact rfl; (first | exact AggTy.size | exact OneTy.size); exact rfl; infer_instance; (first | (with_reducible exact LB_set (by omega)) | (simp only [n0, Nat.reduceAdd, n1, n2, n3, n4, n5, n6, n7, n8, n9]; try rfl)); (first | exact zl rfl | exact LB_le (by omega)); exact rfl; infer_instance; exact rfl; clear hp hq; (try clear w1); intro w1 hq; have hp := True.intro)))
    | ((with_reducible apply sg_nil hq); clear hp hq; (try clear w1); intro w1 hp))
  go_upto_region 3 with fail
  obtain ⟨gq, rfl⟩ : ∃ k : Nat, k = g := ⟨_, rfl⟩
  go_cut [7, 8, 9] (fun s1 s2 s3 wx => ∃ g1 g2 g3, s1 = .pointer (some ⟨g1, 0, none⟩) ∧ s2 = .pointer (some ⟨g2, 0, none⟩) ∧ s3 = .pointer (some ⟨g3, 0, none⟩) ∧ Hp [] w [⟨g3, 33, [.int .i64 c.x, .int .i64 c.y, .int .i64 c.z]⟩, ⟨g2, 33, [.int .i64 b.x, .int .i64 b.y, .int .i64 b.z]⟩, ⟨g1, 33, [.int .i64 a.x, .int .i64 a.y, .int .i64 a.z]⟩, ⟨gq, 33, [.int .i64 q.x, .int .i64 q.y, .int .i64 q.z]⟩, ⟨gp, 33, [.int .i64 p.x, .int .i64 p.y, .int .i64 p.z]⟩] wx)
  case first =>
    skip
    have hq := hp
    refine wp_drawnG_hp hp hq [26] (.q 0 (.q 1 (.q 2 (.q 3 (.q 4 (.q 5 (.q 7 (.q 8 (.q 9 (.q 10 (.q 11 (.q 12 (.q 14 (.q 15 (.q 16 (.q 17 (.q 18 (.q 19 (.p 6 (.p 13 (.p 20 (.alt 21 (.alt 22 (.l 23 (.l 24 (.l 25 (.l 26 .nil)))) (.l 23 (.l 22 (.l 24 (.l 25 (.l 26 .nil)))))) (.alt 22 (.alt 21 (.l 23 (.l 24 (.l 25 (.l 26 .nil)))) (.l 23 (.l 21 (.l 24 (.l 25 (.l 26 .nil)))))) (.l 23 (.alt 21 (.l 22 (.l 24 (.l 25 (.l 26 .nil)))) (.l 22 (.l 21 (.l 24 (.l 25 (.l 26 .nil)))))))))))))))))))))))))))))) (by kernel_rfl) (by kernel_rfl) ?_
    clear hp hq; (try clear w1); intro w1 hp hq
    repeat' (first
      | (((with_reducible apply sg_q); exact zo rfl); (first
          | ((with_reducible apply sg_load_agg hp); exact rfl; exact zt rfl; infer_instance; infer_instance; (first | exact zl rfl | exact LB_le (by omega)); (first | (with_reducible exact LB_set (by omega)) | (simp only [n0, Nat.reduceAdd, n1, n2, n3, n4, n5, n6, n7, n8, n9]; try rfl)); simp only [zp, zq, z0, z1])
          | ((with_reducible apply sg_load_far hp); exact rfl; exact zt rfl; assumption; infer_instance; assumption; (first | exact zl rfl | omega); simp only [zp, zq, z0, z1])
          | ((with_reducible apply sg_move hp); exact zs rfl; simp only [zp, zq, z0, z1])
          | ((with_reducible apply sg_indexAddr hp); exact rfl; exact zx rfl; exact zk rfl; infer_instance; (first | exact AggTy.size | exact OneTy.size); omega; omega; ((try simp only [m0, Int.reduceToNat, m1, m2, Nat.reduceMul, Nat.reduceAdd, m3, m4, m5, n0]); exact rfl); simp only [zp, zq, z0, z1])
          | ((with_reducible apply sg_pure hp); exact rfl; (focus (intro _; go_simp; (try go_ints); try with_reducible rfl)); simp only [zp, zq, z0, z1])))
      | (((with_reducible apply sg_p); exact zo rfl); ((with_reducible apply sg_call hp); exact rfl; (focus (intro _; go_simp; try first | with_reducible rfl | exact ⟨rfl, rfl⟩)); (with_reducible first | exact fun w => L1.out w | exact fun w => L2.out w | exact fun w => L3.out w); simp only [zp, zq, z0, z1]))
      | (((with_reducible apply sg_l); exact zo rfl); (first
          | ((with_reducible apply sg_alloc hq); (repeat (first | exact List.Sublist.refl _ | exact List.nil_sublist _ | apply List.Sublist.cons_cons | apply List.Sublist.cons)); exact rfl; infer_instance; exact rfl; clear hp hq; (try clear w1); intro g w1 hp hq; simp only [zp, zq, z0, z1])
          | ((with_reducible apply sg_store_far hq); exact rfl; exact zt rfl; (first | exact za rfl | exact zu rfl | exact zi rfl | exact zb rfl | exact zr rfl | exact zs rfl | exact zf rfl | exact zg rfl | exact zn rfl | exact zv rfl | exact zw rfl); exact rfl; (first | exact AggTy.size | exact OneTy.size); exact rfl; infer_instance; (first | (with_reducible exact LB_set (by omega)) | (simp only [n0, Nat.reduceAdd, n1, n2, n3, n4, n5, n6, n7, n8, n9]; try rfl)); (first | exact zl rfl | exact LB_le (by omega)); exact rfl; infer_instance; (repeat (first | exact List.Sublist.refl _ | exact List.nil_sublist _ | apply List.Sublist.cons_cons | apply List.Sublist.cons)); clear hp hq; (try clear w1); intro w1 hp hq)
          | ((with_reducible apply sg_store hq); exact rfl; exact zt rfl; (first | exact za rfl | exact zu rfl | exact zi rfl | exact zb rfl | exact zr rfl | exact zs rfl | exact zf rfl | exact zg rfl | exact zn rfl | exact zv rfl | exact zw rfl); exact rfl; (first | exact AggTy.size | exact OneTy.size); exact rfl; infer_instance; (first | (with_reducible exact LB_set (by omega)) | (simp only [n0, Nat.reduceAdd, n1, n2, n3, n4, n5, n6, n7, n8, n9]; try rfl)); (first | exact zl rfl | exact LB_le (by omega)); exact rfl; infer_instance; exact rfl; clear hp hq; (try clear w1); intro w1 hq; have hp := True.intro)))
      | (with_reducible apply sg_alt)
      | ((with_reducible apply sg_nil hq); clear hp hq; (try clear w1); intro w1 hp))
    all_goals (go_wp2_with fail; go_meet; exact ⟨_, _, _, rfl, rfl, rfl, hp.perm (by first | exact List.Perm.refl _ | exact qm1 | exact qm2 | exact qm3 | exact qm4 | exact qm5)⟩)
  case rest =>
    clear hp L0 L1 L2 L3
    obtain ⟨g1, g2, g3, rfl, rfl, rfl, hp⟩ := hcut
    go_upto_region 4 with fail
    have hq := hp
    refine wp_drawnG_hp hp hq [] (.q 0 (.q 1 (.q 2 (.q 4 (.q 5 (.q 6 (.q 8 (.q 9 (.q 10 (.q 12 (.q 13 (.q 14 (.p 3 (.p 7 (.p 11 (.p 15 (.l 16 (.q 17 (.q 18 .nil))))))))))))))))))) (by kernel_rfl) (by kernel_rfl) ?_
    clear hp hq; (try clear w1); intro w1 hp hq
    repeat' (first
      | (((with_reducible apply sg_q); exact zo rfl); (first
          | ((with_reducible apply sg_load_agg hp); exact rfl; exact zt rfl; infer_instance; infer_instance; (first | exact zl rfl | exact LB_le (by omega)); (first | (with_reducible exact LB_set (by omega)) | (simp only [n0, Nat.reduceAdd, n1, n2, n3, n4, n5, n6, n7, n8, n9]; try rfl)); simp only [zp, zq, z0, z1])
          | ((with_reducible apply sg_load_far hp); exact rfl; exact zt rfl; assumption; infer_instance; assumption; (first | exact zl rfl | omega); simp only [zp, zq, z0, z1])
          | ((with_reducible apply sg_assign hp); (first | exact zb rfl | exact zs rfl); simp only [zp, zq, z0, z1])
          | ((with_reducible apply sg_pure hp); exact rfl; (focus (intro _; go_simp; (try go_ints); try with_reducible rfl)); simp only [zp, zq, z0, z1])))
      | (((with_reducible apply sg_p); exact zo rfl); ((with_reducible apply sg_call hp); exact rfl; (focus (intro _; go_simp; try first | with_reducible rfl | exact ⟨rfl, rfl⟩)); (with_reducible first | exact fun w => E0.out w | exact fun w => E1.out w | exact fun w => E2.out w | exact fun w => E3.out w); simp only [zp, zq, z0, z1]))
      | (((with_reducible apply sg_l); exact zo rfl); ((with_reducible apply sg_buildSlice hq); (repeat (first | exact List.Sublist.refl _ | exact List.nil_sublist _ | apply List.Sublist.cons_cons | apply List.Sublist.cons)); exact rfl; infer_instance; (first | exact AggTy.size | exact OneTy.size); infer_instance; exact zl rfl; decide; (first | exact (rfl : _ = numbered 0 [_]) | exact (rfl : _ = numbered 0 [_, _]) | exact (rfl : _ = numbered 0 [_, _, _]) | exact (rfl : _ = numbered 0 [_, _, _, _])); exact rfl; (first | exact (rfl : _ = List.map (fun x : List Value => x.toArray) [_]) | exact (rfl : _ = List.map (fun x : List Value => x.toArray) [_, _]) | exact (rfl : _ = List.map (fun x : List Value => x.toArray) [_, _, _]) | exact (rfl : _ = List.map (fun x : List Value => x.toArray) [_, _, _, _])); (intro l hl <;> simp only [List.mem_cons, List.not_mem_nil, or_false] at hl <;> rcases hl with rfl | rfl | rfl | rfl <;> rfl); exact rfl; clear hp hq; (try clear w1); intro g w1 hp hq; simp only [zp, zq, z0, z1]))
      | ((with_reducible apply sg_nil hq); clear hp hq; (try clear w1); intro w1 hp))
    go_wp2
    exact bodyPost_ret (results_two rfl rfl rfl) rfl ⟨_, rfl, hp.keep, hp.fresh, hp.blk⟩
set_option maxHeartbeats 8000000 in
theorem weigh2 (l0 l1 p q a : P3) (d0 d1 : Int) (o : Bool) (w : World) (g0 off cap : Nat) (bc : List Value) (t : TypeId) {z : Nat × Nat} (hbk : w.heap[g0]? = some (.cells bc.toArray t z)) (hl : off + 6 ≤ bc.length) (h0 : (bc.drop (off)).take 3 = [.int .i64 l0.x, .int .i64 l0.y, .int .i64 l0.z]) (h1 : (bc.drop (off + 3)).take 3 = [.int .i64 l1.x, .int .i64 l1.y, .int .i64 l1.z])
    (L0 : Hid (∀ w, Calls Try.prog 53 #[PV p, PV l0] w (Ret (PV q) w))) (L1 : Hid (∀ w, Calls Try.prog 53 #[PV l1, PV l0] w (Ret (PV a) w))) (E0 : Hid (∀ w, Calls Try.prog 55 #[PV a, PV q] w (Ret (W d0) w))) (E1 : Hid (∀ w, Calls Try.prog 55 #[PV a, PV a] w (Ret (W d1) w))) (LI : Hid (∀ w, Calls Try.prog 45 #[PV l0, PV l1, PV p] w (Ret (.bool o) w))) :
    Calls Try.prog 35 #[.slice (some ⟨g0, off, none⟩) 2 cap, PV p] w (RetN (fun g => .tuple #[.slice (some ⟨g, 0, none⟩) 2 2, .bool o]) 43 [.int .u64 (lb (d0) 0), .int .u64 (lb (d0) 1), .int .u64 (lb (d0) 2), .int .u64 (lb (d0) 3), .int .u64 (lb (d0) 4), .int .u64 (lb (d0) 5), .int .u64 (lb (d0) 6), .int .u64 (lb (d0) 7), .int .u64 (lb (d1) 0), .int .u64 (lb (d1) 1), .int .u64 (lb (d1) 2), .int .u64 (lb (d1) 3), .int .u64 (lb (d1) 4), .int .u64 (lb (d1) 5), .int .u64 (lb (d1) 6), .int .u64 (lb (d1) 7)] w) := by
  go_enter Try.func35, Try.ntmps35
  have hp := Hp.start [] w
  go_upto_region 1 with (first
          | ((with_reducible apply sx_box hp); (first | exact za rfl | exact zu rfl | exact zi rfl | exact zb rfl | exact zr rfl | exact zs rfl | exact zf rfl | exact zg rfl | exact zn rfl | exact zv rfl | exact zw rfl); exact rfl; clear hp; (try clear w1); intro g w1 hp; simp only [zp, zq, z0, z1])
          | ((with_reducible apply sx_alloc hp); infer_instance; exact rfl; clear hp; (try clear w1); intro g w1 hp; simp only [zp, zq, z0, z1]))
  obtain ⟨gp, rfl⟩ : ∃ k : Nat, k = g := ⟨_, rfl⟩
  have hq := hp
  refine wp_drawnG_hp hp hq [6] (.q 0 (.q 1 (.q 2 (.q 3 (.p 4 (.l 5 (.l 6 .nil))))))) (by kernel_rfl) (by kernel_rfl) ?_
  clear hp hq; (try clear w1); intro w1 hp hq
  repeat' (first
    | (((with_reducible apply sg_q); exact zo rfl); (first
        | ((with_reducible apply sg_load_agg hp); exact rfl; exact zt rfl; infer_instance; infer_instance; (first | exact zl rfl | exact LB_le (by omega)); (first | (with_reducible exact LB_set (by omega)) | (simp only [n0, Nat.reduceAdd, n1, n2, n3, n4, n5, n6, n7, n8, n9]; try rfl)); simp only [zp, zq, z0, z1])
        | ((with_reducible apply sg_load_far hp); exact rfl; exact zt rfl; assumption; infer_instance; assumption; (first | exact zl rfl | omega); simp only [zp, zq, z0, z1])
        | ((with_reducible apply sg_move hp); exact zs rfl; simp only [zp, zq, z0, z1])
        | ((with_reducible apply sg_indexAddr hp); exact rfl; exact zx rfl; exact zk rfl; infer_instance; (first | exact AggTy.size | exact OneTy.size); omega; omega; ((try simp only [m0, Int.reduceToNat, m1, m2, Nat.reduceMul, Nat.reduceAdd, m3, m4, m5, n0]); exact rfl); simp only [zp, zq, z0, z1])
        | ((with_reducible apply sg_pure hp); exact rfl; (focus (intro _; go_simp; (try go_ints); try with_reducible rfl)); simp only [zp, zq, z0, z1])))
    | (((with_reducible apply sg_p); exact zo rfl); ((with_reducible apply sg_call hp); exact rfl; (focus (intro _; go_simp; try first | with_reducible rfl | exact ⟨rfl, rfl⟩)); (with_reducible first | exact fun w => L0.out w); simp only [zp, zq, z0, z1]))
    | (((with_reducible apply sg_l); exact zo rfl); (first
        | ((with_reducible apply sg_alloc hq); (repeat (first | exact List.Sublist.refl _ | exact List.nil_sublist _ | apply List.Sublist.cons_cons | apply List.Sublist.cons)); exact rfl; infer_instance; exact rfl; clear hp hq; (try clear w1); intro g w1 hp hq; simp only [zp, zq, z0, z1])
        | ((with_reducible apply sg_store_far hq); exact rfl; exact zt rfl; (first | exact za rfl | exact zu rfl | exact zi rfl | exact zb rfl | exact zr rfl | exact zs rfl | exact zf rfl | exact zg rfl | exact zn rfl | exact zv rfl | exact zw rfl); exact rfl; (first | exact AggTy.size | exact OneTy.size); exact rfl; infer_instance; (first | (with_reducible exact LB_set (by omega)) | (simp only [n0, Nat.reduceAdd, n1, n2, n3, n4, n5, n6, n7, n8, n9]; try rfl)); (first | exact zl rfl | exact LB_le (by omega)); exact rfl; infer_instance; (repeat (first | exact List.Sublist.refl _ | exact List.nil_sublist _ | apply List.Sublist.cons_cons | apply List.Sublist.cons)); clear hp hq; (try clear w1); intro w1 hp hq)
        | ((with_reducible apply sg_store hq); exact rfl; exact zt rfl; (first | exact za rfl | exact zu rfl | exact zi rfl | exact zb rfl | exact zr rfl | exact zs rfl | exact zf rfl | exact zg rfl | exact zn rfl | exact zv rfl | exact zw rfl); exact rfl; (first | exact AggTy.size | exact OneTy.size); exact rfl; infer_instance; (first | (with_reducible exact LB_set (by omega)) | (simp only [n0, Nat.reduceAdd, n1, n2, n3, n4, n5, n6, n7, n8, n9]; try rfl)); (first | exact zl rfl | exact LB_le (by omega)); exact rfl; infer_instance; exact rfl; clear hp hq; (try clear w1); intro w1 hq; have hp := True.intro)))
    | ((with_reducible apply sg_nil hq); clear hp hq; (try clear w1); intro w1 hp))
  go_upto_region 5 with fail
  have hq := hp
  refine wp_drawnG_hp hp hq [8] (.q 0 (.q 1 (.q 2 (.q 3 (.q 4 (.q 5 (.p 6 (.l 7 (.l 8 .nil))))))))) (by kernel_rfl) (by kernel_rfl) ?_
  clear hp hq; (try clear w1); intro w1 hp hq
  repeat' (first
    | (((with_reducible apply sg_q); exact zo rfl); (first
        | ((with_reducible apply sg_load_agg hp); exact rfl; exact zt rfl; infer_instance; infer_instance; (first | exact zl rfl | exact LB_le (by omega)); (first | (with_reducible exact LB_set (by omega)) | (simp only [n0, Nat.reduceAdd, n1, n2, n3, n4, n5, n6, n7, n8, n9]; try rfl)); simp only [zp, zq, z0, z1])
        | ((with_reducible apply sg_load_far hp); exact rfl; exact zt rfl; assumption; infer_instance; assumption; (first | exact zl rfl | omega); simp only [zp, zq, z0, z1])
        | ((with_reducible apply sg_move hp); exact zs rfl; simp only [zp, zq, z0, z1])
        | ((with_reducible apply sg_indexAddr hp); exact rfl; exact zx rfl; exact zk rfl; infer_instance; (first | exact AggTy.size | exact OneTy.size); omega; omega; ((try simp only [m0, Int.reduceToNat, m1, m2, Nat.reduceMul, Nat.reduceAdd, m3, m4, m5, n0]); exact rfl); simp only [zp, zq, z0, z1])
        | ((with_reducible apply sg_pure hp); exact rfl; (focus (intro _; go_simp; (try go_ints); try with_reducible rfl)); simp only [zp, zq, z0, z1])))
    | (((with_reducible apply sg_p); exact zo rfl); ((with_reducible apply sg_call hp); exact rfl; (focus (intro _; go_simp; try first | with_reducible rfl | exact ⟨rfl, rfl⟩)); (with_reducible first | exact fun w => L1.out w); simp only [zp, zq, z0, z1]))
    | (((with_reducible apply sg_l); exact zo rfl); (first
        | ((with_reducible apply sg_alloc hq); (repeat (first | exact List.Sublist.refl _ | exact List.nil_sublist _ | apply List.Sublist.cons_cons | apply List.Sublist.cons)); exact rfl; infer_instance; exact rfl; clear hp hq; (try clear w1); intro g w1 hp hq; simp only [zp, zq, z0, z1])
        | ((with_reducible apply sg_store_far hq); exact rfl; exact zt rfl; (first | exact za rfl | exact zu rfl | exact zi rfl | exact zb rfl | exact zr rfl | exact zs rfl | exact zf rfl | exact zg rfl | exact zn rfl | exact zv rfl | exact zw rfl); exact rfl; (first | exact AggTy.size | exact OneTy.size); exact rfl; infer_instance; (first | (with_reducible exact LB_set (by omega)) | (simp only [n0, Nat.reduceAdd, n1, n2, n3, n4, n5, n6, n7, n8, n9]; try rfl)); (first | exact zl rfl | exact LB_le (by omega)); exact rfl; infer_instance; (repeat (first | exact List.Sublist.refl _ | exact List.nil_sublist _ | apply List.Sublist.cons_cons | apply List.Sublist.cons)); clear hp hq; (try clear w1); intro w1 hp hq)
        | ((with_reducible apply sg_store hq); exact rfl; exact zt rfl; (first | exact za rfl | exact zu rfl | exact zi rfl | exact zb rfl | exact zr rfl | exact zs rfl | exact zf rfl | exact zg rfl | exact zn rfl | exact zv rfl | exact zw rfl); exact rfl; (first | exact AggTy.size | exact OneTy.size); exact rfl; infer_instance; (first | (with_reducible exact LB_set (by omega)) | (simp only [n0, Nat.reduceAdd, n1, n2, n3, n4, n5, n6, n7, n8, n9]; try rfl)); (first | exact zl rfl | exact LB_le (by omega)); exact rfl; infer_instance; exact rfl; clear hp hq; (try clear w1); intro w1 hq; have hp := True.intro)))
    | ((with_reducible apply sg_nil hq); clear hp hq; (try clear w1); intro w1 hp))
  go_upto_region 7 with fail
  have hq := hp
  refine wp_drawnG_hp hp hq [] (.q 0 (.q 1 (.q 3 (.q 4 (.q 7 (.q 8 (.q 9 (.q 10 (.q 11 (.q 12 (.q 13 (.p 2 (.p 5 (.p 14 (.l 6 (.q 15 (.q 16 .nil))))))))))))))))) (by kernel_rfl) (by kernel_rfl) ?_
  clear hp hq; (try clear w1); intro w1 hp hq
  repeat' (first
    | (((with_reducible apply sg_q); exact zo rfl); (first
        | ((with_reducible apply sg_load_agg hp); exact rfl; exact zt rfl; infer_instance; infer_instance; (first | exact zl rfl | exact LB_le (by omega)); (first | (with_reducible exact LB_set (by omega)) | (simp only [n0, Nat.reduceAdd, n1, n2, n3, n4, n5, n6, n7, n8, n9]; try rfl)); simp only [zp, zq, z0, z1])
        | ((with_reducible apply sg_load_far hp); exact rfl; exact zt rfl; assumption; infer_instance; assumption; (first | exact zl rfl | omega); simp only [zp, zq, z0, z1])
        | ((with_reducible apply sg_move hp); exact zs rfl; simp only [zp, zq, z0, z1])
        | ((with_reducible apply sg_assign hp); (first | exact zb rfl | exact zs rfl); simp only [zp, zq, z0, z1])
        | ((with_reducible apply sg_indexAddr hp); exact rfl; exact zx rfl; exact zk rfl; infer_instance; (first | exact AggTy.size | exact OneTy.size); omega; omega; ((try simp only [m0, Int.reduceToNat, m1, m2, Nat.reduceMul, Nat.reduceAdd, m3, m4, m5, n0]); exact rfl); simp only [zp, zq, z0, z1])
        | ((with_reducible apply sg_pure hp); exact rfl; (focus (intro _; go_simp; (try go_ints); try with_reducible rfl)); simp only [zp, zq, z0, z1])))
    | (((with_reducible apply sg_p); exact zo rfl); ((with_reducible apply sg_call hp); exact rfl; (focus (intro _; go_simp; try first | with_reducible rfl | exact ⟨rfl, rfl⟩)); (with_reducible first | exact fun w => E0.out w | exact fun w => E1.out w | exact fun w => LI.out w); simp only [zp, zq, z0, z1]))
    | (((with_reducible apply sg_l); exact zo rfl); ((with_reducible apply sg_buildSlice hq); (repeat (first | exact List.Sublist.refl _ | exact List.nil_sublist _ | apply List.Sublist.cons_cons | apply List.Sublist.cons)); exact rfl; infer_instance; (first | exact AggTy.size | exact OneTy.size); infer_instance; exact zl rfl; decide; (first | exact (rfl : _ = numbered 0 [_]) | exact (rfl : _ = numbered 0 [_, _]) | exact (rfl : _ = numbered 0 [_, _, _]) | exact (rfl : _ = numbered 0 [_, _, _, _])); exact rfl; (first | exact (rfl : _ = List.map (fun x : List Value => x.toArray) [_]) | exact (rfl : _ = List.map (fun x : List Value => x.toArray) [_, _]) | exact (rfl : _ = List.map (fun x : List Value => x.toArray) [_, _, _]) | exact (rfl : _ = List.map (fun x : List Value => x.toArray) [_, _, _, _])); (intro l hl <;> simp only [List.mem_cons, List.not_mem_nil, or_false] at hl <;> rcases hl with rfl | rfl | rfl | rfl <;> rfl); exact rfl; clear hp hq; (try clear w1); intro g w1 hp hq; simp only [zp, zq, z0, z1]))
    | ((with_reducible apply sg_nil hq); clear hp hq; (try clear w1); intro w1 hp))
  go_wp2
  exact bodyPost_ret (results_two rfl rfl rfl) rfl ⟨_, rfl, hp.keep, hp.fresh, hp.blk⟩
set_option maxHeartbeats 16000000 in
theorem weigh3 (l0 l1 l2 p q a b : P3) (aa ab bb aq bq t1 t2 t3 t4 t5 t6 x y e dd s : Int) (o : Bool) (HO : (s == 0) = o) (w : World) (g0 off cap : Nat) (bc : List Value) (t : TypeId) {z : Nat × Nat} (hbk : w.heap[g0]? = some (.cells bc.toArray t z)) (hl : off + 9 ≤ bc.length) (h0 : (bc.drop (off)).take 3 = [.int .i64 l0.x, .int .i64 l0.y, .int .i64 l0.z]) (h1 : (bc.drop (off + 3)).take 3 = [.int .i64 l1.x, .int .i64 l1.y, .int .i64 l1.z]) (h2 : (bc.drop (off + 6)).take 3 = [.int .i64 l2.x, .int .i64 l2.y, .int .i64 l2.z])
    (L0 : Hid (∀ w, Calls Try.prog 53 #[PV p, PV l0] w (Ret (PV q) w))) (L1 : Hid (∀ w, Calls Try.prog 53 #[PV l1, PV l0] w (Ret (PV a) w))) (L2 : Hid (∀ w, Calls Try.prog 53 #[PV l2, PV l0] w (Ret (PV b) w))) (D1 : Hid (∀ w, Calls Try.prog 55 #[PV a, PV a] w (Ret (W aa) w))) (D2 : Hid (∀ w, Calls Try.prog 55 #[PV a, PV b] w (Ret (W ab) w))) (D3 : Hid (∀ w, Calls Try.prog 55 #[PV b, PV b] w (Ret (W bb) w))) (D4 : Hid (∀ w, Calls Try.prog 55 #[PV a, PV q] w (Ret (W aq) w))) (D5 : Hid (∀ w, Calls Try.prog 55 #[PV b, PV q] w (Ret (W bq) w))) (T1 : Hid (∀ w, Calls Try.prog 56 #[W aq, W bb] w (Ret (W t1) w))) (T2 : Hid (∀ w, Calls Try.prog 56 #[W bq, W ab] w (Ret (W t2) w))) (S1 : Hid (∀ w, Calls Try.prog 38 #[W t1, W t2] w (Ret (W x) w))) (T3 : Hid (∀ w, Calls Try.prog 56 #[W bq, W aa] w (Ret (W t3) w))) (T4 : Hid (∀ w, Calls Try.prog 56 #[W aq, W ab] w (Ret (W t4) w))) (S2 : Hid (∀ w, Calls Try.prog 38 #[W t3, W t4] w (Ret (W y) w))) (T5 : Hid (∀ w, Calls Try.prog 56 #[W aa, W bb] w (Ret (W t5) w))) (T6 : Hid (∀ w, Calls Try.prog 56 #[W ab, W ab] w (Ret (W t6) w))) (S3 : Hid (∀ w, Calls Try.prog 38 #[W t5, W t6] w (Ret (W e) w))) (DE : Hid (∀ w, Calls Try.prog 42 #[PV l0, PV l1, PV l2, PV p] w (Ret (W dd) w))) (SG : Hid (∀ w, Calls Try.prog 36 #[W dd] w (Ret (.int .i64 s) w))) :
    Calls Try.prog 35 #[.slice (some ⟨g0, off, none⟩) 3 cap, PV p] w (RetN (fun g => .tuple #[.slice (some ⟨g, 0, none⟩) 3 3, .bool o]) 43 [.int .u64 (lb (x) 0), .int .u64 (lb (x) 1), .int .u64 (lb (x) 2), .int .u64 (lb (x) 3), .int .u64 (lb (x) 4), .int .u64 (lb (x) 5), .int .u64 (lb (x) 6), .int .u64 (lb (x) 7), .int .u64 (lb (y) 0), .int .u64 (lb (y) 1), .int .u64 (lb (y) 2), .int .u64 (lb (y) 3), .int .u64 (lb (y) 4), .int .u64 (lb (y) 5), .int .u64 (lb (y) 6), .int .u64 (lb (y) 7), .int .u64 (lb (e) 0), .int .u64 (lb (e) 1), .int .u64 (lb (e) 2), .int .u64 (lb (e) 3), .int .u64 (lb (e) 4), .int .u64 (lb (e) 5), .int .u64 (lb (e) 6), .int .u64 (lb (e) 7)] w) := by
  go_enter Try.func35, Try.ntmps35
  have hp := Hp.start [] w
  go_upto_region 1 with (first
          | ((with_reducible apply sx_box hp); (first | exact za rfl | exact zu rfl | exact zi rfl | exact zb rfl | exact zr rfl | exact zs rfl | exact zf rfl | exact zg rfl | exact zn rfl | exact zv rfl | exact zw rfl); exact rfl; clear hp; (try clear w1); intro g w1 hp; simp only [zp, zq, z0, z1])
          | ((with_reducible apply sx_alloc hp); infer_instance; exact rfl; clear hp; (try clear w1); intro g w1 hp; simp only [zp, zq, z0, z1]))
  obtain ⟨gp, rfl⟩ : ∃ k : Nat, k = g := ⟨_, rfl⟩
  have hq := hp
  refine wp_drawnG_hp hp hq [6] (.q 0 (.q 1 (.q 2 (.q 3 (.p 4 (.l 5 (.l 6 .nil))))))) (by kernel_rfl) (by kernel_rfl) ?_
  clear hp hq; (try clear w1); intro w1 hp hq
  repeat' (first
    | (((with_reducible apply sg_q); exact zo rfl); (first
        | ((with_reducible apply sg_load_agg hp); exact rfl; exact zt rfl; infer_instance; infer_instance; (first | exact zl rfl | exact LB_le (by omega)); (first | (with_reducible exact LB_set (by omega)) | (simp only [n0, Nat.reduceAdd, n1, n2, n3, n4, n5, n6, n7, n8, n9]; try rfl)); simp only [zp, zq, z0, z1])
        | ((with_reducible apply sg_load_far hp); exact rfl; exact zt rfl; assumption; infer_instance; assumption; (first | exact zl rfl | omega); simp only [zp, zq, z0, z1])
        | ((with_reducible apply sg_move hp); exact zs rfl; simp only [zp, zq, z0, z1])
        | ((with_reducible apply sg_indexAddr hp); exact rfl; exact zx rfl; exact zk rfl; infer_instance; (first | exact AggTy.size | exact OneTy.size); omega; omega; ((try simp only [m0, Int.reduceToNat, m1, m2, Nat.reduceMul, Nat.reduceAdd, m3, m4, m5, n0]); exact rfl); simp only [zp, zq, z0, z1])
        | ((with_reducible apply sg_pure hp); exact rfl; (focus (intro _; go_simp; (try go_ints); try with_reducible rfl)); simp only [zp, zq, z0, z1])))
    | (((with_reducible apply sg_p); exact zo rfl); ((with_reducible apply sg_call hp); exact rfl; (focus (intro _; go_simp; try first | with_reducible rfl | exact ⟨rfl, rfl⟩)); (with_reducible first | exact fun w => L0.out w); simp only [zp, zq, z0, z1]))
    | (((with_reducible apply sg_l); exact zo rfl); (first
        | ((with_reducible apply sg_alloc hq); (repeat (first | exact List.Sublist.refl _ | exact List.nil_sublist _ | apply List.Sublist.cons_cons | apply List.Sublist.cons)); exact rfl; infer_instance; exact rfl; clear hp hq; (try clear w1); intro g w1 hp hq; simp only [zp, zq, z0, z1])
        | ((with_reducible apply sg_store_far hq); exact rfl; exact zt rfl; (first | exact za rfl | exact zu rfl | exact zi rfl | exact zb rfl | exact zr rfl | exact zs rfl | exact zf rfl | exact zg rfl | exact zn rfl | exact zv rfl | exact zw rfl); exact rfl; (first | exact AggTy.size | exact OneTy.size); exact rfl; infer_instance; (first | (with_reducible exact LB_set (by omega)) | (simp only [n0, Nat.reduceAdd, n1, n2, n3, n4, n5, n6, n7, n8, n9]; try rfl)); (first | exact zl rfl | exact LB_le (by omega)); exact rfl; infer_instance; (repeat (first | exact List.Sublist.refl _ | exact List.nil_sublist _ | apply List.Sublist.cons_cons | apply List.Sublist.cons)); clear hp hq; (try clear w1); intro w1 hp hq)
        | ((with_reducible apply sg_store hq); exact rfl; exact zt rfl; (first | exact za rfl | exact zu rfl | exact zi rfl | exact zb rfl | exact zr rfl | exact zs rfl | exact zf rfl | exact zg rfl | exact zn rfl | exact zv rfl | exact zw rfl); exact rfl; (first | exact AggTy.size | exact OneTy.size); exact rfl; infer_instance; (first | (with_reducible exact LB_set (by omega)) | (simp only [n0, Nat.reduceAdd, n1, n2, n3, n4, n5, n6, n7, n8, n9]; try rfl)); (first | exact zl rfl | exact LB_le (by omega)); exact rfl; infer_instance; exact rfl; clear hp hq; (try clear w1); intro w1 hq; have hp := True.intro)))
    | ((with_reducible apply sg_nil hq); clear hp hq; (try clear w1); intro w1 hp))
  go_upto_region 5 with fail
  obtain ⟨gq, rfl⟩ : ∃ k : Nat, k = g := ⟨_, rfl⟩
  have hq := hp
  refine wp_drawnG_hp hp hq [8] (.q 0 (.q 1 (.q 2 (.q 3 (.q 4 (.q 5 (.p 6 (.l 7 (.l 8 .nil))))))))) (by kernel_rfl) (by kernel_rfl) ?_
  clear hp hq; (try clear w1); intro w1 hp hq
  repeat' (first
    | (((with_reducible apply sg_q); exact zo rfl); (first
        | ((with_reducible apply sg_load_agg hp); exact rfl; exact zt rfl; infer_instance; infer_instance; (first | exact zl rfl | exact LB_le (by omega)); (first | (with_reducible exact LB_set (by omega)) | (simp only [n0, Nat.reduceAdd, n1, n2, n3, n4, n5, n6, n7, n8, n9]; try rfl)); simp only [zp, zq, z0, z1])
        | ((with_reducible apply sg_load_far hp); exact rfl; exact zt rfl; assumption; infer_instance; assumption; (first | exact zl rfl | omega); simp only [zp, zq, z0, z1])
        | ((with_reducible apply sg_move hp); exact zs rfl; simp only [zp, zq, z0, z1])
        | ((with_reducible apply sg_indexAddr hp); exact rfl; exact zx rfl; exact zk rfl; infer_instance; (first | exact AggTy.size | exact OneTy.size); omega; omega; ((try simp only [m0, Int.reduceToNat, m1, m2, Nat.reduceMul, Nat.reduceAdd, m3, m4, m5, n0]); exact rfl); simp only [zp, zq, z0, z1])
        | ((with_reducible apply sg_pure hp); exact rfl; (focus (intro _; go_simp; (try go_ints); try with_reducible rfl)); simp only [zp, zq, z0, z1])))
    | (((with_reducible apply sg_p); exact zo rfl); ((with_reducible apply sg_call hp); exact rfl; (focus (intro _; go_simp; try first | with_reducible rfl | exact ⟨rfl, rfl⟩)); (with_reducible first | exact fun w => L1.out w); simp only [zp, zq, z0, z1]))
    | (((with_reducible apply sg_l); exact zo rfl); (first
        | ((with_reducible apply sg_alloc hq); (repeat (first | exact List.Sublist.refl _ | exact List.nil_sublist _ | apply List.Sublist.cons_cons | apply List.Sublist.cons)); exact rfl; infer_instance; exact rfl; clear hp hq; (try clear w1); intro g w1 hp hq; simp only [zp, zq, z0, z1])
        | ((with_reducible apply sg_store_far hq); exact rfl; exact zt rfl; (first | exact za rfl | exact zu rfl | exact zi rfl | exact zb rfl | exact zr rfl | exact zs rfl | exact zf rfl | exact zg rfl | exact zn rfl | exact zv rfl | exact zw rfl); exact rfl; (first | exact AggTy.size | exact OneTy.size); exact rfl; infer_instance; (first | (with_reducible exact LB_set (by omega)) | (simp only [n0, Nat.reduceAdd, n1, n2, n3, n4, n5, n6, n7, n8, n9]; try rfl)); (first | exact zl rfl | exact LB_le (by omega)); exact rfl; infer_instance; (repeat (first | exact List.Sublist.refl _ | exact List.nil_sublist _ | apply List.Sublist.cons_cons | apply List.Sublist.cons)); clear hp hq; (try clear w1); intro w1 hp hq)
        | ((with_reducible apply sg_store hq); exact rfl; exact zt rfl; (first | exact za rfl | exact zu rfl | exact zi rfl | exact zb rfl | exact zr rfl | exact zs rfl | exact zf rfl | exact zg rfl | exact zn rfl | exact zv rfl | exact zw rfl); exact rfl; (first | exact AggTy.size | exact OneTy.size); exact rfl; infer_instance; (first | (with_reducible exact LB_set (by omega)) | (simp only [n0, Nat.reduceAdd, n1, n2, n3, n4, n5, n6, n7, n8, n9]; try rfl)); (first | exact zl rfl | exact LB_le (by omega)); exact rfl; infer_instance; exact rfl; clear hp hq; (try clear w1); intro w1 hq; have hp := True.intro)))
    | ((with_reducible apply sg_nil hq); clear hp hq; (try clear w1); intro w1 hp))
  go_upto_region 8 with fail
  obtain ⟨ga, rfl⟩ : ∃ k : Nat, k = g := ⟨_, rfl⟩
  have hq := hp
  refine wp_drawnG_hp hp hq [8] (.q 0 (.q 1 (.q 2 (.q 3 (.q 4 (.q 5 (.p 6 (.l 7 (.l 8 .nil))))))))) (by kernel_rfl) (by kernel_rfl) ?_
  clear hp hq; (try clear w1); intro w1 hp hq
  repeat' (first
    | (((with_reducible apply sg_q); exact zo rfl); (first
        | ((with_reducible apply sg_load_agg hp); exact rfl; exact zt rfl; infer_instance; infer_instance; (first | exact zl rfl | exact LB_le (by omega)); (first | (with_reducible exact LB_set (by omega)) | (simp only [n0, Nat.reduceAdd, n1, n2, n3, n4, n5, n6, n7, n8, n9]; try rfl)); simp only [zp, zq, z0, z1])
        | ((with_reducible apply sg_load_far hp); exact rfl; exact zt rfl; assumption; infer_instance; assumption; (first | exact zl rfl | omega); simp only [zp, zq, z0, z1])
        | ((with_reducible apply sg_move hp); exact zs rfl; simp only [zp, zq, z0, z1])
        | ((with_reducible apply sg_indexAddr hp); exact rfl; exact zx rfl; exact zk rfl; infer_instance; (first | exact AggTy.size | exact OneTy.size); omega; omega; ((try simp only [m0, Int.reduceToNat, m1, m2, Nat.reduceMul, Nat.reduceAdd, m3, m4, m5, n0]); exact rfl); simp only [zp, zq, z0, z1])
        | ((with_reducible apply sg_pure hp); exact rfl; (focus (intro _; go_simp; (try go_ints); try with_reducible rfl)); simp only [zp, zq, z0, z1])))
    | (((with_reducible apply sg_p); exact zo rfl); ((with_reducible apply sg_call hp); exact rfl; (focus (intro _; go_simp; try first | with_reducible rfl | exact ⟨rfl, rfl⟩)); (with_reducible first | exact fun w => L2.out w); simp only [zp, zq, z0, z1]))
    | (((with_reducible apply sg_l); exact zo rfl); (first
        | ((with_reducible apply sg_alloc hq); (repeat (first | exact List.Sublist.refl _ | exact List.nil_sublist _ | apply List.Sublist.cons_cons | apply List.Sublist.cons)); exact rfl; infer_instance; exact rfl; clear hp hq; (try clear w1); intro g w1 hp hq; simp only [zp, zq, z0, z1])
        | ((with_reducible apply sg_store_far hq); exact rfl; exact zt rfl; (first | exact za rfl | exact zu rfl | exact zi rfl | exact zb rfl | exact zr rfl | exact zs rfl | exact zf rfl | exact zg rfl | exact zn rfl | exact zv rfl | exact zw rfl); exact rfl; (first | exact AggTy.size | exact OneTy.size); exact rfl; infer_instance; (first | (with_reducible exact LB_set (by omega)) | (simp only [n0, Nat.reduceAdd, n1, n2, n3, n4, n5, n6, n7, n8, n9]; try rfl)); (first | exact zl rfl | exact LB_le (by omega)); exact rfl; infer_instance; (repeat (first | exact List.Sublist.refl _ | exact List.nil_sublist _ | apply List.Sublist.cons_cons | apply List.Sublist.cons)); clear hp hq; (try clear w1); intro w1 hp hq)
        | ((with_reducible apply sg_store hq); exact rfl; exact zt rfl; (first | exact za rfl | exact zu rfl | exact zi rfl | exact zb rfl | exact zr rfl | exact zs rfl | exact zf rfl | exact zg rfl | exact zn rfl | exact zv rfl | exact zw rfl); exact rfl; (first | exact AggTy.size | exact OneTy.size); exact rfl; infer_instance; (first | (with_reducible exact LB_set (by omega)) | (simp only [n0, Nat.reduceAdd, n1, n2, n3, n4, n5, n6, n7, n8, n9]; try rfl)); (first | exact zl rfl | exact LB_le (by omega)); exact rfl; infer_instance; exact rfl; clear hp hq; (try clear w1); intro w1 hq; have hp := True.intro)))
    | ((with_reducible apply sg_nil hq); clear hp hq; (try clear w1); intro w1 hp))
  go_upto_region 9 with fail
  obtain ⟨gb, rfl⟩ : ∃ k : Nat, k = g := ⟨_, rfl⟩
  clear L0 L1 L2
  go_cut [12, 13, 14] (fun s1 s2 s3 wx => ∃ g1 g2 g3, s1 = .pointer (some ⟨g1, 0, none⟩) ∧ s2 = .pointer (some ⟨g2, 0, none⟩) ∧ s3 = .pointer (some ⟨g3, 0, none⟩) ∧ Hp [] w [⟨g3, 43, [.int .u64 (lb (bb) 0), .int .u64 (lb (bb) 1), .int .u64 (lb (bb) 2), .int .u64 (lb (bb) 3), .int .u64 (lb (bb) 4), .int .u64 (lb (bb) 5), .int .u64 (lb (bb) 6), .int .u64 (lb (bb) 7)]⟩, ⟨g2, 43, [.int .u64 (lb (ab) 0), .int .u64 (lb (ab) 1), .int .u64 (lb (ab) 2), .int .u64 (lb (ab) 3), .int .u64 (lb (ab) 4), .int .u64 (lb (ab) 5), .int .u64 (lb (ab) 6), .int .u64 (lb (ab) 7)]⟩, ⟨g1, 43, [.int .u64 (lb (aa) 0), .int .u64 (lb (aa) 1), .int .u64 (lb (aa) 2), .int .u64 (lb (aa) 3), .int .u64 (lb (aa) 4), .int .u64 (lb (aa) 5), .int .u64 (lb (aa) 6), .int .u64 (lb (aa) 7)]⟩, ⟨gb, 33, [.int .i64 b.x, .int .i64 b.y, .int .i64 b.z]⟩, ⟨ga, 33, [.int .i64 a.x, .int .i64 a.y, .int .i64 a.z]⟩, ⟨gq, 33, [.int .i64 q.x, .int .i64 q.y, .int .i64 q.z]⟩, ⟨gp, 33, [.int .i64 p.x, .int .i64 p.y, .int .i64 p.z]⟩] wx)
  case first =>
    skip
    have hq := hp
    refine wp_drawnG_hp hp hq [14] (.q 0 (.q 1 (.q 3 (.q 4 (.q 6 (.q 7 (.p 2 (.p 5 (.p 8 (.alt 9 (.alt 10 (.l 11 (.l 12 (.l 13 (.l 14 .nil)))) (.l 11 (.l 10 (.l 12 (.l 13 (.l 14 .nil)))))) (.alt 10 (.alt 9 (.l 11 (.l 12 (.l 13 (.l 14 .nil)))) (.l 11 (.l 9 (.l 12 (.l 13 (.l 14 .nil)))))) (.l 11 (.alt 9 (.l 10 (.l 12 (.l 13 (.l 14 .nil)))) (.l 10 (.l 9 (.l 12 (.l 13 (.l 14 .nil)))))))))))))))))) (by kernel_rfl) (by kernel_rfl) ?_
    clear hp hq; (try clear w1); intro w1 hp hq
    repeat' (first
      | (((with_reducible apply sg_q); exact zo rfl); (first
          | ((with_reducible apply sg_load_agg hp); exact rfl; exact zt rfl; infer_instance; infer_instance; (first | exact zl rfl | exact LB_le (by omega)); (first | (with_reducible exact LB_set (by omega)) | (simp only [n0, Nat.reduceAdd, n1, n2, n3, n4, n5, n6, n7, n8, n9]; try rfl)); simp only [zp, zq, z0, z1])
          | ((with_reducible apply sg_load_far hp); exact rfl; exact zt rfl; assumption; infer_instance; assumption; (first | exact zl rfl | omega); simp only [zp, zq, z0, z1])
          | ((with_reducible apply sg_pure hp); exact rfl; (focus (intro _; go_simp; (try go_ints); try with_reducible rfl)); simp only [zp, zq, z0, z1])))
      | (((with_reducible apply sg_p); exact zo rfl); ((with_reducible apply sg_call hp); exact rfl; (focus (intro _; go_simp; try first | with_reducible rfl | exact ⟨rfl, rfl⟩)); (with_reducible first | exact fun w => D1.out w | exact fun w => D2.out w | exact fun w => D3.out w); simp only [zp, zq, z0, z1]))
      | (((with_reducible apply sg_l); exact zo rfl); (first
          | ((with_reducible apply sg_alloc hq); (repeat (first | exact List.Sublist.refl _ | exact List.nil_sublist _ | apply List.Sublist.cons_cons | apply List.Sublist.cons)); exact rfl; infer_instance; exact rfl; clear hp hq; (try clear w1); intro g w1 hp hq; simp only [zp, zq, z0, z1])
          | ((with_reducible apply sg_store_far hq); exact rfl; exact zt rfl; (first | exact za rfl | exact zu rfl | exact zi rfl | exact zb rfl | exact zr rfl | exact zs rfl | exact zf rfl | exact zg rfl | exact zn rfl | exact zv rfl | exact zw rfl); exact rfl; (first | exact AggTy.size | exact OneTy.size); exact rfl; infer_instance; (first | (with_reducible exact LB_set (by omega)) | (simp only [n0, Nat.reduceAdd, n1, n2, n3, n4, n5, n6, n7, n8, n9]; try rfl)); (first | exact zl rfl | exact LB_le (by omega)); exact rfl; infer_instance; (repeat (first | exact List.Sublist.refl _ | exact List.nil_sublist _ | apply List.Sublist.cons_cons | apply List.Sublist.cons)); clear hp hq; (try clear w1); intro w1 hp hq)
          | ((with_reducible apply sg_store hq); exact rfl; exact zt rfl; (first | exact za rfl | exact zu rfl | exact zi rfl | exact zb rfl | exact zr rfl | exact zs rfl | exact zf rfl | exact zg rfl | exact zn rfl | exact zv rfl | exact zw rfl); exact rfl; (first | exact AggTy.size | exact OneTy.size); exact rfl; infer_instance; (first | (with_reducible exact LB_set (by omega)) | (simp only [n0, Nat.reduceAdd, n1, n2, n3, n4, n5, n6, n7, n8, n9]; try rfl)); (first | exact zl rfl | exact LB_le (by omega)); exact rfl; infer_instance; exact rfl; clear hp hq; (try clear w1); intro w1 hq; have hp := True.intro)))
      | (with_reducible apply sg_alt)
      | ((with_reducible apply sg_nil hq); clear hp hq; (try clear w1); intro w1 hp))
    all_goals (go_wp2_with fail; go_meet; exact ⟨_, _, _, rfl, rfl, rfl, hp.perm (by first | exact List.Perm.refl _ | exact qm1 | exact qm2 | exact qm3 | exact qm4 | exact qm5)⟩)
  case rest =>
    clear hp D1 D2 D3
    obtain ⟨g1, g2, g3, rfl, rfl, rfl, hp⟩ := hcut
    go_upto_region 10 with fail
    go_cut [15, 16] (fun s1 s2 wx => ∃ g4 g5, s1 = .pointer (some ⟨g4, 0, none⟩) ∧ s2 = .pointer (some ⟨g5, 0, none⟩) ∧ Hp [] w [⟨g5, 43, [.int .u64 (lb (bq) 0), .int .u64 (lb (bq) 1), .int .u64 (lb (bq) 2), .int .u64 (lb (bq) 3), .int .u64 (lb (bq) 4), .int .u64 (lb (bq) 5), .int .u64 (lb (bq) 6), .int .u64 (lb (bq) 7)]⟩, ⟨g4, 43, [.int .u64 (lb (aq) 0), .int .u64 (lb (aq) 1), .int .u64 (lb (aq) 2), .int .u64 (lb (aq) 3), .int .u64 (lb (aq) 4), .int .u64 (lb (aq) 5), .int .u64 (lb (aq) 6), .int .u64 (lb (aq) 7)]⟩, ⟨g3, 43, [.int .u64 (lb (bb) 0), .int .u64 (lb (bb) 1), .int .u64 (lb (bb) 2), .int .u64 (lb (bb) 3), .int .u64 (lb (bb) 4), .int .u64 (lb (bb) 5), .int .u64 (lb (bb) 6), .int .u64 (lb (bb) 7)]⟩, ⟨g2, 43, [.int .u64 (lb (ab) 0), .int .u64 (lb (ab) 1), .int .u64 (lb (ab) 2), .int .u64 (lb (ab) 3), .int .u64 (lb (ab) 4), .int .u64 (lb (ab) 5), .int .u64 (lb (ab) 6), .int .u64 (lb (ab) 7)]⟩, ⟨g1, 43, [.int .u64 (lb (aa) 0), .int .u64 (lb (aa) 1), .int .u64 (lb (aa) 2), .int .u64 (lb (aa) 3), .int .u64 (lb (aa) 4), .int .u64 (lb (aa) 5), .int .u64 (lb (aa) 6), .int .u64 (lb (aa) 7)]⟩, ⟨gp, 33, [.int .i64 p.x, .int .i64 p.y, .int .i64 p.z]⟩] wx)
    case first =>
      skip
      have hq := hp
      refine wp_drawnG_hp hp hq [9] (.q 0 (.q 1 (.q 3 (.q 4 (.p 2 (.p 5 (.alt 6 (.l 7 (.l 8 (.l 9 .nil))) (.l 7 (.l 6 (.l 8 (.l 9 .nil))))))))))) (by kernel_rfl) (by kernel_rfl) ?_
      clear hp hq; (try clear w1); intro w1 hp hq
      repeat' (first
        | (((with_reducible apply sg_q); exact zo rfl); (first
            | ((with_reducible apply sg_load_agg hp); exact rfl; exact zt rfl; infer_instance; infer_instance; (first | exact zl rfl | exact LB_le (by omega)); (first | (with_reducible exact LB_set (by omega)) | (simp only [n0, Nat.reduceAdd, n1, n2, n3, n4, n5, n6, n7, n8, n9]; try rfl)); simp only [zp, zq, z0, z1])
            | ((with_reducible apply sg_load_far hp); exact rfl; exact zt rfl; assumption; infer_instance; assumption; (first | exact zl rfl | omega); simp only [zp, zq, z0, z1])
            | ((with_reducible apply sg_pure hp); exact rfl; (focus (intro _; go_simp; (try go_ints); try with_reducible rfl)); simp only [zp, zq, z0, z1])))
        | (((with_reducible apply sg_p); exact zo rfl); ((with_reducible apply sg_call hp); exact rfl; (focus (intro _; go_simp; try first | with_reducible rfl | exact ⟨rfl, rfl⟩)); (with_reducible first | exact fun w => D4.out w | exact fun w => D5.out w); simp only [zp, zq, z0, z1]))
        | (((with_reducible apply sg_l); exact zo rfl); (first
            | ((with_reducible apply sg_alloc hq); (repeat (first | exact List.Sublist.refl _ | exact List.nil_sublist _ | apply List.Sublist.cons_cons | apply List.Sublist.cons)); exact rfl; infer_instance; exact rfl; clear hp hq; (try clear w1); intro g w1 hp hq; simp only [zp, zq, z0, z1])
            | ((with_reducible apply sg_store_far hq); exact rfl; exact zt rfl; (first | exact za rfl | exact zu rfl | exact zi rfl | exact zb rfl | exact zr rfl | exact zs rfl | exact zf rfl | exact zg rfl | exact zn rfl | exact zv rfl | exact zw rfl); exact rfl; (first | exact AggTy.size | exact OneTy.size); exact rfl; infer_instance; (first | (with_reducible exact LB_set (by omega)) | (simp only [n0, Nat.reduceAdd, n1, n2, n3, n4, n5, n6, n7, n8, n9]; try rfl)); (first | exact zl rfl | exact LB_le (by omega)); exact rfl; infer_instance; (repeat (first | exact List.Sublist.refl _ | exact List.nil_sublist _ | apply List.Sublist.cons_cons | apply List.Sublist.cons)); clear hp hq; (try clear w1); intro w1 hp hq)
            | ((with_reducible apply sg_store hq); exact rfl; exact zt rfl; (first | exact za rfl | exact zu rfl | exact zi rfl | exact zb rfl | exact zr rfl | exact zs rfl | exact zf rfl | exact zg rfl | exact zn rfl | exact zv rfl | exact zw rfl); exact rfl; (first | exact AggTy.size | exact OneTy.size); exact rfl; infer_instance; (first | (with_reducible exact LB_set (by omega)) | (simp only [n0, Nat.reduceAdd, n1, n2, n3, n4, n5, n6, n7, n8, n9]; try rfl)); (first | exact zl rfl | exact LB_le (by omega)); exact rfl; infer_instance; exact rfl; clear hp hq; (try clear w1); intro w1 hq; have hp := True.intro)))
        | (with_reducible apply sg_alt)
        | ((with_reducible apply sg_nil hq); clear hp hq; (try clear w1); intro w1 hp))
      all_goals (go_wp2_with fail; go_meet; first | exact ⟨_, _, rfl, rfl, hp.sub (.cons_cons _ (.cons_cons _ (.cons_cons _ (.cons_cons _ (.cons_cons _ (.cons _ (.cons _ (.cons _ (List.Sublist.refl _)))))))))⟩ | exact ⟨_, _, rfl, rfl, (hp.perm (.swap _ _ _)).sub (.cons_cons _ (.cons_cons _ (.cons_cons _ (.cons_cons _ (.cons_cons _ (.cons _ (.cons _ (.cons _ (List.Sublist.refl _)))))))))⟩)
    case rest =>
      clear hp D4 D5
      obtain ⟨g4, g5, rfl, rfl, hp⟩ := hcut
      go_upto_region 11 with fail
      have hq := hp
      refine wp_drawnG_hp hp hq [8] (.q 0 (.q 1 (.q 3 (.q 4 (.p 2 (.p 5 (.p 6 (.l 7 (.l 8 .nil))))))))) (by kernel_rfl) (by kernel_rfl) ?_
      clear hp hq; (try clear w1); intro w1 hp hq
      repeat' (first
        | (((with_reducible apply sg_q); exact zo rfl); (first
            | ((with_reducible apply sg_load_agg hp); exact rfl; exact zt rfl; infer_instance; infer_instance; (first | exact zl rfl | exact LB_le (by omega)); (first | (with_reducible exact LB_set (by omega)) | (simp only [n0, Nat.reduceAdd, n1, n2, n3, n4, n5, n6, n7, n8, n9]; try rfl)); simp only [zp, zq, z0, z1])
            | ((with_reducible apply sg_load_far hp); exact rfl; exact zt rfl; assumption; infer_instance; assumption; (first | exact zl rfl | omega); simp only [zp, zq, z0, z1])
            | ((with_reducible apply sg_pure hp); exact rfl; (focus (intro _; go_simp; (try go_ints); try with_reducible rfl)); simp only [zp, zq, z0, z1])))
        | (((with_reducible apply sg_p); exact zo rfl); ((with_reducible apply sg_call hp); exact rfl; (focus (intro _; go_simp; try first | with_reducible rfl | exact ⟨rfl, rfl⟩)); (with_reducible first | exact fun w => T1.out w | exact fun w => T2.out w | exact fun w => S1.out w); simp only [zp, zq, z0, z1]))
        | (((with_reducible apply sg_l); exact zo rfl); (first
            | ((with_reducible apply sg_alloc hq); (repeat (first | exact List.Sublist.refl _ | exact List.nil_sublist _ | apply List.Sublist.cons_cons | apply List.Sublist.cons)); exact rfl; infer_instance; exact rfl; clear hp hq; (try clear w1); intro g w1 hp hq; simp only [zp, zq, z0, z1])
            | ((with_reducible apply sg_store_far hq); exact rfl; exact zt rfl; (first | exact za rfl | exact zu rfl | exact zi rfl | exact zb rfl | exact zr rfl | exact zs rfl | exact zf rfl | exact zg rfl | exact zn rfl | exact zv rfl | exact zw rfl); exact rfl; (first | exact AggTy.size | exact OneTy.size); exact rfl; infer_instance; (first | (with_reducible exact LB_set (by omega)) | (simp only [n0, Nat.reduceAdd, n1, n2, n3, n4, n5, n6, n7, n8, n9]; try rfl)); (first | exact zl rfl | exact LB_le (by omega)); exact rfl; infer_instance; (repeat (first | exact List.Sublist.refl _ | exact List.nil_sublist _ | apply List.Sublist.cons_cons | apply List.Sublist.cons)); clear hp hq; (try clear w1); intro w1 hp hq)
            | ((with_reducible apply sg_store hq); exact rfl; exact zt rfl; (first | exact za rfl | exact zu rfl | exact zi rfl | exact zb rfl | exact zr rfl | exact zs rfl | exact zf rfl | exact zg rfl | exact zn rfl | exact zv rfl | exact zw rfl); exact rfl; (first | exact AggTy.size | exact OneTy.size); exact rfl; infer_instance; (first | (with_reducible exact LB_set (by omega)) | (simp only [n0, Nat.reduceAdd, n1, n2, n3, n4, n5, n6, n7, n8, n9]; try rfl)); (first | exact zl rfl | exact LB_le (by omega)); exact rfl; infer_instance; exact rfl; clear hp hq; (try clear w1); intro w1 hq; have hp := True.intro)))
        | ((with_reducible apply sg_nil hq); clear hp hq; (try clear w1); intro w1 hp))
      go_upto_region 12 with fail
      have hq := hp
      refine wp_drawnG_hp hp hq [8] (.q 0 (.q 1 (.q 3 (.q 4 (.p 2 (.p 5 (.p 6 (.l 7 (.l 8 .nil))))))))) (by kernel_rfl) (by kernel_rfl) ?_
      clear hp hq; (try clear w1); intro w1 hp hq
      repeat' (first
        | (((with_reducible apply sg_q); exact zo rfl); (first
            | ((with_reducible apply sg_load_agg hp); exact rfl; exact zt rfl; infer_instance; infer_instance; (first | exact zl rfl | exact LB_le (by omega)); (first | (with_reducible exact LB_set (by omega)) | (simp only [n0, Nat.reduceAdd, n1, n2, n3, n4, n5, n6, n7, n8, n9]; try rfl)); simp only [zp, zq, z0, z1])
            | ((with_reducible apply sg_load_far hp); exact rfl; exact zt rfl; assumption; infer_instance; assumption; (first | exact zl rfl | omega); simp only [zp, zq, z0, z1])
            | ((with_reducible apply sg_pure hp); exact rfl; (focus (intro _; go_simp; (try go_ints); try with_reducible rfl)); simp only [zp, zq, z0, z1])))
        | (((with_reducible apply sg_p); exact zo rfl); ((with_reducible apply sg_call hp); exact rfl; (focus (intro _; go_simp; try first | with_reducible rfl | exact ⟨rfl, rfl⟩)); (with_reducible first | exact fun w => T3.out w | exact fun w => T4.out w | exact fun w => S2.out w); simp only [zp, zq, z0, z1]))
        | (((with_reducible apply sg_l); exact zo rfl); (first
            | ((with_reducible apply sg_alloc hq); (repeat (first | exact List.Sublist.refl _ | exact List.nil_sublist _ | apply List.Sublist.cons_cons | apply List.Sublist.cons)); exact rfl; infer_instance; exact rfl; clear hp hq; (try clear w1); intro g w1 hp hq; simp only [zp, zq, z0, z1])
            | ((with_reducible apply sg_store_far hq); exact rfl; exact zt rfl; (first | exact za rfl | exact zu rfl | exact zi rfl | exact zb rfl | exact zr rfl | exact zs rfl | exact zf rfl | exact zg rfl | exact zn rfl | exact zv rfl | exact zw rfl); exact rfl; (first | exact AggTy.size | exact OneTy.size); exact rfl; infer_instance; (first | (with_reducible exact LB_set (by omega)) | (simp only [n0, Nat.reduceAdd, n1, n2, n3, n4, n5, n6, n7, n8, n9]; try rfl)); (first | exact zl rfl | exact LB_le (by omega)); exact rfl; infer_instance; (repeat (first | exact List.Sublist.refl _ | exact List.nil_sublist _ | apply List.Sublist.cons_cons | apply List.Sublist.cons)); clear hp hq; (try clear w1); intro w1 hp hq)
            | ((with_reducible apply sg_store hq); exact rfl; exact zt rfl; (first | exact za rfl | exact zu rfl | exact zi rfl | exact zb rfl | exact zr rfl | exact zs rfl | exact zf rfl | exact zg rfl | exact zn rfl | exact zv rfl | exact zw rfl); exact rfl; (first | exact AggTy.size | exact OneTy.size); exact rfl; infer_instance; (first | (with_reducible exact LB_set (by omega)) | (simp only [n0, Nat.reduceAdd, n1, n2, n3, n4, n5, n6, n7, n8, n9]; try rfl)); (first | exact zl rfl | exact LB_le (by omega)); exact rfl; infer_instance; exact rfl; clear hp hq; (try clear w1); intro w1 hq; have hp := True.intro)))
        | ((with_reducible apply sg_nil hq); clear hp hq; (try clear w1); intro w1 hp))
      go_upto_region 13 with fail
      have hq := hp
      refine wp_drawnG_hp hp hq [8] (.q 0 (.q 1 (.q 3 (.q 4 (.p 2 (.p 5 (.p 6 (.l 7 (.l 8 .nil))))))))) (by kernel_rfl) (by kernel_rfl) ?_
      clear hp hq; (try clear w1); intro w1 hp hq
      repeat' (first
        | (((with_reducible apply sg_q); exact zo rfl); (first
            | ((with_reducible apply sg_load_agg hp); exact rfl; exact zt rfl; infer_instance; infer_instance; (first | exact zl rfl | exact LB_le (by omega)); (first | (with_reducible exact LB_set (by omega)) | (simp only [n0, Nat.reduceAdd, n1, n2, n3, n4, n5, n6, n7, n8, n9]; try rfl)); simp only [zp, zq, z0, z1])
            | ((with_reducible apply sg_load_far hp); exact rfl; exact zt rfl; assumption; infer_instance; assumption; (first | exact zl rfl | omega); simp only [zp, zq, z0, z1])
            | ((with_reducible apply sg_pure hp); exact rfl; (focus (intro _; go_simp; (try go_ints); try with_reducible rfl)); simp only [zp, zq, z0, z1])))
        | (((with_reducible apply sg_p); exact zo rfl); ((with_reducible apply sg_call hp); exact rfl; (focus (intro _; go_simp; try first | with_reducible rfl | exact ⟨rfl, rfl⟩)); (with_reducible first | exact fun w => T5.out w | exact fun w => T6.out w | exact fun w => S3.out w); simp only [zp, zq, z0, z1]))
        | (((with_reducible apply sg_l); exact zo rfl); (first
            | ((with_reducible apply sg_alloc hq); (repeat (first | exact List.Sublist.refl _ | exact List.nil_sublist _ | apply List.Sublist.cons_cons | apply List.Sublist.cons)); exact rfl; infer_instance; exact rfl; clear hp hq; (try clear w1); intro g w1 hp hq; simp only [zp, zq, z0, z1])
            | ((with_reducible apply sg_store_far hq); exact rfl; exact zt rfl; (first | exact za rfl | exact zu rfl | exact zi rfl | exact zb rfl | exact zr rfl | exact zs rfl | exact zf rfl | exact zg rfl | exact zn rfl | exact zv rfl | exact zw rfl); exact rfl; (first | exact AggTy.size | exact OneTy.size); exact rfl; infer_instance; (first | (with_reducible exact LB_set (by omega)) | (simp only [n0, Nat.reduceAdd, n1, n2, n3, n4, n5, n6, n7, n8, n9]; try rfl)); (first | exact zl rfl | exact LB_le (by omega)); exact rfl; infer_instance; (repeat (first | exact List.Sublist.refl _ | exact List.nil_sublist _ | apply List.Sublist.cons_cons | apply List.Sublist.cons)); clear hp hq; (try clear w1); intro w1 hp hq)
            | ((with_reducible apply sg_store hq); exact rfl; exact zt rfl; (first | exact za rfl | exact zu rfl | exact zi rfl | exact zb rfl | exact zr rfl | exact zs rfl | exact zf rfl | exact zg rfl | exact zn rfl | exact zv rfl | exact zw rfl); exact rfl; (first | exact AggTy.size | exact OneTy.size); exact rfl; infer_instance; (first | (with_reducible exact LB_set (by omega)) | (simp only [n0, Nat.reduceAdd, n1, n2, n3, n4, n5, n6, n7, n8, n9]; try rfl)); (first | exact zl rfl | exact LB_le (by omega)); exact rfl; infer_instance; exact rfl; clear hp hq; (try clear w1); intro w1 hq; have hp := True.intro)))
        | ((with_reducible apply sg_nil hq); clear hp hq; (try clear w1); intro w1 hp))
      go_upto_region 14 with fail
      clear T1 T2 T3 T4 T5 T6 S1 S2 S3
      have hq := hp
      refine wp_drawnG_hp hp hq [] (.q 0 (.q 1 (.q 2 (.q 4 (.q 5 (.q 6 (.q 7 (.q 8 (.q 9 (.q 10 (.q 11 (.q 12 (.q 13 (.p 14 (.p 15 (.q 16 (.l 3 (.q 17 (.q 18 .nil))))))))))))))))))) (by kernel_rfl) (by kernel_rfl) ?_
      clear hp hq; (try clear w1); intro w1 hp hq
      repeat' (first
        | (((with_reducible apply sg_q); exact zo rfl); (first
            | ((with_reducible apply sg_load_agg hp); exact rfl; exact zt rfl; infer_instance; infer_instance; (first | exact zl rfl | exact LB_le (by omega)); (first | (with_reducible exact LB_set (by omega)) | (simp only [n0, Nat.reduceAdd, n1, n2, n3, n4, n5, n6, n7, n8, n9]; try rfl)); simp only [zp, zq, z0, z1])
            | ((with_reducible apply sg_load_far hp); exact rfl; exact zt rfl; assumption; infer_instance; assumption; (first | exact zl rfl | omega); simp only [zp, zq, z0, z1])
            | ((with_reducible apply sg_move hp); exact zs rfl; simp only [zp, zq, z0, z1])
            | ((with_reducible apply sg_assign hp); (first | exact zb rfl | exact zs rfl); simp only [zp, zq, z0, z1])
            | ((with_reducible apply sg_indexAddr hp); exact rfl; exact zx rfl; exact zk rfl; infer_instance; (first | exact AggTy.size | exact OneTy.size); omega; omega; ((try simp only [m0, Int.reduceToNat, m1, m2, Nat.reduceMul, Nat.reduceAdd, m3, m4, m5, n0]); exact rfl); simp only [zp, zq, z0, z1])
            | ((with_reducible apply sg_pure hp); exact rfl; (focus (intro _; go_simp; (try go_ints); try with_reducible rfl)); simp only [zp, zq, z0, z1])))
        | (((with_reducible apply sg_p); exact zo rfl); ((with_reducible apply sg_call hp); exact rfl; (focus (intro _; go_simp; try first | with_reducible rfl | exact ⟨rfl, rfl⟩)); (with_reducible first | exact fun w => DE.out w | exact fun w => SG.out w); simp only [zp, zq, z0, z1]))
        | (((with_reducible apply sg_l); exact zo rfl); ((with_reducible apply sg_buildSlice hq); (repeat (first | exact List.Sublist.refl _ | exact List.nil_sublist _ | apply List.Sublist.cons_cons | apply List.Sublist.cons)); exact rfl; infer_instance; (first | exact AggTy.size | exact OneTy.size); infer_instance; exact zl rfl; decide; (first | exact (rfl : _ = numbered 0 [_]) | exact (rfl : _ = numbered 0 [_, _]) | exact (rfl : _ = numbered 0 [_, _, _]) | exact (rfl : _ = numbered 0 [_, _, _, _])); exact rfl; (first | exact (rfl : _ = List.map (fun x : List Value => x.toArray) [_]) | exact (rfl : _ = List.map (fun x : List Value => x.toArray) [_, _]) | exact (rfl : _ = List.map (fun x : List Value => x.toArray) [_, _, _]) | exact (rfl : _ = List.map (fun x : List Value => x.toArray) [_, _, _, _])); (intro l hl <;> simp only [List.mem_cons, List.not_mem_nil, or_false] at hl <;> rcases hl with rfl | rfl | rfl | rfl <;> rfl); exact rfl; clear hp hq; (try clear w1); intro g w1 hp hq; simp only [zp, zq, z0, z1]))
        | ((with_reducible apply sg_nil hq); clear hp hq; (try clear w1); intro w1 hp))
      go_wp2
      exact bodyPost_ret (results_two rfl rfl rfl) rfl ⟨_, rfl, hp.keep, hp.fresh, hp.blk⟩
end Go.Proofs.Ythnpmmpcejfllaa
set_option linter.unusedSimpArgs false
set_option linter.unusedVariables false
set_option maxRecDepth 100000
namespace Go.Proofs.Ythnpmmpcejfllaa
open Go Go.RowKit
attribute [local irreducible] wpList

set_option maxHeartbeats 16000000 in
theorem rin1 (p : P3) (base : Option Addr) (cap : Nat) (o r : Bool) (d s c m : Nat → Int) (df cd md : Int) (w : World)
    (FI : Hid (∀ w1, Keep [] w w1 → Calls Try.prog 26 #[.slice base 2 cap] w1 (Ret (.bool true) w1)))
    (CK : Hid (∀ w, Calls Try.prog 34 #[PV p] w (Ret (.int .i64 0) w)))
    (OF : Hid (∀ w1, Keep [] w w1 → Calls Try.prog 27 #[.slice base 2 cap] w1 (Ret (.int .i64 1) w1)))
    (WE : Hid (∀ w1, Keep [] w w1 → Calls Try.prog 35 #[.slice base 2 cap, PV p] w1 (RetN (fun g => .tuple #[.slice (some ⟨g, 0, none⟩) 2 2, .bool o]) 43 [.int .u64 (lb (d 0) 0), .int .u64 (lb (d 0) 1), .int .u64 (lb (d 0) 2), .int .u64 (lb (d 0) 3), .int .u64 (lb (d 0) 4), .int .u64 (lb (d 0) 5), .int .u64 (lb (d 0) 6), .int .u64 (lb (d 0) 7), .int .u64 (lb (d 1) 0), .int .u64 (lb (d 1) 1), .int .u64 (lb (d 1) 2), .int .u64 (lb (d 1) 3), .int .u64 (lb (d 1) 4), .int .u64 (lb (d 1) 5), .int .u64 (lb (d 1) 6), .int .u64 (lb (d 1) 7)] w1)))
    (SG : Hid (∀ k, k ≤ 1 → ∀ w, Calls Try.prog 36 #[W (d k)] w (Ret (.int .i64 (c k)) w)))
    (PL : Hid (∀ k, k < 1 → ∀ w, Calls Try.prog 37 #[W (s k), W (d k)] w (Ret (W (s (k + 1))) w)))
    (S0 : Hid (s 0 = 0))
    (LE : Hid (∀ w, Calls Try.prog 38 #[W (d 1), W (s 1)] w (Ret (W df) w)))
    (SD : Hid (∀ w, Calls Try.prog 36 #[W df] w (Ret (.int .i64 cd) w)))
    (HM : Hid (∀ k, k < 1 → wrap64 (c k * c 1) = m k)) (HD : Hid (wrap64 (cd * c 1) = md))
    (R0 : Hid (o = false → r = false)) (R1 : Hid (∀ k, k < 1 → m k < 0 → r = false)) (R2 : Hid (o = true → (∀ k, k < 1 → ¬ m k < 0) → r = decide (0 ≤ md))) :
    Calls Try.prog 18 #[.slice base 2 cap, PV p] w (Ret (.tuple #[.bool r, .int .i64 0]) w) := by
  cases o with
  | false =>
    obtain rfl := R0.out rfl
    clear R0 R1 R2 HM HD SD LE PL SG S0
    go_enter Try.func18, Try.ntmps18
    have hp := Hp.start [] w
    go_wp2_with (first
          | ((with_reducible apply sx_guard); (conv => whnf); refine Bx.mk ?_; (try simp only [zp, zq, z0, z1]))
          | ((with_reducible apply sx_box hp); exact za rfl; exact rfl; clear hp; (try clear w1); intro g w1 hp; simp only [zp, zq, z0, z1])
          | ((with_reducible apply sx_alloc hp); infer_instance; exact rfl; clear hp; (try clear w1); intro g w1 hp; simp only [zp, zq, z0, z1])
          | ((with_reducible apply sx_load_agg hp); exact zt rfl; infer_instance; infer_instance; (first | exact zl rfl | exact LB_le (by omega)); (first | (with_reducible exact LB_set (by omega)) | (simp only [n0, Nat.reduceAdd, n1, n2, n3, n4, n5, n6, n7, n8, n9]; try rfl)); simp only [zp, zq, z0, z1])
          | ((with_reducible apply sx_store hp); exact zt rfl; exact za rfl; exact rfl; (first | exact AggTy.size | exact OneTy.size); exact rfl; infer_instance; (first | (with_reducible exact LB_set (by omega)) | (simp only [n0, Nat.reduceAdd, n1, n2, n3, n4, n5, n6, n7, n8, n9]; try rfl)); (first | exact zl rfl | exact LB_le (by omega)); exact rfl; infer_instance; clear hp; (try clear w1); intro w1 hp)
          | ((with_reducible apply sx_indexAddr); exact zx rfl; exact zk rfl; infer_instance; (first | exact AggTy.size | exact OneTy.size); omega; omega; ((try simp only [m0, Int.reduceToNat, m1, m2, Nat.reduceMul, Nat.reduceAdd, m3, m4, m5, n0]); exact rfl); simp only [zp, zq, z0, z1])
          | ((with_reducible apply sx_load_far hp); exact zt rfl; assumption; infer_instance; assumption; (first | exact zl rfl | omega); simp only [zp, zq, z0, z1])
          | ((with_reducible refine sx_call hp (CK.out _) ?_); clear hp; (try clear w1); intro w1 hp)
          | ((with_reducible refine sx_call hp (FI.out _ hp.keep) ?_); clear hp; (try clear w1); intro w1 hp)
          | ((with_reducible refine sx_call hp (OF.out _ hp.keep) ?_); clear hp; (try clear w1); intro w1 hp)
          | ((with_reducible refine sx_callN hp (WE.out _ hp.keep) ?_); clear hp; (try clear w1); intro g w1 hp))
    exact bodyPost_ret (results_two rfl rfl rfl) rfl ⟨rfl, hp.keep⟩
  | true =>
    have R3 := Lib.hid (R2.out rfl)
    have SGn := Lib.hid (SG.out 1 (by omega))
    clear R0 R2
    go_enter Try.func18, Try.ntmps18
    have hp := Hp.start [] w
    go_wp2_with (first
          | ((with_reducible apply sx_guard); (conv => whnf); refine Bx.mk ?_; (try simp only [zp, zq, z0, z1]))
          | ((with_reducible apply sx_box hp); exact za rfl; exact rfl; clear hp; (try clear w1); intro g w1 hp; simp only [zp, zq, z0, z1])
          | ((with_reducible apply sx_alloc hp); infer_instance; exact rfl; clear hp; (try clear w1); intro g w1 hp; simp only [zp, zq, z0, z1])
          | ((with_reducible apply sx_load_agg hp); exact zt rfl; infer_instance; infer_instance; (first | exact zl rfl | exact LB_le (by omega)); (first | (with_reducible exact LB_set (by omega)) | (simp only [n0, Nat.reduceAdd, n1, n2, n3, n4, n5, n6, n7, n8, n9]; try rfl)); simp only [zp, zq, z0, z1])
          | ((with_reducible apply sx_store hp); exact zt rfl; exact za rfl; exact rfl; (first | exact AggTy.size | exact OneTy.size); exact rfl; infer_instance; (first | (with_reducible exact LB_set (by omega)) | (simp only [n0, Nat.reduceAdd, n1, n2, n3, n4, n5, n6, n7, n8, n9]; try rfl)); (first | exact zl rfl | exact LB_le (by omega)); exact rfl; infer_instance; clear hp; (try clear w1); intro w1 hp)
          | ((with_reducible apply sx_indexAddr); exact zx rfl; exact zk rfl; infer_instance; (first | exact AggTy.size | exact OneTy.size); omega; omega; ((try simp only [m0, Int.reduceToNat, m1, m2, Nat.reduceMul, Nat.reduceAdd, m3, m4, m5, n0]); exact rfl); simp only [zp, zq, z0, z1])
          | ((with_reducible apply sx_load_far hp); exact zt rfl; assumption; infer_instance; assumption; (first | exact zl rfl | omega); simp only [zp, zq, z0, z1])
          | ((with_reducible first | refine sx_call hp (CK.out _) ?_ | refine sx_call hp (SGn.out _) ?_); clear hp; (try clear w1); intro w1 hp)
          | ((with_reducible refine sx_call hp (FI.out _ hp.keep) ?_); clear hp; (try clear w1); intro w1 hp)
          | ((with_reducible refine sx_call hp (OF.out _ hp.keep) ?_); clear hp; (try clear w1); intro w1 hp)
          | ((with_reducible refine sx_callN hp (WE.out _ hp.keep) ?_); clear hp; (try clear w1); intro g w1 hp))
    rename_i gp gw K9 hK9
    obtain ⟨gs, rfl⟩ : ∃ k : Nat, k = g := ⟨_, rfl⟩
    clear FI CK OF WE
    go_loopw [11] (fun iv wr => ∃ k : Nat, k ≤ 1 ∧ iv = .int .i64 k ∧ (∀ j, j < k → ¬ m j < 0) ∧ Hp [] w [⟨gs, 43, [.int .u64 (lb (s k) 0), .int .u64 (lb (s k) 1), .int .u64 (lb (s k) 2), .int .u64 (lb (s k) 3), .int .u64 (lb (s k) 4), .int .u64 (lb (s k) 5), .int .u64 (lb (s k) 6), .int .u64 (lb (s k) 7)]⟩, ⟨gw, 43, [.int .u64 (lb (d 0) 0), .int .u64 (lb (d 0) 1), .int .u64 (lb (d 0) 2), .int .u64 (lb (d 0) 3), .int .u64 (lb (d 0) 4), .int .u64 (lb (d 0) 5), .int .u64 (lb (d 0) 6), .int .u64 (lb (d 0) 7), .int .u64 (lb (d 1) 0), .int .u64 (lb (d 1) 1), .int .u64 (lb (d 1) 2), .int .u64 (lb (d 1) 3), .int .u64 (lb (d 1) 4), .int .u64 (lb (d 1) 5), .int .u64 (lb (d 1) 6), .int .u64 (lb (d 1) 7)]⟩] wr) (fun iv _ => 1 - (intOf iv).toNat)
    case atStart => exact ⟨0, by omega, rfl, fun j hj => absurd hj (by omega), by rw [S0.out]; simp only [lb_zero]; exact hp.sub (.cons_cons _ (.cons_cons _ (.cons _ (List.Sublist.refl _))))⟩
    case round =>
      clear hp
      obtain ⟨k, hk, rfl, hlow, hp⟩ := hrel
      have Hlow := Lib.hid hlow
      clear hlow
      have hks : k = 0 ∨ k = 1 := by omega
      rcases hks with rfl | rfl
      · have HMk := HM.out 0 (by omega)
        have SGk := Lib.hid (SG.out 0 (by omega))
        have PLk := Lib.hid (PL.out 0 (by omega))
        by_cases hmk : m 0 < 0
        · have hr := R1.out 0 (by omega) hmk
          subst hr
          clear R1 R3 SG PL
          go_wp2_with (first
          | ((with_reducible apply sx_box hp); exact za rfl; exact rfl; clear hp; (try clear w1); intro g w1 hp; simp only [zp, zq, z0, z1])
          | ((with_reducible apply sx_alloc hp); infer_instance; exact rfl; clear hp; (try clear w1); intro g w1 hp; simp only [zp, zq, z0, z1])
          | ((with_reducible apply sx_load_agg hp); exact zt rfl; infer_instance; infer_instance; (first | exact zl rfl | exact LB_le (by omega)); (first | (with_reducible exact LB_set (by omega)) | (simp only [n0, Nat.reduceAdd, n1, n2, n3, n4, n5, n6, n7, n8, n9]; try rfl)); simp only [zp, zq, z0, z1])
          | ((with_reducible apply sx_store hp); exact zt rfl; exact za rfl; exact rfl; (first | exact AggTy.size | exact OneTy.size); exact rfl; infer_instance; (first | (with_reducible exact LB_set (by omega)) | (simp only [n0, Nat.reduceAdd, n1, n2, n3, n4, n5, n6, n7, n8, n9]; try rfl)); (first | exact zl rfl | exact LB_le (by omega)); exact rfl; infer_instance; clear hp; (try clear w1); intro w1 hp)
          | ((with_reducible apply sx_indexAddr); exact zx rfl; exact zk rfl; infer_instance; (first | exact AggTy.size | exact OneTy.size); omega; omega; ((try simp only [m0, Int.reduceToNat, m1, m2, Nat.reduceMul, Nat.reduceAdd, m3, m4, m5, n0]); exact rfl); simp only [zp, zq, z0, z1])
          | ((with_reducible apply sx_load_far hp); exact zt rfl; assumption; infer_instance; assumption; (first | exact zl rfl | omega); simp only [zp, zq, z0, z1])
          | ((with_reducible refine sx_call hp (SGk.out _) ?_); clear hp; (try clear w1); intro w1 hp))
          exact bodyPost_ret (results_two rfl rfl rfl) rfl ⟨rfl, hp.keep⟩
        · clear R1 R3 SG PL
          go_upto_region 18 with (first
          | ((with_reducible apply sx_box hp); exact za rfl; exact rfl; clear hp; (try clear w1); intro g w1 hp; simp only [zp, zq, z0, z1])
          | ((with_reducible apply sx_alloc hp); infer_instance; exact rfl; clear hp; (try clear w1); intro g w1 hp; simp only [zp, zq, z0, z1])
          | ((with_reducible apply sx_load_agg hp); exact zt rfl; infer_instance; infer_instance; (first | exact zl rfl | exact LB_le (by omega)); (first | (with_reducible exact LB_set (by omega)) | (simp only [n0, Nat.reduceAdd, n1, n2, n3, n4, n5, n6, n7, n8, n9]; try rfl)); simp only [zp, zq, z0, z1])
          | ((with_reducible apply sx_store hp); exact zt rfl; exact za rfl; exact rfl; (first | exact AggTy.size | exact OneTy.size); exact rfl; infer_instance; (first | (with_reducible exact LB_set (by omega)) | (simp only [n0, Nat.reduceAdd, n1, n2, n3, n4, n5, n6, n7, n8, n9]; try rfl)); (first | exact zl rfl | exact LB_le (by omega)); exact rfl; infer_instance; clear hp; (try clear w1); intro w1 hp)
          | ((with_reducible apply sx_indexAddr); exact zx rfl; exact zk rfl; infer_instance; (first | exact AggTy.size | exact OneTy.size); omega; omega; ((try simp only [m0, Int.reduceToNat, m1, m2, Nat.reduceMul, Nat.reduceAdd, m3, m4, m5, n0]); exact rfl); simp only [zp, zq, z0, z1])
          | ((with_reducible apply sx_load_far hp); exact zt rfl; assumption; infer_instance; assumption; (first | exact zl rfl | omega); simp only [zp, zq, z0, z1])
          | ((with_reducible refine sx_call hp (SGk.out _) ?_); clear hp; (try clear w1); intro w1 hp))
          have hq := hp
          refine wp_drawnG_hp hp hq [6] (.q 0 (.q 1 (.q 2 (.q 3 (.q 4 (.p 5 (.l 6 .nil))))))) (by kernel_rfl) (by kernel_rfl) ?_
          clear hp hq; (try clear w1); intro w1 hp hq
          repeat' (first
            | (((with_reducible apply sg_q); exact zo rfl); (first
                | ((with_reducible apply sg_load_agg hp); exact rfl; exact zt rfl; infer_instance; infer_instance; (first | exact zl rfl | exact LB_le (by omega)); (first | (with_reducible exact LB_set (by omega)) | (simp only [n0, Nat.reduceAdd, n1, n2, n3, n4, n5, n6, n7, n8, n9]; try rfl)); simp only [zp, zq, z0, z1])
                | ((with_reducible apply sg_load_far hp); exact rfl; exact zt rfl; assumption; infer_instance; assumption; (first | exact zl rfl | omega); simp only [zp, zq, z0, z1])
                | ((with_reducible apply sg_move hp); (first | exact zi rfl | exact zs rfl); simp only [zp, zq, z0, z1])
                | ((with_reducible apply sg_indexAddr hp); exact rfl; exact zx rfl; exact zk rfl; infer_instance; (first | exact AggTy.size | exact OneTy.size); omega; omega; ((try simp only [m0, Int.reduceToNat, m1, m2, Nat.reduceMul, Nat.reduceAdd, m3, m4, m5, n0]); exact rfl); simp only [zp, zq, z0, z1])
                | ((with_reducible apply sg_pure hp); exact rfl; (focus (intro _; go_simp; (try go_ints); try with_reducible rfl)); simp only [zp, zq, z0, z1])))
            | (((with_reducible apply sg_p); exact zo rfl); ((with_reducible apply sg_call hp); exact rfl; (focus (intro _; go_simp; try first | with_reducible rfl | exact ⟨rfl, rfl⟩)); (with_reducible first | exact fun w => PLk.out w); simp only [zp, zq, z0, z1]))
            | (((with_reducible apply sg_l); exact zo rfl); (first
                | ((with_reducible apply sg_store_far hq); exact rfl; exact zt rfl; (first | exact za rfl | exact zu rfl | exact zi rfl | exact zb rfl | exact zr rfl | exact zs rfl | exact zf rfl | exact zg rfl | exact zn rfl | exact zv rfl | exact zw rfl); exact rfl; (first | exact AggTy.size | exact OneTy.size); exact rfl; infer_instance; (first | (with_reducible exact LB_set (by omega)) | (simp only [n0, Nat.reduceAdd, n1, n2, n3, n4, n5, n6, n7, n8, n9]; try rfl)); (first | exact zl rfl | exact LB_le (by omega)); exact rfl; infer_instance; (repeat (first | exact List.Sublist.refl _ | apply List.Sublist.cons)); clear hp hq; (try clear w1); intro w1 hp hq)
                | ((with_reducible apply sg_store hq); exact rfl; exact zt rfl; (first | exact za rfl | exact zu rfl | exact zi rfl | exact zb rfl | exact zr rfl | exact zs rfl | exact zf rfl | exact zg rfl | exact zn rfl | exact zv rfl | exact zw rfl); exact rfl; (first | exact AggTy.size | exact OneTy.size); exact rfl; infer_instance; (first | (with_reducible exact LB_set (by omega)) | (simp only [n0, Nat.reduceAdd, n1, n2, n3, n4, n5, n6, n7, n8, n9]; try rfl)); (first | exact zl rfl | exact LB_le (by omega)); exact rfl; infer_instance; exact rfl; clear hp hq; (try clear w1); intro w1 hq; have hp := True.intro)))
            | ((with_reducible apply sg_nil hq); clear hp hq; (try clear w1); intro w1 hp))
          go_wp2_with (first
          | ((with_reducible apply sx_box hp); exact za rfl; exact rfl; clear hp; (try clear w1); intro g w1 hp; simp only [zp, zq, z0, z1])
          | ((with_reducible apply sx_alloc hp); infer_instance; exact rfl; clear hp; (try clear w1); intro g w1 hp; simp only [zp, zq, z0, z1])
          | ((with_reducible apply sx_load_agg hp); exact zt rfl; infer_instance; infer_instance; (first | exact zl rfl | exact LB_le (by omega)); (first | (with_reducible exact LB_set (by omega)) | (simp only [n0, Nat.reduceAdd, n1, n2, n3, n4, n5, n6, n7, n8, n9]; try rfl)); simp only [zp, zq, z0, z1])
          | ((with_reducible apply sx_store hp); exact zt rfl; exact za rfl; exact rfl; (first | exact AggTy.size | exact OneTy.size); exact rfl; infer_instance; (first | (with_reducible exact LB_set (by omega)) | (simp only [n0, Nat.reduceAdd, n1, n2, n3, n4, n5, n6, n7, n8, n9]; try rfl)); (first | exact zl rfl | exact LB_le (by omega)); exact rfl; infer_instance; clear hp; (try clear w1); intro w1 hp)
          | ((with_reducible apply sx_indexAddr); exact zx rfl; exact zk rfl; infer_instance; (first | exact AggTy.size | exact OneTy.size); omega; omega; ((try simp only [m0, Int.reduceToNat, m1, m2, Nat.reduceMul, Nat.reduceAdd, m3, m4, m5, n0]); exact rfl); simp only [zp, zq, z0, z1])
          | ((with_reducible apply sx_load_far hp); exact zt rfl; assumption; infer_instance; assumption; (first | exact zl rfl | omega); simp only [zp, zq, z0, z1]))
          go_roundw
          case rel =>
            refine ⟨1, by omega, by go_num, fun j hj => ?_, hp⟩
            rcases Nat.lt_or_ge j 0 with h | h
            · have := Hlow.out j h
              omega
            · obtain rfl : j = 0 := by omega
              omega
          case measure => simp [intOf]
      · have hlow : ∀ k, k < 1 → ¬ m k < 0 := fun k hk => Hlow.out k (by omega)
        have hr := R3.out (fun k hk => by first | exact hlow k hk | (have := hlow k hk; omega))
        subst hr
        clear R1 R3 hlow Hlow SG PL
        have hD := HD.out
        go_upto_region 19 with fail
        have hq := hp
        refine wp_drawnG_hp hp hq [] (.q 0 (.q 1 (.q 2 (.q 3 (.q 4 (.q 7 (.p 5 (.p 6 (.q 8 (.q 9 (.q 10 (.q 11 .nil)))))))))))) (by kernel_rfl) (by kernel_rfl) ?_
        clear hp hq; (try clear w1); intro w1 hp hq
        repeat' (first
          | (((with_reducible apply sg_q); exact zo rfl); (first
              | ((with_reducible apply sg_load_agg hp); exact rfl; exact zt rfl; infer_instance; infer_instance; (first | exact zl rfl | exact LB_le (by omega)); (first | (with_reducible exact LB_set (by omega)) | (simp only [n0, Nat.reduceAdd, n1, n2, n3, n4, n5, n6, n7, n8, n9]; try rfl)); simp only [zp, zq, z0, z1])
              | ((with_reducible apply sg_load_far hp); exact rfl; exact zt rfl; assumption; infer_instance; assumption; (first | exact zl rfl | omega); simp only [zp, zq, z0, z1])
              | ((with_reducible apply sg_move hp); (first | exact zi rfl | exact zs rfl); simp only [zp, zq, z0, z1])
              | ((with_reducible apply sg_assign hp); (first | exact zb rfl | exact zi rfl); simp only [zp, zq, z0, z1])
              | ((with_reducible apply sg_indexAddr hp); exact rfl; exact zx rfl; exact zk rfl; infer_instance; (first | exact AggTy.size | exact OneTy.size); omega; omega; ((try simp only [m0, Int.reduceToNat, m1, m2, Nat.reduceMul, Nat.reduceAdd, m3, m4, m5, n0]); exact rfl); simp only [zp, zq, z0, z1])
              | ((with_reducible apply sg_pure hp); exact rfl; (focus (intro _; go_simp; (try go_ints); try with_reducible rfl)); simp only [zp, zq, z0, z1])))
          | (((with_reducible apply sg_p); exact zo rfl); ((with_reducible apply sg_call hp); exact rfl; (focus (intro _; go_simp; try first | with_reducible rfl | exact ⟨rfl, rfl⟩)); (with_reducible first | exact fun w => LE.out w | exact fun w => SD.out w); simp only [zp, zq, z0, z1]))
          | ((with_reducible apply sg_nil hq); clear hp hq; (try clear w1); intro w1 hp))
        go_wp2
        exact bodyPost_ret (results_two rfl rfl rfl) rfl ⟨rfl, hp.keep⟩

set_option maxHeartbeats 16000000 in
theorem rin2 (p : P3) (base : Option Addr) (cap : Nat) (o r : Bool) (d s c m : Nat → Int) (df cd md : Int) (w : World)
    (FI : Hid (∀ w1, Keep [] w w1 → Calls Try.prog 26 #[.slice base 3 cap] w1 (Ret (.bool true) w1)))
    (CK : Hid (∀ w, Calls Try.prog 34 #[PV p] w (Ret (.int .i64 0) w)))
    (OF : Hid (∀ w1, Keep [] w w1 → Calls Try.prog 27 #[.slice base 3 cap] w1 (Ret (.int .i64 2) w1)))
    (WE : Hid (∀ w1, Keep [] w w1 → Calls Try.prog 35 #[.slice base 3 cap, PV p] w1 (RetN (fun g => .tuple #[.slice (some ⟨g, 0, none⟩) 3 3, .bool o]) 43 [.int .u64 (lb (d 0) 0), .int .u64 (lb (d 0) 1), .int .u64 (lb (d 0) 2), .int .u64 (lb (d 0) 3), .int .u64 (lb (d 0) 4), .int .u64 (lb (d 0) 5), .int .u64 (lb (d 0) 6), .int .u64 (lb (d 0) 7), .int .u64 (lb (d 1) 0), .int .u64 (lb (d 1) 1), .int .u64 (lb (d 1) 2), .int .u64 (lb (d 1) 3), .int .u64 (lb (d 1) 4), .int .u64 (lb (d 1) 5), .int .u64 (lb (d 1) 6), .int .u64 (lb (d 1) 7), .int .u64 (lb (d 2) 0), .int .u64 (lb (d 2) 1), .int .u64 (lb (d 2) 2), .int .u64 (lb (d 2) 3), .int .u64 (lb (d 2) 4), .int .u64 (lb (d 2) 5), .int .u64 (lb (d 2) 6), .int .u64 (lb (d 2) 7)] w1)))
    (SG : Hid (∀ k, k ≤ 2 → ∀ w, Calls Try.prog 36 #[W (d k)] w (Ret (.int .i64 (c k)) w)))
    (PL : Hid (∀ k, k < 2 → ∀ w, Calls Try.prog 37 #[W (s k), W (d k)] w (Ret (W (s (k + 1))) w)))
    (S0 : Hid (s 0 = 0))
    (LE : Hid (∀ w, Calls Try.prog 38 #[W (d 2), W (s 2)] w (Ret (W df) w)))
    (SD : Hid (∀ w, Calls Try.prog 36 #[W df] w (Ret (.int .i64 cd) w)))
    (HM : Hid (∀ k, k < 2 → wrap64 (c k * c 2) = m k)) (HD : Hid (wrap64 (cd * c 2) = md))
    (R0 : Hid (o = false → r = false)) (R1 : Hid (∀ k, k < 2 → m k < 0 → r = false)) (R2 : Hid (o = true → (∀ k, k < 2 → ¬ m k < 0) → r = decide (0 ≤ md))) :
    Calls Try.prog 18 #[.slice base 3 cap, PV p] w (Ret (.tuple #[.bool r, .int .i64 0]) w) := by
  cases o with
  | false =>
    obtain rfl := R0.out rfl
    clear R0 R1 R2 HM HD SD LE PL SG S0
    go_enter Try.func18, Try.ntmps18
    have hp := Hp.start [] w
    go_wp2_with (first
          | ((with_reducible apply sx_guard); (conv => whnf); refine Bx.mk ?_; (try simp only [zp, zq, z0, z1]))
          | ((with_reducible apply sx_box hp); exact za rfl; exact rfl; clear hp; (try clear w1); intro g w1 hp; simp only [zp, zq, z0, z1])
          | ((with_reducible apply sx_alloc hp); infer_instance; exact rfl; clear hp; (try clear w1); intro g w1 hp; simp only [zp, zq, z0, z1])
          | ((with_reducible apply sx_load_agg hp); exact zt rfl; infer_instance; infer_instance; (first | exact zl rfl | exact LB_le (by omega)); (first | (with_reducible exact LB_set (by omega)) | (simp only [n0, Nat.reduceAdd, n1, n2, n3, n4, n5, n6, n7, n8, n9]; try rfl)); simp only [zp, zq, z0, z1])
          | ((with_reducible apply sx_store hp); exact zt rfl; exact za rfl; exact rfl; (first | exact AggTy.size | exact OneTy.size); exact rfl; infer_instance; (first | (with_reducible exact LB_set (by omega)) | (simp only [n0, Nat.reduceAdd, n1, n2, n3, n4, n5, n6, n7, n8, n9]; try rfl)); (first | exact zl rfl | exact LB_le (by omega)); exact rfl; infer_instance; clear hp; (try clear w1); intro w1 hp)
          | ((with_reducible apply sx_indexAddr); exact zx rfl; exact zk rfl; infer_instance; (first | exact AggTy.size | exact OneTy.size); omega; omega; ((try simp only [m0, Int.reduceToNat, m1, m2, Nat.reduceMul, Nat.reduceAdd, m3, m4, m5, n0]); exact rfl); simp only [zp, zq, z0, z1])
          | ((with_reducible apply sx_load_far hp); exact zt rfl; assumption; infer_instance; assumption; (first | exact zl rfl | omega); simp only [zp, zq, z0, z1])
          | ((with_reducible refine sx_call hp (CK.out _) ?_); clear hp; (try clear w1); intro w1 hp)
          | ((with_reducible refine sx_call hp (FI.out _ hp.keep) ?_); clear hp; (try clear w1); intro w1 hp)
          | ((with_reducible refine sx_call hp (OF.out _ hp.keep) ?_); clear hp; (try clear w1); intro w1 hp)
          | ((with_reducible refine sx_callN hp (WE.out _ hp.keep) ?_); clear hp; (try clear w1); intro g w1 hp))
    exact bodyPost_ret (results_two rfl rfl rfl) rfl ⟨rfl, hp.keep⟩
  | true =>
    have R3 := Lib.hid (R2.out rfl)
    have SGn := Lib.hid (SG.out 2 (by omega))
    clear R0 R2
    go_enter Try.func18, Try.ntmps18
    have hp := Hp.start [] w
    go_wp2_with (first
          | ((with_reducible apply sx_guard); (conv => whnf); refine Bx.mk ?_; (try simp only [zp, zq, z0, z1]))
          | ((with_reducible apply sx_box hp); exact za rfl; exact rfl; clear hp; (try clear w1); intro g w1 hp; simp only [zp, zq, z0, z1])
          | ((with_reducible apply sx_alloc hp); infer_instance; exact rfl; clear hp; (try clear w1); intro g w1 hp; simp only [zp, zq, z0, z1])
          | ((with_reducible apply sx_load_agg hp); exact zt rfl; infer_instance; infer_instance; (first | exact zl rfl | exact LB_le (by omega)); (first | (with_reducible exact LB_set (by omega)) | (simp only [n0, Nat.reduceAdd, n1, n2, n3, n4, n5, n6, n7, n8, n9]; try rfl)); simp only [zp, zq, z0, z1])
          | ((with_reducible apply sx_store hp); exact zt rfl; exact za rfl; exact rfl; (first | exact AggTy.size | exact OneTy.size); exact rfl; infer_instance; (first | (with_reducible exact LB_set (by omega)) | (simp only [n0, Nat.reduceAdd, n1, n2, n3, n4, n5, n6, n7, n8, n9]; try rfl)); (first | exact zl rfl | exact LB_le (by omega)); exact rfl; infer_instance; clear hp; (try clear w1); intro w1 hp)
          | ((with_reducible apply sx_indexAddr); exact zx rfl; exact zk rfl; infer_instance; (first | exact AggTy.size | exact OneTy.size); omega; omega; ((try simp only [m0, Int.reduceToNat, m1, m2, Nat.reduceMul, Nat.reduceAdd, m3, m4, m5, n0]); exact rfl); simp only [zp, zq, z0, z1])
          | ((with_reducible apply sx_load_far hp); exact zt rfl; assumption; infer_instance; assumption; (first | exact zl rfl | omega); simp only [zp, zq, z0, z1])
          | ((with_reducible first | refine sx_call hp (CK.out _) ?_ | refine sx_call hp (SGn.out _) ?_); clear hp; (try clear w1); intro w1 hp)
          | ((with_reducible refine sx_call hp (FI.out _ hp.keep) ?_); clear hp; (try clear w1); intro w1 hp)
          | ((with_reducible refine sx_call hp (OF.out _ hp.keep) ?_); clear hp; (try clear w1); intro w1 hp)
          | ((with_reducible refine sx_callN hp (WE.out _ hp.keep) ?_); clear hp; (try clear w1); intro g w1 hp))
    rename_i gp gw K9 hK9
    obtain ⟨gs, rfl⟩ : ∃ k : Nat, k = g := ⟨_, rfl⟩
    clear FI CK OF WE
    go_loopw [11] (fun iv wr => ∃ k : Nat, k ≤ 2 ∧ iv = .int .i64 k ∧ (∀ j, j < k → ¬ m j < 0) ∧ Hp [] w [⟨gs, 43, [.int .u64 (lb (s k) 0), .int .u64 (lb (s k) 1), .int .u64 (lb (s k) 2), .int .u64 (lb (s k) 3), .int .u64 (lb (s k) 4), .int .u64 (lb (s k) 5), .int .u64 (lb (s k) 6), .int .u64 (lb (s k) 7)]⟩, ⟨gw, 43, [.int .u64 (lb (d 0) 0), .int .u64 (lb (d 0) 1), .int .u64 (lb (d 0) 2), .int .u64 (lb (d 0) 3), .int .u64 (lb (d 0) 4), .int .u64 (lb (d 0) 5), .int .u64 (lb (d 0) 6), .int .u64 (lb (d 0) 7), .int .u64 (lb (d 1) 0), .int .u64 (lb (d 1) 1), .int .u64 (lb (d 1) 2), .int .u64 (lb (d 1) 3), .int .u64 (lb (d 1) 4), .int .u64 (lb (d 1) 5), .int .u64 (lb (d 1) 6), .int .u64 (lb (d 1) 7), .int .u64 (lb (d 2) 0), .int .u64 (lb (d 2) 1), .int .u64 (lb (d 2) 2), .int .u64 (lb (d 2) 3), .int .u64 (lb (d 2) 4), .int .u64 (lb (d 2) 5), .int .u64 (lb (d 2) 6), .int .u64 (lb (d 2) 7)]⟩] wr) (fun iv _ => 2 - (intOf iv).toNat)
    case atStart => exact ⟨0, by omega, rfl, fun j hj => absurd hj (by omega), by rw [S0.out]; simp only [lb_zero]; exact hp.sub (.cons_cons _ (.cons_cons _ (.cons _ (List.Sublist.refl _))))⟩
    case round =>
      clear hp
      obtain ⟨k, hk, rfl, hlow, hp⟩ := hrel
      have Hlow := Lib.hid hlow
      clear hlow
      have hks : k = 0 ∨ k = 1 ∨ k = 2 := by omega
      rcases hks with rfl | rfl | rfl
      · have HMk := HM.out 0 (by omega)
        have SGk := Lib.hid (SG.out 0 (by omega))
        have PLk := Lib.hid (PL.out 0 (by omega))
        by_cases hmk : m 0 < 0
        · have hr := R1.out 0 (by omega) hmk
          subst hr
          clear R1 R3 SG PL
          go_wp2_with (first
          | ((with_reducible apply sx_box hp); exact za rfl; exact rfl; clear hp; (try clear w1); intro g w1 hp; simp only [zp, zq, z0, z1])
          | ((with_reducible apply sx_alloc hp); infer_instance; exact rfl; clear hp; (try clear w1); intro g w1 hp; simp only [zp, zq, z0, z1])
          | ((with_reducible apply sx_load_agg hp); exact zt rfl; infer_instance; infer_instance; (first | exact zl rfl | exact LB_le (by omega)); (first | (with_reducible exact LB_set (by omega)) | (simp only [n0, Nat.reduceAdd, n1, n2, n3, n4, n5, n6, n7, n8, n9]; try rfl)); simp only [zp, zq, z0, z1])
          | ((with_reducible apply sx_store hp); exact zt rfl; exact za rfl; exact rfl; (first | exact AggTy.size | exact OneTy.size); exact rfl; infer_instance; (first | (with_reducible exact LB_set (by omega)) | (simp only [n0, Nat.reduceAdd, n1, n2, n3, n4, n5, n6, n7, n8, n9]; try rfl)); (first | exact zl rfl | exact LB_le (by omega)); exact rfl; infer_instance; clear hp; (try clear w1); intro w1 hp)
          | ((with_reducible apply sx_indexAddr); exact zx rfl; exact zk rfl; infer_instance; (first | exact AggTy.size | exact OneTy.size); omega; omega; ((try simp only [m0, Int.reduceToNat, m1, m2, Nat.reduceMul, Nat.reduceAdd, m3, m4, m5, n0]); exact rfl); simp only [zp, zq, z0, z1])
          | ((with_reducible apply sx_load_far hp); exact zt rfl; assumption; infer_instance; assumption; (first | exact zl rfl | omega); simp only [zp, zq, z0, z1])
          | ((with_reducible refine sx_call hp (SGk.out _) ?_); clear hp; (try clear w1); intro w1 hp))
          exact bodyPost_ret (results_two rfl rfl rfl) rfl ⟨rfl, hp.keep⟩
        · clear R1 R3 SG PL
          go_upto_region 18 with (first
          | ((with_reducible apply sx_box hp); exact za rfl; exact rfl; clear hp; (try clear w1); intro g w1 hp; simp only [zp, zq, z0, z1])
          | ((with_reducible apply sx_alloc hp); infer_instance; exact rfl; clear hp; (try clear w1); intro g w1 hp; simp only [zp, zq, z0, z1])
          | ((with_reducible apply sx_load_agg hp); exact zt rfl; infer_instance; infer_instance; (first | exact zl rfl | exact LB_le (by omega)); (first | (with_reducible exact LB_set (by omega)) | (simp only [n0, Nat.reduceAdd, n1, n2, n3, n4, n5, n6, n7, n8, n9]; try rfl)); simp only [zp, zq, z0, z1])
          | ((with_reducible apply sx_store hp); exact zt rfl; exact za rfl; exact rfl; (first | exact AggTy.size | exact OneTy.size); exact rfl; infer_instance; (first | (with_reducible exact LB_set (by omega)) | (simp only [n0, Nat.reduceAdd, n1, n2, n3, n4, n5, n6, n7, n8, n9]; try rfl)); (first | exact zl rfl | exact LB_le (by omega)); exact rfl; infer_instance; clear hp; (try clear w1); intro w1 hp)
          | ((with_reducible apply sx_indexAddr); exact zx rfl; exact zk rfl; infer_instance; (first | exact AggTy.size | exact OneTy.size); omega; omega; ((try simp only [m0, Int.reduceToNat, m1, m2, Nat.reduceMul, Nat.reduceAdd, m3, m4, m5, n0]); exact rfl); simp only [zp, zq, z0, z1])
          | ((with_reducible apply sx_load_far hp); exact zt rfl; assumption; infer_instance; assumption; (first | exact zl rfl | omega); simp only [zp, zq, z0, z1])
          | ((with_reducible refine sx_call hp (SGk.out _) ?_); clear hp; (try clear w1); intro w1 hp))
          have hq := hp
          refine wp_drawnG_hp hp hq [6] (.q 0 (.q 1 (.q 2 (.q 3 (.q 4 (.p 5 (.l 6 .nil))))))) (by kernel_rfl) (by kernel_rfl) ?_
          clear hp hq; (try clear w1); intro w1 hp hq
          repeat' (first
            | (((with_reducible apply sg_q); exact zo rfl); (first
                | ((with_reducible apply sg_load_agg hp); exact rfl; exact zt rfl; infer_instance; infer_instance; (first | exact zl rfl | exact LB_le (by omega)); (first | (with_reducible exact LB_set (by omega)) | (simp only [n0, Nat.reduceAdd, n1, n2, n3, n4, n5, n6, n7, n8, n9]; try rfl)); simp only [zp, zq, z0, z1])
                | ((with_reducible apply sg_load_far hp); exact rfl; exact zt rfl; assumption; infer_instance; assumption; (first | exact zl rfl | omega); simp only [zp, zq, z0, z1])
                | ((with_reducible apply sg_move hp); (first | exact zi rfl | exact zs rfl); simp only [zp, zq, z0, z1])
                | ((with_reducible apply sg_indexAddr hp); exact rfl; exact zx rfl; exact zk rfl; infer_instance; (first | exact AggTy.size | exact OneTy.size); omega; omega; ((try simp only [m0, Int.reduceToNat, m1, m2, Nat.reduceMul, Nat.reduceAdd, m3, m4, m5, n0]); exact rfl); simp only [zp, zq, z0, z1])
                | ((with_reducible apply sg_pure hp); exact rfl; (focus (intro _; go_simp; (try go_ints); try with_reducible rfl)); simp only [zp, zq, z0, z1])))
            | (((with_reducible apply sg_p); exact zo rfl); ((with_reducible apply sg_call hp); exact rfl; (focus (intro _; go_simp; try first | with_reducible rfl | exact ⟨rfl, rfl⟩)); (with_reducible first | exact fun w => PLk.out w); simp only [zp, zq, z0, z1]))
            | (((with_reducible apply sg_l); exact zo rfl); (first
                | ((with_reducible apply sg_store_far hq); exact rfl; exact zt rfl; (first | exact za rfl | exact zu rfl | exact zi rfl | exact zb rfl | exact zr rfl | exact zs rfl | exact zf rfl | exact zg rfl | exact zn rfl | exact zv rfl | exact zw rfl); exact rfl; (first | exact AggTy.size | exact OneTy.size); exact rfl; infer_instance; (first | (with_reducible exact LB_set (by omega)) | (simp only [n0, Nat.reduceAdd, n1, n2, n3, n4, n5, n6, n7, n8, n9]; try rfl)); (first | exact zl rfl | exact LB_le (by omega)); exact rfl; infer_instance; (repeat (first | exact List.Sublist.refl _ | apply List.Sublist.cons)); clear hp hq; (try clear w1); intro w1 hp hq)
                | ((with_reducible apply sg_store hq); exact rfl; exact zt rfl; (first | exact za rfl | exact zu rfl | exact zi rfl | exact zb rfl | exact zr rfl | exact zs rfl | exact zf rfl | exact zg rfl | exact zn rfl | exact zv rfl | exact zw rfl); exact rfl; (first | exact AggTy.size | exact OneTy.size); exact rfl; infer_instance; (first | (with_reducible exact LB_set (by omega)) | (simp only [n0, Nat.reduceAdd, n1, n2, n3, n4, n5, n6, n7, n8, n9]; try rfl)); (first | exact zl rfl | exact LB_le (by omega)); exact rfl; infer_instance; exact rfl; clear hp hq; (try clear w1); intro w1 hq; have hp := True.intro)))
            | ((with_reducible apply sg_nil hq); clear hp hq; (try clear w1); intro w1 hp))
          go_wp2_with (first
          | ((with_reducible apply sx_box hp); exact za rfl; exact rfl; clear hp; (try clear w1); intro g w1 hp; simp only [zp, zq, z0, z1])
          | ((with_reducible apply sx_alloc hp); infer_instance; exact rfl; clear hp; (try clear w1); intro g w1 hp; simp only [zp, zq, z0, z1])
          | ((with_reducible apply sx_load_agg hp); exact zt rfl; infer_instance; infer_instance; (first | exact zl rfl | exact LB_le (by omega)); (first | (with_reducible exact LB_set (by omega)) | (simp only [n0, Nat.reduceAdd, n1, n2, n3, n4, n5, n6, n7, n8, n9]; try rfl)); simp only [zp, zq, z0, z1])
          | ((with_reducible apply sx_store hp); exact zt rfl; exact za rfl; exact rfl; (first | exact AggTy.size | exact OneTy.size); exact rfl; infer_instance; (first | (with_reducible exact LB_set (by omega)) | (simp only [n0, Nat.reduceAdd, n1, n2, n3, n4, n5, n6, n7, n8, n9]; try rfl)); (first | exact zl rfl | exact LB_le (by omega)); exact rfl; infer_instance; clear hp; (try clear w1); intro w1 hp)
          | ((with_reducible apply sx_indexAddr); exact zx rfl; exact zk rfl; infer_instance; (first | exact AggTy.size | exact OneTy.size); omega; omega; ((try simp only [m0, Int.reduceToNat, m1, m2, Nat.reduceMul, Nat.reduceAdd, m3, m4, m5, n0]); exact rfl); simp only [zp, zq, z0, z1])
          | ((with_reducible apply sx_load_far hp); exact zt rfl; assumption; infer_instance; assumption; (first | exact zl rfl | omega); simp only [zp, zq, z0, z1]))
          go_roundw
          case rel =>
            refine ⟨1, by omega, by go_num, fun j hj => ?_, hp⟩
            rcases Nat.lt_or_ge j 0 with h | h
            · have := Hlow.out j h
              omega
            · obtain rfl : j = 0 := by omega
              omega
          case measure => simp [intOf]
      · have HMk := HM.out 1 (by omega)
        have SGk := Lib.hid (SG.out 1 (by omega))
        have PLk := Lib.hid (PL.out 1 (by omega))
        by_cases hmk : m 1 < 0
        · have hr := R1.out 1 (by omega) hmk
          subst hr
          clear R1 R3 SG PL
          go_wp2_with (first
          | ((with_reducible apply sx_box hp); exact za rfl; exact rfl; clear hp; (try clear w1); intro g w1 hp; simp only [zp, zq, z0, z1])
          | ((with_reducible apply sx_alloc hp); infer_instance; exact rfl; clear hp; (try clear w1); intro g w1 hp; simp only [zp, zq, z0, z1])
          | ((with_reducible apply sx_load_agg hp); exact zt rfl; infer_instance; infer_instance; (first | exact zl rfl | exact LB_le (by omega)); (first | (with_reducible exact LB_set (by omega)) | (simp only [n0, Nat.reduceAdd, n1, n2, n3, n4, n5, n6, n7, n8, n9]; try rfl)); simp only [zp, zq, z0, z1])
          | ((with_reducible apply sx_store hp); exact zt rfl; exact za rfl; exact rfl; (first | exact AggTy.size | exact OneTy.size); exact rfl; infer_instance; (first | (with_reducible exact LB_set (by omega)) | (simp only [n0, Nat.reduceAdd, n1, n2, n3, n4, n5, n6, n7, n8, n9]; try rfl)); (first | exact zl rfl | exact LB_le (by omega)); exact rfl; infer_instance; clear hp; (try clear w1); intro w1 hp)
          | ((with_reducible apply sx_indexAddr); exact zx rfl; exact zk rfl; infer_instance; (first | exact AggTy.size | exact OneTy.size); omega; omega; ((try simp only [m0, Int.reduceToNat, m1, m2, Nat.reduceMul, Nat.reduceAdd, m3, m4, m5, n0]); exact rfl); simp only [zp, zq, z0, z1])
          | ((with_reducible apply sx_load_far hp); exact zt rfl; assumption; infer_instance; assumption; (first | exact zl rfl | omega); simp only [zp, zq, z0, z1])
          | ((with_reducible refine sx_call hp (SGk.out _) ?_); clear hp; (try clear w1); intro w1 hp))
          exact bodyPost_ret (results_two rfl rfl rfl) rfl ⟨rfl, hp.keep⟩
        · clear R1 R3 SG PL
          go_upto_region 18 with (first
          | ((with_reducible apply sx_box hp); exact za rfl; exact rfl; clear hp; (try clear w1); intro g w1 hp; simp only [zp, zq, z0, z1])
          | ((with_reducible apply sx_alloc hp); infer_instance; exact rfl; clear hp; (try clear w1); intro g w1 hp; simp only [zp, zq, z0, z1])
          | ((with_reducible apply sx_load_agg hp); exact zt rfl; infer_instance; infer_instance; (first | exact zl rfl | exact LB_le (by omega)); (first | (with_reducible exact LB_set (by omega)) | (simp only [n0, Nat.reduceAdd, n1, n2, n3, n4, n5, n6, n7, n8, n9]; try rfl)); simp only [zp, zq, z0, z1])
          | ((with_reducible apply sx_store hp); exact zt rfl; exact za rfl; exact rfl; (first | exact AggTy.size | exact OneTy.size); exact rfl; infer_instance; (first | (with_reducible exact LB_set (by omega)) | (simp only [n0, Nat.reduceAdd, n1, n2, n3, n4, n5, n6, n7, n8, n9]; try rfl)); (first | exact zl rfl | exact LB_le (by omega)); exact rfl; infer_instance; clear hp; (try clear w1); intro w1 hp)
          | ((with_reducible apply sx_indexAddr); exact zx rfl; exact zk rfl; infer_instance; (first | exact AggTy.size | exact OneTy.size); omega; omega; ((try simp only [m0, Int.reduceToNat, m1, m2, Nat.reduceMul, Nat.reduceAdd, m3, m4, m5, n0]); exact rfl); simp only [zp, zq, z0, z1])
          | ((with_reducible apply sx_load_far hp); exact zt rfl; assumption; infer_instance; assumption; (first | exact zl rfl | omega); simp only [zp, zq, z0, z1])
          | ((with_reducible refine sx_call hp (SGk.out _) ?_); clear hp; (try clear w1); intro w1 hp))
          have hq := hp
          refine wp_drawnG_hp hp hq [6] (.q 0 (.q 1 (.q 2 (.q 3 (.q 4 (.p 5 (.l 6 .nil))))))) (by kernel_rfl) (by kernel_rfl) ?_
          clear hp hq; (try clear w1); intro w1 hp hq
          repeat' (first
            | (((with_reducible apply sg_q); exact zo rfl); (first
                | ((with_reducible apply sg_load_agg hp); exact rfl; exact zt rfl; infer_instance; infer_instance; (first | exact zl rfl | exact LB_le (by omega)); (first | (with_reducible exact LB_set (by omega)) | (simp only [n0, Nat.reduceAdd, n1, n2, n3, n4, n5, n6, n7, n8, n9]; try rfl)); simp only [zp, zq, z0, z1])
                | ((with_reducible apply sg_load_far hp); exact rfl; exact zt rfl; assumption; infer_instance; assumption; (first | exact zl rfl | omega); simp only [zp, zq, z0, z1])
                | ((with_reducible apply sg_move hp); (first | exact zi rfl | exact zs rfl); simp only [zp, zq, z0, z1])
                | ((with_reducible apply sg_indexAddr hp); exact rfl; exact zx rfl; exact zk rfl; infer_instance; (first | exact AggTy.size | exact OneTy.size); omega; omega; ((try simp only [m0, Int.reduceToNat, m1, m2, Nat.reduceMul, Nat.reduceAdd, m3, m4, m5, n0]); exact rfl); simp only [zp, zq, z0, z1])
                | ((with_reducible apply sg_pure hp); exact rfl; (focus (intro _; go_simp; (try go_ints); try with_reducible rfl)); simp only [zp, zq, z0, z1])))
            | (((with_reducible apply sg_p); exact zo rfl); ((with_reducible apply sg_call hp); exact rfl; (focus (intro _; go_simp; try first | with_reducible rfl | exact ⟨rfl, rfl⟩)); (with_reducible first | exact fun w => PLk.out w); simp only [zp, zq, z0, z1]))
            | (((with_reducible apply sg_l); exact zo rfl); (first
                | ((with_reducible apply sg_store_far hq); exact rfl; exact zt rfl; (first | exact za rfl | exact zu rfl | exact zi rfl | exact zb rfl | exact zr rfl | exact zs rfl | exact zf rfl | exact zg rfl | exact zn rfl | exact zv rfl | exact zw rfl); exact rfl; (first | exact AggTy.size | exact OneTy.size); exact rfl; infer_instance; (first | (with_reducible exact LB_set (by omega)) | (simp only [n0, Nat.reduceAdd, n1, n2, n3, n4, n5, n6, n7, n8, n9]; try rfl)); (first | exact zl rfl | exact LB_le (by omega)); exact rfl; infer_instance; (repeat (first | exact List.Sublist.refl _ | apply List.Sublist.cons)); clear hp hq; (try clear w1); intro w1 hp hq)
                | ((with_reducible apply sg_store hq); exact rfl; exact zt rfl; (first | exact za rfl | exact zu rfl | exact zi rfl | exact zb rfl | exact zr rfl | exact zs rfl | exact zf rfl | exact zg rfl | exact zn rfl | exact zv rfl | exact zw rfl); exact rfl; (first | exact AggTy.size | exact OneTy.size); exact rfl; infer_instance; (first | (with_reducible exact LB_set (by omega)) | (simp only [n0, Nat.reduceAdd, n1, n2, n3, n4, n5, n6, n7, n8, n9]; try rfl)); (first | exact zl rfl | exact LB_le (by omega)); exact rfl; infer_instance; exact rfl; clear hp hq; (try clear w1); intro w1 hq; have hp := True.intro)))
            | ((with_reducible apply sg_nil hq); clear hp hq; (try clear w1); intro w1 hp))
          go_wp2_with (first
          | ((with_reducible apply sx_box hp); exact za rfl; exact rfl; clear hp; (try clear w1); intro g w1 hp; simp only [zp, zq, z0, z1])
          | ((with_reducible apply sx_alloc hp); infer_instance; exact rfl; clear hp; (try clear w1); intro g w1 hp; simp only [zp, zq, z0, z1])
          | ((with_reducible apply sx_load_agg hp); exact zt rfl; infer_instance; infer_instance; (first | exact zl rfl | exact LB_le (by omega)); (first | (with_reducible exact LB_set (by omega)) | (simp only [n0, Nat.reduceAdd, n1, n2, n3, n4, n5, n6, n7, n8, n9]; try rfl)); simp only [zp, zq, z0, z1])
          | ((with_reducible apply sx_store hp); exact zt rfl; exact za rfl; exact rfl; (first | exact AggTy.size | exact OneTy.size); exact rfl; infer_instance; (first | (with_reducible exact LB_set (by omega)) | (simp only [n0, Nat.reduceAdd, n1, n2, n3, n4, n5, n6, n7, n8, n9]; try rfl)); (first | exact zl rfl | exact LB_le (by omega)); exact rfl; infer_instance; clear hp; (try clear w1); intro w1 hp)
          | ((with_reducible apply sx_indexAddr); exact zx rfl; exact zk rfl; infer_instance; (first | exact AggTy.size | exact OneTy.size); omega; omega; ((try simp only [m0, Int.reduceToNat, m1, m2, Nat.reduceMul, Nat.reduceAdd, m3, m4, m5, n0]); exact rfl); simp only [zp, zq, z0, z1])
          | ((with_reducible apply sx_load_far hp); exact zt rfl; assumption; infer_instance; assumption; (first | exact zl rfl | omega); simp only [zp, zq, z0, z1]))
          go_roundw
          case rel =>
            refine ⟨2, by omega, by go_num, fun j hj => ?_, hp⟩
            rcases Nat.lt_or_ge j 1 with h | h
            · have := Hlow.out j h
              omega
            · obtain rfl : j = 1 := by omega
              omega
          case measure => simp [intOf]
      · have hlow : ∀ k, k < 2 → ¬ m k < 0 := fun k hk => Hlow.out k (by omega)
        have hr := R3.out (fun k hk => by first | exact hlow k hk | (have := hlow k hk; omega))
        subst hr
        clear R1 R3 hlow Hlow SG PL
        have hD := HD.out
        go_upto_region 19 with fail
        have hq := hp
        refine wp_drawnG_hp hp hq [] (.q 0 (.q 1 (.q 2 (.q 3 (.q 4 (.q 7 (.p 5 (.p 6 (.q 8 (.q 9 (.q 10 (.q 11 .nil)))))))))))) (by kernel_rfl) (by kernel_rfl) ?_
        clear hp hq; (try clear w1); intro w1 hp hq
        repeat' (first
          | (((with_reducible apply sg_q); exact zo rfl); (first
              | ((with_reducible apply sg_load_agg hp); exact rfl; exact zt rfl; infer_instance; infer_instance; (first | exact zl rfl | exact LB_le (by omega)); (first | (with_reducible exact LB_set (by omega)) | (simp only [n0, Nat.reduceAdd, n1, n2, n3, n4, n5, n6, n7, n8, n9]; try rfl)); simp only [zp, zq, z0, z1])
              | ((with_reducible apply sg_load_far hp); exact rfl; exact zt rfl; assumption; infer_instance; assumption; (first | exact zl rfl | omega); simp only [zp, zq, z0, z1])
              | ((with_reducible apply sg_move hp); (first | exact zi rfl | exact zs rfl); simp only [zp, zq, z0, z1])
              | ((with_reducible apply sg_assign hp); (first | exact zb rfl | exact zi rfl); simp only [zp, zq, z0, z1])
              | ((with_reducible apply sg_indexAddr hp); exact rfl; exact zx rfl; exact zk rfl; infer_instance; (first | exact AggTy.size | exact OneTy.size); omega; omega; ((try simp only [m0, Int.reduceToNat, m1, m2, Nat.reduceMul, Nat.reduceAdd, m3, m4, m5, n0]); exact rfl); simp only [zp, zq, z0, z1])
              | ((with_reducible apply sg_pure hp); exact rfl; (focus (intro _; go_simp; (try go_ints); try with_reducible rfl)); simp only [zp, zq, z0, z1])))
          | (((with_reducible apply sg_p); exact zo rfl); ((with_reducible apply sg_call hp); exact rfl; (focus (intro _; go_simp; try first | with_reducible rfl | exact ⟨rfl, rfl⟩)); (with_reducible first | exact fun w => LE.out w | exact fun w => SD.out w); simp only [zp, zq, z0, z1]))
          | ((with_reducible apply sg_nil hq); clear hp hq; (try clear w1); intro w1 hp))
        go_wp2
        exact bodyPost_ret (results_two rfl rfl rfl) rfl ⟨rfl, hp.keep⟩

set_option maxHeartbeats 16000000 in
theorem rin3 (p : P3) (base : Option Addr) (cap : Nat) (o r : Bool) (d s c m : Nat → Int) (df cd md : Int) (w : World)
    (FI : Hid (∀ w1, Keep [] w w1 → Calls Try.prog 26 #[.slice base 4 cap] w1 (Ret (.bool true) w1)))
    (CK : Hid (∀ w, Calls Try.prog 34 #[PV p] w (Ret (.int .i64 0) w)))
    (OF : Hid (∀ w1, Keep [] w w1 → Calls Try.prog 27 #[.slice base 4 cap] w1 (Ret (.int .i64 3) w1)))
    (WE : Hid (∀ w1, Keep [] w w1 → Calls Try.prog 35 #[.slice base 4 cap, PV p] w1 (RetN (fun g => .tuple #[.slice (some ⟨g, 0, none⟩) 4 4, .bool o]) 43 [.int .u64 (lb (d 0) 0), .int .u64 (lb (d 0) 1), .int .u64 (lb (d 0) 2), .int .u64 (lb (d 0) 3), .int .u64 (lb (d 0) 4), .int .u64 (lb (d 0) 5), .int .u64 (lb (d 0) 6), .int .u64 (lb (d 0) 7), .int .u64 (lb (d 1) 0), .int .u64 (lb (d 1) 1), .int .u64 (lb (d 1) 2), .int .u64 (lb (d 1) 3), .int .u64 (lb (d 1) 4), .int .u64 (lb (d 1) 5), .int .u64 (lb (d 1) 6), .int .u64 (lb (d 1) 7), .int .u64 (lb (d 2) 0), .int .u64 (lb (d 2) 1), .int .u64 (lb (d 2) 2), .int .u64 (lb (d 2) 3), .int .u64 (lb (d 2) 4), .int .u64 (lb (d 2) 5), .int .u64 (lb (d 2) 6), .int .u64 (lb (d 2) 7), .int .u64 (lb (d 3) 0), .int .u64 (lb (d 3) 1), .int .u64 (lb (d 3) 2), .int .u64 (lb (d 3) 3), .int .u64 (lb (d 3) 4), .int .u64 (lb (d 3) 5), .int .u64 (lb (d 3) 6), .int .u64 (lb (d 3) 7)] w1)))
    (SG : Hid (∀ k, k ≤ 3 → ∀ w, Calls Try.prog 36 #[W (d k)] w (Ret (.int .i64 (c k)) w)))
    (PL : Hid (∀ k, k < 3 → ∀ w, Calls Try.prog 37 #[W (s k), W (d k)] w (Ret (W (s (k + 1))) w)))
    (S0 : Hid (s 0 = 0))
    (LE : Hid (∀ w, Calls Try.prog 38 #[W (d 3), W (s 3)] w (Ret (W df) w)))
    (SD : Hid (∀ w, Calls Try.prog 36 #[W df] w (Ret (.int .i64 cd) w)))
    (HM : Hid (∀ k, k < 3 → wrap64 (c k * c 3) = m k)) (HD : Hid (wrap64 (cd * c 3) = md))
    (R0 : Hid (o = false → r = false)) (R1 : Hid (∀ k, k < 3 → m k < 0 → r = false)) (R2 : Hid (o = true → (∀ k, k < 3 → ¬ m k < 0) → r = decide (0 ≤ md))) :
    Calls Try.prog 18 #[.slice base 4 cap, PV p] w (Ret (.tuple #[.bool r, .int .i64 0]) w) := by
  cases o with
  | false =>
    obtain rfl := R0.out rfl
    clear R0 R1 R2 HM HD SD LE PL SG S0
    go_enter Try.func18, Try.ntmps18
    have hp := Hp.start [] w
    go_wp2_with (first
          | ((with_reducible apply sx_guard); (conv => whnf); refine Bx.mk ?_; (try simp only [zp, zq, z0, z1]))
          | ((with_reducible apply sx_box hp); exact za rfl; exact rfl; clear hp; (try clear w1); intro g w1 hp; simp only [zp, zq, z0, z1])
          | ((with_reducible apply sx_alloc hp); infer_instance; exact rfl; clear hp; (try clear w1); intro g w1 hp; simp only [zp, zq, z0, z1])
          | ((with_reducible apply sx_load_agg hp); exact zt rfl; infer_instance; infer_instance; (first | exact zl rfl | exact LB_le (by omega)); (first | (with_reducible exact LB_set (by omega)) | (simp only [n0, Nat.reduceAdd, n1, n2, n3, n4, n5, n6, n7, n8, n9]; try rfl)); simp only [zp, zq, z0, z1])
          | ((with_reducible apply sx_store hp); exact zt rfl; exact za rfl; exact rfl; (first | exact AggTy.size | exact OneTy.size); exact rfl; infer_instance; (first | (with_reducible exact LB_set (by omega)) | (simp only [n0, Nat.reduceAdd, n1, n2, n3, n4, n5, n6, n7, n8, n9]; try rfl)); (first | exact zl rfl | exact LB_le (by omega)); exact rfl; infer_instance; clear hp; (try clear w1); intro w1 hp)
          | ((with_reducible apply sx_indexAddr); exact zx rfl; exact zk rfl; infer_instance; (first | exact AggTy.size | exact OneTy.size); omega; omega; ((try simp only [m0, Int.reduceToNat, m1, m2, Nat.reduceMul, Nat.reduceAdd, m3, m4, m5, n0]); exact rfl); simp only [zp, zq, z0, z1])
          | ((with_reducible apply sx_load_far hp); exact zt rfl; assumption; infer_instance; assumption; (first | exact zl rfl | omega); simp only [zp, zq, z0, z1])
          | ((with_reducible refine sx_call hp (CK.out _) ?_); clear hp; (try clear w1); intro w1 hp)
          | ((with_reducible refine sx_call hp (FI.out _ hp.keep) ?_); clear hp; (try clear w1); intro w1 hp)
          | ((with_reducible refine sx_call hp (OF.out _ hp.keep) ?_); clear hp; (try clear w1); intro w1 hp)
          | ((with_reducible refine sx_callN hp (WE.out _ hp.keep) ?_); clear hp; (try clear w1); intro g w1 hp))
    exact bodyPost_ret (results_two rfl rfl rfl) rfl ⟨rfl, hp.keep⟩
  | true =>
    have R3 := Lib.hid (R2.out rfl)
    have SGn := Lib.hid (SG.out 3 (by omega))
    clear R0 R2
    go_enter Try.func18, Try.ntmps18
    have hp := Hp.start [] w
    go_wp2_with (first
          | ((with_reducible apply sx_guard); (conv => whnf); refine Bx.mk ?_; (try simp only [zp, zq, z0, z1]))
          | ((with_reducible apply sx_box hp); exact za rfl; exact rfl; clear hp; (try clear w1); intro g w1 hp; simp only [zp, zq, z0, z1])
          | ((with_reducible apply sx_alloc hp); infer_instance; exact rfl; clear hp; (try clear w1); intro g w1 hp; simp only [zp, zq, z0, z1])
          | ((with_reducible apply sx_load_agg hp); exact zt rfl; infer_instance; infer_instance; (first | exact zl rfl | exact LB_le (by omega)); (first | (with_reducible exact LB_set (by omega)) | (simp only [n0, Nat.reduceAdd, n1, n2, n3, n4, n5, n6, n7, n8, n9]; try rfl)); simp only [zp, zq, z0, z1])
          | ((with_reducible apply sx_store hp); exact zt rfl; exact za rfl; exact rfl; (first | exact AggTy.size | exact OneTy.size); exact rfl; infer_instance; (first | (with_reducible exact LB_set (by omega)) | (simp only [n0, Nat.reduceAdd, n1, n2, n3, n4, n5, n6, n7, n8, n9]; try rfl)); (first | exact zl rfl | exact LB_le (by omega)); exact rfl; infer_instance; clear hp; (try clear w1); intro w1 hp)
          | ((with_reducible apply sx_indexAddr); exact zx rfl; exact zk rfl; infer_instance; (first | exact AggTy.size | exact OneTy.size); omega; omega; ((try simp only [m0, Int.reduceToNat, m1, m2, Nat.reduceMul, Nat.reduceAdd, m3, m4, m5, n0]); exact rfl); simp only [zp, zq, z0, z1])
          | ((with_reducible apply sx_load_far hp); exact zt rfl; assumption; infer_instance; assumption; (first | exact zl rfl | omega); simp only [zp, zq, z0, z1])
          | ((with_reducible first | refine sx_call hp (CK.out _) ?_ | refine sx_call hp (SGn.out _) ?_); clear hp; (try clear w1); intro w1 hp)
          | ((with_reducible refine sx_call hp (FI.out _ hp.keep) ?_); clear hp; (try clear w1); intro w1 hp)
          | ((with_reducible refine sx_call hp (OF.out _ hp.keep) ?_); clear hp; (try clear w1); intro w1 hp)
          | ((with_reducible refine sx_callN hp (WE.out _ hp.keep) ?_); clear hp; (try clear w1); intro g w1 hp))
    rename_i gp gw K9 hK9
    obtain ⟨gs, rfl⟩ : ∃ k : Nat, k = g := ⟨_, rfl⟩
    clear FI CK OF WE
    go_loopw [11] (fun iv wr => ∃ k : Nat, k ≤ 3 ∧ iv = .int .i64 k ∧ (∀ j, j < k → ¬ m j < 0) ∧ Hp [] w [⟨gs, 43, [.int .u64 (lb (s k) 0), .int .u64 (lb (s k) 1), .int .u64 (lb (s k) 2), .int .u64 (lb (s k) 3), .int .u64 (lb (s k) 4), .int .u64 (lb (s k) 5), .int .u64 (lb (s k) 6), .int .u64 (lb (s k) 7)]⟩, ⟨gw, 43, [.int .u64 (lb (d 0) 0), .int .u64 (lb (d 0) 1), .int .u64 (lb (d 0) 2), .int .u64 (lb (d 0) 3), .int .u64 (lb (d 0) 4), .int .u64 (lb (d 0) 5), .int .u64 (lb (d 0) 6), .int .u64 (lb (d 0) 7), .int .u64 (lb (d 1) 0), .int .u64 (lb (d 1) 1), .int .u64 (lb (d 1) 2), .int .u64 (lb (d 1) 3), .int .u64 (lb (d 1) 4), .int .u64 (lb (d 1) 5), .int .u64 (lb (d 1) 6), .int .u64 (lb (d 1) 7), .int .u64 (lb (d 2) 0), .int .u64 (lb (d 2) 1), .int .u64 (lb (d 2) 2), .int .u64 (lb (d 2) 3), .int .u64 (lb (d 2) 4), .int .u64 (lb (d 2) 5), .int .u64 (lb (d 2) 6), .int .u64 (lb (d 2) 7), .int .u64 (lb (d 3) 0), .int .u64 (lb (d 3) 1), .int .u64 (lb (d 3) 2), .int .u64 (lb (d 3) 3), .int .u64 (lb (d 3) 4), .int .u64 (lb (d 3) 5), .int .u64 (lb (d 3) 6), .int .u64 (lb (d 3) 7)]⟩] wr) (fun iv _ => 3 - (intOf iv).toNat)
    case atStart => exact ⟨0, by omega, rfl, fun j hj => absurd hj (by omega), by rw [S0.out]; simp only [lb_zero]; exact hp.sub (.cons_cons _ (.cons_cons _ (.cons _ (List.Sublist.refl _))))⟩
    case round =>
      clear hp
      obtain ⟨k, hk, rfl, hlow, hp⟩ := hrel
      have Hlow := Lib.hid hlow
      clear hlow
      have hks : k = 0 ∨ k = 1 ∨ k = 2 ∨ k = 3 := by omega
      rcases hks with rfl | rfl | rfl | rfl
      · have HMk := HM.out 0 (by omega)
        have SGk := Lib.hid (SG.out 0 (by omega))
        have PLk := Lib.hid (PL.out 0 (by omega))
        by_cases hmk : m 0 < 0
        · have hr := R1.out 0 (by omega) hmk
          subst hr
          clear R1 R3 SG PL
          go_wp2_with (first
          | ((with_reducible apply sx_box hp); exact za rfl; exact rfl; clear hp; (try clear w1); intro g w1 hp; simp only [zp, zq, z0, z1])
          | ((with_reducible apply sx_alloc hp); infer_instance; exact rfl; clear hp; (try clear w1); intro g w1 hp; simp only [zp, zq, z0, z1])
          | ((with_reducible apply sx_load_agg hp); exact zt rfl; infer_instance; infer_instance; (first | exact zl rfl | exact LB_le (by omega)); (first | (with_reducible exact LB_set (by omega)) | (simp only [n0, Nat.reduceAdd, n1, n2, n3, n4, n5, n6, n7, n8, n9]; try rfl)); simp only [zp, zq, z0, z1])
          | ((with_reducible apply sx_store hp); exact zt rfl; exact za rfl; exact rfl; (first | exact AggTy.size | exact OneTy.size); exact rfl; infer_instance; (first | (with_reducible exact LB_set (by omega)) | (simp only [n0, Nat.reduceAdd, n1, n2, n3, n4, n5, n6, n7, n8, n9]; try rfl)); (first | exact zl rfl | exact LB_le (by omega)); exact rfl; infer_instance; clear hp; (try clear w1); intro w1 hp)
          | ((with_reducible apply sx_indexAddr); exact zx rfl; exact zk rfl; infer_instance; (first | exact AggTy.size | exact OneTy.size); omega; omega; ((try simp only [m0, Int.reduceToNat, m1, m2, Nat.reduceMul, Nat.reduceAdd, m3, m4, m5, n0]); exact rfl); simp only [zp, zq, z0, z1])
          | ((with_reducible apply sx_load_far hp); exact zt rfl; assumption; infer_instance; assumption; (first | exact zl rfl | omega); simp only [zp, zq, z0, z1])
          | ((with_reducible refine sx_call hp (SGk.out _) ?_); clear hp; (try clear w1); intro w1 hp))
          exact bodyPost_ret (results_two rfl rfl rfl) rfl ⟨rfl, hp.keep⟩
        · clear R1 R3 SG PL
          go_upto_region 18 with (first
          | ((with_reducible apply sx_box hp); exact za rfl; exact rfl; clear hp; (try clear w1); intro g w1 hp; simp only [zp, zq, z0, z1])
          | ((with_reducible apply sx_alloc hp); infer_instance; exact rfl; clear hp; (try clear w1); intro g w1 hp; simp only [zp, zq, z0, z1])
          | ((with_reducible apply sx_load_agg hp); exact zt rfl; infer_instance; infer_instance; (first | exact zl rfl | exact LB_le (by omega)); (first | (with_reducible exact LB_set (by omega)) | (simp only [n0, Nat.reduceAdd, n1, n2, n3, n4, n5, n6, n7, n8, n9]; try rfl)); simp only [zp, zq, z0, z1])
          | ((with_reducible apply sx_store hp); exact zt rfl; exact za rfl; exact rfl; (first | exact AggTy.size | exact OneTy.size); exact rfl; infer_instance; (first | (with_reducible exact LB_set (by omega)) | (simp only [n0, Nat.reduceAdd, n1, n2, n3, n4, n5, n6, n7, n8, n9]; try rfl)); (first | exact zl rfl | exact LB_le (by omega)); exact rfl; infer_instance; clear hp; (try clear w1); intro w1 hp)
          | ((with_reducible apply sx_indexAddr); exact zx rfl; exact zk rfl; infer_instance; (first | exact AggTy.size | exact OneTy.size); omega; omega; ((try simp only [m0, Int.reduceToNat, m1, m2, Nat.reduceMul, Nat.reduceAdd, m3, m4, m5, n0]); exact rfl); simp only [zp, zq, z0, z1])
          | ((with_reducible apply sx_load_far hp); exact zt rfl; assumption; infer_instance; assumption; (first | exact zl rfl | omega); simp only [zp, zq, z0, z1])
          | ((with_reducible refine sx_call hp (SGk.out _) ?_); clear hp; (try clear w1); intro w1 hp))
          have hq := hp
          refine wp_drawnG_hp hp hq [6] (.q 0 (.q 1 (.q 2 (.q 3 (.q 4 (.p 5 (.l 6 .nil))))))) (by kernel_rfl) (by kernel_rfl) ?_
          clear hp hq; (try clear w1); intro w1 hp hq
          repeat' (first
            | (((with_reducible apply sg_q); exact zo rfl); (first
                | ((with_reducible apply sg_load_agg hp); exact rfl; exact zt rfl; infer_instance; infer_instance; (first | exact zl rfl | exact LB_le (by omega)); (first | (with_reducible exact LB_set (by omega)) | (simp only [n0, Nat.reduceAdd, n1, n2, n3, n4, n5, n6, n7, n8, n9]; try rfl)); simp only [zp, zq, z0, z1])
                | ((with_reducible apply sg_load_far hp); exact rfl; exact zt rfl; assumption; infer_instance; assumption; (first | exact zl rfl | omega); simp only [zp, zq, z0, z1])
                | ((with_reducible apply sg_move hp); (first | exact zi rfl | exact zs rfl); simp only [zp, zq, z0, z1])
                | ((with_reducible apply sg_indexAddr hp); exact rfl; exact zx rfl; exact zk rfl; infer_instance; (first | exact AggTy.size | exact OneTy.size); omega; omega; ((try simp only [m0, Int.reduceToNat, m1, m2, Nat.reduceMul, Nat.reduceAdd, m3, m4, m5, n0]); exact rfl); simp only [zp, zq, z0, z1])
                | ((with_reducible apply sg_pure hp); exact rfl; (focus (intro _; go_simp; (try go_ints); try with_reducible rfl)); simp only [zp, zq, z0, z1])))
            | (((with_reducible apply sg_p); exact zo rfl); ((with_reducible apply sg_call hp); exact rfl; (focus (intro _; go_simp; try first | with_reducible rfl | exact ⟨rfl, rfl⟩)); (with_reducible first | exact fun w => PLk.out w); simp only [zp, zq, z0, z1]))
            | (((with_reducible apply sg_l); exact zo rfl); (first
                | ((with_reducible apply sg_store_far hq); exact rfl; exact zt rfl; (first | exact za rfl | exact zu rfl | exact zi rfl | exact zb rfl | exact zr rfl | exact zs rfl | exact zf rfl | exact zg rfl | exact zn rfl | exact zv rfl | exact zw rfl); exact rfl; (first | exact AggTy.size | exact OneTy.size); exact rfl; infer_instance; (first | (with_reducible exact LB_set (by omega)) | (simp only [n0, Nat.reduceAdd, n1, n2, n3, n4, n5, n6, n7, n8, n9]; try rfl)); (first | exact zl rfl | exact LB_le (by omega)); exact rfl; infer_instance; (repeat (first | exact List.Sublist.refl _ | apply List.Sublist.cons)); clear hp hq; (try clear w1); intro w1 hp hq)
                | ((with_reducible apply sg_store hq); exact rfl; exact zt rfl; (first | exact za rfl | exact zu rfl | exact zi rfl | exact zb rfl | exact zr rfl | exact zs rfl | exact zf rfl | exact zg rfl | exact zn rfl | exact zv rfl | exact zw rfl); exact rfl; (first | exact AggTy.size | exact OneTy.size); exact rfl; infer_instance; (first | (with_reducible exact LB_set (by omega)) | (simp only [n0, Nat.reduceAdd, n1, n2, n3, n4, n5, n6, n7, n8, n9]; try rfl)); (first | exact zl rfl | exact LB_le (by omega)); exact rfl; infer_instance; exact rfl; clear hp hq; (try clear w1); intro w1 hq; have hp := True.intro)))
            | ((with_reducible apply sg_nil hq); clear hp hq; (try clear w1); intro w1 hp))
          go_wp2_with (first
          | ((with_reducible apply sx_box hp); exact za rfl; exact rfl; clear hp; (try clear w1); intro g w1 hp; simp only [zp, zq, z0, z1])
          | ((with_reducible apply sx_alloc hp); infer_instance; exact rfl; clear hp; (try clear w1); intro g w1 hp; simp only [zp, zq, z0, z1])
          | ((with_reducible apply sx_load_agg hp); exact zt rfl; infer_instance; infer_instance; (first | exact zl rfl | exact LB_le (by omega)); (first | (with_reducible exact LB_set (by omega)) | (simp only [n0, Nat.reduceAdd, n1, n2, n3, n4, n5, n6, n7, n8, n9]; try rfl)); simp only [zp, zq, z0, z1])
          | ((with_reducible apply sx_store hp); exact zt rfl; exact za rfl; exact rfl; (first | exact AggTy.size | exact OneTy.size); exact rfl; infer_instance; (first | (with_reducible exact LB_set (by omega)) | (simp only [n0, Nat.reduceAdd, n1, n2, n3, n4, n5, n6, n7, n8, n9]; try rfl)); (first | exact zl rfl | exact LB_le (by omega)); exact rfl; infer_instance; clear hp; (try clear w1); intro w1 hp)
          | ((with_reducible apply sx_indexAddr); exact zx rfl; exact zk rfl; infer_instance; (first | exact AggTy.size | exact OneTy.size); omega; omega; ((try simp only [m0, Int.reduceToNat, m1, m2, Nat.reduceMul, Nat.reduceAdd, m3, m4, m5, n0]); exact rfl); simp only [zp, zq, z0, z1])
          | ((with_reducible apply sx_load_far hp); exact zt rfl; assumption; infer_instance; assumption; (first | exact zl rfl | omega); simp only [zp, zq, z0, z1]))
          go_roundw
          case rel =>
            refine ⟨1, by omega, by go_num, fun j hj => ?_, hp⟩
            rcases Nat.lt_or_ge j 0 with h | h
            · have := Hlow.out j h
              omega
            · obtain rfl : j = 0 := by omega
              omega
          case measure => simp [intOf]
      · have HMk := HM.out 1 (by omega)
        have SGk := Lib.hid (SG.out 1 (by omega))
        have PLk := Lib.hid (PL.out 1 (by omega))
        by_cases hmk : m 1 < 0
        · have hr := R1.out 1 (by omega) hmk
          subst hr
          clear R1 R3 SG PL
          go_wp2_with (first
          | ((with_reducible apply sx_box hp); exact za rfl; exact rfl; clear hp; (try clear w1); intro g w1 hp; simp only [zp, zq, z0, z1])
          | ((with_reducible apply sx_alloc hp); infer_instance; exact rfl; clear hp; (try clear w1); intro g w1 hp; simp only [zp, zq, z0, z1])
          | ((with_reducible apply sx_load_agg hp); exact zt rfl; infer_instance; infer_instance; (first | exact zl rfl | exact LB_le (by omega)); (first | (with_reducible exact LB_set (by omega)) | (simp only [n0, Nat.reduceAdd, n1, n2, n3, n4, n5, n6, n7, n8, n9]; try rfl)); simp only [zp, zq, z0, z1])
          | ((with_reducible apply sx_store hp); exact zt rfl; exact za rfl; exact rfl; (first | exact AggTy.size | exact OneTy.size); exact rfl; infer_instance; (first | (with_reducible exact LB_set (by omega)) | (simp only [n0, Nat.reduceAdd, n1, n2, n3, n4, n5, n6, n7, n8, n9]; try rfl)); (first | exact zl rfl | exact LB_le (by omega)); exact rfl; infer_instance; clear hp; (try clear w1); intro w1 hp)
          | ((with_reducible apply sx_indexAddr); exact zx rfl; exact zk rfl; infer_instance; (first | exact AggTy.size | exact OneTy.size); omega; omega; ((try simp only [m0, Int.reduceToNat, m1, m2, Nat.reduceMul, Nat.reduceAdd, m3, m4, m5, n0]); exact rfl); simp only [zp, zq, z0, z1])
          | ((with_reducible apply sx_load_far hp); exact zt rfl; assumption; infer_instance; assumption; (first | exact zl rfl | omega); simp only [zp, zq, z0, z1])
          | ((with_reducible refine sx_call hp (SGk.out _) ?_); clear hp; (try clear w1); intro w1 hp))
          exact bodyPost_ret (results_two rfl rfl rfl) rfl ⟨rfl, hp.keep⟩
        · clear R1 R3 SG PL
          go_upto_region 18 with (first
          | ((with_reducible apply sx_box hp); exact za rfl; exact rfl; clear hp; (try clear w1); intro g w1 hp; simp only [zp, zq, z0, z1])
          | ((with_reducible apply sx_alloc hp); infer_instance; exact rfl; clear hp; (try clear w1); intro g w1 hp; simp only [zp, zq, z0, z1])
          | ((with_reducible apply sx_load_agg hp); exact zt rfl; infer_instance; infer_instance; (first | exact zl rfl | exact LB_le (by omega)); (first | (with_reducible exact LB_set (by omega)) | (simp only [n0, Nat.reduceAdd, n1, n2, n3, n4, n5, n6, n7, n8, n9]; try rfl)); simp only [zp, zq, z0, z1])
          | ((with_reducible apply sx_store hp); exact zt rfl; exact za rfl; exact rfl; (first | exact AggTy.size | exact OneTy.size); exact rfl; infer_instance; (first | (with_reducible exact LB_set (by omega)) | (simp only [n0, Nat.reduceAdd, n1, n2, n3, n4, n5, n6, n7, n8, n9]; try rfl)); (first | exact zl rfl | exact LB_le (by omega)); exact rfl; infer_instance; clear hp; (try clear w1); intro w1 hp)
          | ((with_reducible apply sx_indexAddr); exact zx rfl; exact zk rfl; infer_instance; (first | exact AggTy.size | exact OneTy.size); omega; omega; ((try simp only [m0, Int.reduceToNat, m1, m2, Nat.reduceMul, Nat.reduceAdd, m3, m4, m5, n0]); exact rfl); simp only [zp, zq, z0, z1])
          | ((with_reducible apply sx_load_far hp); exact zt rfl; assumption; infer_instance; assumption; (first | exact zl rfl | omega); simp only [zp, zq, z0, z1])
          | ((with_reducible refine sx_call hp (SGk.out _) ?_); clear hp; (try clear w1); intro w1 hp))
          have hq := hp
          refine wp_drawnG_hp hp hq [6] (.q 0 (.q 1 (.q 2 (.q 3 (.q 4 (.p 5 (.l 6 .nil))))))) (by kernel_rfl) (by kernel_rfl) ?_
          clear hp hq; (try clear w1); intro w1 hp hq
          repeat' (first
            | (((with_reducible apply sg_q); exact zo rfl); (first
                | ((with_reducible apply sg_load_agg hp); exact rfl; exact zt rfl; infer_instance; infer_instance; (first | exact zl rfl | exact LB_le (by omega)); (first | (with_reducible exact LB_set (by omega)) | (simp only [n0, Nat.reduceAdd, n1, n2, n3, n4, n5, n6, n7, n8, n9]; try rfl)); simp only [zp, zq, z0, z1])
                | ((with_reducible apply sg_load_far hp); exact rfl; exact zt rfl; assumption; infer_instance; assumption; (first | exact zl rfl | omega); simp only [zp, zq, z0, z1])
                | ((with_reducible apply sg_move hp); (first | exact zi rfl | exact zs rfl); simp only [zp, zq, z0, z1])
                | ((with_reducible apply sg_indexAddr hp); exact rfl; exact zx rfl; exact zk rfl; infer_instance; (first | exact AggTy.size | exact OneTy.size); omega; omega; ((try simp only [m0, Int.reduceToNat, m1, m2, Nat.reduceMul, Nat.reduceAdd, m3, m4, m5, n0]); exact rfl); simp only [zp, zq, z0, z1])
                | ((with_reducible apply sg_pure hp); exact rfl; (focus (intro _; go_simp; (try go_ints); try with_reducible rfl)); simp only [zp, zq, z0, z1])))
            | (((with_reducible apply sg_p); exact zo rfl); ((with_reducible apply sg_call hp); exact rfl; (focus (intro _; go_simp; try first | with_reducible rfl | exact ⟨rfl, rfl⟩)); (with_reducible first | exact fun w => PLk.out w); simp only [zp, zq, z0, z1]))
            | (((with_reducible apply sg_l); exact zo rfl); (first
                | ((with_reducible apply sg_store_far hq); exact rfl; exact zt rfl; (first | exact za rfl | exact zu rfl | exact zi rfl | exact zb rfl | exact zr rfl | exact zs rfl | exact zf rfl | exact zg rfl | exact zn rfl | exact zv rfl | exact zw rfl); exact rfl; (first | exact AggTy.size | exact OneTy.size); exact rfl; infer_instance; (first | (with_reducible exact LB_set (by omega)) | (simp only [n0, Nat.reduceAdd, n1, n2, n3, n4, n5, n6, n7, n8, n9]; try rfl)); (first | exact zl rfl | exact LB_le (by omega)); exact rfl; infer_instance; (repeat (first | exact List.Sublist.refl _ | apply List.Sublist.cons)); clear hp hq; (try clear w1); intro w1 hp hq)
                | ((with_reducible apply sg_store hq); exact rfl; exact zt rfl; (first | exact za rfl | exact zu rfl | exact zi rfl | exact zb rfl | exact zr rfl | exact zs rfl | exact zf rfl | exact zg rfl | exact zn rfl | exact zv rfl | exact zw rfl); exact rfl; (first | exact AggTy.size | exact OneTy.size); exact rfl; infer_instance; (first | (with_reducible exact LB_set (by omega)) | (simp only [n0, Nat.reduceAdd, n1, n2, n3, n4, n5, n6, n7, n8, n9]; try rfl)); (first | exact zl rfl | exact LB_le (by omega)); exact rfl; infer_instance; exact rfl; clear hp hq; (try clear w1); intro w1 hq; have hp := True.intro)))
            | ((with_reducible apply sg_nil hq); clear hp hq; (try clear w1); intro w1 hp))
          go_wp2_with (first
          | ((with_reducible apply sx_box hp); exact za rfl; exact rfl; clear hp; (try clear w1); intro g w1 hp; simp only [zp, zq, z0, z1])
          | ((with_reducible apply sx_alloc hp); infer_instance; exact rfl; clear hp; (try clear w1); intro g w1 hp; simp only [zp, zq, z0, z1])
          | ((with_reducible apply sx_load_agg hp); exact zt rfl; infer_instance; infer_instance; (first | exact zl rfl | exact LB_le (by omega)); (first | (with_reducible exact LB_set (by omega)) | (simp only [n0, Nat.reduceAdd, n1, n2, n3, n4, n5, n6, n7, n8, n9]; try rfl)); simp only [zp, zq, z0, z1])
          | ((with_reducible apply sx_store hp); exact zt rfl; exact za rfl; exact rfl; (first | exact AggTy.size | exact OneTy.size); exact rfl; infer_instance; (first | (with_reducible exact LB_set (by omega)) | (simp only [n0, Nat.reduceAdd, n1, n2, n3, n4, n5, n6, n7, n8, n9]; try rfl)); (first | exact zl rfl | exact LB_le (by omega)); exact rfl; infer_instance; clear hp; (try clear w1); intro w1 hp)
          | ((with_reducible apply sx_indexAddr); exact zx rfl; exact zk rfl; infer_instance; (first | exact AggTy.size | exact OneTy.size); omega; omega; ((try simp only [m0, Int.reduceToNat, m1, m2, Nat.reduceMul, Nat.reduceAdd, m3, m4, m5, n0]); exact rfl); simp only [zp, zq, z0, z1])
          | ((with_reducible apply sx_load_far hp); exact zt rfl; assumption; infer_instance; assumption; (first | exact zl rfl | omega); simp only [zp, zq, z0, z1]))
          go_roundw
          case rel =>
            refine ⟨2, by omega, by go_num, fun j hj => ?_, hp⟩
            rcases Nat.lt_or_ge j 1 with h | h
            · have := Hlow.out j h
              omega
            · obtain rfl : j = 1 := by omega
              omega
          case measure => simp [intOf]
      · have HMk := HM.out 2 (by omega)
        have SGk := Lib.hid (SG.out 2 (by omega))
        have PLk := Lib.hid (PL.out 2 (by omega))
        by_cases hmk : m 2 < 0
        · have hr := R1.out 2 (by omega) hmk
          subst hr
          clear R1 R3 SG PL
          go_wp2_with (first
          | ((with_reducible apply sx_box hp); exact za rfl; exact rfl; clear hp; (try clear w1); intro g w1 hp; simp only [zp, zq, z0, z1])
          | ((with_reducible apply sx_alloc hp); infer_instance; exact rfl; clear hp; (try clear w1); intro g w1 hp; simp only [zp, zq, z0, z1])
          | ((with_reducible apply sx_load_agg hp); exact zt rfl; infer_instance; infer_instance; (first | exact zl rfl | exact LB_le (by omega)); (first | (with_reducible exact LB_set (by omega)) | (simp only [n0, Nat.reduceAdd, n1, n2, n3, n4, n5, n6, n7, n8, n9]; try rfl)); simp only [zp, zq, z0, z1])
          | ((with_reducible apply sx_store hp); exact zt rfl; exact za rfl; exact rfl; (first | exact AggTy.size | exact OneTy.size); exact rfl; infer_instance; (first | (with_reducible exact LB_set (by omega)) | (simp only [n0, Nat.reduceAdd, n1, n2, n3, n4, n5, n6, n7, n8, n9]; try rfl)); (first | exact zl rfl | exact LB_le (by omega)); exact rfl; infer_instance; clear hp; (try clear w1); intro w1 hp)
          | ((with_reducible apply sx_indexAddr); exact zx rfl; exact zk rfl; infer_instance; (first | exact AggTy.size | exact OneTy.size); omega; omega; ((try simp only [m0, Int.reduceToNat, m1, m2, Nat.reduceMul, Nat.reduceAdd, m3, m4, m5, n0]); exact rfl); simp only [zp, zq, z0, z1])
          | ((with_reducible apply sx_load_far hp); exact zt rfl; assumption; infer_instance; assumption; (first | exact zl rfl | omega); simp only [zp, zq, z0, z1])
          | ((with_reducible refine sx_call hp (SGk.out _) ?_); clear hp; (try clear w1); intro w1 hp))
          exact bodyPost_ret (results_two rfl rfl rfl) rfl ⟨rfl, hp.keep⟩
        · clear R1 R3 SG PL
          go_upto_region 18 with (first
          | ((with_reducible apply sx_box hp); exact za rfl; exact rfl; clear hp; (try clear w1); intro g w1 hp; simp only [zp, zq, z0, z1])
          | ((with_reducible apply sx_alloc hp); infer_instance; exact rfl; clear hp; (try clear w1); intro g w1 hp; simp only [zp, zq, z0, z1])
          | ((with_reducible apply sx_load_agg hp); exact zt rfl; infer_instance; infer_instance; (first | exact zl rfl | exact LB_le (by omega)); (first | (with_reducible exact LB_set (by omega)) | (simp only [n0, Nat.reduceAdd, n1, n2, n3, n4, n5, n6, n7, n8, n9]; try rfl)); simp only [zp, zq, z0, z1])
          | ((with_reducible apply sx_store hp); exact zt rfl; exact za rfl; exact rfl; (first | exact AggTy.size | exact OneTy.size); exact rfl; infer_instance; (first | (with_reducible exact LB_set (by omega)) | (simp only [n0, Nat.reduceAdd, n1, n2, n3, n4, n5, n6, n7, n8, n9]; try rfl)); (first | exact zl rfl | exact LB_le (by omega)); exact rfl; infer_instance; clear hp; (try clear w1); intro w1 hp)
          | ((with_reducible apply sx_indexAddr); exact zx rfl; exact zk rfl; infer_instance; (first | exact AggTy.size | exact OneTy.size); omega; omega; ((try simp only [m0, Int.reduceToNat, m1, m2, Nat.reduceMul, Nat.reduceAdd, m3, m4, m5, n0]); exact rfl); simp only [zp, zq, z0, z1])
          | ((with_reducible apply sx_load_far hp); exact zt rfl; assumption; infer_instance; assumption; (first | exact zl rfl | omega); simp only [zp, zq, z0, z1])
          | ((with_reducible refine sx_call hp (SGk.out _) ?_); clear hp; (try clear w1); intro w1 hp))
          have hq := hp
          refine wp_drawnG_hp hp hq [6] (.q 0 (.q 1 (.q 2 (.q 3 (.q 4 (.p 5 (.l 6 .nil))))))) (by kernel_rfl) (by kernel_rfl) ?_
          clear hp hq; (try clear w1); intro w1 hp hq
          repeat' (first
            | (((with_reducible apply sg_q); exact zo rfl); (first
                | ((with_reducible apply sg_load_agg hp); exact rfl; exact zt rfl; infer_instance; infer_instance; (first | exact zl rfl | exact LB_le (by omega)); (first | (with_reducible exact LB_set (by omega)) | (simp only [n0, Nat.reduceAdd, n1, n2, n3, n4, n5, n6, n7, n8, n9]; try rfl)); simp only [zp, zq, z0, z1])
                | ((with_reducible apply sg_load_far hp); exact rfl; exact zt rfl; assumption; infer_instance; assumption; (first | exact zl rfl | omega); simp only [zp, zq, z0, z1])
                | ((with_reducible apply sg_move hp); (first | exact zi rfl | exact zs rfl); simp only [zp, zq, z0, z1])
                | ((with_reducible apply sg_indexAddr hp); exact rfl; exact zx rfl; exact zk rfl; infer_instance; (first | exact AggTy.size | exact OneTy.size); omega; omega; ((try simp only [m0, Int.reduceToNat, m1, m2, Nat.reduceMul, Nat.reduceAdd, m3, m4, m5, n0]); exact rfl); simp only [zp, zq, z0, z1])
                | ((with_reducible apply sg_pure hp); exact rfl; (focus (intro _; go_simp; (try go_ints); try with_reducible rfl)); simp only [zp, zq, z0, z1])))
            | (((with_reducible apply sg_p); exact zo rfl); ((with_reducible apply sg_call hp); exact rfl; (focus (intro _; go_simp; try first | with_reducible rfl | exact ⟨rfl, rfl⟩)); (with_reducible first | exact fun w => PLk.out w); simp only [zp, zq, z0, z1]))
            | (((with_reducible apply sg_l); exact zo rfl); (first
                | ((with_reducible apply sg_store_far hq); exact rfl; exact zt rfl; (first | exact za rfl | exact zu rfl | exact zi rfl | exact zb rfl | exact zr rfl | exact zs rfl | exact zf rfl | exact zg rfl | exact zn rfl | exact zv rfl | exact zw rfl); exact rfl; (first | exact AggTy.size | exact OneTy.size); exact rfl; infer_instance; (first | (with_reducible exact LB_set (by omega)) | (simp only [n0, Nat.reduceAdd, n1, n2, n3, n4, n5, n6, n7, n8, n9]; try rfl)); (first | exact zl rfl | exact LB_le (by omega)); exact rfl; infer_instance; (repeat (first | exact List.Sublist.refl _ | apply List.Sublist.cons)); clear hp hq; (try clear w1); intro w1 hp hq)
                | ((with_reducible apply sg_store hq); exact rfl; exact zt rfl; (first | exact za rfl | exact zu rfl | exact zi rfl | exact zb rfl | exact zr rfl | exact zs rfl | exact zf rfl | exact zg rfl | exact zn rfl | exact zv rfl | exact zw rfl); exact rfl; (first | exact AggTy.size | exact OneTy.size); exact rfl; infer_instance; (first | (with_reducible exact LB_set (by omega)) | (simp only [n0, Nat.reduceAdd, n1, n2, n3, n4, n5, n6, n7, n8, n9]; try rfl)); (first | exact zl rfl | exact LB_le (by omega)); exact rfl; infer_instance; exact rfl; clear hp hq; (try clear w1); intro w1 hq; have hp := True.intro)))
            | ((with_reducible apply sg_nil hq); clear hp hq; (try clear w1); intro w1 hp))
          go_wp2_with (first
          | ((with_reducible apply sx_box hp); exact za rfl; exact rfl; clear hp; (try clear w1); intro g w1 hp; simp only [zp, zq, z0, z1])
          | ((with_reducible apply sx_alloc hp); infer_instance; exact rfl; clear hp; (try clear w1); intro g w1 hp; simp only [zp, zq, z0, z1])
          | ((with_reducible apply sx_load_agg hp); exact zt rfl; infer_instance; infer_instance; (first | exact zl rfl | exact LB_le (by omega)); (first | (with_reducible exact LB_set (by omega)) | (simp only [n0, Nat.reduceAdd, n1, n2, n3, n4, n5, n6, n7, n8, n9]; try rfl)); simp only [zp, zq, z0, z1])
          | ((with_reducible apply sx_store hp); exact zt rfl; exact za rfl; exact rfl; (first | exact AggTy.size | exact OneTy.size); exact rfl; infer_instance; (first | (with_reducible exact LB_set (by omega)) | (simp only [n0, Nat.reduceAdd, n1, n2, n3, n4, n5, n6, n7, n8, n9]; try rfl)); (first | exact zl rfl | exact LB_le (by omega)); exact rfl; infer_instance; clear hp; (try clear w1); intro w1 hp)
          | ((with_reducible apply sx_indexAddr); exact zx rfl; exact zk rfl; infer_instance; (first | exact AggTy.size | exact OneTy.size); omega; omega; ((try simp only [m0, Int.reduceToNat, m1, m2, Nat.reduceMul, Nat.reduceAdd, m3, m4, m5, n0]); exact rfl); simp only [zp, zq, z0, z1])
          | ((with_reducible apply sx_load_far hp); exact zt rfl; assumption; infer_instance; assumption; (first | exact zl rfl | omega); simp only [zp, zq, z0, z1]))
          go_roundw
          case rel =>
            refine ⟨3, by omega, by go_num, fun j hj => ?_, hp⟩
            rcases Nat.lt_or_ge j 2 with h | h
            · have := Hlow.out j h
              omega
            · obtain rfl : j = 2 := by omega
              omega
          case measure => simp [intOf]
      · have hlow : ∀ k, k < 3 → ¬ m k < 0 := fun k hk => Hlow.out k (by omega)
        have hr := R3.out (fun k hk => by first | exact hlow k hk | (have := hlow k hk; omega))
        subst hr
        clear R1 R3 hlow Hlow SG PL
        have hD := HD.out
        go_upto_region 19 with fail
        have hq := hp
        refine wp_drawnG_hp hp hq [] (.q 0 (.q 1 (.q 2 (.q 3 (.q 4 (.q 7 (.p 5 (.p 6 (.q 8 (.q 9 (.q 10 (.q 11 .nil)))))))))))) (by kernel_rfl) (by kernel_rfl) ?_
        clear hp hq; (try clear w1); intro w1 hp hq
        repeat' (first
          | (((with_reducible apply sg_q); exact zo rfl); (first
              | ((with_reducible apply sg_load_agg hp); exact rfl; exact zt rfl; infer_instance; infer_instance; (first | exact zl rfl | exact LB_le (by omega)); (first | (with_reducible exact LB_set (by omega)) | (simp only [n0, Nat.reduceAdd, n1, n2, n3, n4, n5, n6, n7, n8, n9]; try rfl)); simp only [zp, zq, z0, z1])
              | ((with_reducible apply sg_load_far hp); exact rfl; exact zt rfl; assumption; infer_instance; assumption; (first | exact zl rfl | omega); simp only [zp, zq, z0, z1])
              | ((with_reducible apply sg_move hp); (first | exact zi rfl | exact zs rfl); simp only [zp, zq, z0, z1])
              | ((with_reducible apply sg_assign hp); (first | exact zb rfl | exact zi rfl); simp only [zp, zq, z0, z1])
              | ((with_reducible apply sg_indexAddr hp); exact rfl; exact zx rfl; exact zk rfl; infer_instance; (first | exact AggTy.size | exact OneTy.size); omega; omega; ((try simp only [m0, Int.reduceToNat, m1, m2, Nat.reduceMul, Nat.reduceAdd, m3, m4, m5, n0]); exact rfl); simp only [zp, zq, z0, z1])
              | ((with_reducible apply sg_pure hp); exact rfl; (focus (intro _; go_simp; (try go_ints); try with_reducible rfl)); simp only [zp, zq, z0, z1])))
          | (((with_reducible apply sg_p); exact zo rfl); ((with_reducible apply sg_call hp); exact rfl; (focus (intro _; go_simp; try first | with_reducible rfl | exact ⟨rfl, rfl⟩)); (with_reducible first | exact fun w => LE.out w | exact fun w => SD.out w); simp only [zp, zq, z0, z1]))
          | ((with_reducible apply sg_nil hq); clear hp hq; (try clear w1); intro w1 hp))
        go_wp2
        exact bodyPost_ret (results_two rfl rfl rfl) rfl ⟨rfl, hp.keep⟩

end Go.Proofs.Ythnpmmpcejfllaa
set_option linter.unusedSimpArgs false
set_option linter.unusedVariables false
set_option maxRecDepth 100000
namespace Go.Proofs.Ythnpmmpcejfllaa
open Go Go.RowKit
attribute [local irreducible] wpList

section
variable (p : P3) (base : Option Addr) (n cap : Nat) (w : World)
set_option maxHeartbeats 4000000 in
theorem rino_fine (FI : Hid (∀ w1, Keep [] w w1 → Calls Try.prog 26 #[.slice base n cap] w1 (Ret (.bool false) w1))) :
    Calls Try.prog 18 #[.slice base n cap, PV p] w (Ret (.tuple #[.bool false, .int .i64 7]) w) := by
  go_enter Try.func18, Try.ntmps18
  have hp := Hp.start [] w
  go_wp2_with (first
          | ((with_reducible apply sx_guard); (conv => whnf); refine Bx.mk ?_; (try simp only [zp, zq, z0, z1]))
          | ((with_reducible apply sx_box hp); exact za rfl; exact rfl; clear hp; (try clear w1); intro g w1 hp; simp only [zp, zq, z0, z1])
          | ((with_reducible apply sx_alloc hp); infer_instance; exact rfl; clear hp; (try clear w1); intro g w1 hp; simp only [zp, zq, z0, z1])
          | ((with_reducible apply sx_load_agg hp); exact zt rfl; infer_instance; infer_instance; (first | exact zl rfl | exact LB_le (by omega)); (first | (with_reducible exact LB_set (by omega)) | (simp only [n0, Nat.reduceAdd, n1, n2, n3, n4, n5, n6, n7, n8, n9]; try rfl)); simp only [zp, zq, z0, z1])
          | ((with_reducible apply sx_store hp); exact zt rfl; exact za rfl; exact rfl; (first | exact AggTy.size | exact OneTy.size); exact rfl; infer_instance; (first | (with_reducible exact LB_set (by omega)) | (simp only [n0, Nat.reduceAdd, n1, n2, n3, n4, n5, n6, n7, n8, n9]; try rfl)); (first | exact zl rfl | exact LB_le (by omega)); exact rfl; infer_instance; clear hp; (try clear w1); intro w1 hp)
          | ((with_reducible apply sx_indexAddr); exact zx rfl; exact zk rfl; infer_instance; (first | exact AggTy.size | exact OneTy.size); omega; omega; ((try simp only [m0, Int.reduceToNat, m1, m2, Nat.reduceMul, Nat.reduceAdd, m3, m4, m5, n0]); exact rfl); simp only [zp, zq, z0, z1])
          | ((with_reducible apply sx_load_far hp); exact zt rfl; assumption; infer_instance; assumption; (first | exact zl rfl | omega); simp only [zp, zq, z0, z1])
          | ((with_reducible refine sx_call hp (FI.out _ hp.keep) ?_); clear hp; (try clear w1); intro w1 hp))
  exact bodyPost_ret (results_two rfl rfl rfl) rfl ⟨rfl, hp.keep⟩
set_option maxHeartbeats 4000000 in
theorem rino_check (FI : Hid (∀ w1, Keep [] w w1 → Calls Try.prog 26 #[.slice base n cap] w1 (Ret (.bool true) w1)))
    (CK : Hid (∀ w, Calls Try.prog 34 #[PV p] w (Ret (.int .i64 7) w))) :
    Calls Try.prog 18 #[.slice base n cap, PV p] w (Ret (.tuple #[.bool false, .int .i64 7]) w) := by
  go_enter Try.func18, Try.ntmps18
  have hp := Hp.start [] w
  go_wp2_with (first
          | ((with_reducible apply sx_guard); (conv => whnf); refine Bx.mk ?_; (try simp only [zp, zq, z0, z1]))
          | ((with_reducible apply sx_box hp); exact za rfl; exact rfl; clear hp; (try clear w1); intro g w1 hp; simp only [zp, zq, z0, z1])
          | ((with_reducible apply sx_alloc hp); infer_instance; exact rfl; clear hp; (try clear w1); intro g w1 hp; simp only [zp, zq, z0, z1])
          | ((with_reducible apply sx_load_agg hp); exact zt rfl; infer_instance; infer_instance; (first | exact zl rfl | exact LB_le (by omega)); (first | (with_reducible exact LB_set (by omega)) | (simp only [n0, Nat.reduceAdd, n1, n2, n3, n4, n5, n6, n7, n8, n9]; try rfl)); simp only [zp, zq, z0, z1])
          | ((with_reducible apply sx_store hp); exact zt rfl; exact za rfl; exact rfl; (first | exact AggTy.size | exact OneTy.size); exact rfl; infer_instance; (first | (with_reducible exact LB_set (by omega)) | (simp only [n0, Nat.reduceAdd, n1, n2, n3, n4, n5, n6, n7, n8, n9]; try rfl)); (first | exact zl rfl | exact LB_le (by omega)); exact rfl; infer_instance; clear hp; (try clear w1); intro w1 hp)
          | ((with_reducible apply sx_indexAddr); exact zx rfl; exact zk rfl; infer_instance; (first | exact AggTy.size | exact OneTy.size); omega; omega; ((try simp only [m0, Int.reduceToNat, m1, m2, Nat.reduceMul, Nat.reduceAdd, m3, m4, m5, n0]); exact rfl); simp only [zp, zq, z0, z1])
          | ((with_reducible apply sx_load_far hp); exact zt rfl; assumption; infer_instance; assumption; (first | exact zl rfl | omega); simp only [zp, zq, z0, z1])
          | ((with_reducible refine sx_call hp (CK.out _) ?_); clear hp; (try clear w1); intro w1 hp)
          | ((with_reducible refine sx_call hp (FI.out _ hp.keep) ?_); clear hp; (try clear w1); intro w1 hp))
  exact bodyPost_ret (results_two rfl rfl rfl) rfl ⟨rfl, hp.keep⟩
set_option maxHeartbeats 4000000 in
theorem rino_none (FI : Hid (∀ w1, Keep [] w w1 → Calls Try.prog 26 #[.slice base 0 cap] w1 (Ret (.bool true) w1)))
    (CK : Hid (∀ w, Calls Try.prog 34 #[PV p] w (Ret (.int .i64 0) w))) :
    Calls Try.prog 18 #[.slice base 0 cap, PV p] w (Ret (.tuple #[.bool false, .int .i64 8]) w) := by
  go_enter Try.func18, Try.ntmps18
  have hp := Hp.start [] w
  go_wp2_with (first
          | ((with_reducible apply sx_guard); (conv => whnf); refine Bx.mk ?_; (try simp only [zp, zq, z0, z1]))
          | ((with_reducible apply sx_box hp); exact za rfl; exact rfl; clear hp; (try clear w1); intro g w1 hp; simp only [zp, zq, z0, z1])
          | ((with_reducible apply sx_alloc hp); infer_instance; exact rfl; clear hp; (try clear w1); intro g w1 hp; simp only [zp, zq, z0, z1])
          | ((with_reducible apply sx_load_agg hp); exact zt rfl; infer_instance; infer_instance; (first | exact zl rfl | exact LB_le (by omega)); (first | (with_reducible exact LB_set (by omega)) | (simp only [n0, Nat.reduceAdd, n1, n2, n3, n4, n5, n6, n7, n8, n9]; try rfl)); simp only [zp, zq, z0, z1])
          | ((with_reducible apply sx_store hp); exact zt rfl; exact za rfl; exact rfl; (first | exact AggTy.size | exact OneTy.size); exact rfl; infer_instance; (first | (with_reducible exact LB_set (by omega)) | (simp only [n0, Nat.reduceAdd, n1, n2, n3, n4, n5, n6, n7, n8, n9]; try rfl)); (first | exact zl rfl | exact LB_le (by omega)); exact rfl; infer_instance; clear hp; (try clear w1); intro w1 hp)
          | ((with_reducible apply sx_indexAddr); exact zx rfl; exact zk rfl; infer_instance; (first | exact AggTy.size | exact OneTy.size); omega; omega; ((try simp only [m0, Int.reduceToNat, m1, m2, Nat.reduceMul, Nat.reduceAdd, m3, m4, m5, n0]); exact rfl); simp only [zp, zq, z0, z1])
          | ((with_reducible apply sx_load_far hp); exact zt rfl; assumption; infer_instance; assumption; (first | exact zl rfl | omega); simp only [zp, zq, z0, z1])
          | ((with_reducible refine sx_call hp (CK.out _) ?_); clear hp; (try clear w1); intro w1 hp)
          | ((with_reducible refine sx_call hp (FI.out _ hp.keep) ?_); clear hp; (try clear w1); intro w1 hp))
  exact bodyPost_ret (results_two rfl rfl rfl) rfl ⟨rfl, hp.keep⟩
set_option maxHeartbeats 4000000 in
theorem rino_many (h4 : 4 < n) (FI : Hid (∀ w1, Keep [] w w1 → Calls Try.prog 26 #[.slice base n cap] w1 (Ret (.bool true) w1)))
    (CK : Hid (∀ w, Calls Try.prog 34 #[PV p] w (Ret (.int .i64 0) w))) :
    Calls Try.prog 18 #[.slice base n cap, PV p] w (Ret (.tuple #[.bool false, .int .i64 8]) w) := by
  have hd1 : decide ((n : Int) < 1) = false := by simp; omega
  have hd2 : decide ((4 : Int) < n) = true := by simp; omega
  go_enter Try.func18, Try.ntmps18
  have hp := Hp.start [] w
  go_wp2_with (first
          | ((with_reducible apply sx_guard); (conv => whnf); refine Bx.mk ?_; (try simp only [zp, zq, z0, z1]))
          | ((with_reducible apply sx_box hp); exact za rfl; exact rfl; clear hp; (try clear w1); intro g w1 hp; simp only [zp, zq, z0, z1])
          | ((with_reducible apply sx_alloc hp); infer_instance; exact rfl; clear hp; (try clear w1); intro g w1 hp; simp only [zp, zq, z0, z1])
          | ((with_reducible apply sx_load_agg hp); exact zt rfl; infer_instance; infer_instance; (first | exact zl rfl | exact LB_le (by omega)); (first | (with_reducible exact LB_set (by omega)) | (simp only [n0, Nat.reduceAdd, n1, n2, n3, n4, n5, n6, n7, n8, n9]; try rfl)); simp only [zp, zq, z0, z1])
          | ((with_reducible apply sx_store hp); exact zt rfl; exact za rfl; exact rfl; (first | exact AggTy.size | exact OneTy.size); exact rfl; infer_instance; (first | (with_reducible exact LB_set (by omega)) | (simp only [n0, Nat.reduceAdd, n1, n2, n3, n4, n5, n6, n7, n8, n9]; try rfl)); (first | exact zl rfl | exact LB_le (by omega)); exact rfl; infer_instance; clear hp; (try clear w1); intro w1 hp)
          | ((with_reducible apply sx_indexAddr); exact zx rfl; exact zk rfl; infer_instance; (first | exact AggTy.size | exact OneTy.size); omega; omega; ((try simp only [m0, Int.reduceToNat, m1, m2, Nat.reduceMul, Nat.reduceAdd, m3, m4, m5, n0]); exact rfl); simp only [zp, zq, z0, z1])
          | ((with_reducible apply sx_load_far hp); exact zt rfl; assumption; infer_instance; assumption; (first | exact zl rfl | omega); simp only [zp, zq, z0, z1])
          | ((with_reducible refine sx_call hp (CK.out _) ?_); clear hp; (try clear w1); intro w1 hp)
          | ((with_reducible refine sx_call hp (FI.out _ hp.keep) ?_); clear hp; (try clear w1); intro w1 hp))
  exact bodyPost_ret (results_two rfl rfl rfl) rfl ⟨rfl, hp.keep⟩

set_option maxHeartbeats 4000000 in
theorem rino_of1 (o : Int) (ho : (o == 0) = false) (FI : Hid (∀ w1, Keep [] w w1 → Calls Try.prog 26 #[.slice base 1 cap] w1 (Ret (.bool true) w1)))
    (CK : Hid (∀ w, Calls Try.prog 34 #[PV p] w (Ret (.int .i64 0) w)))
    (OF : Hid (∀ w1, Keep [] w w1 → Calls Try.prog 27 #[.slice base 1 cap] w1 (Ret (.int .i64 o) w1))) :
    Calls Try.prog 18 #[.slice base 1 cap, PV p] w (Ret (.tuple #[.bool false, .int .i64 8]) w) := by
  go_enter Try.func18, Try.ntmps18
  have hp := Hp.start [] w
  go_wp2_with (first
          | ((with_reducible apply sx_guard); (conv => whnf); refine Bx.mk ?_; (try simp only [zp, zq, z0, z1]))
          | ((with_reducible apply sx_box hp); exact za rfl; exact rfl; clear hp; (try clear w1); intro g w1 hp; simp only [zp, zq, z0, z1])
          | ((with_reducible apply sx_alloc hp); infer_instance; exact rfl; clear hp; (try clear w1); intro g w1 hp; simp only [zp, zq, z0, z1])
          | ((with_reducible apply sx_load_agg hp); exact zt rfl; infer_instance; infer_instance; (first | exact zl rfl | exact LB_le (by omega)); (first | (with_reducible exact LB_set (by omega)) | (simp only [n0, Nat.reduceAdd, n1, n2, n3, n4, n5, n6, n7, n8, n9]; try rfl)); simp only [zp, zq, z0, z1])
          | ((with_reducible apply sx_store hp); exact zt rfl; exact za rfl; exact rfl; (first | exact AggTy.size | exact OneTy.size); exact rfl; infer_instance; (first | (with_reducible exact LB_set (by omega)) | (simp only [n0, Nat.reduceAdd, n1, n2, n3, n4, n5, n6, n7, n8, n9]; try rfl)); (first | exact zl rfl | exact LB_le (by omega)); exact rfl; infer_instance; clear hp; (try clear w1); intro w1 hp)
          | ((with_reducible apply sx_indexAddr); exact zx rfl; exact zk rfl; infer_instance; (first | exact AggTy.size | exact OneTy.size); omega; omega; ((try simp only [m0, Int.reduceToNat, m1, m2, Nat.reduceMul, Nat.reduceAdd, m3, m4, m5, n0]); exact rfl); simp only [zp, zq, z0, z1])
          | ((with_reducible apply sx_load_far hp); exact zt rfl; assumption; infer_instance; assumption; (first | exact zl rfl | omega); simp only [zp, zq, z0, z1])
          | ((with_reducible refine sx_call hp (CK.out _) ?_); clear hp; (try clear w1); intro w1 hp)
          | ((with_reducible refine sx_call hp (FI.out _ hp.keep) ?_); clear hp; (try clear w1); intro w1 hp)
          | ((with_reducible refine sx_call hp (OF.out _ hp.keep) ?_); clear hp; (try clear w1); intro w1 hp))
  exact bodyPost_ret (results_two rfl rfl rfl) rfl ⟨rfl, hp.keep⟩

set_option maxHeartbeats 4000000 in
theorem rino_of2 (o : Int) (ho : (o == 1) = false) (FI : Hid (∀ w1, Keep [] w w1 → Calls Try.prog 26 #[.slice base 2 cap] w1 (Ret (.bool true) w1)))
    (CK : Hid (∀ w, Calls Try.prog 34 #[PV p] w (Ret (.int .i64 0) w)))
    (OF : Hid (∀ w1, Keep [] w w1 → Calls Try.prog 27 #[.slice base 2 cap] w1 (Ret (.int .i64 o) w1))) :
    Calls Try.prog 18 #[.slice base 2 cap, PV p] w (Ret (.tuple #[.bool false, .int .i64 8]) w) := by
  go_enter Try.func18, Try.ntmps18
  have hp := Hp.start [] w
  go_wp2_with (first
          | ((with_reducible apply sx_guard); (conv => whnf); refine Bx.mk ?_; (try simp only [zp, zq, z0, z1]))
          | ((with_reducible apply sx_box hp); exact za rfl; exact rfl; clear hp; (try clear w1); intro g w1 hp; simp only [zp, zq, z0, z1])
          | ((with_reducible apply sx_alloc hp); infer_instance; exact rfl; clear hp; (try clear w1); intro g w1 hp; simp only [zp, zq, z0, z1])
          | ((with_reducible apply sx_load_agg hp); exact zt rfl; infer_instance; infer_instance; (first | exact zl rfl | exact LB_le (by omega)); (first | (with_reducible exact LB_set (by omega)) | (simp only [n0, Nat.reduceAdd, n1, n2, n3, n4, n5, n6, n7, n8, n9]; try rfl)); simp only [zp, zq, z0, z1])
          | ((with_reducible apply sx_store hp); exact zt rfl; exact za rfl; exact rfl; (first | exact AggTy.size | exact OneTy.size); exact rfl; infer_instance; (first | (with_reducible exact LB_set (by omega)) | (simp only [n0, Nat.reduceAdd, n1, n2, n3, n4, n5, n6, n7, n8, n9]; try rfl)); (first | exact zl rfl | exact LB_le (by omega)); exact rfl; infer_instance; clear hp; (try clear w1); intro w1 hp)
          | ((with_reducible apply sx_indexAddr); exact zx rfl; exact zk rfl; infer_instance; (first | exact AggTy.size | exact OneTy.size); omega; omega; ((try simp only [m0, Int.reduceToNat, m1, m2, Nat.reduceMul, Nat.reduceAdd, m3, m4, m5, n0]); exact rfl); simp only [zp, zq, z0, z1])
          | ((with_reducible apply sx_load_far hp); exact zt rfl; assumption; infer_instance; assumption; (first | exact zl rfl | omega); simp only [zp, zq, z0, z1])
          | ((with_reducible refine sx_call hp (CK.out _) ?_); clear hp; (try clear w1); intro w1 hp)
          | ((with_reducible refine sx_call hp (FI.out _ hp.keep) ?_); clear hp; (try clear w1); intro w1 hp)
          | ((with_reducible refine sx_call hp (OF.out _ hp.keep) ?_); clear hp; (try clear w1); intro w1 hp))
  exact bodyPost_ret (results_two rfl rfl rfl) rfl ⟨rfl, hp.keep⟩

set_option maxHeartbeats 4000000 in
theorem rino_of3 (o : Int) (ho : (o == 2) = false) (FI : Hid (∀ w1, Keep [] w w1 → Calls Try.prog 26 #[.slice base 3 cap] w1 (Ret (.bool true) w1)))
    (CK : Hid (∀ w, Calls Try.prog 34 #[PV p] w (Ret (.int .i64 0) w)))
    (OF : Hid (∀ w1, Keep [] w w1 → Calls Try.prog 27 #[.slice base 3 cap] w1 (Ret (.int .i64 o) w1))) :
    Calls Try.prog 18 #[.slice base 3 cap, PV p] w (Ret (.tuple #[.bool false, .int .i64 8]) w) := by
  go_enter Try.func18, Try.ntmps18
  have hp := Hp.start [] w
  go_wp2_with (first
          | ((with_reducible apply sx_guard); (conv => whnf); refine Bx.mk ?_; (try simp only [zp, zq, z0, z1]))
          | ((with_reducible apply sx_box hp); exact za rfl; exact rfl; clear hp; (try clear w1); intro g w1 hp; simp only [zp, zq, z0, z1])
          | ((with_reducible apply sx_alloc hp); infer_instance; exact rfl; clear hp; (try clear w1); intro g w1 hp; simp only [zp, zq, z0, z1])
          | ((with_reducible apply sx_load_agg hp); exact zt rfl; infer_instance; infer_instance; (first | exact zl rfl | exact LB_le (by omega)); (first | (with_reducible exact LB_set (by omega)) | (simp only [n0, Nat.reduceAdd, n1, n2, n3, n4, n5, n6, n7, n8, n9]; try rfl)); simp only [zp, zq, z0, z1])
          | ((with_reducible apply sx_store hp); exact zt rfl; exact za rfl; exact rfl; (first | exact AggTy.size | exact OneTy.size); exact rfl; infer_instance; (first | (with_reducible exact LB_set (by omega)) | (simp only [n0, Nat.reduceAdd, n1, n2, n3, n4, n5, n6, n7, n8, n9]; try rfl)); (first | exact zl rfl | exact LB_le (by omega)); exact rfl; infer_instance; clear hp; (try clear w1); intro w1 hp)
          | ((with_reducible apply sx_indexAddr); exact zx rfl; exact zk rfl; infer_instance; (first | exact AggTy.size | exact OneTy.size); omega; omega; ((try simp only [m0, Int.reduceToNat, m1, m2, Nat.reduceMul, Nat.reduceAdd, m3, m4, m5, n0]); exact rfl); simp only [zp, zq, z0, z1])
          | ((with_reducible apply sx_load_far hp); exact zt rfl; assumption; infer_instance; assumption; (first | exact zl rfl | omega); simp only [zp, zq, z0, z1])
          | ((with_reducible refine sx_call hp (CK.out _) ?_); clear hp; (try clear w1); intro w1 hp)
          | ((with_reducible refine sx_call hp (FI.out _ hp.keep) ?_); clear hp; (try clear w1); intro w1 hp)
          | ((with_reducible refine sx_call hp (OF.out _ hp.keep) ?_); clear hp; (try clear w1); intro w1 hp))
  exact bodyPost_ret (results_two rfl rfl rfl) rfl ⟨rfl, hp.keep⟩

set_option maxHeartbeats 4000000 in
theorem rino_of4 (o : Int) (ho : (o == 3) = false) (FI : Hid (∀ w1, Keep [] w w1 → Calls Try.prog 26 #[.slice base 4 cap] w1 (Ret (.bool true) w1)))
    (CK : Hid (∀ w, Calls Try.prog 34 #[PV p] w (Ret (.int .i64 0) w)))
    (OF : Hid (∀ w1, Keep [] w w1 → Calls Try.prog 27 #[.slice base 4 cap] w1 (Ret (.int .i64 o) w1))) :
    Calls Try.prog 18 #[.slice base 4 cap, PV p] w (Ret (.tuple #[.bool false, .int .i64 8]) w) := by
  go_enter Try.func18, Try.ntmps18
  have hp := Hp.start [] w
  go_wp2_with (first
          | ((with_reducible apply sx_guard); (conv => whnf); refine Bx.mk ?_; (try simp only [zp, zq, z0, z1]))
          | ((with_reducible apply sx_box hp); exact za rfl; exact rfl; clear hp; (try clear w1); intro g w1 hp; simp only [zp, zq, z0, z1])
          | ((with_reducible apply sx_alloc hp); infer_instance; exact rfl; clear hp; (try clear w1); intro g w1 hp; simp only [zp, zq, z0, z1])
          | ((with_reducible apply sx_load_agg hp); exact zt rfl; infer_instance; infer_instance; (first | exact zl rfl | exact LB_le (by omega)); (first | (with_reducible exact LB_set (by omega)) | (simp only [n0, Nat.reduceAdd, n1, n2, n3, n4, n5, n6, n7, n8, n9]; try rfl)); simp only [zp, zq, z0, z1])
          | ((with_reducible apply sx_store hp); exact zt rfl; exact za rfl; exact rfl; (first | exact AggTy.size | exact OneTy.size); exact rfl; infer_instance; (first | (with_reducible exact LB_set (by omega)) | (simp only [n0, Nat.reduceAdd, n1, n2, n3, n4, n5, n6, n7, n8, n9]; try rfl)); (first | exact zl rfl | exact LB_le (by omega)); exact rfl; infer_instance; clear hp; (try clear w1); intro w1 hp)
          | ((with_reducible apply sx_indexAddr); exact zx rfl; exact zk rfl; infer_instance; (first | exact AggTy.size | exact OneTy.size); omega; omega; ((try simp only [m0, Int.reduceToNat, m1, m2, Nat.reduceMul, Nat.reduceAdd, m3, m4, m5, n0]); exact rfl); simp only [zp, zq, z0, z1])
          | ((with_reducible apply sx_load_far hp); exact zt rfl; assumption; infer_instance; assumption; (first | exact zl rfl | omega); simp only [zp, zq, z0, z1])
          | ((with_reducible refine sx_call hp (CK.out _) ?_); clear hp; (try clear w1); intro w1 hp)
          | ((with_reducible refine sx_call hp (FI.out _ hp.keep) ?_); clear hp; (try clear w1); intro w1 hp)
          | ((with_reducible refine sx_call hp (OF.out _ hp.keep) ?_); clear hp; (try clear w1); intro w1 hp))
  exact bodyPost_ret (results_two rfl rfl rfl) rfl ⟨rfl, hp.keep⟩

end

set_option maxHeartbeats 4000000 in
theorem rin0 (a p : P3) (w : World) (g0 off cap : Nat) (bc : List Value) (t : TypeId) {z : Nat × Nat} (hbk : w.heap[g0]? = some (.cells bc.toArray t z)) (hl : off + 3 ≤ bc.length) (h0 : (bc.drop off).take 3 = [.int .i64 a.x, .int .i64 a.y, .int .i64 a.z])
    (FI : Hid (∀ w1, Keep [] w w1 → Calls Try.prog 26 #[.slice (some ⟨g0, off, none⟩) 1 cap] w1 (Ret (.bool true) w1)))
    (CK : Hid (∀ w, Calls Try.prog 34 #[PV p] w (Ret (.int .i64 0) w)))
    (OF : Hid (∀ w1, Keep [] w w1 → Calls Try.prog 27 #[.slice (some ⟨g0, off, none⟩) 1 cap] w1 (Ret (.int .i64 0) w1))) :
    Calls Try.prog 18 #[.slice (some ⟨g0, off, none⟩) 1 cap, PV p] w (Ret (.tuple #[.bool (decide (p = a)), .int .i64 0]) w) := by
  go_enter Try.func18, Try.ntmps18
  have hp := Hp.start [] w
  go_upto_region 6 with (first
          | ((with_reducible apply sx_guard); (conv => whnf); refine Bx.mk ?_; (try simp only [zp, zq, z0, z1]))
          | ((with_reducible apply sx_box hp); exact za rfl; exact rfl; clear hp; (try clear w1); intro g w1 hp; simp only [zp, zq, z0, z1])
          | ((with_reducible apply sx_alloc hp); infer_instance; exact rfl; clear hp; (try clear w1); intro g w1 hp; simp only [zp, zq, z0, z1])
          | ((with_reducible apply sx_load_agg hp); exact zt rfl; infer_instance; infer_instance; (first | exact zl rfl | exact LB_le (by omega)); (first | (with_reducible exact LB_set (by omega)) | (simp only [n0, Nat.reduceAdd, n1, n2, n3, n4, n5, n6, n7, n8, n9]; try rfl)); simp only [zp, zq, z0, z1])
          | ((with_reducible apply sx_store hp); exact zt rfl; exact za rfl; exact rfl; (first | exact AggTy.size | exact OneTy.size); exact rfl; infer_instance; (first | (with_reducible exact LB_set (by omega)) | (simp only [n0, Nat.reduceAdd, n1, n2, n3, n4, n5, n6, n7, n8, n9]; try rfl)); (first | exact zl rfl | exact LB_le (by omega)); exact rfl; infer_instance; clear hp; (try clear w1); intro w1 hp)
          | ((with_reducible apply sx_indexAddr); exact zx rfl; exact zk rfl; infer_instance; (first | exact AggTy.size | exact OneTy.size); omega; omega; ((try simp only [m0, Int.reduceToNat, m1, m2, Nat.reduceMul, Nat.reduceAdd, m3, m4, m5, n0]); exact rfl); simp only [zp, zq, z0, z1])
          | ((with_reducible apply sx_load_far hp); exact zt rfl; assumption; infer_instance; assumption; (first | exact zl rfl | omega); simp only [zp, zq, z0, z1])
          | ((with_reducible refine sx_call hp (CK.out _) ?_); clear hp; (try clear w1); intro w1 hp)
          | ((with_reducible refine sx_call hp (FI.out _ hp.keep) ?_); clear hp; (try clear w1); intro w1 hp)
          | ((with_reducible refine sx_call hp (OF.out _ hp.keep) ?_); clear hp; (try clear w1); intro w1 hp))
  have hq := hp
  refine wp_drawnG_hp hp hq [] (.q 0 (.q 1 (.q 2 (.q 3 (.q 4 (.q 5 (.q 6 .nil))))))) (by kernel_rfl) (by kernel_rfl) ?_
  clear hp hq; (try clear w1); intro w1 hp hq
  repeat' (first
    | (((with_reducible apply sg_q); exact zo rfl); (first
        | ((with_reducible apply sg_load_agg hp); exact rfl; exact zt rfl; infer_instance; infer_instance; (first | exact zl rfl | exact LB_le (by omega)); (first | (with_reducible exact LB_set (by omega)) | (simp only [n0, Nat.reduceAdd, n1, n2, n3, n4, n5, n6, n7, n8, n9]; try rfl)); simp only [zp, zq, z0, z1])
        | ((with_reducible apply sg_load_far hp); exact rfl; exact zt rfl; assumption; infer_instance; assumption; (first | exact zl rfl | omega); simp only [zp, zq, z0, z1])
        | ((with_reducible apply sg_move hp); exact zs rfl; simp only [zp, zq, z0, z1])
        | ((with_reducible apply sg_assign hp); (first | exact zb rfl | exact zi rfl); simp only [zp, zq, z0, z1])
        | ((with_reducible apply sg_indexAddr hp); exact rfl; exact zx rfl; exact zk rfl; infer_instance; (first | exact AggTy.size | exact OneTy.size); omega; omega; ((try simp only [m0, Int.reduceToNat, m1, m2, Nat.reduceMul, Nat.reduceAdd, m3, m4, m5, n0]); exact rfl); simp only [zp, zq, z0, z1])
        | ((with_reducible apply sg_pure hp); exact rfl; (focus (intro _; go_simp; (try go_ints); try with_reducible rfl)); simp only [zp, zq, z0, z1])))
    | ((with_reducible apply sg_nil hq); clear hp hq; (try clear w1); intro w1 hp))
  go_wp2
  rw [← p3_eq]
  exact bodyPost_ret (results_two rfl rfl rfl) rfl ⟨rfl, hp.keep⟩

end Go.Proofs.Ythnpmmpcejfllaa
set_option linter.unusedSimpArgs false
set_option linter.unusedVariables false
set_option maxRecDepth 100000
namespace Go.Proofs.Ythnpmmpcejfllaa
open Go Go.RowKit

def Sm (n : Int) : Prop := -1361129467683753853853498429727072845824 ≤ n ∧ n ≤ 1361129467683753853853498429727072845824
theorem Sm.fit {n : Int} (h : Sm n) : Fit n := by unfold Sm at h; unfold Fit M511; omega
def psum (d : Nat → Int) : Nat → Int
  | 0 => 0
  | k + 1 => psum d k + d k
theorem sgn_rng (n : Int) : sgn n = -1 ∨ sgn n = 0 ∨ sgn n = 1 := by unfold sgn; split; exact .inl rfl; split; exact .inr (.inl rfl); exact .inr (.inr rfl)
theorem wrap_sgn (a b : Int) : wrap64 (sgn a * sgn b) = sgn a * sgn b := by
  rcases sgn_rng a with h | h | h <;> rcases sgn_rng b with h' | h' | h' <;> rw [h, h'] <;> simp [wrap64] <;> omega
theorem sgn_opp (a : Int) : sgn (-a) = -sgn a := by
  unfold sgn
  split <;> split <;> (try split) <;> (try split) <;> omega
theorem sgn_pos {x z : Int} (hz : 0 < z) : (0 ≤ sgn x * sgn z ↔ 0 ≤ x) ∧ (sgn x * sgn z < 0 ↔ x < 0) := by
  have h : sgn z = 1 := by unfold sgn; rw [if_neg (by omega), if_neg (by omega)]
  rw [h]
  unfold sgn
  split
  · omega
  · split <;> omega
theorem sgn_zero' : sgn 0 = 0 := rfl
theorem sq_nonneg' (a : Int) : 0 ≤ a * a := by
  rcases Int.le_total 0 a with h | h
  · exact Int.mul_nonneg h h
  · exact Int.mul_nonneg_of_nonpos_of_nonpos h h
theorem dot_self (a : P3) : 0 ≤ a.dot a ∧ (a.dot a = 0 → a = ⟨0, 0, 0⟩) := by
  obtain ⟨x, y, z⟩ := a
  have h1 := sq_nonneg' x
  have h2 := sq_nonneg' y
  have h3 := sq_nonneg' z
  refine ⟨by simp only [P3.dot]; omega, fun h => ?_⟩
  simp only [P3.dot] at h
  have e1 : x * x = 0 := by omega
  have e2 : y * y = 0 := by omega
  have e3 : z * z = 0 := by omega
  have e1' : x = 0 := by rcases Int.mul_eq_zero.1 e1 with h | h <;> exact h
  have e2' : y = 0 := by rcases Int.mul_eq_zero.1 e2 with h | h <;> exact h
  have e3' : z = 0 := by rcases Int.mul_eq_zero.1 e3 with h | h <;> exact h
  rw [e1', e2', e3']

/-- Two points: the weights say what lies between. -/
theorem between_w (a b p : P3) (A q : P3) (hA : A = b.sub a) (hq : q = p.sub a) : (decide (A.cross q = ⟨0, 0, 0⟩) = false → betweenb a b p = false) ∧
    (decide (A.cross q = ⟨0, 0, 0⟩) = true → betweenb a b p = decide (¬ sgn (A.dot q) * sgn (A.dot A) < 0 ∧ 0 ≤ sgn (A.dot A - (0 + A.dot q)) * sgn (A.dot A))) := by
  unfold betweenb
  rw [← hA, ← hq]
  constructor
  · intro h
    have h' := of_decide_eq_false h
    exact decide_eq_false fun hh => h' hh.1
  · intro h
    have h' := of_decide_eq_true h
    obtain ⟨h0, h1⟩ := dot_self A
    rw [decide_eq_decide]
    rcases Int.lt_or_eq_of_le h0 with hz | hz
    · have e1 := (sgn_pos (x := A.dot q) hz).2
      have e2 := (sgn_pos (x := A.dot A - (0 + A.dot q)) hz).1
      constructor
      · intro hh; exact ⟨by rw [e1]; omega, by rw [e2]; omega⟩
      · intro ⟨hh1, hh2⟩; rw [e1] at hh1; rw [e2] at hh2; exact ⟨h', by omega, by omega⟩
    · have hA0 := h1 hz.symm
      rw [← hz]
      have : A.dot q = 0 := by rw [hA0]; simp [P3.dot]
      rw [this]
      simp [sgn_zero', h']
/-- Three points. -/
theorem within_w (a b c p : P3) (A B q : P3) (hA : A = b.sub a) (hB : B = c.sub a) (hq : q = p.sub a) (x y z : Int) (hx : x = A.dot q * B.dot B - B.dot q * A.dot B) (hy : y = B.dot q * A.dot A - A.dot q * A.dot B) (hz : z = A.dot A * B.dot B - A.dot B * A.dot B) :
    (decide ((A.cross B).dot q = 0) = false → withinb a b c p = false) ∧
    (decide ((A.cross B).dot q = 0) = true → withinb a b c p = decide (¬ sgn x * sgn z < 0 ∧ ¬ sgn y * sgn z < 0 ∧ 0 ≤ sgn (z - (0 + x + y)) * sgn z)) := by
  have e1 : edge (A.cross B) c a p = x := by rw [hx, hA, hB, hq]; simp only [edge, P3.dot, P3.cross, P3.sub]; grind
  have e2 : edge (A.cross B) a b p = y := by rw [hy, hA, hB, hq]; simp only [edge, P3.dot, P3.cross, P3.sub]; grind
  have e3 : edge (A.cross B) b c p = z - (0 + x + y) := by rw [hx, hy, hz, hA, hB, hq]; simp only [edge, P3.dot, P3.cross, P3.sub]; grind
  have e4 : (A.cross B).dot (A.cross B) = z := by rw [hz]; simp only [P3.dot, P3.cross]; grind
  unfold withinb
  rw [← hA, ← hB, ← hq, e1, e2, e3]
  constructor
  · intro h
    have h' := of_decide_eq_false h
    exact decide_eq_false fun hh => h' hh.1
  · intro h
    have h' := of_decide_eq_true h
    obtain ⟨h0, h1⟩ := dot_self (A.cross B)
    rw [e4] at h0 h1
    rw [decide_eq_decide]
    rcases Int.lt_or_eq_of_le h0 with hz' | hz'
    · have f1 := (sgn_pos (x := x) hz').2
      have f2 := (sgn_pos (x := y) hz').2
      have f3 := (sgn_pos (x := z - (0 + x + y)) hz').1
      rw [f1, f2, f3]
      constructor
      · intro hh; exact ⟨by omega, by omega, by omega⟩
      · intro hh; exact ⟨h', by omega, by omega, by omega⟩
    · have hn := h1 hz'.symm
      have hx0 : x = 0 := by rw [← e1, hn]; simp [edge, P3.dot]
      have hy0 : y = 0 := by rw [← e2, hn]; simp [edge, P3.dot]
      rw [← hz', hx0, hy0]
      simp [sgn_zero', h']
/-- Four points. -/
theorem deep_w (a b c d p : P3) (A B C q : P3) (hA : A = b.sub a) (hB : B = c.sub a) (hC : C = d.sub a) (hq : q = p.sub a) (x y z D : Int) (hx : x = P3.det q B C) (hy : y = P3.det A q C) (hz : z = P3.det A B q) (hD : D = P3.det A B C) :
    deepb a b c d p = decide (¬ sgn x * sgn D < 0 ∧ ¬ sgn y * sgn D < 0 ∧ ¬ sgn z * sgn D < 0 ∧ 0 ≤ sgn (D - (0 + x + y + z)) * sgn D) := by
  have s1 : side b c d a = -sgn D := by rw [side, ← sgn_opp]; congr 1; rw [hD, hA, hB, hC]; simp only [P3.det, P3.dot, P3.cross, P3.sub]; grind
  have s2 : side b c d p = -sgn (D - (0 + x + y + z)) := by rw [side, ← sgn_opp]; congr 1; rw [hD, hx, hy, hz, hA, hB, hC, hq]; simp only [P3.det, P3.dot, P3.cross, P3.sub]; grind
  have s3 : side c d a b = sgn D := by rw [side]; congr 1; rw [hD, hA, hB, hC]; simp only [P3.det, P3.dot, P3.cross, P3.sub]; grind
  have s4 : side c d a p = sgn x := by rw [side]; congr 1; rw [hx, hB, hC, hq]; simp only [P3.det, P3.dot, P3.cross, P3.sub]; grind
  have s5 : side d a b c = -sgn D := by rw [side, ← sgn_opp]; congr 1; rw [hD, hA, hB, hC]; simp only [P3.det, P3.dot, P3.cross, P3.sub]; grind
  have s6 : side d a b p = -sgn y := by rw [side, ← sgn_opp]; congr 1; rw [hy, hA, hC, hq]; simp only [P3.det, P3.dot, P3.cross, P3.sub]; grind
  have s7 : side a b c d = sgn D := by rw [side]; congr 1; rw [hD, hA, hB, hC]
  have s8 : side a b c p = sgn z := by rw [side]; congr 1; rw [hz, hA, hB, hq]
  unfold deepb
  rw [s1, s2, s3, s4, s5, s6, s7, s8]
  generalize sgn (D - (0 + x + y + z)) = t
  generalize sgn D = u
  generalize sgn x = v
  generalize sgn y = e
  generalize sgn z = f
  rw [decide_eq_decide, Int.neg_mul_neg, Int.neg_mul_neg, Int.mul_comm u t, Int.mul_comm u v, Int.mul_comm u e, Int.mul_comm u f]
  omega

theorem rin1v (p : P3) (base : Option Addr) (cap : Nat) (o r : Bool) (x7 x8 : Int) (hx7 : Sm x7) (hx8 : Sm x8) (w : World)
    (FI : Hid (∀ w1, Keep [] w w1 → Calls Try.prog 26 #[.slice base 2 cap] w1 (Ret (.bool true) w1)))
    (CK : Hid (∀ w, Calls Try.prog 34 #[PV p] w (Ret (.int .i64 0) w)))
    (OF : Hid (∀ w1, Keep [] w w1 → Calls Try.prog 27 #[.slice base 2 cap] w1 (Ret (.int .i64 1) w1)))
    (WE : Hid (∀ w1, Keep [] w w1 → Calls Try.prog 35 #[.slice base 2 cap, PV p] w1 (RetN (fun g => .tuple #[.slice (some ⟨g, 0, none⟩) 2 2, .bool o]) 43 [.int .u64 (lb (x7) 0), .int .u64 (lb (x7) 1), .int .u64 (lb (x7) 2), .int .u64 (lb (x7) 3), .int .u64 (lb (x7) 4), .int .u64 (lb (x7) 5), .int .u64 (lb (x7) 6), .int .u64 (lb (x7) 7), .int .u64 (lb (x8) 0), .int .u64 (lb (x8) 1), .int .u64 (lb (x8) 2), .int .u64 (lb (x8) 3), .int .u64 (lb (x8) 4), .int .u64 (lb (x8) 5), .int .u64 (lb (x8) 6), .int .u64 (lb (x8) 7)] w1)))
    (R0 : o = false → r = false) (R : o = true → r = decide (¬ sgn x7 * sgn x8 < 0 ∧ 0 ≤ sgn (x8 - (0 + x7)) * sgn x8)) :
    Calls Try.prog 18 #[.slice base 2 cap, PV p] w (Ret (.tuple #[.bool r, .int .i64 0]) w) := by
  obtain ⟨d, rfl, rfl⟩ : ∃ d : Nat → Int, d 0 = x7 ∧ d 1 = x8 := ⟨fun k => if k = 0 then x7 else x8, rfl, rfl⟩
  have hall : ∀ k, k ≤ 1 → Sm (d k) := fun k hk => by
    have h : k = 0 ∨ k = 1 := by omega
    rcases h with rfl | rfl <;> assumption
  have hps : ∀ k, k ≤ 1 → Fit (psum d k) := fun k hk => by
    have h : k = 0 ∨ k = 1 := by omega
    unfold Sm at *
    rcases h with rfl | rfl <;> (simp only [psum]; unfold Fit M511; omega)
  have hdf : Fit (d 1 - psum d 1) := by
    unfold Sm at *
    simp only [psum]; unfold Fit M511; omega
  exact rin1 p base cap o r d (psum d) (fun k => sgn (d k)) (fun k => sgn (d k) * sgn (d 1)) (d 1 - psum d 1) (sgn (d 1 - psum d 1)) (sgn (d 1 - psum d 1) * sgn (d 1)) w FI CK OF WE
    (Lib.hid fun k hk w => rsign_any (d k) (hall k hk).fit w)
    (Lib.hid fun k hk w => rplus_fit (psum d k) (d k) (hps k (by omega)) (hall k (by omega)).fit (hps (k + 1) (by omega)) w)
    (Lib.hid rfl) (Lib.hid fun w => rless_fit _ _ (hall 1 (by omega)).fit (hps 1 (by omega)) hdf w) (Lib.hid fun w => rsign_any _ hdf w)
    (Lib.hid fun k hk => wrap_sgn _ _) (Lib.hid (wrap_sgn _ _)) (Lib.hid R0)
    (Lib.hid fun k hk hm => by
      cases ho : o
      · exact R0 ho
      · rw [R ho]
        have h : k = 0 := by omega
        refine decide_eq_false fun hh => ?_
        rcases h with rfl
        · exact hh.1 hm)
    (Lib.hid fun ho hh => by
      rw [R ho, decide_eq_decide]
      exact ⟨fun h => h.2, fun h => ⟨hh 0 (by omega), h⟩⟩)

theorem rin2v (p : P3) (base : Option Addr) (cap : Nat) (o r : Bool) (x7 x8 x9 : Int) (hx7 : Sm x7) (hx8 : Sm x8) (hx9 : Sm x9) (w : World)
    (FI : Hid (∀ w1, Keep [] w w1 → Calls Try.prog 26 #[.slice base 3 cap] w1 (Ret (.bool true) w1)))
    (CK : Hid (∀ w, Calls Try.prog 34 #[PV p] w (Ret (.int .i64 0) w)))
    (OF : Hid (∀ w1, Keep [] w w1 → Calls Try.prog 27 #[.slice base 3 cap] w1 (Ret (.int .i64 2) w1)))
    (WE : Hid (∀ w1, Keep [] w w1 → Calls Try.prog 35 #[.slice base 3 cap, PV p] w1 (RetN (fun g => .tuple #[.slice (some ⟨g, 0, none⟩) 3 3, .bool o]) 43 [.int .u64 (lb (x7) 0), .int .u64 (lb (x7) 1), .int .u64 (lb (x7) 2), .int .u64 (lb (x7) 3), .int .u64 (lb (x7) 4), .int .u64 (lb (x7) 5), .int .u64 (lb (x7) 6), .int .u64 (lb (x7) 7), .int .u64 (lb (x8) 0), .int .u64 (lb (x8) 1), .int .u64 (lb (x8) 2), .int .u64 (lb (x8) 3), .int .u64 (lb (x8) 4), .int .u64 (lb (x8) 5), .int .u64 (lb (x8) 6), .int .u64 (lb (x8) 7), .int .u64 (lb (x9) 0), .int .u64 (lb (x9) 1), .int .u64 (lb (x9) 2), .int .u64 (lb (x9) 3), .int .u64 (lb (x9) 4), .int .u64 (lb (x9) 5), .int .u64 (lb (x9) 6), .int .u64 (lb (x9) 7)] w1)))
    (R0 : o = false → r = false) (R : o = true → r = decide (¬ sgn x7 * sgn x9 < 0 ∧ ¬ sgn x8 * sgn x9 < 0 ∧ 0 ≤ sgn (x9 - (0 + x7 + x8)) * sgn x9)) :
    Calls Try.prog 18 #[.slice base 3 cap, PV p] w (Ret (.tuple #[.bool r, .int .i64 0]) w) := by
  obtain ⟨d, rfl, rfl, rfl⟩ : ∃ d : Nat → Int, d 0 = x7 ∧ d 1 = x8 ∧ d 2 = x9 := ⟨fun k => if k = 0 then x7 else if k = 1 then x8 else x9, rfl, rfl, rfl⟩
  have hall : ∀ k, k ≤ 2 → Sm (d k) := fun k hk => by
    have h : k = 0 ∨ k = 1 ∨ k = 2 := by omega
    rcases h with rfl | rfl | rfl <;> assumption
  have hps : ∀ k, k ≤ 2 → Fit (psum d k) := fun k hk => by
    have h : k = 0 ∨ k = 1 ∨ k = 2 := by omega
    unfold Sm at *
    rcases h with rfl | rfl | rfl <;> (simp only [psum]; unfold Fit M511; omega)
  have hdf : Fit (d 2 - psum d 2) := by
    unfold Sm at *
    simp only [psum]; unfold Fit M511; omega
  exact rin2 p base cap o r d (psum d) (fun k => sgn (d k)) (fun k => sgn (d k) * sgn (d 2)) (d 2 - psum d 2) (sgn (d 2 - psum d 2)) (sgn (d 2 - psum d 2) * sgn (d 2)) w FI CK OF WE
    (Lib.hid fun k hk w => rsign_any (d k) (hall k hk).fit w)
    (Lib.hid fun k hk w => rplus_fit (psum d k) (d k) (hps k (by omega)) (hall k (by omega)).fit (hps (k + 1) (by omega)) w)
    (Lib.hid rfl) (Lib.hid fun w => rless_fit _ _ (hall 2 (by omega)).fit (hps 2 (by omega)) hdf w) (Lib.hid fun w => rsign_any _ hdf w)
    (Lib.hid fun k hk => wrap_sgn _ _) (Lib.hid (wrap_sgn _ _)) (Lib.hid R0)
    (Lib.hid fun k hk hm => by
      cases ho : o
      · exact R0 ho
      · rw [R ho]
        have h : k = 0 ∨ k = 1 := by omega
        refine decide_eq_false fun hh => ?_
        rcases h with rfl | rfl
        · exact hh.1 hm
        · exact hh.2.1 hm)
    (Lib.hid fun ho hh => by
      rw [R ho, decide_eq_decide]
      exact ⟨fun h => h.2.2, fun h => ⟨hh 0 (by omega), hh 1 (by omega), h⟩⟩)

theorem rin3v (p : P3) (base : Option Addr) (cap : Nat) (o r : Bool) (x7 x8 x9 x10 : Int) (hx7 : Sm x7) (hx8 : Sm x8) (hx9 : Sm x9) (hx10 : Sm x10) (w : World)
    (FI : Hid (∀ w1, Keep [] w w1 → Calls Try.prog 26 #[.slice base 4 cap] w1 (Ret (.bool true) w1)))
    (CK : Hid (∀ w, Calls Try.prog 34 #[PV p] w (Ret (.int .i64 0) w)))
    (OF : Hid (∀ w1, Keep [] w w1 → Calls Try.prog 27 #[.slice base 4 cap] w1 (Ret (.int .i64 3) w1)))
    (WE : Hid (∀ w1, Keep [] w w1 → Calls Try.prog 35 #[.slice base 4 cap, PV p] w1 (RetN (fun g => .tuple #[.slice (some ⟨g, 0, none⟩) 4 4, .bool o]) 43 [.int .u64 (lb (x7) 0), .int .u64 (lb (x7) 1), .int .u64 (lb (x7) 2), .int .u64 (lb (x7) 3), .int .u64 (lb (x7) 4), .int .u64 (lb (x7) 5), .int .u64 (lb (x7) 6), .int .u64 (lb (x7) 7), .int .u64 (lb (x8) 0), .int .u64 (lb (x8) 1), .int .u64 (lb (x8) 2), .int .u64 (lb (x8) 3), .int .u64 (lb (x8) 4), .int .u64 (lb (x8) 5), .int .u64 (lb (x8) 6), .int .u64 (lb (x8) 7), .int .u64 (lb (x9) 0), .int .u64 (lb (x9) 1), .int .u64 (lb (x9) 2), .int .u64 (lb (x9) 3), .int .u64 (lb (x9) 4), .int .u64 (lb (x9) 5), .int .u64 (lb (x9) 6), .int .u64 (lb (x9) 7), .int .u64 (lb (x10) 0), .int .u64 (lb (x10) 1), .int .u64 (lb (x10) 2), .int .u64 (lb (x10) 3), .int .u64 (lb (x10) 4), .int .u64 (lb (x10) 5), .int .u64 (lb (x10) 6), .int .u64 (lb (x10) 7)] w1)))
    (R0 : o = false → r = false) (R : o = true → r = decide (¬ sgn x7 * sgn x10 < 0 ∧ ¬ sgn x8 * sgn x10 < 0 ∧ ¬ sgn x9 * sgn x10 < 0 ∧ 0 ≤ sgn (x10 - (0 + x7 + x8 + x9)) * sgn x10)) :
    Calls Try.prog 18 #[.slice base 4 cap, PV p] w (Ret (.tuple #[.bool r, .int .i64 0]) w) := by
  obtain ⟨d, rfl, rfl, rfl, rfl⟩ : ∃ d : Nat → Int, d 0 = x7 ∧ d 1 = x8 ∧ d 2 = x9 ∧ d 3 = x10 := ⟨fun k => if k = 0 then x7 else if k = 1 then x8 else if k = 2 then x9 else x10, rfl, rfl, rfl, rfl⟩
  have hall : ∀ k, k ≤ 3 → Sm (d k) := fun k hk => by
    have h : k = 0 ∨ k = 1 ∨ k = 2 ∨ k = 3 := by omega
    rcases h with rfl | rfl | rfl | rfl <;> assumption
  have hps : ∀ k, k ≤ 3 → Fit (psum d k) := fun k hk => by
    have h : k = 0 ∨ k = 1 ∨ k = 2 ∨ k = 3 := by omega
    unfold Sm at *
    rcases h with rfl | rfl | rfl | rfl <;> (simp only [psum]; unfold Fit M511; omega)
  have hdf : Fit (d 3 - psum d 3) := by
    unfold Sm at *
    simp only [psum]; unfold Fit M511; omega
  exact rin3 p base cap o r d (psum d) (fun k => sgn (d k)) (fun k => sgn (d k) * sgn (d 3)) (d 3 - psum d 3) (sgn (d 3 - psum d 3)) (sgn (d 3 - psum d 3) * sgn (d 3)) w FI CK OF WE
    (Lib.hid fun k hk w => rsign_any (d k) (hall k hk).fit w)
    (Lib.hid fun k hk w => rplus_fit (psum d k) (d k) (hps k (by omega)) (hall k (by omega)).fit (hps (k + 1) (by omega)) w)
    (Lib.hid rfl) (Lib.hid fun w => rless_fit _ _ (hall 3 (by omega)).fit (hps 3 (by omega)) hdf w) (Lib.hid fun w => rsign_any _ hdf w)
    (Lib.hid fun k hk => wrap_sgn _ _) (Lib.hid (wrap_sgn _ _)) (Lib.hid R0)
    (Lib.hid fun k hk hm => by
      cases ho : o
      · exact R0 ho
      · rw [R ho]
        have h : k = 0 ∨ k = 1 ∨ k = 2 := by omega
        refine decide_eq_false fun hh => ?_
        rcases h with rfl | rfl | rfl
        · exact hh.1 hm
        · exact hh.2.1 hm
        · exact hh.2.2.1 hm)
    (Lib.hid fun ho hh => by
      rw [R ho, decide_eq_decide]
      exact ⟨fun h => h.2.2.2, fun h => ⟨hh 0 (by omega), hh 1 (by omega), hh 2 (by omega), h⟩⟩)


theorem sub29 {a b : P3} (ha : a.may) (hb : b.may) : (-536870912 ≤ (a.sub b).x ∧ (a.sub b).x ≤ 536870912) ∧ (-536870912 ≤ (a.sub b).y ∧ (a.sub b).y ≤ 536870912) ∧ (-536870912 ≤ (a.sub b).z ∧ (a.sub b).z ≤ 536870912) := by
  unfold P3.may may at ha hb
  simp only [P3.sub]
  omega
def B29 (a : P3) : Prop := (-536870912 ≤ a.x ∧ a.x ≤ 536870912) ∧ (-536870912 ≤ a.y ∧ a.y ≤ 536870912) ∧ (-536870912 ≤ a.z ∧ a.z ≤ 536870912)
theorem mul29 {a b : Int} (ha : -536870912 ≤ a ∧ a ≤ 536870912) (hb : -536870912 ≤ b ∧ b ≤ 536870912) : -288230376151711744 ≤ a * b ∧ a * b ≤ 288230376151711744 := by
  have := bd_mul (A := 536870912) (B := 536870912) ha hb
  omega
theorem dot29 {a b : P3} (ha : B29 a) (hb : B29 b) : -1152921504606846976 ≤ a.dot b ∧ a.dot b ≤ 1152921504606846976 := by
  have h1 := mul29 ha.1 hb.1
  have h2 := mul29 ha.2.1 hb.2.1
  have h3 := mul29 ha.2.2 hb.2.2
  unfold P3.dot
  omega
theorem mul60 {a b : Int} (ha : -1152921504606846976 ≤ a ∧ a ≤ 1152921504606846976) (hb : -1152921504606846976 ≤ b ∧ b ≤ 1152921504606846976) : -1329227995784915872903807060280344576 ≤ a * b ∧ a * b ≤ 1329227995784915872903807060280344576 := by
  have := bd_mul (A := 1152921504606846976) (B := 1152921504606846976) ha hb
  omega
theorem det29 {a b c : P3} (ha : B29 a) (hb : B29 b) (hc : B29 c) : Sm (P3.det a b c) := by
  have key : ∀ {x y z u v : Int}, (-536870912 ≤ x ∧ x ≤ 536870912) → (-536870912 ≤ y ∧ y ≤ 536870912) → (-536870912 ≤ z ∧ z ≤ 536870912) → (-536870912 ≤ u ∧ u ≤ 536870912) → (-536870912 ≤ v ∧ v ≤ 536870912) → -309485009821345068724781056 ≤ (x * y - z * u) * v ∧ (x * y - z * u) * v ≤ 309485009821345068724781056 := fun {x y z u v} hx hy hz hu hv => by
    have h1 := mul29 hx hy
    have h2 := mul29 hz hu
    have := bd_mul (a := x * y - z * u) (b := v) (A := 576460752303423488) (B := 536870912) (by omega) hv
    omega
  have h1 := key hb.2.1 hc.2.2 hb.2.2 hc.2.1 ha.1
  have h2 := key hb.2.2 hc.1 hb.1 hc.2.2 ha.2.1
  have h3 := key hb.1 hc.2.1 hb.2.1 hc.1 ha.2.2
  unfold Sm P3.det P3.dot
  simp only [P3.cross]
  omega


/-- The answer of Inside, in the reference. -/
theorem rinside_any (ps : List P3) (p : P3) (v : Value) (hlen : ps.length ≤ maxLen) (w : World) (h : PSl w v ps) : Calls Try.prog 18 #[v, PV p] w (Ret (.tuple #[.bool (insideO ps p).1, .int .i64 (insideO ps p).2]) w) := by
  obtain ⟨base, cap, rfl⟩ := h.shape2
  have hfn : ∀ w1, Keep [] w w1 → Calls Try.prog 26 #[.slice base ps.length cap] w1 (Ret (.bool (fineb ps)) w1) := fun w1 hk => rfine_any hlen w1 (h.keep hk)
  have hck := rcheck_any p
  unfold insideO
  by_cases hf : fineb ps = true
  · rw [hf] at hfn
    by_cases hm : p.may
    · rw [if_neg (by simp [hf, hm])]
      rw [if_pos hm] at hck
      have hmem := fun q hq => fineb_mem hf (p := q) hq
      have hof : ∀ w1, Keep [] w w1 → Calls Try.prog 27 #[.slice base ps.length cap] w1 (Ret (.int .i64 ((spread ps).length - 1)) w1) := fun w1 hk => rOf_any ps hmem hlen _ w1 (h.keep hk)
      by_cases h4 : 4 < ps.length
      · rw [if_pos (by
          rw [simplexb]; exact decide_eq_false (by omega))]
        exact rino_many p base _ cap w h4 (Lib.hid hfn) (Lib.hid hck)
      · by_cases h0 : ps.length = 0
        · rw [if_pos (by
            rw [simplexb]; exact decide_eq_false (by omega))]
          rw [h0] at hfn ⊢
          exact rino_none p base cap w (Lib.hid hfn) (Lib.hid hck)
        · have hrk := rankO_ok hf (by omega : ¬ 256 < ps.length)
          have hsx : simplexb ps = decide (((spread ps).length : Int) - 1 = (ps.length : Int) - 1) := by
            rw [simplexb, hrk, decide_eq_decide]
            constructor
            · intro hh; exact hh.2.2.2
            · intro hh; exact ⟨by omega, by omega, rfl, hh⟩
          rw [hsx]
          by_cases hr : ((spread ps).length : Int) - 1 = (ps.length : Int) - 1
          · rw [if_neg (by simp only [hr]; simp)]
            rw [hr] at hof
            have h' := h
            rcases h with ⟨hn, rfl⟩ | ⟨g0, off, cap', bc, t, z, he, hbk, hv⟩
            · exact absurd rfl h0
            · cases he
              have hroom := pcs_room hv
              have hat := fun (k : Nat) (q : P3) (hk : ps[k]? = some q) => pcs_at hv hk
              have hfar : ∀ {w1}, Keep [] w w1 → w1.heap[g0]? = some (.cells bc.toArray t z) := fun {w1} hk => by
                have hlt : g0 < w.heap.size := by
                  rcases Nat.lt_or_ge g0 w.heap.size with h' | h'
                  · exact h'
                  · rw [Array.getElem?_eq_none h'] at hbk; cases hbk
                exact (hk.block g0 hlt (by simp)).trans hbk
              obtain ⟨a, rfl⟩ | ⟨a, b, rfl⟩ | ⟨a, b, c, rfl⟩ | ⟨a, b, c, d, rfl⟩ := one_to_four (ps := ps) (by omega) (by omega)
              · exact rin0 a p w g0 off cap bc t hbk (by simpa using hroom) (hat 0 a rfl) (Lib.hid hfn) (Lib.hid hck) (Lib.hid hof)
              · have ha := hmem a (by simp)
                have hb := hmem b (by simp)
                have hA : B29 (b.sub a) := sub29 hb ha
                have hq : B29 (p.sub a) := sub29 hm ha
                have hd1 := dot29 hA hq
                have hd2 := dot29 hA hA
                obtain ⟨R0, R⟩ := between_w a b p _ _ rfl rfl
                exact rin1v p _ cap _ _ _ _ (by unfold Sm; omega) (by unfold Sm; omega) w (Lib.hid hfn) (Lib.hid hck) (Lib.hid hof)
                  (Lib.hid fun w1 hk => weigh2 a b p (p.sub a) (b.sub a) _ _ _ w1 g0 off cap bc t (hfar hk) (by simpa using hroom) (hat 0 a rfl) (hat 1 b rfl)
                    (Lib.hid (r7less_any p a (may_sub hm ha))) (Lib.hid (r7less_any b a (may_sub hb ha))) (Lib.hid (rdot_any _ _ (may_sub hb ha) (may_sub hm ha))) (Lib.hid (rdot_any _ _ (may_sub hb ha) (may_sub hb ha))) (Lib.hid (r7line_any a b p ha hb hm)))
                  R0 R
              · have ha := hmem a (by simp)
                have hb := hmem b (by simp)
                have hc := hmem c (by simp)
                have ia := may_sub hb ha
                have ib := may_sub hc ha
                have iq := may_sub hm ha
                have hA : B29 (b.sub a) := sub29 hb ha
                have hB : B29 (c.sub a) := sub29 hc ha
                have hq : B29 (p.sub a) := sub29 hm ha
                have haa := dot29 hA hA
                have hab := dot29 hA hB
                have hbb := dot29 hB hB
                have haq := dot29 hA hq
                have hbq := dot29 hB hq
                have h1 := mul60 haq hbb
                have h2 := mul60 hbq hab
                have h3 := mul60 hbq haa
                have h4' := mul60 haq hab
                have h5 := mul60 haa hbb
                have h6 := mul60 hab hab
                have fit60 : ∀ {n : Int}, -1152921504606846976 ≤ n ∧ n ≤ 1152921504606846976 → Fit n := fun h => by unfold Fit M511; omega
                have fit120 : ∀ {n : Int}, -1329227995784915872903807060280344576 ≤ n ∧ n ≤ 1329227995784915872903807060280344576 → Fit n := fun h => by unfold Fit M511; omega
                have fit121 : ∀ {m n : Int}, -1329227995784915872903807060280344576 ≤ n ∧ n ≤ 1329227995784915872903807060280344576 → -1329227995784915872903807060280344576 ≤ m ∧ m ≤ 1329227995784915872903807060280344576 → Fit (m - n) := fun h h' => by unfold Fit M511; omega
                have hD := det29 hA hB hq
                obtain ⟨R0, R⟩ := within_w a b c p _ _ _ rfl rfl rfl _ _ _ rfl rfl rfl
                have hsd : (sgn (P3.det (b.sub a) (c.sub a) (p.sub a)) == 0) = decide (((b.sub a).cross (c.sub a)).dot (p.sub a) = 0) := by
                  have e : P3.det (b.sub a) (c.sub a) (p.sub a) = ((b.sub a).cross (c.sub a)).dot (p.sub a) := by simp only [P3.det, P3.dot, P3.cross]; grind
                  rw [e, Bool.eq_iff_iff]
                  generalize ((b.sub a).cross (c.sub a)).dot (p.sub a) = m
                  simp only [beq_iff_eq, decide_eq_true_eq]
                  unfold sgn
                  split
                  · omega
                  · split <;> omega
                exact rin2v p _ cap _ _ _ _ _ (by unfold Sm; omega) (by unfold Sm; omega) (by unfold Sm; omega) w (Lib.hid hfn) (Lib.hid hck) (Lib.hid hof)
                  (Lib.hid fun w1 hk => weigh3 a b c p (p.sub a) (b.sub a) (c.sub a) _ _ _ _ _ _ _ _ _ _ _ _ _ _ _ _ _ hsd w1 g0 off cap bc t (hfar hk) (by simpa using hroom) (hat 0 a rfl) (hat 1 b rfl) (hat 2 c rfl)
                    (Lib.hid (r7less_any p a iq)) (Lib.hid (r7less_any b a ia)) (Lib.hid (r7less_any c a ib)) (Lib.hid (rdot_any _ _ ia ia)) (Lib.hid (rdot_any _ _ ia ib)) (Lib.hid (rdot_any _ _ ib ib)) (Lib.hid (rdot_any _ _ ia iq)) (Lib.hid (rdot_any _ _ ib iq))
                    (Lib.hid (rtimes_fit _ _ (fit60 haq) (fit60 hbb) (fit120 h1))) (Lib.hid (rtimes_fit _ _ (fit60 hbq) (fit60 hab) (fit120 h2))) (Lib.hid (rless_fit _ _ (fit120 h1) (fit120 h2) (fit121 h2 h1)))
                    (Lib.hid (rtimes_fit _ _ (fit60 hbq) (fit60 haa) (fit120 h3))) (Lib.hid (rtimes_fit _ _ (fit60 haq) (fit60 hab) (fit120 h4'))) (Lib.hid (rless_fit _ _ (fit120 h3) (fit120 h4') (fit121 h4' h3)))
                    (Lib.hid (rtimes_fit _ _ (fit60 haa) (fit60 hbb) (fit120 h5))) (Lib.hid (rtimes_fit _ _ (fit60 hab) (fit60 hab) (fit120 h6))) (Lib.hid (rless_fit _ _ (fit120 h5) (fit120 h6) (fit121 h6 h5)))
                    (Lib.hid (r7det_any a b c p ha hb hc hm)) (Lib.hid (rsign_any _ hD.fit)))
                  R0 R
              · have ha := hmem a (by simp)
                have hb := hmem b (by simp)
                have hc := hmem c (by simp)
                have hd := hmem d (by simp)
                have ia := may_sub hb ha
                have ib := may_sub hc ha
                have ic := may_sub hd ha
                have iq := may_sub hm ha
                have hA : B29 (b.sub a) := sub29 hb ha
                have hB : B29 (c.sub a) := sub29 hc ha
                have hC : B29 (d.sub a) := sub29 hd ha
                have hq : B29 (p.sub a) := sub29 hm ha
                have R := deep_w a b c d p _ _ _ _ rfl rfl rfl rfl _ _ _ _ rfl rfl rfl rfl
                exact rin3v p _ cap true _ _ _ _ _ (det29 hq hB hC) (det29 hA hq hC) (det29 hA hB hq) (det29 hA hB hC) w (Lib.hid hfn) (Lib.hid hck) (Lib.hid hof)
                  (Lib.hid fun w1 hk => weigh4 a b c d p (p.sub a) (b.sub a) (c.sub a) (d.sub a) _ _ _ _ w1 g0 off cap bc t (hfar hk) (by simpa using hroom) (hat 0 a rfl) (hat 1 b rfl) (hat 2 c rfl) (hat 3 d rfl)
                    (Lib.hid (r7less_any p a iq)) (Lib.hid (r7less_any b a ia)) (Lib.hid (r7less_any c a ib)) (Lib.hid (r7less_any d a ic)) (Lib.hid (rdet_any _ _ _ iq ib ic)) (Lib.hid (rdet_any _ _ _ ia iq ic)) (Lib.hid (rdet_any _ _ _ ia ib iq)) (Lib.hid (rdet_any _ _ _ ia ib ic)))
                  (fun h => by cases h) (fun _ => R)
          · rw [if_pos (decide_eq_false hr)]
            generalize ((spread ps).length : Int) - 1 = o at *
            have key : ∀ n : Nat, ps.length = n → n = 1 ∨ n = 2 ∨ n = 3 ∨ n = 4 := fun n hn => by omega
            have hc := key _ rfl
            generalize ps.length = n at *
            rcases hc with rfl | rfl | rfl | rfl
            · exact rino_of1 p base cap w o (by simpa using hr) (Lib.hid hfn) (Lib.hid hck) (Lib.hid hof)
            · exact rino_of2 p base cap w o (by simpa using hr) (Lib.hid hfn) (Lib.hid hck) (Lib.hid hof)
            · exact rino_of3 p base cap w o (by simpa using hr) (Lib.hid hfn) (Lib.hid hck) (Lib.hid hof)
            · exact rino_of4 p base cap w o (by simpa using hr) (Lib.hid hfn) (Lib.hid hck) (Lib.hid hof)
    · rw [if_pos (.inr hm)]
      rw [if_neg hm] at hck
      exact rino_check p base _ cap w (Lib.hid hfn) (Lib.hid hck)
  · have hf' : fineb ps = false := by simpa using hf
    rw [if_pos (.inl hf')]
    rw [hf'] at hfn
    exact rino_fine p base _ cap w (Lib.hid hfn)
set_option maxHeartbeats 8000000 in
theorem insides_core (p : P3) (base : Option Addr) (n cap : Nat) (r : Bool) (e : Int) (hn : n ≤ 9223372036854775807) (w : World)
    (V1 : Hid (∀ w1, Keep [] w w1 → Calls Try.prog 17 #[.slice base n cap, PV p] w1 (Ret (.tuple #[.bool r, .int .i64 e]) w1)))
    (V2 : Hid (∀ w1, Keep [] w w1 → Calls Try.prog 18 #[.slice base n cap, PV p] w1 (Ret (.tuple #[.bool r, .int .i64 e]) w1))) :
    Calls Try.prog 4 #[.slice base n cap, PV p] w (Ret (.bool true) w) := by
  by_cases hl : (300 : Int) < n
  · skip
    go_enter Try.func4, Try.ntmps4
    have hp := Hp.start [] w
    go_wp2_with (first
          | ((with_reducible apply sx_box hp); exact za rfl; exact rfl; clear hp; (try clear w1); intro g w1 hp; simp only [zp, zq, z0, z1])
          | ((with_reducible apply sx_load_agg hp); exact zt rfl; infer_instance; infer_instance; (first | exact zl rfl | exact LB_le (by omega)); (first | (with_reducible exact LB_set (by omega)) | (simp only [n0, Nat.reduceAdd, n1, n2, n3, n4, n5, n6, n7, n8, n9]; try rfl)); simp only [zp, zq, z0, z1])
          | ((with_reducible refine sx_call hp (awake7 _) ?_); clear hp; (try clear w1); intro w1 hp))
    exact bodyPost_ret (results_one rfl rfl) rfl ⟨rfl, hp.keep⟩
  · skip
    go_enter Try.func4, Try.ntmps4
    have hp := Hp.start [] w
    go_wp2_with (first
          | ((with_reducible apply sx_box hp); exact za rfl; exact rfl; clear hp; (try clear w1); intro g w1 hp; simp only [zp, zq, z0, z1])
          | ((with_reducible apply sx_load_agg hp); exact zt rfl; infer_instance; infer_instance; (first | exact zl rfl | exact LB_le (by omega)); (first | (with_reducible exact LB_set (by omega)) | (simp only [n0, Nat.reduceAdd, n1, n2, n3, n4, n5, n6, n7, n8, n9]; try rfl)); simp only [zp, zq, z0, z1])
          | ((with_reducible refine sx_call hp (awake7 _) ?_); clear hp; (try clear w1); intro w1 hp)
          | ((with_reducible refine sx_call hp (V1.out _ hp.keep) ?_); clear hp; (try clear w1); intro w1 hp)
          | ((with_reducible refine sx_call hp (V2.out _ hp.keep) ?_); clear hp; (try clear w1); intro w1 hp)
          | ((with_reducible apply sx_strip); exact rfl)
          | ((with_reducible apply sx_unwanted); exact rfl; simp only [zp, zq, z0, z1]))
    exact bodyPost_ret (results_one rfl rfl) rfl ⟨rfl, hp.keep⟩
theorem insides_law {v : Value} {w : World} (ps : List P3) (hlen : ps.length ≤ maxLen) (_ : ∀ q ∈ ps, q.i64) (h : PSl w v ps) (p : P3) (_ : p.i64) : Calls Try.prog 4 #[v, PV p] w (Ret (.bool true) w) := by
  obtain ⟨base, cap, rfl⟩ := h.shape2
  have hn : ps.length ≤ 9223372036854775807 := by unfold maxLen at hlen; omega
  exact insides_core p base _ cap _ _ hn w (Lib.hid fun w1 hk => inside_any ps p _ hlen w1 (h.keep hk)) (Lib.hid fun w1 hk => rinside_any ps p _ hlen w1 (h.keep hk))
end Go.Proofs.Ythnpmmpcejfllaa
