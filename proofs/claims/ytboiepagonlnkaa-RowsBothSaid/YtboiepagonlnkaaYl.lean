/-
  Package rows: Make (contract).
-/
import Derived.Test.YtboiepagonlnkaaYe
import Derived.Test.YtboiepagonlnkaaEr
import Derived.Test.YtboiepagonlnkaaLq
set_option linter.unusedSimpArgs false
set_option linter.unusedVariables false
set_option maxRecDepth 100000
namespace Go.Proofs.Ytboiepagonlnkaa
open Go Go.RowKit
attribute [local irreducible] wpList

/-- A row. -/
structure Rw where
  a : Int
  b : Int
  n : P3
  t : P3
  u : P3
  ra : P3
  rb : P3
  mn : Int
  mt : Int
  mu : Int
  aim : Int
  rub : Int
  pn : Int
  pt : Int
  pu : Int
abbrev RoV (r : Rw) : Value := .agg #[.int .i64 r.a, .int .i64 r.b, .int .i64 r.n.x, .int .i64 r.n.y, .int .i64 r.n.z, .int .i64 r.t.x, .int .i64 r.t.y, .int .i64 r.t.z, .int .i64 r.u.x, .int .i64 r.u.y, .int .i64 r.u.z, .int .i64 r.ra.x, .int .i64 r.ra.y, .int .i64 r.ra.z, .int .i64 r.rb.x, .int .i64 r.rb.y, .int .i64 r.rb.z, .int .i64 r.mn, .int .i64 r.mt, .int .i64 r.mu, .int .i64 r.aim, .int .i64 r.rub, .int .i64 r.pn, .int .i64 r.pt, .int .i64 r.pu]
def Rw.i64 (r : Rw) : Prop := r.n.i64 ∧ r.ra.i64 ∧ r.rb.i64
def P3.zero : P3 := ⟨0, 0, 0⟩
def Rw.zero : Rw := ⟨0, 0, .zero, .zero, .zero, .zero, .zero, 0, 0, 0, 0, 0, 0, 0, 0⟩
/-- A row, whole. -/
def rowM (a b : Inr) (r : Rw) (gap t : Int) : Rw := ⟨r.a, r.b, r.n, (frO r.n).1, (frO r.n).2.1, r.ra, r.rb, btw a b r.ra r.rb r.n, btw a b r.ra r.rb (frO r.n).1, btw a b r.ra r.rb (frO r.n).2.1, aimv gap t, r.rub, r.pn, r.pt, r.pu⟩
def makeO (a b : Inr) (r : Rw) (gap t : Int) : Rw × Int := if (frO r.n).2.2 = 0 then (if (aimO gap t).2 = 0 then (rowM a b r gap t, 0) else (.zero, (aimO gap t).2)) else (.zero, (frO r.n).2.2)
set_option maxHeartbeats 2000000 in
@[go_sem high] theorem eq_row (w : World) (d : Nat) (x0 x1 x2 x3 x4 x5 x6 x7 x8 x9 x10 x11 x12 x13 x14 x15 x16 x17 x18 x19 x20 x21 x22 x23 x24 : Int) : (Op.equalIn (d + 3) 47 (.agg #[.int .i64 x0, .int .i64 x1, .int .i64 x2, .int .i64 x3, .int .i64 x4, .int .i64 x5, .int .i64 x6, .int .i64 x7, .int .i64 x8, .int .i64 x9, .int .i64 x10, .int .i64 x11, .int .i64 x12, .int .i64 x13, .int .i64 x14, .int .i64 x15, .int .i64 x16, .int .i64 x17, .int .i64 x18, .int .i64 x19, .int .i64 x20, .int .i64 x21, .int .i64 x22, .int .i64 x23, .int .i64 x24]) (.agg #[.int .i64 x0, .int .i64 x1, .int .i64 x2, .int .i64 x3, .int .i64 x4, .int .i64 x5, .int .i64 x6, .int .i64 x7, .int .i64 x8, .int .i64 x9, .int .i64 x10, .int .i64 x11, .int .i64 x12, .int .i64 x13, .int .i64 x14, .int .i64 x15, .int .i64 x16, .int .i64 x17, .int .i64 x18, .int .i64 x19, .int .i64 x20, .int .i64 x21, .int .i64 x22, .int .i64 x23, .int .i64 x24])).run Try.prog w = .ok true w := by
  go_simp
  try simp
set_option maxHeartbeats 2000000 in
theorem mk1_core (a b : Inr) (ra rb d : P3) (f : Int) (B1 : Hid (∀ w, Calls Try.prog 14 #[NV a, NV b, PV ra, PV rb, PV d] w (Ret (.int .i64 f) w))) :
    ∀ (w : World) (ga gb gr : Nat) (t1 t2 t3 : TypeId) (y1 y2 y3 : Nat × Nat) (p0 p1 p2 p3 p4 p5 p6 p7 p8 p9 p10 p17 p18 p19 p20 p21 p22 p23 p24 : Value), w.heap[ga]? = some (.cells ([.int .i64 a.m, .int .i64 a.p.x, .int .i64 a.p.y, .int .i64 a.p.z, .int .i64 a.q.x, .int .i64 a.q.y, .int .i64 a.q.z, .int .i64 a.r.x, .int .i64 a.r.y, .int .i64 a.r.z, .int .i64 a.v.x, .int .i64 a.v.y, .int .i64 a.v.z, .int .i64 a.s.x, .int .i64 a.s.y, .int .i64 a.s.z] : List Value).toArray t1 y1) → w.heap[gb]? = some (.cells ([.int .i64 b.m, .int .i64 b.p.x, .int .i64 b.p.y, .int .i64 b.p.z, .int .i64 b.q.x, .int .i64 b.q.y, .int .i64 b.q.z, .int .i64 b.r.x, .int .i64 b.r.y, .int .i64 b.r.z, .int .i64 b.v.x, .int .i64 b.v.y, .int .i64 b.v.z, .int .i64 b.s.x, .int .i64 b.s.y, .int .i64 b.s.z] : List Value).toArray t2 y2) → w.heap[gr]? = some (.cells ([p0, p1, p2, p3, p4, p5, p6, p7, p8, p9, p10, .int .i64 ra.x, .int .i64 ra.y, .int .i64 ra.z, .int .i64 rb.x, .int .i64 rb.y, .int .i64 rb.z, p17, p18, p19, p20, p21, p22, p23, p24] : List Value).toArray t3 y3) → Calls Try.prog 41 #[PV d, .pointer (some ⟨ga, 0, none⟩), .pointer (some ⟨gb, 0, none⟩), .pointer (some ⟨gr, 0, none⟩)] w (Ret (.int .i64 f) w) := by
  intro w ga gb gr t1 t2 t3 y1 y2 y3 p0 p1 p2 p3 p4 p5 p6 p7 p8 p9 p10 p17 p18 p19 p20 p21 p22 p23 p24 h1 h2 h3
  go_enter Try.func41, Try.ntmps41
  have hp := Hp.start [] w
  go_wp2_with (first
          | ((with_reducible apply sx_box hp); exact za rfl; exact rfl; clear hp; (try clear w1); intro g w1 hp; simp only [zp, zq, z0, z1])
          | ((with_reducible apply sx_load_agg hp); exact zt rfl; infer_instance; infer_instance; (first | exact zl rfl | exact LB_le (by omega)); (first | (with_reducible exact LB_set (by omega)) | (simp only [n0, Nat.reduceAdd, n1, n2, n3, n4, n5, n6, n7, n8, n9]; try rfl)); simp only [zp, zq, z0, z1])
          | ((with_reducible refine sx_call hp (B1.out _) ?_); clear hp; (try clear w1); intro w1 hp)
          | ((with_reducible apply sx_load_far hp); exact zt rfl; assumption; infer_instance; exact rfl; exact zl rfl; simp only [zp, zq, z0, z1]))
  exact bodyPost_ret (results_one rfl rfl) rfl ⟨rfl, hp.keep⟩
set_option maxHeartbeats 4000000 in
theorem make_no (a b : Inr) (r : Rw) (gap t : Int) (x y : P3) (e : Int) (F1 : Hid (∀ w, Calls Try.prog 9 #[PV r.n] w (Ret (.tuple #[.agg #[.int .i64 x.x, .int .i64 x.y, .int .i64 x.z], .agg #[.int .i64 y.x, .int .i64 y.y, .int .i64 y.z], .int .i64 e]) w))) (he : (e == 0) = false) (w : World) : Calls Try.prog 17 #[NV a, NV b, RoV r, .int .i64 gap, .int .i64 t] w (Ret (.tuple #[.agg #[.int .i64 0, .int .i64 0, .int .i64 0, .int .i64 0, .int .i64 0, .int .i64 0, .int .i64 0, .int .i64 0, .int .i64 0, .int .i64 0, .int .i64 0, .int .i64 0, .int .i64 0, .int .i64 0, .int .i64 0, .int .i64 0, .int .i64 0, .int .i64 0, .int .i64 0, .int .i64 0, .int .i64 0, .int .i64 0, .int .i64 0, .int .i64 0, .int .i64 0], .int .i64 e]) w) := by
  go_enter Try.func17, Try.ntmps17
  have hp := Hp.start [] w
  go_wp2_with (first
          | ((with_reducible apply sx_box hp); exact za rfl; exact rfl; clear hp; (try clear w1); intro g w1 hp; simp only [zp, zq, z0, z1])
          | ((with_reducible apply sx_alloc hp); infer_instance; exact rfl; clear hp; (try clear w1); intro g w1 hp; simp only [zp, zq, z0, z1])
          | ((with_reducible apply sx_load_agg hp); exact zt rfl; infer_instance; infer_instance; (first | exact zl rfl | exact LB_le (by omega)); (first | (with_reducible exact LB_set (by omega)) | (simp only [n0, Nat.reduceAdd, n1, n2, n3, n4, n5, n6, n7, n8, n9]; try rfl)); simp only [zp, zq, z0, z1])
          | ((with_reducible apply sx_store hp); exact zt rfl; (first | exact za rfl | exact zi rfl); exact rfl; (first | exact AggTy.size | exact OneTy.size); exact rfl; infer_instance; (first | (with_reducible exact LB_set (by omega)) | (simp only [n0, Nat.reduceAdd, n1, n2, n3, n4, n5, n6, n7, n8, n9]; try rfl)); (first | exact zl rfl | exact LB_le (by omega)); exact rfl; infer_instance; clear hp; (try clear w1); intro w1 hp)
          | ((with_reducible refine sx_call hp (F1.out _) ?_); clear hp; (try clear w1); intro w1 hp))
  exact bodyPost_ret (results_two rfl ⟨_, rfl, run_load_agg hp (Nat.le_of_ble_eq_true rfl)⟩ rfl) rfl ⟨rfl, hp.keep⟩
set_option maxHeartbeats 4000000 in
theorem make_not (a b : Inr) (r : Rw) (gap t : Int) (x y : P3) (e : Int) (F1 : Hid (∀ w, Calls Try.prog 9 #[PV r.n] w (Ret (.tuple #[.agg #[.int .i64 x.x, .int .i64 x.y, .int .i64 x.z], .agg #[.int .i64 y.x, .int .i64 y.y, .int .i64 y.z], .int .i64 0]) w))) (q : Int) (A1 : Hid (∀ w, Calls Try.prog 16 #[.int .i64 gap, .int .i64 t] w (Ret (.tuple #[.int .i64 q, .int .i64 e]) w))) (he : (e == 0) = false) (w : World) : Calls Try.prog 17 #[NV a, NV b, RoV r, .int .i64 gap, .int .i64 t] w (Ret (.tuple #[.agg #[.int .i64 0, .int .i64 0, .int .i64 0, .int .i64 0, .int .i64 0, .int .i64 0, .int .i64 0, .int .i64 0, .int .i64 0, .int .i64 0, .int .i64 0, .int .i64 0, .int .i64 0, .int .i64 0, .int .i64 0, .int .i64 0, .int .i64 0, .int .i64 0, .int .i64 0, .int .i64 0, .int .i64 0, .int .i64 0, .int .i64 0, .int .i64 0, .int .i64 0], .int .i64 e]) w) := by
  go_enter Try.func17, Try.ntmps17
  have hp := Hp.start [] w
  go_wp2_with (first
          | ((with_reducible apply sx_box hp); exact za rfl; exact rfl; clear hp; (try clear w1); intro g w1 hp; simp only [zp, zq, z0, z1])
          | ((with_reducible apply sx_alloc hp); infer_instance; exact rfl; clear hp; (try clear w1); intro g w1 hp; simp only [zp, zq, z0, z1])
          | ((with_reducible apply sx_load_agg hp); exact zt rfl; infer_instance; infer_instance; (first | exact zl rfl | exact LB_le (by omega)); (first | (with_reducible exact LB_set (by omega)) | (simp only [n0, Nat.reduceAdd, n1, n2, n3, n4, n5, n6, n7, n8, n9]; try rfl)); simp only [zp, zq, z0, z1])
          | ((with_reducible apply sx_store hp); exact zt rfl; (first | exact za rfl | exact zi rfl); exact rfl; (first | exact AggTy.size | exact OneTy.size); exact rfl; infer_instance; (first | (with_reducible exact LB_set (by omega)) | (simp only [n0, Nat.reduceAdd, n1, n2, n3, n4, n5, n6, n7, n8, n9]; try rfl)); (first | exact zl rfl | exact LB_le (by omega)); exact rfl; infer_instance; clear hp; (try clear w1); intro w1 hp)
          | ((with_reducible first | refine sx_call hp (F1.out _) ?_ | refine sx_call hp (A1.out _) ?_); clear hp; (try clear w1); intro w1 hp))
  exact bodyPost_ret (results_two rfl ⟨_, rfl, run_load_agg hp (Nat.le_of_ble_eq_true rfl)⟩ rfl) rfl ⟨rfl, hp.keep⟩
set_option maxHeartbeats 8000000 in
theorem make_yes (a b : Inr) (r : Rw) (gap t : Int) (x y : P3) (e : Int) (F1 : Hid (∀ w, Calls Try.prog 9 #[PV r.n] w (Ret (.tuple #[.agg #[.int .i64 x.x, .int .i64 x.y, .int .i64 x.z], .agg #[.int .i64 y.x, .int .i64 y.y, .int .i64 y.z], .int .i64 0]) w))) (q m1 m2 m3 : Int) (A1 : Hid (∀ w, Calls Try.prog 16 #[.int .i64 gap, .int .i64 t] w (Ret (.tuple #[.int .i64 q, .int .i64 0]) w)))
    (ra rb : P3) (era : r.ra = ra) (erb : r.rb = rb)
    (B1 : Hid (∀ (w : World) (ga gb gr : Nat) (t1 t2 t3 : TypeId) (y1 y2 y3 : Nat × Nat) (p0 p1 p2 p3 p4 p5 p6 p7 p8 p9 p10 p17 p18 p19 p20 p21 p22 p23 p24 : Value), w.heap[ga]? = some (.cells ([.int .i64 a.m, .int .i64 a.p.x, .int .i64 a.p.y, .int .i64 a.p.z, .int .i64 a.q.x, .int .i64 a.q.y, .int .i64 a.q.z, .int .i64 a.r.x, .int .i64 a.r.y, .int .i64 a.r.z, .int .i64 a.v.x, .int .i64 a.v.y, .int .i64 a.v.z, .int .i64 a.s.x, .int .i64 a.s.y, .int .i64 a.s.z] : List Value).toArray t1 y1) → w.heap[gb]? = some (.cells ([.int .i64 b.m, .int .i64 b.p.x, .int .i64 b.p.y, .int .i64 b.p.z, .int .i64 b.q.x, .int .i64 b.q.y, .int .i64 b.q.z, .int .i64 b.r.x, .int .i64 b.r.y, .int .i64 b.r.z, .int .i64 b.v.x, .int .i64 b.v.y, .int .i64 b.v.z, .int .i64 b.s.x, .int .i64 b.s.y, .int .i64 b.s.z] : List Value).toArray t2 y2) → w.heap[gr]? = some (.cells ([p0, p1, p2, p3, p4, p5, p6, p7, p8, p9, p10, .int .i64 ra.x, .int .i64 ra.y, .int .i64 ra.z, .int .i64 rb.x, .int .i64 rb.y, .int .i64 rb.z, p17, p18, p19, p20, p21, p22, p23, p24] : List Value).toArray t3 y3) → Calls Try.prog 41 #[.agg #[.int .i64 r.n.x, .int .i64 r.n.y, .int .i64 r.n.z], .pointer (some ⟨ga, 0, none⟩), .pointer (some ⟨gb, 0, none⟩), .pointer (some ⟨gr, 0, none⟩)] w (Ret (.int .i64 m1) w)))
    (B2 : Hid (∀ (w : World) (ga gb gr : Nat) (t1 t2 t3 : TypeId) (y1 y2 y3 : Nat × Nat) (p0 p1 p2 p3 p4 p5 p6 p7 p8 p9 p10 p17 p18 p19 p20 p21 p22 p23 p24 : Value), w.heap[ga]? = some (.cells ([.int .i64 a.m, .int .i64 a.p.x, .int .i64 a.p.y, .int .i64 a.p.z, .int .i64 a.q.x, .int .i64 a.q.y, .int .i64 a.q.z, .int .i64 a.r.x, .int .i64 a.r.y, .int .i64 a.r.z, .int .i64 a.v.x, .int .i64 a.v.y, .int .i64 a.v.z, .int .i64 a.s.x, .int .i64 a.s.y, .int .i64 a.s.z] : List Value).toArray t1 y1) → w.heap[gb]? = some (.cells ([.int .i64 b.m, .int .i64 b.p.x, .int .i64 b.p.y, .int .i64 b.p.z, .int .i64 b.q.x, .int .i64 b.q.y, .int .i64 b.q.z, .int .i64 b.r.x, .int .i64 b.r.y, .int .i64 b.r.z, .int .i64 b.v.x, .int .i64 b.v.y, .int .i64 b.v.z, .int .i64 b.s.x, .int .i64 b.s.y, .int .i64 b.s.z] : List Value).toArray t2 y2) → w.heap[gr]? = some (.cells ([p0, p1, p2, p3, p4, p5, p6, p7, p8, p9, p10, .int .i64 ra.x, .int .i64 ra.y, .int .i64 ra.z, .int .i64 rb.x, .int .i64 rb.y, .int .i64 rb.z, p17, p18, p19, p20, p21, p22, p23, p24] : List Value).toArray t3 y3) → Calls Try.prog 41 #[.agg #[.int .i64 x.x, .int .i64 x.y, .int .i64 x.z], .pointer (some ⟨ga, 0, none⟩), .pointer (some ⟨gb, 0, none⟩), .pointer (some ⟨gr, 0, none⟩)] w (Ret (.int .i64 m2) w)))
    (B3 : Hid (∀ (w : World) (ga gb gr : Nat) (t1 t2 t3 : TypeId) (y1 y2 y3 : Nat × Nat) (p0 p1 p2 p3 p4 p5 p6 p7 p8 p9 p10 p17 p18 p19 p20 p21 p22 p23 p24 : Value), w.heap[ga]? = some (.cells ([.int .i64 a.m, .int .i64 a.p.x, .int .i64 a.p.y, .int .i64 a.p.z, .int .i64 a.q.x, .int .i64 a.q.y, .int .i64 a.q.z, .int .i64 a.r.x, .int .i64 a.r.y, .int .i64 a.r.z, .int .i64 a.v.x, .int .i64 a.v.y, .int .i64 a.v.z, .int .i64 a.s.x, .int .i64 a.s.y, .int .i64 a.s.z] : List Value).toArray t1 y1) → w.heap[gb]? = some (.cells ([.int .i64 b.m, .int .i64 b.p.x, .int .i64 b.p.y, .int .i64 b.p.z, .int .i64 b.q.x, .int .i64 b.q.y, .int .i64 b.q.z, .int .i64 b.r.x, .int .i64 b.r.y, .int .i64 b.r.z, .int .i64 b.v.x, .int .i64 b.v.y, .int .i64 b.v.z, .int .i64 b.s.x, .int .i64 b.s.y, .int .i64 b.s.z] : List Value).toArray t2 y2) → w.heap[gr]? = some (.cells ([p0, p1, p2, p3, p4, p5, p6, p7, p8, p9, p10, .int .i64 ra.x, .int .i64 ra.y, .int .i64 ra.z, .int .i64 rb.x, .int .i64 rb.y, .int .i64 rb.z, p17, p18, p19, p20, p21, p22, p23, p24] : List Value).toArray t3 y3) → Calls Try.prog 41 #[.agg #[.int .i64 y.x, .int .i64 y.y, .int .i64 y.z], .pointer (some ⟨ga, 0, none⟩), .pointer (some ⟨gb, 0, none⟩), .pointer (some ⟨gr, 0, none⟩)] w (Ret (.int .i64 m3) w))) (w : World) : Calls Try.prog 17 #[NV a, NV b, RoV r, .int .i64 gap, .int .i64 t] w (Ret (.tuple #[.agg #[.int .i64 r.a, .int .i64 r.b, .int .i64 r.n.x, .int .i64 r.n.y, .int .i64 r.n.z, .int .i64 x.x, .int .i64 x.y, .int .i64 x.z, .int .i64 y.x, .int .i64 y.y, .int .i64 y.z, .int .i64 r.ra.x, .int .i64 r.ra.y, .int .i64 r.ra.z, .int .i64 r.rb.x, .int .i64 r.rb.y, .int .i64 r.rb.z, .int .i64 m1, .int .i64 m2, .int .i64 m3, .int .i64 q, .int .i64 r.rub, .int .i64 r.pn, .int .i64 r.pt, .int .i64 r.pu], .int .i64 0]) w) := by
  subst era erb
  go_enter Try.func17, Try.ntmps17
  have hp := Hp.start [] w
  go_upto_region 8 with (first
          | ((with_reducible apply sx_box hp); exact za rfl; exact rfl; clear hp; (try clear w1); intro g w1 hp; simp only [zp, zq, z0, z1])
          | ((with_reducible apply sx_alloc hp); infer_instance; exact rfl; clear hp; (try clear w1); intro g w1 hp; simp only [zp, zq, z0, z1])
          | ((with_reducible apply sx_load_agg hp); exact zt rfl; infer_instance; infer_instance; (first | exact zl rfl | exact LB_le (by omega)); (first | (with_reducible exact LB_set (by omega)) | (simp only [n0, Nat.reduceAdd, n1, n2, n3, n4, n5, n6, n7, n8, n9]; try rfl)); simp only [zp, zq, z0, z1])
          | ((with_reducible apply sx_store hp); exact zt rfl; (first | exact za rfl | exact zi rfl); exact rfl; (first | exact AggTy.size | exact OneTy.size); exact rfl; infer_instance; (first | (with_reducible exact LB_set (by omega)) | (simp only [n0, Nat.reduceAdd, n1, n2, n3, n4, n5, n6, n7, n8, n9]; try rfl)); (first | exact zl rfl | exact LB_le (by omega)); exact rfl; infer_instance; clear hp; (try clear w1); intro w1 hp)
          | ((with_reducible first | refine sx_call hp (F1.out _) ?_ | refine sx_call hp (A1.out _) ?_); clear hp; (try clear w1); intro w1 hp))
  have hq := hp
  replace hp := hq.sub (.cons_cons _ (.cons_cons _ (.cons_cons _ (.cons _ (List.Sublist.refl _)))))
  refine wp_drawn_hp hp hq [8] (.q 0 (.q 1 (.q 2 (.q 3 (.l 4 (.q 5 (.l 6 (.q 7 (.l 8 .nil))))))))) (by kernel_rfl) (by kernel_rfl) ?_
  clear hp hq; (try clear w1); intro w1 hp hq
  repeat' (first
    | (((with_reducible apply sd_q); exact zo rfl); (first
        | ((with_reducible apply sd_load_agg hp); exact rfl; exact zt rfl; infer_instance; infer_instance; (first | exact zl rfl | exact LB_le (by omega)); (first | (with_reducible exact LB_set (by omega)) | (simp only [n0, Nat.reduceAdd, n1, n2, n3, n4, n5, n6, n7, n8, n9]; try rfl)); simp only [zp, zq, z0, z1])
        | ((with_reducible apply sd_move hp); exact zi rfl; simp only [zp, zq, z0, z1])
        | ((with_reducible apply sd_pure hp); exact rfl; (focus (intro _; go_simp; (try go_ints); try with_reducible rfl)); simp only [zp, zq, z0, z1])))
    | (((with_reducible apply sd_l); exact zo rfl); (first
        | ((with_reducible apply sd_store_far hq); exact rfl; exact zt rfl; (first | exact za rfl | exact zu rfl | exact zi rfl | exact zb rfl | exact zr rfl | exact zs rfl | exact zf rfl | exact zg rfl | exact zn rfl | exact zv rfl | exact zw rfl); exact rfl; (first | exact AggTy.size | exact OneTy.size); exact rfl; infer_instance; (first | (with_reducible exact LB_set (by omega)) | (simp only [n0, Nat.reduceAdd, n1, n2, n3, n4, n5, n6, n7, n8, n9]; try rfl)); (first | exact zl rfl | exact LB_le (by omega)); exact rfl; infer_instance; (repeat (first | exact List.Sublist.refl _ | exact List.nil_sublist _ | apply List.Sublist.cons_cons | apply List.Sublist.cons)); clear hp hq; (try clear w1); intro w1 hp hq)
        | ((with_reducible apply sd_store hq); exact rfl; exact zt rfl; (first | exact za rfl | exact zu rfl | exact zi rfl | exact zb rfl | exact zr rfl | exact zs rfl | exact zf rfl | exact zg rfl | exact zn rfl | exact zv rfl | exact zw rfl); exact rfl; (first | exact AggTy.size | exact OneTy.size); exact rfl; infer_instance; (first | (with_reducible exact LB_set (by omega)) | (simp only [n0, Nat.reduceAdd, n1, n2, n3, n4, n5, n6, n7, n8, n9]; try rfl)); (first | exact zl rfl | exact LB_le (by omega)); exact rfl; infer_instance; exact rfl; clear hp hq; (try clear w1); intro w1 hq; have hp := True.intro)))
    | ((with_reducible apply sd_nil); clear hp; have hp := hq; clear hq))
  go_upto_region 9 with fail
  have hq := hp
  replace hp := hq.sub (.cons_cons _ (.cons_cons _ (.cons_cons _ (.cons _ (List.Sublist.refl _)))))
  refine wp_drawn_hp hp hq [15] (.q 0 (.q 1 (.q 4 (.q 5 (.q 7 (.q 8 (.l 2 (.l 3 (.q 10 (.l 6 (.l 9 (.l 11 (.q 12 (.l 13 (.q 14 (.l 15 .nil)))))))))))))))) (by kernel_rfl) (by kernel_rfl) ?_
  clear hp hq; (try clear w1); intro w1 hp hq
  repeat' (first
    | (((with_reducible apply sd_q); exact zo rfl); (first
        | ((with_reducible apply sd_load_agg hp); exact rfl; exact zt rfl; infer_instance; infer_instance; (first | exact zl rfl | exact LB_le (by omega)); (first | (with_reducible exact LB_set (by omega)) | (simp only [n0, Nat.reduceAdd, n1, n2, n3, n4, n5, n6, n7, n8, n9]; try rfl)); simp only [zp, zq, z0, z1])
        | ((with_reducible apply sd_move hp); (first | exact zf rfl | exact zn rfl); simp only [zp, zq, z0, z1])
        | ((with_reducible apply sd_pure hp); exact rfl; (focus (intro _; go_simp; (try go_ints); try with_reducible rfl)); simp only [zp, zq, z0, z1])))
    | (((with_reducible apply sd_l); exact zo rfl); (first
        | ((with_reducible apply sd_callM hp); exact rfl; (focus (intro _; go_simp; try first | with_reducible rfl | exact ⟨rfl, rfl⟩)); (with_reducible exact B1.out _ _ _ _ _ _ _ _ _ _ _ _ _ _ _ _ _ _ _ _ _ _ _ _ _ _ _ _ _ hq.blk hq.blk hq.blk); exact hq; clear hp hq; (try clear w1); intro w1 hp hq; simp only [zp, zq, z0, z1])
        | ((with_reducible apply sd_callM hp); exact rfl; (focus (intro _; go_simp; try first | with_reducible rfl | exact ⟨rfl, rfl⟩)); (with_reducible exact B2.out _ _ _ _ _ _ _ _ _ _ _ _ _ _ _ _ _ _ _ _ _ _ _ _ _ _ _ _ _ hq.blk hq.blk hq.blk); exact hq; clear hp hq; (try clear w1); intro w1 hp hq; simp only [zp, zq, z0, z1])
        | ((with_reducible apply sd_callM hp); exact rfl; (focus (intro _; go_simp; try first | with_reducible rfl | exact ⟨rfl, rfl⟩)); (with_reducible exact B3.out _ _ _ _ _ _ _ _ _ _ _ _ _ _ _ _ _ _ _ _ _ _ _ _ _ _ _ _ _ hq.blk hq.blk hq.blk); exact hq; clear hp hq; (try clear w1); intro w1 hp hq; simp only [zp, zq, z0, z1])
        | ((with_reducible apply sd_store_far hq); exact rfl; exact zt rfl; (first | exact za rfl | exact zu rfl | exact zi rfl | exact zb rfl | exact zr rfl | exact zs rfl | exact zf rfl | exact zg rfl | exact zn rfl | exact zv rfl | exact zw rfl); exact rfl; (first | exact AggTy.size | exact OneTy.size); exact rfl; infer_instance; (first | (with_reducible exact LB_set (by omega)) | (simp only [n0, Nat.reduceAdd, n1, n2, n3, n4, n5, n6, n7, n8, n9]; try rfl)); (first | exact zl rfl | exact LB_le (by omega)); exact rfl; infer_instance; (repeat (first | exact List.Sublist.refl _ | exact List.nil_sublist _ | apply List.Sublist.cons_cons | apply List.Sublist.cons)); clear hp hq; (try clear w1); intro w1 hp hq)
        | ((with_reducible apply sd_store hq); exact rfl; exact zt rfl; (first | exact za rfl | exact zu rfl | exact zi rfl | exact zb rfl | exact zr rfl | exact zs rfl | exact zf rfl | exact zg rfl | exact zn rfl | exact zv rfl | exact zw rfl); exact rfl; (first | exact AggTy.size | exact OneTy.size); exact rfl; infer_instance; (first | (with_reducible exact LB_set (by omega)) | (simp only [n0, Nat.reduceAdd, n1, n2, n3, n4, n5, n6, n7, n8, n9]; try rfl)); (first | exact zl rfl | exact LB_le (by omega)); exact rfl; infer_instance; exact rfl; clear hp hq; (try clear w1); intro w1 hq; have hp := True.intro)
        | ((with_reducible apply sd_lload_agg hp hq); exact rfl; exact zt rfl; infer_instance; infer_instance; (first | exact zl rfl | exact LB_le (by omega)); (first | (with_reducible exact LB_set (by omega)) | (simp only [n0, Nat.reduceAdd, n1, n2, n3, n4, n5, n6, n7, n8, n9]; try rfl)); simp only [zp, zq, z0, z1])
        | ((with_reducible apply sd_lload_one hp hq); exact rfl; exact zt rfl; infer_instance; infer_instance; (first | exact zio rfl | exact zbo rfl | exact zro rfl | exact zso rfl | exact zfo rfl | exact zgo rfl | exact zno rfl | exact zvo rfl | exact zwo rfl | exact LB_get (by omega)); simp only [zp, zq, z0, z1])))
    | ((with_reducible apply sd_nil); clear hp; have hp := hq; clear hq))
  go_wp2_with (first
          | ((with_reducible apply sx_box hp); exact za rfl; exact rfl; clear hp; (try clear w1); intro g w1 hp; simp only [zp, zq, z0, z1])
          | ((with_reducible apply sx_alloc hp); infer_instance; exact rfl; clear hp; (try clear w1); intro g w1 hp; simp only [zp, zq, z0, z1])
          | ((with_reducible apply sx_load_agg hp); exact zt rfl; infer_instance; infer_instance; (first | exact zl rfl | exact LB_le (by omega)); (first | (with_reducible exact LB_set (by omega)) | (simp only [n0, Nat.reduceAdd, n1, n2, n3, n4, n5, n6, n7, n8, n9]; try rfl)); simp only [zp, zq, z0, z1])
          | ((with_reducible apply sx_store hp); exact zt rfl; (first | exact za rfl | exact zi rfl); exact rfl; (first | exact AggTy.size | exact OneTy.size); exact rfl; infer_instance; (first | (with_reducible exact LB_set (by omega)) | (simp only [n0, Nat.reduceAdd, n1, n2, n3, n4, n5, n6, n7, n8, n9]; try rfl)); (first | exact zl rfl | exact LB_le (by omega)); exact rfl; infer_instance; clear hp; (try clear w1); intro w1 hp))
  exact bodyPost_ret (results_two rfl ⟨_, rfl, run_load_agg hp (Nat.le_of_ble_eq_true rfl)⟩ rfl) rfl ⟨rfl, hp.keep⟩
theorem frO_i64 (n : P3) (hn : n.i64) : (frO n).1.i64 ∧ (frO n).2.1.i64 := by
  have z : P3.i64 ⟨0, 0, 0⟩ := p3i4 (by omega)
  unfold frO
  split
  · exact ⟨z, z⟩
  · exact ⟨cun_i64 _, ccr_i64 _ _⟩
theorem make_any (a b : Inr) (r : Rw) (gap t : Int) (ha : a.i64) (hb : b.i64) (hr : r.i64) (hg : I64 gap) (ht : I64 t) (w : World) :
    Calls Try.prog 17 #[NV a, NV b, RoV r, .int .i64 gap, .int .i64 t] w (Ret (.tuple #[RoV (makeO a b r gap t).1, .int .i64 (makeO a b r gap t).2]) w) := by
  obtain ⟨hn, hra, hrb⟩ := hr
  have F1 := frame_any r.n hn
  have A1 := aim_any gap t hg ht
  have fi := frO_i64 r.n hn
  unfold makeO
  by_cases h0 : (frO r.n).2.2 = 0
  · rw [if_pos h0]
    rw [h0] at F1
    by_cases h1 : (aimO gap t).2 = 0
    · rw [if_pos h1]
      rw [h1] at A1
      have ea : (aimO gap t).1 = aimv gap t := by
        unfold aimO at *
        split at h1
        · cases h1
        · rename_i h2; rw [if_neg h2]
      rw [ea] at A1
      exact make_yes a b r gap t _ _ 0 (Lib.hid F1) _ _ _ _ (Lib.hid A1) _ _ rfl rfl (Lib.hid (mk1_core a b r.ra r.rb r.n _ (Lib.hid (between_row a b r.ra r.rb r.n ha hb hra hrb hn))))
        (Lib.hid (mk1_core a b r.ra r.rb (frO r.n).1 _ (Lib.hid (between_row a b r.ra r.rb (frO r.n).1 ha hb hra hrb fi.1)))) (Lib.hid (mk1_core a b r.ra r.rb (frO r.n).2.1 _ (Lib.hid (between_row a b r.ra r.rb (frO r.n).2.1 ha hb hra hrb fi.2)))) w
    · rw [if_neg h1]
      exact make_not a b r gap t _ _ _ (Lib.hid F1) _ (Lib.hid A1) (by simpa using h1) w
  · rw [if_neg h0]
    exact make_no a b r gap t _ _ _ (Lib.hid F1) (by simpa using h0) w
section
open Go.ChangeShapes Go.WideShapes Go.ChangeAt Go.Joins
theorem flat_row {H : Type} {enc : TypeId × Value → H} {W : World} {base : Nat} {spare : Nat → Bool} {held : Bool} : Flat enc W base spare held 47 := by
  refine flat_struct enc W base spare held Try.underlying47 (cover (by kernel_rfl)) fun f hf => ?_
  simp only [List.mem_toArray, List.mem_cons, List.not_mem_nil, or_false] at hf
  rcases hf with rfl | rfl | rfl | rfl | rfl | rfl | rfl | rfl | rfl | rfl | rfl | rfl | rfl | rfl | rfl
  · exact flat_idx
  · exact flat_idx
  all_goals first | exact flat_vec | exact flat_fix
/-- A row that came in. -/
theorem open_row {H : Type} {enc : TypeId × Value → H} {W' : World} {r : Reach} {b0 base : Nat} {spare : Nat → Bool} {held : Bool} {v : Value} {d : DataW H} {p : List MemPlace}
    (hv : Value.okWide Try.prog W' r b0 47 v) (h : DataW.Trod enc Try.prog W' base spare held 47 v d p) : ∃ b : Rw, v = RoV b ∧ b.i64 := by
  obtain ⟨cs, rfl, hsz⟩ := okWide_struct Try.underlying47 hv
  obtain ⟨f, hf, rfl⟩ := flat_open flat_row (k := 25) (by kernel_rfl) hsz h
  exact ⟨⟨f 0, f 1, ⟨f 2, f 3, f 4⟩, ⟨f 5, f 6, f 7⟩, ⟨f 8, f 9, f 10⟩, ⟨f 11, f 12, f 13⟩, ⟨f 14, f 15, f 16⟩, f 17, f 18, f 19, f 20, f 21, f 22, f 23, f 24⟩, rfl, ⟨hf 2 (by omega), hf 3 (by omega), hf 4 (by omega)⟩, ⟨hf 11 (by omega), hf 12 (by omega), hf 13 (by omega)⟩, ⟨hf 14 (by omega), hf 15 (by omega), hf 16 (by omega)⟩⟩
end
end Go.Proofs.Ytboiepagonlnkaa
