/-
  Package orient: within (contract).
-/
import Derived.Test.YthnpmmpcejfllaaHf
set_option linter.unusedSimpArgs false
set_option linter.unusedVariables false
set_option maxRecDepth 100000
namespace Go.Proofs.Ythnpmmpcejfllaa
open Go Go.RowKit

/-- Numbers of at most 128 bits. -/
def B7 (n : P3) : Prop := (-170141183460469231731687303715884105728 ≤ n.x ∧ n.x ≤ 170141183460469231731687303715884105728) ∧ (-170141183460469231731687303715884105728 ≤ n.y ∧ n.y ≤ 170141183460469231731687303715884105728) ∧ (-170141183460469231731687303715884105728 ≤ n.z ∧ n.z ≤ 170141183460469231731687303715884105728)
theorem cross_b7 {a b : P3} (ha : a.i64) (hb : b.i64) : B7 (a.cross b) := by
  have hxx := i64_mul ha.1 hb.2.1
  have hxy := i64_mul ha.2.1 hb.1
  have hxz := i64_mul ha.1 hb.2.2
  have hzx := i64_mul ha.2.2 hb.1
  have hyz := i64_mul ha.2.1 hb.2.2
  have hzy := i64_mul ha.2.2 hb.2.1
  unfold B7 P3.cross
  dsimp only
  omega
theorem b7_mul {a b : Int} (ha : -170141183460469231731687303715884105728 ≤ a ∧ a ≤ 170141183460469231731687303715884105728) (hb : -170141183460469231731687303715884105728 ≤ b ∧ b ≤ 170141183460469231731687303715884105728) : -28948022309329048855892746252171976963317496166410141009864396001978282409984 ≤ a * b ∧ a * b ≤ 28948022309329048855892746252171976963317496166410141009864396001978282409984 := by
  have := bd_mul (A := 170141183460469231731687303715884105728) (B := 170141183460469231731687303715884105728) ha hb
  omega
theorem b7_fit {n : P3} (h : B7 n) : Fit n.x ∧ Fit n.y ∧ Fit n.z := by
  unfold B7 at h
  unfold Fit M511
  omega
theorem b7_dot {m n : P3} (hm : B7 m) (hn : B7 n) : DotFit m n := by
  have h1 := b7_mul hm.1 hn.1
  have h2 := b7_mul hm.2.1 hn.2.1
  have h3 := b7_mul hm.2.2 hn.2.2
  refine ⟨b7_fit hm, b7_fit hn, ?_, ?_, ?_, ?_, ?_⟩ <;> unfold Fit M511 <;> omega
theorem DotFit.dot {m n : P3} (h : DotFit m n) : Fit (m.dot n) := h.all
theorem i64_b7 {n : P3} (h : n.i64) : B7 n := by
  unfold P3.i64 I64 at h
  unfold B7
  omega
theorem along_ok {n q : P3} (hn : B7 n) (hq : q.i64) (w : World) : Calls Try.prog 50 #[SV n, PV q] w (Ret (.tuple #[W (n.dot q), .bool true]) w) := by
  have h := b7_dot hn (i64_b7 hq)
  have hal := along_any n.x n.y n.z q.x q.y q.z h.mf.1 h.mf.2.1 h.mf.2.2 hq.1 hq.2.1 hq.2.2 w
  rw [acc_all h.x h.y h.z h.xy h.all] at hal
  exact hal
/-- How far p is beyond the side from a to b, seen along n. -/
def edge (n a b p : P3) : Int := n.dot ((b.sub a).cross (p.sub a))
def withinb (a b c p : P3) : Bool := decide (((b.sub a).cross (c.sub a)).dot (p.sub a) = 0 ∧ 0 ≤ edge ((b.sub a).cross (c.sub a)) a b p ∧ 0 ≤ edge ((b.sub a).cross (c.sub a)) b c p ∧ 0 ≤ edge ((b.sub a).cross (c.sub a)) c a p)
theorem sgn_neg (n : Int) : sgn n < 0 ↔ n < 0 := by
  unfold sgn
  split
  · omega
  · split <;> omega
set_option maxHeartbeats 4000000 in
theorem within_any (a b c p : P3) (ha : a.may) (hb : b.may) (hc : c.may) (hpm : p.may) (r : Bool) (Hr : Hid (r = withinb a b c p)) (w : World) (g0 off cap : Nat) (bc : List Value) (t : TypeId) {z : Nat × Nat} (hbk : w.heap[g0]? = some (.cells bc.toArray t z)) (hl : off + 9 ≤ bc.length)
    (h0 : (bc.drop off).take 3 = [.int .i64 a.x, .int .i64 a.y, .int .i64 a.z]) (h1 : (bc.drop (off + 3)).take 3 = [.int .i64 b.x, .int .i64 b.y, .int .i64 b.z]) (h2 : (bc.drop (off + 6)).take 3 = [.int .i64 c.x, .int .i64 c.y, .int .i64 c.z]) :
    Calls Try.prog 32 #[.slice (some ⟨g0, off, none⟩) 3 cap, PV p] w (Ret (.bool r) w) := by
  have L1 := Lib.hid (oless_any b a (may_sub hb ha))
  have L2 := Lib.hid (oless_any c a (may_sub hc ha))
  have L3 := Lib.hid (oless_any p a (may_sub hpm ha))
  have L4 := Lib.hid (oless_any c b (may_sub hc hb))
  have L5 := Lib.hid (oless_any p b (may_sub hpm hb))
  have L6 := Lib.hid (oless_any a c (may_sub ha hc))
  have L7 := Lib.hid (oless_any p c (may_sub hpm hc))
  have N := Lib.hid (cross_any _ _ (may_sub hb ha) (may_sub hc ha))
  have hn := cross_b7 (may_sub hb ha) (may_sub hc ha)
  have C1 := Lib.hid (cross_any _ _ (may_sub hb ha) (may_sub hpm ha))
  have C2 := Lib.hid (cross_any _ _ (may_sub hc hb) (may_sub hpm hb))
  have C3 := Lib.hid (cross_any _ _ (may_sub ha hc) (may_sub hpm hc))
  have hc1 := cross_b7 (may_sub hb ha) (may_sub hpm ha)
  have hc2 := cross_b7 (may_sub hc hb) (may_sub hpm hb)
  have hc3 := cross_b7 (may_sub ha hc) (may_sub hpm hc)
  have Al := Lib.hid (along_ok hn (may_sub hpm ha))
  have S0 := Lib.hid (sign_any _ (b7_dot hn (i64_b7 (may_sub hpm ha))).dot)
  have V1 := Lib.hid (level_any _ _ (b7_dot hn hc1))
  have V2 := Lib.hid (level_any _ _ (b7_dot hn hc2))
  have V3 := Lib.hid (level_any _ _ (b7_dot hn hc3))
  have S1 := Lib.hid (sign_any _ (b7_dot hn hc1).dot)
  have S2 := Lib.hid (sign_any _ (b7_dot hn hc2).dot)
  have S3 := Lib.hid (sign_any _ (b7_dot hn hc3).dot)
  clear hn hc1 hc2 hc3 ha hb hc hpm
  unfold withinb edge at Hr
  generalize (b.sub a).cross (c.sub a) = n at *
  go_enter Try.func32, Try.ntmps32
  have hp := Hp.start [] w
  go_upto_region 1 with (first
          | ((with_reducible apply sx_box hp); (first | exact za rfl | exact zu rfl | exact zi rfl | exact zb rfl | exact zr rfl | exact zs rfl | exact zf rfl | exact zg rfl | exact zn rfl | exact zv rfl | exact zw rfl); exact rfl; clear hp; (try clear w1); intro g w1 hp; simp only [zp, zq, z0, z1])
          | ((with_reducible apply sx_alloc hp); infer_instance; exact rfl; clear hp; (try clear w1); intro g w1 hp; simp only [zp, zq, z0, z1]))
  rename_i K hK
  go_cut [5] (fun s5 wx => ∃ g5, s5 = .pointer (some ⟨g5, 0, none⟩) ∧ Hp [] w [⟨g5, 70, [.int .u64 (lb (n.x) 0), .int .u64 (lb (n.x) 1), .int .u64 (lb (n.x) 2), .int .u64 (lb (n.x) 3), .int .u64 (lb (n.x) 4), .int .u64 (lb (n.x) 5), .int .u64 (lb (n.x) 6), .int .u64 (lb (n.x) 7), .int .u64 (lb (n.y) 0), .int .u64 (lb (n.y) 1), .int .u64 (lb (n.y) 2), .int .u64 (lb (n.y) 3), .int .u64 (lb (n.y) 4), .int .u64 (lb (n.y) 5), .int .u64 (lb (n.y) 6), .int .u64 (lb (n.y) 7), .int .u64 (lb (n.z) 0), .int .u64 (lb (n.z) 1), .int .u64 (lb (n.z) 2), .int .u64 (lb (n.z) 3), .int .u64 (lb (n.z) 4), .int .u64 (lb (n.z) 5), .int .u64 (lb (n.z) 6), .int .u64 (lb (n.z) 7)]⟩, ⟨g, 33, [.int .i64 p.x, .int .i64 p.y, .int .i64 p.z]⟩] wx)
  case first =>
    have hq := hp
    refine wp_drawn_hp hp hq [16] (.q 0 (.q 1 (.q 2 (.q 3 (.q 4 (.q 5 (.q 7 (.q 8 (.q 9 (.q 10 (.q 11 (.q 12 (.b2 6 (.b2 13 (.b2 14 (.l 15 (.l 16 .nil)) 15 (.l 14 (.l 16 .nil))) 15 (.l 13 (.l 14 (.l 16 .nil)))) 15 (.l 6 (.l 13 (.l 14 (.l 16 .nil))))))))))))))))) (by kernel_rfl) (by kernel_rfl) ?_
    clear hp hq; (try clear w1); intro w1 hp hq
    repeat' (first
      | (((with_reducible apply sd_q); exact zo rfl); (first
          | ((with_reducible apply sd_load_agg hp); exact rfl; exact zt rfl; infer_instance; infer_instance; (first | exact zl rfl | exact LB_le (by omega)); (first | (with_reducible exact LB_set (by omega)) | (simp only [n0, Nat.reduceAdd, n1, n2, n3, n4, n5, n6, n7, n8, n9]; try rfl)); simp only [zp, zq, z0, z1])
          | ((with_reducible apply sd_load_far hp); exact rfl; exact zt rfl; assumption; infer_instance; assumption; (first | exact zl rfl | omega); simp only [zp, zq, z0, z1])
          | ((with_reducible apply sd_move hp); exact zs rfl; simp only [zp, zq, z0, z1])
          | ((with_reducible apply sd_indexAddr hp); exact rfl; exact zx rfl; exact zk rfl; infer_instance; (first | exact AggTy.size | exact OneTy.size); omega; omega; ((try simp only [m0, Int.reduceToNat, m1, m2, Nat.reduceMul, Nat.reduceAdd, m3, m4, m5, n0]); exact rfl); simp only [zp, zq, z0, z1])
          | ((with_reducible apply sd_pure hp); exact rfl; (focus (intro _; go_simp; (try go_ints); try with_reducible rfl)); simp only [zp, zq, z0, z1])))
      | (((with_reducible apply sd_l); exact zo rfl); (first
          | ((with_reducible apply sd_alloc hq); (repeat (first | exact List.Sublist.refl _ | apply List.Sublist.cons)); exact rfl; infer_instance; exact rfl; clear hp hq; (try clear w1); intro g w1 hp hq; simp only [zp, zq, z0, z1])
          | ((with_reducible apply sd_call hp); exact rfl; (focus (intro _; go_simp; try first | with_reducible rfl | exact ⟨rfl, rfl⟩)); (with_reducible first | exact fun w => L1.out w | exact fun w => L2.out w | exact fun w => N.out w); exact hq; clear hp hq; (try clear w1); intro w1 hp hq; simp only [zp, zq, z0, z1])
          | ((with_reducible apply sd_store_far hq); exact rfl; exact zt rfl; (first | exact za rfl | exact zu rfl | exact zi rfl | exact zb rfl | exact zr rfl | exact zs rfl | exact zf rfl | exact zg rfl | exact zn rfl | exact zv rfl | exact zw rfl); exact rfl; (first | exact AggTy.size | exact OneTy.size); exact rfl; infer_instance; (first | (with_reducible exact LB_set (by omega)) | (simp only [n0, Nat.reduceAdd, n1, n2, n3, n4, n5, n6, n7, n8, n9]; try rfl)); (first | exact zl rfl | exact LB_le (by omega)); exact rfl; infer_instance; (repeat (first | exact List.Sublist.refl _ | apply List.Sublist.cons)); clear hp hq; (try clear w1); intro w1 hp hq)
          | ((with_reducible apply sd_store hq); exact rfl; exact zt rfl; (first | exact za rfl | exact zu rfl | exact zi rfl | exact zb rfl | exact zr rfl | exact zs rfl | exact zf rfl | exact zg rfl | exact zn rfl | exact zv rfl | exact zw rfl); exact rfl; (first | exact AggTy.size | exact OneTy.size); exact rfl; infer_instance; (first | (with_reducible exact LB_set (by omega)) | (simp only [n0, Nat.reduceAdd, n1, n2, n3, n4, n5, n6, n7, n8, n9]; try rfl)); (first | exact zl rfl | exact LB_le (by omega)); exact rfl; infer_instance; exact rfl; clear hp hq; (try clear w1); intro w1 hq; have hp := True.intro)))
      | (with_reducible apply sd_b2)
      | ((with_reducible apply sd_nil); clear hp; have hp := hq; clear hq))
    all_goals (go_wp2_with fail; go_meet; exact ⟨_, rfl, hp⟩)
  case rest =>
  clear hp
  obtain ⟨g5, rfl, hp⟩ := hcut
  go_wp2
  go_cut [6] (fun s6 wx => ∃ g6, s6 = .pointer (some ⟨g6, 0, none⟩) ∧ Hp [] w [⟨g6, 43, [.int .u64 (lb (n.dot (p.sub a)) 0), .int .u64 (lb (n.dot (p.sub a)) 1), .int .u64 (lb (n.dot (p.sub a)) 2), .int .u64 (lb (n.dot (p.sub a)) 3), .int .u64 (lb (n.dot (p.sub a)) 4), .int .u64 (lb (n.dot (p.sub a)) 5), .int .u64 (lb (n.dot (p.sub a)) 6), .int .u64 (lb (n.dot (p.sub a)) 7)]⟩, ⟨g5, 70, [.int .u64 (lb (n.x) 0), .int .u64 (lb (n.x) 1), .int .u64 (lb (n.x) 2), .int .u64 (lb (n.x) 3), .int .u64 (lb (n.x) 4), .int .u64 (lb (n.x) 5), .int .u64 (lb (n.x) 6), .int .u64 (lb (n.x) 7), .int .u64 (lb (n.y) 0), .int .u64 (lb (n.y) 1), .int .u64 (lb (n.y) 2), .int .u64 (lb (n.y) 3), .int .u64 (lb (n.y) 4), .int .u64 (lb (n.y) 5), .int .u64 (lb (n.y) 6), .int .u64 (lb (n.y) 7), .int .u64 (lb (n.z) 0), .int .u64 (lb (n.z) 1), .int .u64 (lb (n.z) 2), .int .u64 (lb (n.z) 3), .int .u64 (lb (n.z) 4), .int .u64 (lb (n.z) 5), .int .u64 (lb (n.z) 6), .int .u64 (lb (n.z) 7)]⟩, ⟨g, 33, [.int .i64 p.x, .int .i64 p.y, .int .i64 p.z]⟩] wx)
  case first =>
    have hq := hp
    refine wp_drawn_hp hp hq [] (.q 0 (.q 1 (.q 2 (.q 3 (.q 4 (.b2 5 (.b2 6 (.q 7 (.q 8 (.q 9 (.l 10 (.l 11 (.q 12 .nil)))))) 10 (.l 6 (.q 7 (.q 8 (.q 9 (.l 11 (.q 12 .nil))))))) 10 (.l 5 (.l 6 (.q 7 (.q 8 (.q 9 (.l 11 (.q 12 .nil))))))))))))) (by kernel_rfl) (by kernel_rfl) ?_
    clear hp hq; (try clear w1); intro w1 hp hq
    repeat' (first
      | (((with_reducible apply sd_q); exact zo rfl); (first
          | ((with_reducible apply sd_load_agg hp); exact rfl; exact zt rfl; infer_instance; infer_instance; (first | exact zl rfl | exact LB_le (by omega)); (first | (with_reducible exact LB_set (by omega)) | (simp only [n0, Nat.reduceAdd, n1, n2, n3, n4, n5, n6, n7, n8, n9]; try rfl)); simp only [zp, zq, z0, z1])
          | ((with_reducible apply sd_load_far hp); exact rfl; exact zt rfl; assumption; infer_instance; assumption; (first | exact zl rfl | omega); simp only [zp, zq, z0, z1])
          | ((with_reducible apply sd_move hp); (first | exact zs rfl | exact zu rfl); simp only [zp, zq, z0, z1])
          | ((with_reducible apply sd_assign hp); exact zb rfl; simp only [zp, zq, z0, z1])
          | ((with_reducible apply sd_indexAddr hp); exact rfl; exact zx rfl; exact zk rfl; infer_instance; (first | exact AggTy.size | exact OneTy.size); omega; omega; ((try simp only [m0, Int.reduceToNat, m1, m2, Nat.reduceMul, Nat.reduceAdd, m3, m4, m5, n0]); exact rfl); simp only [zp, zq, z0, z1])
          | ((with_reducible apply sd_pure hp); exact rfl; (focus (intro _; go_simp; (try go_ints); try with_reducible rfl)); simp only [zp, zq, z0, z1])))
      | (((with_reducible apply sd_l); exact zo rfl); (first
          | ((with_reducible apply sd_alloc hq); (repeat (first | exact List.Sublist.refl _ | apply List.Sublist.cons)); exact rfl; infer_instance; exact rfl; clear hp hq; (try clear w1); intro g w1 hp hq; simp only [zp, zq, z0, z1])
          | ((with_reducible apply sd_call hp); exact rfl; (focus (intro _; go_simp; try first | with_reducible rfl | exact ⟨rfl, rfl⟩)); (with_reducible first | exact fun w => L3.out w | exact fun w => Al.out w); exact hq; clear hp hq; (try clear w1); intro w1 hp hq; simp only [zp, zq, z0, z1])
          | ((with_reducible apply sd_store_far hq); exact rfl; exact zt rfl; (first | exact za rfl | exact zu rfl | exact zi rfl | exact zb rfl | exact zr rfl | exact zs rfl | exact zf rfl | exact zg rfl | exact zn rfl | exact zv rfl | exact zw rfl); exact rfl; (first | exact AggTy.size | exact OneTy.size); exact rfl; infer_instance; (first | (with_reducible exact LB_set (by omega)) | (simp only [n0, Nat.reduceAdd, n1, n2, n3, n4, n5, n6, n7, n8, n9]; try rfl)); (first | exact zl rfl | exact LB_le (by omega)); exact rfl; infer_instance; (repeat (first | exact List.Sublist.refl _ | apply List.Sublist.cons)); clear hp hq; (try clear w1); intro w1 hp hq)))
      | (with_reducible apply sd_b2)
      | ((with_reducible apply sd_nil); clear hp; have hp := hq; clear hq))
    all_goals (go_wp2_with fail; go_meet; exact ⟨_, rfl, hp⟩)
  case rest =>
  clear hp
  obtain ⟨g6, rfl, hp⟩ := hcut
  by_cases hd : n.dot (p.sub a) = 0
  · have hs0 : sgn (n.dot (p.sub a)) = 0 := (sgn_zero _).2 hd
    have Hd := Lib.hid hd
    clear hd
    go_wp2_with (first
          | ((with_reducible apply sx_box hp); exact za rfl; exact rfl; clear hp; (try clear w1); intro g w1 hp; simp only [zp, zq, z0, z1])
          | ((with_reducible apply sx_alloc hp); infer_instance; exact rfl; clear hp; (try clear w1); intro g w1 hp; simp only [zp, zq, z0, z1])
          | ((with_reducible apply sx_load_agg hp); exact zt rfl; infer_instance; infer_instance; (first | exact zl rfl | exact LB_le (by omega)); (first | (with_reducible exact LB_set (by omega)) | (simp only [n0, Nat.reduceAdd, n1, n2, n3, n4, n5, n6, n7, n8, n9]; try rfl)); simp only [zp, zq, z0, z1])
          | ((with_reducible apply sx_store hp); exact zt rfl; exact za rfl; exact rfl; (first | exact AggTy.size | exact OneTy.size); exact rfl; infer_instance; (first | (with_reducible exact LB_set (by omega)) | (simp only [n0, Nat.reduceAdd, n1, n2, n3, n4, n5, n6, n7, n8, n9]; try rfl)); (first | exact zl rfl | exact LB_le (by omega)); exact rfl; infer_instance; clear hp; (try clear w1); intro w1 hp)
          | ((with_reducible apply sx_indexAddr); exact zx rfl; exact zk rfl; infer_instance; (first | exact AggTy.size | exact OneTy.size); omega; omega; ((try simp only [m0, Int.reduceToNat, m1, m2, Nat.reduceMul, Nat.reduceAdd, m3, m4, m5, n0]); exact rfl); simp only [zp, zq, z0, z1])
          | ((with_reducible apply sx_load_far hp); exact zt rfl; assumption; infer_instance; assumption; (first | exact zl rfl | omega); simp only [zp, zq, z0, z1])
          | ((with_reducible refine sx_call hp (S0.out _) ?_); clear hp; (try clear w1); intro w1 hp))
    go_loopw [41] (fun i wr => ∃ k : Nat, k ≤ 3 ∧ i = .int .i64 k ∧ (0 < k → 0 ≤ n.dot ((b.sub a).cross (p.sub a))) ∧ (1 < k → 0 ≤ n.dot ((c.sub b).cross (p.sub b))) ∧ (2 < k → 0 ≤ n.dot ((a.sub c).cross (p.sub c))) ∧ Hp [] w [⟨g5, 70, [.int .u64 (lb (n.x) 0), .int .u64 (lb (n.x) 1), .int .u64 (lb (n.x) 2), .int .u64 (lb (n.x) 3), .int .u64 (lb (n.x) 4), .int .u64 (lb (n.x) 5), .int .u64 (lb (n.x) 6), .int .u64 (lb (n.x) 7), .int .u64 (lb (n.y) 0), .int .u64 (lb (n.y) 1), .int .u64 (lb (n.y) 2), .int .u64 (lb (n.y) 3), .int .u64 (lb (n.y) 4), .int .u64 (lb (n.y) 5), .int .u64 (lb (n.y) 6), .int .u64 (lb (n.y) 7), .int .u64 (lb (n.z) 0), .int .u64 (lb (n.z) 1), .int .u64 (lb (n.z) 2), .int .u64 (lb (n.z) 3), .int .u64 (lb (n.z) 4), .int .u64 (lb (n.z) 5), .int .u64 (lb (n.z) 6), .int .u64 (lb (n.z) 7)]⟩, ⟨g, 33, [.int .i64 p.x, .int .i64 p.y, .int .i64 p.z]⟩] wr) (fun i _ => 3 - (intOf i).toNat)
    case atStart => exact ⟨0, by omega, rfl, by omega, by omega, by omega, hp.sub ((List.Sublist.refl _).cons _)⟩
    case round =>
      clear hp hs0
      obtain ⟨k, hk, rfl, hk1, hk2, hk3, hp⟩ := hrel
      obtain rfl | rfl | rfl | rfl : k = 0 ∨ k = 1 ∨ k = 2 ∨ k = 3 := by omega
      · by_cases h0 : n.dot ((b.sub a).cross (p.sub a)) < 0
        · obtain rfl : r = false := by rw [Hr.out]; simp; omega
          have hs : sgn (n.dot ((b.sub a).cross (p.sub a))) < 0 := (sgn_neg _).2 h0
          go_wp2_with (first
          | ((with_reducible apply sx_box hp); exact za rfl; exact rfl; clear hp; (try clear w1); intro g w1 hp; simp only [zp, zq, z0, z1])
          | ((with_reducible apply sx_alloc hp); infer_instance; exact rfl; clear hp; (try clear w1); intro g w1 hp; simp only [zp, zq, z0, z1])
          | ((with_reducible apply sx_load_agg hp); exact zt rfl; infer_instance; infer_instance; (first | exact zl rfl | exact LB_le (by omega)); (first | (with_reducible exact LB_set (by omega)) | (simp only [n0, Nat.reduceAdd, n1, n2, n3, n4, n5, n6, n7, n8, n9]; try rfl)); simp only [zp, zq, z0, z1])
          | ((with_reducible apply sx_store hp); exact zt rfl; exact za rfl; exact rfl; (first | exact AggTy.size | exact OneTy.size); exact rfl; infer_instance; (first | (with_reducible exact LB_set (by omega)) | (simp only [n0, Nat.reduceAdd, n1, n2, n3, n4, n5, n6, n7, n8, n9]; try rfl)); (first | exact zl rfl | exact LB_le (by omega)); exact rfl; infer_instance; clear hp; (try clear w1); intro w1 hp)
          | ((with_reducible apply sx_indexAddr); exact zx rfl; exact zk rfl; infer_instance; (first | exact AggTy.size | exact OneTy.size); omega; omega; ((try simp only [m0, Int.reduceToNat, m1, m2, Nat.reduceMul, Nat.reduceAdd, m3, m4, m5, n0]); exact rfl); simp only [zp, zq, z0, z1])
          | ((with_reducible apply sx_load_far hp); exact zt rfl; assumption; infer_instance; assumption; (first | exact zl rfl | omega); simp only [zp, zq, z0, z1]))
          have hq := hp
          refine wp_drawn_hp hp hq [] (.q 0 (.q 1 (.q 2 (.q 4 (.q 5 (.l 3 (.l 6 (.l 7 (.l 8 (.l 9 (.q 10 .nil))))))))))) (by kernel_rfl) (by kernel_rfl) ?_
          clear hp hq; (try clear w1); intro w1 hp hq
          repeat' (first
            | (((with_reducible apply sd_q); exact zo rfl); (first
                | ((with_reducible apply sd_load_agg hp); exact rfl; exact zt rfl; infer_instance; infer_instance; (first | exact zl rfl | exact LB_le (by omega)); (first | (with_reducible exact LB_set (by omega)) | (simp only [n0, Nat.reduceAdd, n1, n2, n3, n4, n5, n6, n7, n8, n9]; try rfl)); simp only [zp, zq, z0, z1])
                | ((with_reducible apply sd_load_far hp); exact rfl; exact zt rfl; assumption; infer_instance; assumption; (first | exact zl rfl | omega); simp only [zp, zq, z0, z1])
                | ((with_reducible apply sd_pure hp); exact rfl; (focus (intro _; go_simp; (try go_ints); try with_reducible rfl)); simp only [zp, zq, z0, z1])))
            | (((with_reducible apply sd_l); exact zo rfl); ((with_reducible apply sd_call hp); exact rfl; (focus (intro _; go_simp; try first | with_reducible rfl | exact ⟨rfl, rfl⟩)); (with_reducible first | exact fun w => L1.out w | exact fun w => L3.out w | exact fun w => C1.out w | exact fun w => V1.out w | exact fun w => S1.out w); exact hq; clear hp hq; (try clear w1); intro w1 hp hq; simp only [zp, zq, z0, z1]))
            | ((with_reducible apply sd_nil); clear hp; have hp := hq; clear hq))
          go_wp2
          exact bodyPost_ret (results_one rfl rfl) rfl ⟨rfl, hp.keep⟩
        · have hs : ¬ sgn (n.dot ((b.sub a).cross (p.sub a))) < 0 := fun h => h0 ((sgn_neg _).1 h)
          go_wp2_with (first
          | ((with_reducible apply sx_box hp); exact za rfl; exact rfl; clear hp; (try clear w1); intro g w1 hp; simp only [zp, zq, z0, z1])
          | ((with_reducible apply sx_alloc hp); infer_instance; exact rfl; clear hp; (try clear w1); intro g w1 hp; simp only [zp, zq, z0, z1])
          | ((with_reducible apply sx_load_agg hp); exact zt rfl; infer_instance; infer_instance; (first | exact zl rfl | exact LB_le (by omega)); (first | (with_reducible exact LB_set (by omega)) | (simp only [n0, Nat.reduceAdd, n1, n2, n3, n4, n5, n6, n7, n8, n9]; try rfl)); simp only [zp, zq, z0, z1])
          | ((with_reducible apply sx_store hp); exact zt rfl; exact za rfl; exact rfl; (first | exact AggTy.size | exact OneTy.size); exact rfl; infer_instance; (first | (with_reducible exact LB_set (by omega)) | (simp only [n0, Nat.reduceAdd, n1, n2, n3, n4, n5, n6, n7, n8, n9]; try rfl)); (first | exact zl rfl | exact LB_le (by omega)); exact rfl; infer_instance; clear hp; (try clear w1); intro w1 hp)
          | ((with_reducible apply sx_indexAddr); exact zx rfl; exact zk rfl; infer_instance; (first | exact AggTy.size | exact OneTy.size); omega; omega; ((try simp only [m0, Int.reduceToNat, m1, m2, Nat.reduceMul, Nat.reduceAdd, m3, m4, m5, n0]); exact rfl); simp only [zp, zq, z0, z1])
          | ((with_reducible apply sx_load_far hp); exact zt rfl; assumption; infer_instance; assumption; (first | exact zl rfl | omega); simp only [zp, zq, z0, z1]))
          have hq := hp
          refine wp_drawn_hp hp hq [] (.q 0 (.q 1 (.q 2 (.q 4 (.q 5 (.l 3 (.l 6 (.l 7 (.l 8 (.l 9 (.q 10 .nil))))))))))) (by kernel_rfl) (by kernel_rfl) ?_
          clear hp hq; (try clear w1); intro w1 hp hq
          repeat' (first
            | (((with_reducible apply sd_q); exact zo rfl); (first
                | ((with_reducible apply sd_load_agg hp); exact rfl; exact zt rfl; infer_instance; infer_instance; (first | exact zl rfl | exact LB_le (by omega)); (first | (with_reducible exact LB_set (by omega)) | (simp only [n0, Nat.reduceAdd, n1, n2, n3, n4, n5, n6, n7, n8, n9]; try rfl)); simp only [zp, zq, z0, z1])
                | ((with_reducible apply sd_load_far hp); exact rfl; exact zt rfl; assumption; infer_instance; assumption; (first | exact zl rfl | omega); simp only [zp, zq, z0, z1])
                | ((with_reducible apply sd_pure hp); exact rfl; (focus (intro _; go_simp; (try go_ints); try with_reducible rfl)); simp only [zp, zq, z0, z1])))
            | (((with_reducible apply sd_l); exact zo rfl); ((with_reducible apply sd_call hp); exact rfl; (focus (intro _; go_simp; try first | with_reducible rfl | exact ⟨rfl, rfl⟩)); (with_reducible first | exact fun w => L1.out w | exact fun w => L3.out w | exact fun w => C1.out w | exact fun w => V1.out w | exact fun w => S1.out w); exact hq; clear hp hq; (try clear w1); intro w1 hp hq; simp only [zp, zq, z0, z1]))
            | ((with_reducible apply sd_nil); clear hp; have hp := hq; clear hq))
          go_wp2
          go_roundw
          case rel => exact ⟨1, by omega, rfl, by omega, by omega, by omega, hp.sub (by repeat (first | with_reducible exact List.nil_sublist _ | with_reducible exact List.Sublist.refl _ | with_reducible apply List.Sublist.cons_cons | with_reducible apply List.Sublist.cons))⟩
          case measure => simp [intOf]
      · by_cases h1 : n.dot ((c.sub b).cross (p.sub b)) < 0
        · obtain rfl : r = false := by rw [Hr.out]; simp; omega
          have hs : sgn (n.dot ((c.sub b).cross (p.sub b))) < 0 := (sgn_neg _).2 h1
          go_wp2_with (first
          | ((with_reducible apply sx_box hp); exact za rfl; exact rfl; clear hp; (try clear w1); intro g w1 hp; simp only [zp, zq, z0, z1])
          | ((with_reducible apply sx_alloc hp); infer_instance; exact rfl; clear hp; (try clear w1); intro g w1 hp; simp only [zp, zq, z0, z1])
          | ((with_reducible apply sx_load_agg hp); exact zt rfl; infer_instance; infer_instance; (first | exact zl rfl | exact LB_le (by omega)); (first | (with_reducible exact LB_set (by omega)) | (simp only [n0, Nat.reduceAdd, n1, n2, n3, n4, n5, n6, n7, n8, n9]; try rfl)); simp only [zp, zq, z0, z1])
          | ((with_reducible apply sx_store hp); exact zt rfl; exact za rfl; exact rfl; (first | exact AggTy.size | exact OneTy.size); exact rfl; infer_instance; (first | (with_reducible exact LB_set (by omega)) | (simp only [n0, Nat.reduceAdd, n1, n2, n3, n4, n5, n6, n7, n8, n9]; try rfl)); (first | exact zl rfl | exact LB_le (by omega)); exact rfl; infer_instance; clear hp; (try clear w1); intro w1 hp)
          | ((with_reducible apply sx_indexAddr); exact zx rfl; exact zk rfl; infer_instance; (first | exact AggTy.size | exact OneTy.size); omega; omega; ((try simp only [m0, Int.reduceToNat, m1, m2, Nat.reduceMul, Nat.reduceAdd, m3, m4, m5, n0]); exact rfl); simp only [zp, zq, z0, z1])
          | ((with_reducible apply sx_load_far hp); exact zt rfl; assumption; infer_instance; assumption; (first | exact zl rfl | omega); simp only [zp, zq, z0, z1]))
          have hq := hp
          refine wp_drawn_hp hp hq [] (.q 0 (.q 1 (.q 2 (.q 4 (.q 5 (.l 3 (.l 6 (.l 7 (.l 8 (.l 9 (.q 10 .nil))))))))))) (by kernel_rfl) (by kernel_rfl) ?_
          clear hp hq; (try clear w1); intro w1 hp hq
          repeat' (first
            | (((with_reducible apply sd_q); exact zo rfl); (first
                | ((with_reducible apply sd_load_agg hp); exact rfl; exact zt rfl; infer_instance; infer_instance; (first | exact zl rfl | exact LB_le (by omega)); (first | (with_reducible exact LB_set (by omega)) | (simp only [n0, Nat.reduceAdd, n1, n2, n3, n4, n5, n6, n7, n8, n9]; try rfl)); simp only [zp, zq, z0, z1])
                | ((with_reducible apply sd_load_far hp); exact rfl; exact zt rfl; assumption; infer_instance; assumption; (first | exact zl rfl | omega); simp only [zp, zq, z0, z1])
                | ((with_reducible apply sd_pure hp); exact rfl; (focus (intro _; go_simp; (try go_ints); try with_reducible rfl)); simp only [zp, zq, z0, z1])))
            | (((with_reducible apply sd_l); exact zo rfl); ((with_reducible apply sd_call hp); exact rfl; (focus (intro _; go_simp; try first | with_reducible rfl | exact ⟨rfl, rfl⟩)); (with_reducible first | exact fun w => L4.out w | exact fun w => L5.out w | exact fun w => C2.out w | exact fun w => V2.out w | exact fun w => S2.out w); exact hq; clear hp hq; (try clear w1); intro w1 hp hq; simp only [zp, zq, z0, z1]))
            | ((with_reducible apply sd_nil); clear hp; have hp := hq; clear hq))
          go_wp2
          exact bodyPost_ret (results_one rfl rfl) rfl ⟨rfl, hp.keep⟩
        · have hs : ¬ sgn (n.dot ((c.sub b).cross (p.sub b))) < 0 := fun h => h1 ((sgn_neg _).1 h)
          go_wp2_with (first
          | ((with_reducible apply sx_box hp); exact za rfl; exact rfl; clear hp; (try clear w1); intro g w1 hp; simp only [zp, zq, z0, z1])
          | ((with_reducible apply sx_alloc hp); infer_instance; exact rfl; clear hp; (try clear w1); intro g w1 hp; simp only [zp, zq, z0, z1])
          | ((with_reducible apply sx_load_agg hp); exact zt rfl; infer_instance; infer_instance; (first | exact zl rfl | exact LB_le (by omega)); (first | (with_reducible exact LB_set (by omega)) | (simp only [n0, Nat.reduceAdd, n1, n2, n3, n4, n5, n6, n7, n8, n9]; try rfl)); simp only [zp, zq, z0, z1])
          | ((with_reducible apply sx_store hp); exact zt rfl; exact za rfl; exact rfl; (first | exact AggTy.size | exact OneTy.size); exact rfl; infer_instance; (first | (with_reducible exact LB_set (by omega)) | (simp only [n0, Nat.reduceAdd, n1, n2, n3, n4, n5, n6, n7, n8, n9]; try rfl)); (first | exact zl rfl | exact LB_le (by omega)); exact rfl; infer_instance; clear hp; (try clear w1); intro w1 hp)
          | ((with_reducible apply sx_indexAddr); exact zx rfl; exact zk rfl; infer_instance; (first | exact AggTy.size | exact OneTy.size); omega; omega; ((try simp only [m0, Int.reduceToNat, m1, m2, Nat.reduceMul, Nat.reduceAdd, m3, m4, m5, n0]); exact rfl); simp only [zp, zq, z0, z1])
          | ((with_reducible apply sx_load_far hp); exact zt rfl; assumption; infer_instance; assumption; (first | exact zl rfl | omega); simp only [zp, zq, z0, z1]))
          have hq := hp
          refine wp_drawn_hp hp hq [] (.q 0 (.q 1 (.q 2 (.q 4 (.q 5 (.l 3 (.l 6 (.l 7 (.l 8 (.l 9 (.q 10 .nil))))))))))) (by kernel_rfl) (by kernel_rfl) ?_
          clear hp hq; (try clear w1); intro w1 hp hq
          repeat' (first
            | (((with_reducible apply sd_q); exact zo rfl); (first
                | ((with_reducible apply sd_load_agg hp); exact rfl; exact zt rfl; infer_instance; infer_instance; (first | exact zl rfl | exact LB_le (by omega)); (first | (with_reducible exact LB_set (by omega)) | (simp only [n0, Nat.reduceAdd, n1, n2, n3, n4, n5, n6, n7, n8, n9]; try rfl)); simp only [zp, zq, z0, z1])
                | ((with_reducible apply sd_load_far hp); exact rfl; exact zt rfl; assumption; infer_instance; assumption; (first | exact zl rfl | omega); simp only [zp, zq, z0, z1])
                | ((with_reducible apply sd_pure hp); exact rfl; (focus (intro _; go_simp; (try go_ints); try with_reducible rfl)); simp only [zp, zq, z0, z1])))
            | (((with_reducible apply sd_l); exact zo rfl); ((with_reducible apply sd_call hp); exact rfl; (focus (intro _; go_simp; try first | with_reducible rfl | exact ⟨rfl, rfl⟩)); (with_reducible first | exact fun w => L4.out w | exact fun w => L5.out w | exact fun w => C2.out w | exact fun w => V2.out w | exact fun w => S2.out w); exact hq; clear hp hq; (try clear w1); intro w1 hp hq; simp only [zp, zq, z0, z1]))
            | ((with_reducible apply sd_nil); clear hp; have hp := hq; clear hq))
          go_wp2
          go_roundw
          case rel => exact ⟨2, by omega, rfl, by omega, by omega, by omega, hp.sub (by repeat (first | with_reducible exact List.nil_sublist _ | with_reducible exact List.Sublist.refl _ | with_reducible apply List.Sublist.cons_cons | with_reducible apply List.Sublist.cons))⟩
          case measure => simp [intOf]
      · by_cases h2 : n.dot ((a.sub c).cross (p.sub c)) < 0
        · obtain rfl : r = false := by rw [Hr.out]; simp; omega
          have hs : sgn (n.dot ((a.sub c).cross (p.sub c))) < 0 := (sgn_neg _).2 h2
          go_wp2_with (first
          | ((with_reducible apply sx_box hp); exact za rfl; exact rfl; clear hp; (try clear w1); intro g w1 hp; simp only [zp, zq, z0, z1])
          | ((with_reducible apply sx_alloc hp); infer_instance; exact rfl; clear hp; (try clear w1); intro g w1 hp; simp only [zp, zq, z0, z1])
          | ((with_reducible apply sx_load_agg hp); exact zt rfl; infer_instance; infer_instance; (first | exact zl rfl | exact LB_le (by omega)); (first | (with_reducible exact LB_set (by omega)) | (simp only [n0, Nat.reduceAdd, n1, n2, n3, n4, n5, n6, n7, n8, n9]; try rfl)); simp only [zp, zq, z0, z1])
          | ((with_reducible apply sx_store hp); exact zt rfl; exact za rfl; exact rfl; (first | exact AggTy.size | exact OneTy.size); exact rfl; infer_instance; (first | (with_reducible exact LB_set (by omega)) | (simp only [n0, Nat.reduceAdd, n1, n2, n3, n4, n5, n6, n7, n8, n9]; try rfl)); (first | exact zl rfl | exact LB_le (by omega)); exact rfl; infer_instance; clear hp; (try clear w1); intro w1 hp)
          | ((with_reducible apply sx_indexAddr); exact zx rfl; exact zk rfl; infer_instance; (first | exact AggTy.size | exact OneTy.size); omega; omega; ((try simp only [m0, Int.reduceToNat, m1, m2, Nat.reduceMul, Nat.reduceAdd, m3, m4, m5, n0]); exact rfl); simp only [zp, zq, z0, z1])
          | ((with_reducible apply sx_load_far hp); exact zt rfl; assumption; infer_instance; assumption; (first | exact zl rfl | omega); simp only [zp, zq, z0, z1]))
          have hq := hp
          refine wp_drawn_hp hp hq [] (.q 0 (.q 1 (.q 2 (.q 4 (.q 5 (.l 3 (.l 6 (.l 7 (.l 8 (.l 9 (.q 10 .nil))))))))))) (by kernel_rfl) (by kernel_rfl) ?_
          clear hp hq; (try clear w1); intro w1 hp hq
          repeat' (first
            | (((with_reducible apply sd_q); exact zo rfl); (first
                | ((with_reducible apply sd_load_agg hp); exact rfl; exact zt rfl; infer_instance; infer_instance; (first | exact zl rfl | exact LB_le (by omega)); (first | (with_reducible exact LB_set (by omega)) | (simp only [n0, Nat.reduceAdd, n1, n2, n3, n4, n5, n6, n7, n8, n9]; try rfl)); simp only [zp, zq, z0, z1])
                | ((with_reducible apply sd_load_far hp); exact rfl; exact zt rfl; assumption; infer_instance; assumption; (first | exact zl rfl | omega); simp only [zp, zq, z0, z1])
                | ((with_reducible apply sd_pure hp); exact rfl; (focus (intro _; go_simp; (try go_ints); try with_reducible rfl)); simp only [zp, zq, z0, z1])))
            | (((with_reducible apply sd_l); exact zo rfl); ((with_reducible apply sd_call hp); exact rfl; (focus (intro _; go_simp; try first | with_reducible rfl | exact ⟨rfl, rfl⟩)); (with_reducible first | exact fun w => L6.out w | exact fun w => L7.out w | exact fun w => C3.out w | exact fun w => V3.out w | exact fun w => S3.out w); exact hq; clear hp hq; (try clear w1); intro w1 hp hq; simp only [zp, zq, z0, z1]))
            | ((with_reducible apply sd_nil); clear hp; have hp := hq; clear hq))
          go_wp2
          exact bodyPost_ret (results_one rfl rfl) rfl ⟨rfl, hp.keep⟩
        · have hs : ¬ sgn (n.dot ((a.sub c).cross (p.sub c))) < 0 := fun h => h2 ((sgn_neg _).1 h)
          go_wp2_with (first
          | ((with_reducible apply sx_box hp); exact za rfl; exact rfl; clear hp; (try clear w1); intro g w1 hp; simp only [zp, zq, z0, z1])
          | ((with_reducible apply sx_alloc hp); infer_instance; exact rfl; clear hp; (try clear w1); intro g w1 hp; simp only [zp, zq, z0, z1])
          | ((with_reducible apply sx_load_agg hp); exact zt rfl; infer_instance; infer_instance; (first | exact zl rfl | exact LB_le (by omega)); (first | (with_reducible exact LB_set (by omega)) | (simp only [n0, Nat.reduceAdd, n1, n2, n3, n4, n5, n6, n7, n8, n9]; try rfl)); simp only [zp, zq, z0, z1])
          | ((with_reducible apply sx_store hp); exact zt rfl; exact za rfl; exact rfl; (first | exact AggTy.size | exact OneTy.size); exact rfl; infer_instance; (first | (with_reducible exact LB_set (by omega)) | (simp only [n0, Nat.reduceAdd, n1, n2, n3, n4, n5, n6, n7, n8, n9]; try rfl)); (first | exact zl rfl | exact LB_le (by omega)); exact rfl; infer_instance; clear hp; (try clear w1); intro w1 hp)
          | ((with_reducible apply sx_indexAddr); exact zx rfl; exact zk rfl; infer_instance; (first | exact AggTy.size | exact OneTy.size); omega; omega; ((try simp only [m0, Int.reduceToNat, m1, m2, Nat.reduceMul, Nat.reduceAdd, m3, m4, m5, n0]); exact rfl); simp only [zp, zq, z0, z1])
          | ((with_reducible apply sx_load_far hp); exact zt rfl; assumption; infer_instance; assumption; (first | exact zl rfl | omega); simp only [zp, zq, z0, z1]))
          have hq := hp
          refine wp_drawn_hp hp hq [] (.q 0 (.q 1 (.q 2 (.q 4 (.q 5 (.l 3 (.l 6 (.l 7 (.l 8 (.l 9 (.q 10 .nil))))))))))) (by kernel_rfl) (by kernel_rfl) ?_
          clear hp hq; (try clear w1); intro w1 hp hq
          repeat' (first
            | (((with_reducible apply sd_q); exact zo rfl); (first
                | ((with_reducible apply sd_load_agg hp); exact rfl; exact zt rfl; infer_instance; infer_instance; (first | exact zl rfl | exact LB_le (by omega)); (first | (with_reducible exact LB_set (by omega)) | (simp only [n0, Nat.reduceAdd, n1, n2, n3, n4, n5, n6, n7, n8, n9]; try rfl)); simp only [zp, zq, z0, z1])
                | ((with_reducible apply sd_load_far hp); exact rfl; exact zt rfl; assumption; infer_instance; assumption; (first | exact zl rfl | omega); simp only [zp, zq, z0, z1])
                | ((with_reducible apply sd_pure hp); exact rfl; (focus (intro _; go_simp; (try go_ints); try with_reducible rfl)); simp only [zp, zq, z0, z1])))
            | (((with_reducible apply sd_l); exact zo rfl); ((with_reducible apply sd_call hp); exact rfl; (focus (intro _; go_simp; try first | with_reducible rfl | exact ⟨rfl, rfl⟩)); (with_reducible first | exact fun w => L6.out w | exact fun w => L7.out w | exact fun w => C3.out w | exact fun w => V3.out w | exact fun w => S3.out w); exact hq; clear hp hq; (try clear w1); intro w1 hp hq; simp only [zp, zq, z0, z1]))
            | ((with_reducible apply sd_nil); clear hp; have hp := hq; clear hq))
          go_wp2
          go_roundw
          case rel => exact ⟨3, by omega, rfl, by omega, by omega, by omega, hp.sub (by repeat (first | with_reducible exact List.nil_sublist _ | with_reducible exact List.Sublist.refl _ | with_reducible apply List.Sublist.cons_cons | with_reducible apply List.Sublist.cons))⟩
          case measure => simp [intOf]
      · obtain rfl : r = true := by rw [Hr.out]; simp only [decide_eq_true_eq]; exact ⟨Hd.out, hk1 (by omega), hk2 (by omega), hk3 (by omega)⟩
        go_wp2_with (first
          | ((with_reducible apply sx_box hp); exact za rfl; exact rfl; clear hp; (try clear w1); intro g w1 hp; simp only [zp, zq, z0, z1])
          | ((with_reducible apply sx_alloc hp); infer_instance; exact rfl; clear hp; (try clear w1); intro g w1 hp; simp only [zp, zq, z0, z1])
          | ((with_reducible apply sx_load_agg hp); exact zt rfl; infer_instance; infer_instance; (first | exact zl rfl | exact LB_le (by omega)); (first | (with_reducible exact LB_set (by omega)) | (simp only [n0, Nat.reduceAdd, n1, n2, n3, n4, n5, n6, n7, n8, n9]; try rfl)); simp only [zp, zq, z0, z1])
          | ((with_reducible apply sx_store hp); exact zt rfl; exact za rfl; exact rfl; (first | exact AggTy.size | exact OneTy.size); exact rfl; infer_instance; (first | (with_reducible exact LB_set (by omega)) | (simp only [n0, Nat.reduceAdd, n1, n2, n3, n4, n5, n6, n7, n8, n9]; try rfl)); (first | exact zl rfl | exact LB_le (by omega)); exact rfl; infer_instance; clear hp; (try clear w1); intro w1 hp)
          | ((with_reducible apply sx_indexAddr); exact zx rfl; exact zk rfl; infer_instance; (first | exact AggTy.size | exact OneTy.size); omega; omega; ((try simp only [m0, Int.reduceToNat, m1, m2, Nat.reduceMul, Nat.reduceAdd, m3, m4, m5, n0]); exact rfl); simp only [zp, zq, z0, z1])
          | ((with_reducible apply sx_load_far hp); exact zt rfl; assumption; infer_instance; assumption; (first | exact zl rfl | omega); simp only [zp, zq, z0, z1]))
        exact bodyPost_ret (results_one rfl rfl) rfl ⟨rfl, hp.keep⟩
  · have hs0 : (sgn (n.dot (p.sub a)) != 0) = true := by simp [sgn_zero, hd]
    obtain rfl : r = false := by rw [Hr.out]; simp [hd]
    go_wp2_with (first
          | ((with_reducible apply sx_box hp); exact za rfl; exact rfl; clear hp; (try clear w1); intro g w1 hp; simp only [zp, zq, z0, z1])
          | ((with_reducible apply sx_alloc hp); infer_instance; exact rfl; clear hp; (try clear w1); intro g w1 hp; simp only [zp, zq, z0, z1])
          | ((with_reducible apply sx_load_agg hp); exact zt rfl; infer_instance; infer_instance; (first | exact zl rfl | exact LB_le (by omega)); (first | (with_reducible exact LB_set (by omega)) | (simp only [n0, Nat.reduceAdd, n1, n2, n3, n4, n5, n6, n7, n8, n9]; try rfl)); simp only [zp, zq, z0, z1])
          | ((with_reducible apply sx_store hp); exact zt rfl; exact za rfl; exact rfl; (first | exact AggTy.size | exact OneTy.size); exact rfl; infer_instance; (first | (with_reducible exact LB_set (by omega)) | (simp only [n0, Nat.reduceAdd, n1, n2, n3, n4, n5, n6, n7, n8, n9]; try rfl)); (first | exact zl rfl | exact LB_le (by omega)); exact rfl; infer_instance; clear hp; (try clear w1); intro w1 hp)
          | ((with_reducible apply sx_indexAddr); exact zx rfl; exact zk rfl; infer_instance; (first | exact AggTy.size | exact OneTy.size); omega; omega; ((try simp only [m0, Int.reduceToNat, m1, m2, Nat.reduceMul, Nat.reduceAdd, m3, m4, m5, n0]); exact rfl); simp only [zp, zq, z0, z1])
          | ((with_reducible apply sx_load_far hp); exact zt rfl; assumption; infer_instance; assumption; (first | exact zl rfl | omega); simp only [zp, zq, z0, z1])
          | ((with_reducible refine sx_call hp (S0.out _) ?_); clear hp; (try clear w1); intro w1 hp))
    exact bodyPost_ret (results_one rfl rfl) rfl ⟨rfl, hp.keep⟩
end Go.Proofs.Ythnpmmpcejfllaa
