/-
  Law 23: awake.
  Law 23: '==' of bodies and rows, inside, limited, smaller; Cones, Once (printed by gen_un.py).
  Law 23: Cones, Once.
  Law 23: Once.
-/
import Derived.Test.YtblffafmkpnjdaaUl
import Derived.Test.YtblffafmkpnjdaaEr
import Derived.Test.YtblffafmkpnjdaaSg
set_option linter.unusedSimpArgs false
set_option linter.unusedVariables false
set_option maxRecDepth 100000
namespace Go.Proofs.Ytblffafmkpnjdaa
open Go Go.RowKit
attribute [local irreducible] wpList

theorem FSl.lit {α : Type} {f : α → List Value} {m n cap : Nat} {w : World} {g : Nat} {t : TypeId} {cs : List Value} {z : Nat × Nat} {L : List α} (h : w.heap[g]? = some (.cells cs.toArray t z)) (hf : ∀ x, (f x).length = m) (hn : n = L.length) (hc : cs = L.flatMap f) : FSl f m w (.slice (some ⟨g, 0, none⟩) n cap) L := by
  subst hn hc
  refine .inr ⟨g, 0, cap, _, _, _, rfl, h, ?_⟩
  rw [List.drop_zero, ← fl_length f m hf, List.take_length]
theorem part_of {bc vs us : List Value} {o m : Nat} (i n : Nat) (h : (bc.drop o).take m = vs) (hi : i + n ≤ m) (hu : (vs.drop i).take n = us) : (bc.drop (o + i)).take n = us := by
  rw [← hu, ← h, List.drop_take, List.take_take, List.drop_drop, Nat.min_eq_left (by omega)]
theorem get_of {bc vs : List Value} {o m : Nat} {v : Value} (i : Nat) (h : (bc.drop o).take m = vs) (hu : vs[i]? = some v) : bc[o + i]? = some v := by
  rw [← h, List.getElem?_take] at hu
  split at hu
  · rwa [List.getElem?_drop] at hu
  · cases hu
/-- A slice that reads as a list that is not empty. -/
theorem FSl.some {α : Type} {f : α → List Value} {m : Nat} {w : World} {v : Value} {L : List α} (h : FSl f m w v L) (hn : L ≠ []) : ∃ g off cap bc t z, v = .slice (some ⟨g, off, none⟩) L.length cap ∧ w.heap[g]? = some (.cells (bc : List Value).toArray t z) ∧ (bc.drop off).take (L.length * m) = L.flatMap f :=
  h.resolve_left fun h => hn h.2
def aw1 : Inr := ⟨4294967296, ⟨0, 0, 0⟩, ⟨0, 0, 0⟩, ⟨0, 0, 0⟩, ⟨0, 0, -4294967296⟩, ⟨0, 0, 0⟩⟩
def aw2 : Inr := ⟨4294967296, ⟨0, 0, 0⟩, ⟨0, 0, 0⟩, ⟨0, 0, 0⟩, ⟨0, 0, 0⟩, ⟨0, 0, 0⟩⟩
def aw3 : Inr := ⟨4294967296, ⟨0, 0, 0⟩, ⟨0, 0, 0⟩, ⟨0, 0, 0⟩, ⟨0, 0, -2147483648⟩, ⟨0, 0, 0⟩⟩
def awr : Rw := ⟨0, 1, ⟨0, 0, 4294967296⟩, ⟨0, 0, 0⟩, ⟨0, 0, 0⟩, ⟨0, 0, 0⟩, ⟨0, 0, 0⟩, 2147483648, 0, 0, 0, 0, 0, 0, 0⟩
def aws : Rw := ⟨0, 1, ⟨0, 0, 4294967296⟩, ⟨0, 0, 0⟩, ⟨0, 0, 0⟩, ⟨0, 0, 0⟩, ⟨0, 0, 0⟩, 2147483648, 0, 0, 0, 0, 2147483648, 0, 0⟩
theorem aw_solve : solveM [aw1, aw2] [awr] 1 = ([aw3, aw3], [aws], 0) := by kernel_rfl
theorem aw_check : checkM 1 [aws] = 2 := by kernel_rfl
theorem aw_cone : coneO 25769803776 34359738368 21474836480 = (12884901888, 17179869184) := by
  have h1 : rt (25769803776 * 25769803776 * (21474836480 * 21474836480) / (25769803776 * 25769803776 + 34359738368 * 34359738368)) = 12884901888 := rt_uniq (by omega) (by omega) (by omega)
  have h2 : rt (34359738368 * 34359738368 * (21474836480 * 21474836480) / (25769803776 * 25769803776 + 34359738368 * 34359738368)) = 17179869184 := rt_uniq (by omega) (by omega) (by omega)
  have e0 : (if (21474836480 : Int) < 0 then (0 : Int) else 21474836480) = 21474836480 := rfl
  have e1 : outv 25769803776 34359738368 21474836480 = true := by decide
  unfold coneO
  rw [e0, if_pos e1]
  unfold nar
  rw [h1, h2]
  rfl
set_option maxHeartbeats 8000000 in
theorem awake23_core (w : World)
    (SV : Hid (∀ vb vr w1, FSl NVl 16 w1 vb [aw1, aw2] → FSl RVl 25 w1 vr [awr] → Calls Try.prog 9 #[vb, vr, .int .i64 1] w1 (SolR w1 [aw3, aw3] [aws] 0)))
    (CO : Hid (∀ w, Calls Try.prog 14 #[.int .i64 25769803776, .int .i64 34359738368, .int .i64 21474836480] w (Ret (.tuple #[.int .i64 12884901888, .int .i64 17179869184]) w)))
    (CK : Hid (∀ vr w1, FSl RVl 25 w1 vr [aws] → Calls Try.prog 10 #[.int .i64 1, vr] w1 (Ret (.int .i64 2) w1))) :
    Calls Try.prog 8 #[] w (Ret (.bool true) w) := by
  go_enter Try.func8, Try.ntmps8
  have hp := Hp.start [] w
  go_upto_region 5 with (first
          | ((with_reducible apply sx_alloc hp); infer_instance; exact rfl; clear hp; (try clear w1); intro g w1 hp; simp only [zp, zq, z0, z1])
          | ((with_reducible apply sx_load_agg hp); exact zt rfl; infer_instance; infer_instance; (first | exact zl rfl | exact LB_le (by omega)); (first | (with_reducible exact LB_set (by omega)) | (simp only [n0, Nat.reduceAdd, n1, n2, n3, n4, n5, n6, n7, n8, n9]; try rfl)); simp only [zp, zq, z0, z1])
          | ((with_reducible apply sx_load_one hp); exact zt rfl; infer_instance; infer_instance; (first | exact zio rfl | exact LB_get (by omega)); simp only [zp, zq, z0, z1])
          | ((with_reducible apply sx_store hp); exact zt rfl; exact za rfl; exact rfl; (first | exact AggTy.size | exact OneTy.size); exact rfl; infer_instance; (first | (with_reducible exact LB_set (by omega)) | (simp only [n0, Nat.reduceAdd, n1, n2, n3, n4, n5, n6, n7, n8, n9]; try rfl)); (first | exact zl rfl | exact LB_le (by omega)); exact rfl; infer_instance; clear hp; (try clear w1); intro w1 hp)
          | ((with_reducible apply sx_indexAddr); exact zx rfl; exact zk rfl; infer_instance; (first | exact AggTy.size | exact OneTy.size); omega; omega; ((try simp only [m0, Int.reduceToNat, m1, m2, Nat.reduceMul, Nat.reduceAdd, m3, m4, m5, n0]); exact rfl); simp only [zp, zq, z0, z1])
          | ((with_reducible apply sx_load_far hp); exact zt rfl; assumption; infer_instance; assumption; (first | exact zl rfl | omega); simp only [zp, zq, z0, z1])
          | ((with_reducible apply sx_load_far1 hp); exact zt rfl; assumption; infer_instance; (first | assumption | (first | exact zio rfl | exact LB_get (by omega))); simp only [zp, zq, z0, z1])
          | ((with_reducible apply sx_buildSlice hp); infer_instance; (first | exact AggTy.size | exact OneTy.size); infer_instance; exact zl rfl; decide; (first | exact (rfl : _ = numbered 0 [_]) | exact (rfl : _ = numbered 0 [_, _]) | exact (rfl : _ = numbered 0 [_, _, _]) | exact (rfl : _ = numbered 0 [_, _, _, _])); exact rfl; (first | exact (rfl : _ = List.map (fun x : List Value => x.toArray) [_]) | exact (rfl : _ = List.map (fun x : List Value => x.toArray) [_, _]) | exact (rfl : _ = List.map (fun x : List Value => x.toArray) [_, _, _]) | exact (rfl : _ = List.map (fun x : List Value => x.toArray) [_, _, _, _])); (intro l hl <;> simp only [List.mem_cons, List.not_mem_nil, or_false] at hl <;> rcases hl with rfl | rfl | rfl | rfl <;> rfl); exact rfl; clear hp; (try clear w1); intro g w1 hp; simp only [zp, zq, z0, z1])
          | ((with_reducible refine sx_call hp (CO.out _) ?_); clear hp; (try clear w1); intro w1 hp)
          | ((with_reducible refine Calls.mono (SV.out _ _ _ (FSl.lit hp.blk NVl_length rfl rfl) (FSl.lit hp.blk RVl_length rfl rfl)) ?_); (rintro _ w2 ⟨hk, vb, vr, rfl, hb, hr⟩); (have HK := Lib.hid (hp.keep.trans hk)); (obtain ⟨gb, ob, cb, bb, tb, yb, rfl, hbb, hbn⟩ := hb.some (by simp)); (have HR := Lib.hid hr); (obtain ⟨gr, orr, cr, br, tr, yr, rfl, hrb, hrn⟩ := hr.some (by simp)); (have HBN := Lib.hid hbn); (have HRN := Lib.hid hrn); clear hb hr hk hbn hrn hp; (try clear w1); (have hp := Hp.start [] w2)))
  obtain ⟨q1, l1⟩ := fl_at (by omega) NVl_length HBN.out (k := 0) (by simp)
  obtain ⟨q2, l2⟩ := fl_at (by omega) NVl_length HBN.out (k := 1) (by simp)
  obtain ⟨q3, l3⟩ := fl_at (by omega) RVl_length HRN.out (k := 0) (by simp)
  have p1 : (bb.drop (ob + 10)).take 3 = [.int .i64 0, .int .i64 0, .int .i64 (-2147483648)] := part_of 10 3 q1 (by omega) rfl
  have p2 : (bb.drop (ob + 16 + 10)).take 3 = [.int .i64 0, .int .i64 0, .int .i64 (-2147483648)] := part_of 10 3 q2 (by omega) rfl
  have p3 : br[orr + 22]? = some (.int .i64 2147483648) := get_of 22 q3 rfl
  have CKW : Hid (∀ w3, Keep [] w2 w3 → Calls Try.prog 10 #[.int .i64 1, .slice (some ⟨gr, orr, none⟩) 1 cr] w3 (Ret (.int .i64 2) w3)) := Lib.hid fun w3 hk => CK.out _ w3 (HR.out.keep hk)
  simp only [Nat.zero_mul, Nat.one_mul, Nat.add_zero] at l1 l2 l3
  clear q1 q2 q3
  have hq := hp
  refine wp_drawn_hp hp hq [] (.q 0 (.q 1 (.q 2 (.q 3 (.q 4 (.q 5 (.q 6 (.q 7 (.q 8 (.q 9 (.q 10 (.q 11 (.q 12 (.q 13 (.q 14 (.q 15 (.q 16 (.q 17 (.q 18 (.q 19 (.q 20 (.q 21 (.q 22 (.q 23 (.q 24 (.q 25 (.q 26 (.q 27 (.q 28 (.q 29 (.q 30 (.q 31 (.q 32 (.q 33 (.q 34 (.q 35 (.q 36 (.q 37 (.q 38 (.q 39 (.q 40 (.q 41 (.q 42 (.q 43 (.q 44 (.l 45 (.q 46 (.q 47 (.q 48 .nil))))))))))))))))))))))))))))))))))))))))))))))))) (by kernel_rfl) (by kernel_rfl) ?_
  clear hp hq; (try clear w1); intro w1 hp hq
  repeat' (first
    | (((with_reducible apply sd_q); exact zo rfl); (first
        | ((with_reducible apply sd_load_agg hp); exact rfl; exact zt rfl; infer_instance; infer_instance; (first | exact zl rfl | exact LB_le (by omega)); (first | (with_reducible exact LB_set (by omega)) | (simp only [n0, Nat.reduceAdd, n1, n2, n3, n4, n5, n6, n7, n8, n9]; try rfl)); simp only [zp, zq, z0, z1])
        | ((with_reducible apply sd_load_far hp); exact rfl; exact zt rfl; assumption; infer_instance; assumption; (first | exact zl rfl | omega); simp only [zp, zq, z0, z1])
        | ((with_reducible apply sd_load_one hp); exact rfl; exact zt rfl; infer_instance; infer_instance; (first | exact zio rfl | exact LB_get (by omega)); simp only [zp, zq, z0, z1])
        | ((with_reducible apply sd_load_far1 hp); exact rfl; exact zt rfl; assumption; infer_instance; (first | assumption | (first | exact zio rfl | exact LB_get (by omega))); simp only [zp, zq, z0, z1])
        | ((with_reducible apply sd_move hp); (first | exact zb rfl | exact zi rfl | exact zs rfl); simp only [zp, zq, z0, z1])
        | ((with_reducible apply sd_assign hp); exact zb rfl; simp only [zp, zq, z0, z1])
        | ((with_reducible apply sd_indexAddr hp); exact rfl; exact zx rfl; exact zk rfl; infer_instance; (first | exact AggTy.size | exact OneTy.size); omega; omega; ((try simp only [m0, Int.reduceToNat, m1, m2, Nat.reduceMul, Nat.reduceAdd, m3, m4, m5, n0]); exact rfl); simp only [zp, zq, z0, z1])
        | ((with_reducible apply sd_pure hp); exact rfl; (focus (intro _; go_simp; (try go_ints); try with_reducible rfl)); simp only [zp, zq, z0, z1])
        | ((with_reducible apply sd_skip hp); exact rfl; simp only [zp, zq, z0, z1])))
    | (((with_reducible apply sd_l); exact zo rfl); (first
        | ((with_reducible apply sd_callM hp); exact rfl; (focus (intro _; go_simp; try first | with_reducible rfl | exact ⟨rfl, rfl⟩)); (with_reducible exact CKW.out _ hp.keep); exact hq; clear hp hq; (try clear w1); intro w1 hp hq; simp only [zp, zq, z0, z1])
        | ((with_reducible apply sd_skip_loud hp); exact rfl; simp only [zp, zq, z0, z1])))
    | ((with_reducible apply sd_nil); clear hp; have hp := hq; clear hq))
  go_wp2_with (first
          | ((with_reducible apply sx_alloc hp); infer_instance; exact rfl; clear hp; (try clear w1); intro g w1 hp; simp only [zp, zq, z0, z1])
          | ((with_reducible apply sx_load_agg hp); exact zt rfl; infer_instance; infer_instance; (first | exact zl rfl | exact LB_le (by omega)); (first | (with_reducible exact LB_set (by omega)) | (simp only [n0, Nat.reduceAdd, n1, n2, n3, n4, n5, n6, n7, n8, n9]; try rfl)); simp only [zp, zq, z0, z1])
          | ((with_reducible apply sx_load_one hp); exact zt rfl; infer_instance; infer_instance; (first | exact zio rfl | exact LB_get (by omega)); simp only [zp, zq, z0, z1])
          | ((with_reducible apply sx_store hp); exact zt rfl; exact za rfl; exact rfl; (first | exact AggTy.size | exact OneTy.size); exact rfl; infer_instance; (first | (with_reducible exact LB_set (by omega)) | (simp only [n0, Nat.reduceAdd, n1, n2, n3, n4, n5, n6, n7, n8, n9]; try rfl)); (first | exact zl rfl | exact LB_le (by omega)); exact rfl; infer_instance; clear hp; (try clear w1); intro w1 hp)
          | ((with_reducible apply sx_indexAddr); exact zx rfl; exact zk rfl; infer_instance; (first | exact AggTy.size | exact OneTy.size); omega; omega; ((try simp only [m0, Int.reduceToNat, m1, m2, Nat.reduceMul, Nat.reduceAdd, m3, m4, m5, n0]); exact rfl); simp only [zp, zq, z0, z1])
          | ((with_reducible apply sx_load_far hp); exact zt rfl; assumption; infer_instance; assumption; (first | exact zl rfl | omega); simp only [zp, zq, z0, z1])
          | ((with_reducible apply sx_load_far1 hp); exact zt rfl; assumption; infer_instance; (first | assumption | (first | exact zio rfl | exact LB_get (by omega))); simp only [zp, zq, z0, z1])
          | ((with_reducible apply sx_buildSlice hp); infer_instance; (first | exact AggTy.size | exact OneTy.size); infer_instance; exact zl rfl; decide; (first | exact (rfl : _ = numbered 0 [_]) | exact (rfl : _ = numbered 0 [_, _]) | exact (rfl : _ = numbered 0 [_, _, _]) | exact (rfl : _ = numbered 0 [_, _, _, _])); exact rfl; (first | exact (rfl : _ = List.map (fun x : List Value => x.toArray) [_]) | exact (rfl : _ = List.map (fun x : List Value => x.toArray) [_, _]) | exact (rfl : _ = List.map (fun x : List Value => x.toArray) [_, _, _]) | exact (rfl : _ = List.map (fun x : List Value => x.toArray) [_, _, _, _])); (intro l hl <;> simp only [List.mem_cons, List.not_mem_nil, or_false] at hl <;> rcases hl with rfl | rfl | rfl | rfl <;> rfl); exact rfl; clear hp; (try clear w1); intro g w1 hp; simp only [zp, zq, z0, z1]))
  exact bodyPost_ret (results_one rfl rfl) rfl ⟨rfl, HK.out.trans hp.keep⟩
theorem aw_i64 : alli [aw1, aw2] ∧ (∀ r ∈ [awr], r.i64f) ∧ ∀ r ∈ [aws], r.i64f := by
  refine ⟨fun b hb => ?_, fun r hr => ?_, fun r hr => ?_⟩
  · simp only [List.mem_cons, List.not_mem_nil, or_false] at hb
    rcases hb with rfl | rfl <;> simp [Inr.i64, P3.i64, I64, aw1, aw2]
  · simp only [List.mem_cons, List.not_mem_nil, or_false] at hr
    subst hr
    simp [Rw.i64f, P3.i64, I64, awr]
  · simp only [List.mem_cons, List.not_mem_nil, or_false] at hr
    subst hr
    simp [Rw.i64f, P3.i64, I64, aws]
theorem awake23 (w : World) : Calls Try.prog 8 #[] w (Ret (.bool true) w) :=
  awake23_core w
    (Lib.hid fun vb vr w1 hb hr => by
      have := solve_any [aw1, aw2] [awr] 1 aw_i64.1 aw_i64.2.1 vb vr w1 hb hr
      rwa [aw_solve] at this)
    (Lib.hid fun w => by
      have := cone_any 25769803776 34359738368 21474836480 (by unfold I64; omega) (by unfold I64; omega) (by unfold I64; omega) w
      rwa [aw_cone] at this)
    (Lib.hid fun vr w1 hr => by
      have := check_any (S := [aws]) 1 aw_i64.2.2 w1 hr
      rwa [aw_check] at this)
end Go.Proofs.Ytblffafmkpnjdaa
set_option linter.unusedSimpArgs false
set_option linter.unusedVariables false
set_option maxRecDepth 100000
namespace Go.Proofs.Ytblffafmkpnjdaa
open Go Go.RowKit
attribute [local irreducible] wpList

deriving instance DecidableEq for Inr
deriving instance DecidableEq for Rw
theorem p3_ext {a b : P3} : a = b ↔ a.x = b.x ∧ a.y = b.y ∧ a.z = b.z := by
  obtain ⟨a1, a2, a3⟩ := a
  obtain ⟨b1, b2, b3⟩ := b
  simp
theorem p3_beq (a b : P3) : (a.x == b.x && (a.y == b.y && a.z == b.z)) = decide (a = b) := by
  obtain ⟨a1, a2, a3⟩ := a
  obtain ⟨b1, b2, b3⟩ := b
  rw [Bool.eq_iff_iff]
  simp
theorem run_part_agg {P : Program} {t : TypeId} {n : Nat} [h : AggTy P t n] (cs : Array Value) (i : Nat) (w : World) : (part t cs i).run P w = .ok (.agg (cs.extract i (i + n))) w := by
  unfold part
  simp only [Sem.run_bind, h.agg, h.size, Result.andThen_ok, if_true, Sem.run_pure]
set_option maxHeartbeats 1000000 in
@[go_sem high] theorem eq_vecs (w : World) (d : Nat) (p q r a b c : P3) : (Op.equalIn (d + 3) 36 (.agg #[.int .i64 p.x, .int .i64 p.y, .int .i64 p.z, .int .i64 q.x, .int .i64 q.y, .int .i64 q.z, .int .i64 r.x, .int .i64 r.y, .int .i64 r.z]) (.agg #[.int .i64 a.x, .int .i64 a.y, .int .i64 a.z, .int .i64 b.x, .int .i64 b.y, .int .i64 b.z, .int .i64 c.x, .int .i64 c.y, .int .i64 c.z])).run Try.prog w = .ok ((p.x == a.x && (p.y == a.y && p.z == a.z)) && ((q.x == b.x && (q.y == b.y && q.z == b.z)) && (r.x == c.x && (r.y == c.y && r.z == c.z)))) w := by
  have hs : ∀ w, (sizeOf 31).run Try.prog w = .ok 3 w := AggTy.size
  rw [show d + 3 = (d + 2) + 1 from rfl, Op.equalIn]
  simp only [Sem.run_bind, run_underlying Try.underlying36, Result.andThen_ok, hs]
  simp only [Std.Legacy.Range.forIn_eq_forIn_range', Std.Legacy.Range.size, Nat.mul_one, Nat.sub_zero, Nat.add_sub_cancel, Nat.div_one]
  simp only [List.range'_succ, List.range'_zero, List.forIn_cons, List.forIn_nil, Sem.run_bind, run_part_agg, Result.andThen_ok, Nat.zero_add, Nat.reduceAdd, Nat.reduceMul, Nat.zero_mul, Nat.one_mul]
  have e1 : ∀ w, (Op.equalIn (d + 2) 31 (PV p) (PV a)).run Try.prog w = .ok (p.x == a.x && (p.y == a.y && p.z == a.z)) w := fun w => eq_vec w d _ _ _ _ _ _
  have e2 : ∀ w, (Op.equalIn (d + 2) 31 (PV q) (PV b)).run Try.prog w = .ok (q.x == b.x && (q.y == b.y && q.z == b.z)) w := fun w => eq_vec w d _ _ _ _ _ _
  have e3 : ∀ w, (Op.equalIn (d + 2) 31 (PV r) (PV c)).run Try.prog w = .ok (r.x == c.x && (r.y == c.y && r.z == c.z)) w := fun w => eq_vec w d _ _ _ _ _ _
  have x0 : (#[.int .i64 p.x, .int .i64 p.y, .int .i64 p.z, .int .i64 q.x, .int .i64 q.y, .int .i64 q.z, .int .i64 r.x, .int .i64 r.y, .int .i64 r.z] : Array Value).extract 0 3 = #[.int .i64 p.x, .int .i64 p.y, .int .i64 p.z] := rfl
  have x1 : (#[.int .i64 p.x, .int .i64 p.y, .int .i64 p.z, .int .i64 q.x, .int .i64 q.y, .int .i64 q.z, .int .i64 r.x, .int .i64 r.y, .int .i64 r.z] : Array Value).extract 3 6 = #[.int .i64 q.x, .int .i64 q.y, .int .i64 q.z] := rfl
  have x2 : (#[.int .i64 p.x, .int .i64 p.y, .int .i64 p.z, .int .i64 q.x, .int .i64 q.y, .int .i64 q.z, .int .i64 r.x, .int .i64 r.y, .int .i64 r.z] : Array Value).extract 6 9 = #[.int .i64 r.x, .int .i64 r.y, .int .i64 r.z] := rfl
  have y0 : (#[.int .i64 a.x, .int .i64 a.y, .int .i64 a.z, .int .i64 b.x, .int .i64 b.y, .int .i64 b.z, .int .i64 c.x, .int .i64 c.y, .int .i64 c.z] : Array Value).extract 0 3 = #[.int .i64 a.x, .int .i64 a.y, .int .i64 a.z] := rfl
  have y1 : (#[.int .i64 a.x, .int .i64 a.y, .int .i64 a.z, .int .i64 b.x, .int .i64 b.y, .int .i64 b.z, .int .i64 c.x, .int .i64 c.y, .int .i64 c.z] : Array Value).extract 3 6 = #[.int .i64 b.x, .int .i64 b.y, .int .i64 b.z] := rfl
  have y2 : (#[.int .i64 a.x, .int .i64 a.y, .int .i64 a.z, .int .i64 b.x, .int .i64 b.y, .int .i64 b.z, .int .i64 c.x, .int .i64 c.y, .int .i64 c.z] : Array Value).extract 6 9 = #[.int .i64 c.x, .int .i64 c.y, .int .i64 c.z] := rfl
  generalize (p.x == a.x && (p.y == a.y && p.z == a.z)) = x at *
  generalize (q.x == b.x && (q.y == b.y && q.z == b.z)) = y at *
  generalize (r.x == c.x && (r.y == c.y && r.z == c.z)) = z at *
  cases x <;> cases y <;> cases z <;> (repeat (simp only [x0, x1, x2, y0, y1, y2, e1, e2, e3, Result.andThen_ok, run_part_agg, Nat.reduceAdd, Bool.not_true, Bool.not_false, Bool.false_eq_true, if_true, if_false, Sem.run_pure, Sem.run_bind])) <;> rfl
set_option maxHeartbeats 1000000 in
@[go_sem high] theorem eq_mat (w : World) (d : Nat) (p q r a b c : P3) : (Op.equalIn (d + 4) 38 (.agg #[.int .i64 p.x, .int .i64 p.y, .int .i64 p.z, .int .i64 q.x, .int .i64 q.y, .int .i64 q.z, .int .i64 r.x, .int .i64 r.y, .int .i64 r.z]) (.agg #[.int .i64 a.x, .int .i64 a.y, .int .i64 a.z, .int .i64 b.x, .int .i64 b.y, .int .i64 b.z, .int .i64 c.x, .int .i64 c.y, .int .i64 c.z])).run Try.prog w = .ok (decide (p = a ∧ q = b ∧ r = c)) w := by
  have e : decide (p = a ∧ q = b ∧ r = c) = ((p.x == a.x && (p.y == a.y && p.z == a.z)) && ((q.x == b.x && (q.y == b.y && q.z == b.z)) && (r.x == c.x && (r.y == c.y && r.z == c.z)))) := by
    rw [p3_beq, p3_beq, p3_beq, Bool.eq_iff_iff]; simp
  rw [e]
  clear e
  go_simp
  generalize (p.x == a.x && (p.y == a.y && p.z == a.z)) = x
  generalize (q.x == b.x && (q.y == b.y && q.z == b.z)) = y
  generalize (r.x == c.x && (r.y == c.y && r.z == c.z)) = z
  cases x <;> cases y <;> cases z <;> simp
set_option maxHeartbeats 2000000 in
@[go_sem high] theorem eq_inr (w : World) (d : Nat) (a b : Inr) : (Op.equalIn (d + 5) 40 (.agg #[.int .i64 a.m, .int .i64 a.p.x, .int .i64 a.p.y, .int .i64 a.p.z, .int .i64 a.q.x, .int .i64 a.q.y, .int .i64 a.q.z, .int .i64 a.r.x, .int .i64 a.r.y, .int .i64 a.r.z, .int .i64 a.v.x, .int .i64 a.v.y, .int .i64 a.v.z, .int .i64 a.s.x, .int .i64 a.s.y, .int .i64 a.s.z]) (.agg #[.int .i64 b.m, .int .i64 b.p.x, .int .i64 b.p.y, .int .i64 b.p.z, .int .i64 b.q.x, .int .i64 b.q.y, .int .i64 b.q.z, .int .i64 b.r.x, .int .i64 b.r.y, .int .i64 b.r.z, .int .i64 b.v.x, .int .i64 b.v.y, .int .i64 b.v.z, .int .i64 b.s.x, .int .i64 b.s.y, .int .i64 b.s.z])).run Try.prog w = .ok (decide (a = b)) w := by
  by_cases h : a = b
  · subst h
    rw [decide_eq_true rfl]
    go_simp
    try simp
  · rw [decide_eq_false h]
    have hh : ¬ (a.m = b.m ∧ a.p = b.p ∧ a.q = b.q ∧ a.r = b.r ∧ a.v = b.v ∧ a.s = b.s) := fun hh => h (by cases a; cases b; simp_all)
    simp only [p3_ext] at hh
    go_simp
    try repeat' split
    all_goals first | rfl | (simp_all; done) | grind
set_option maxHeartbeats 4000000 in
@[go_sem high] theorem eq_rw (w : World) (d : Nat) (a b : Rw) : (Op.equalIn (d + 3) 33 (.agg #[.int .i64 a.a, .int .i64 a.b, .int .i64 a.n.x, .int .i64 a.n.y, .int .i64 a.n.z, .int .i64 a.t.x, .int .i64 a.t.y, .int .i64 a.t.z, .int .i64 a.u.x, .int .i64 a.u.y, .int .i64 a.u.z, .int .i64 a.ra.x, .int .i64 a.ra.y, .int .i64 a.ra.z, .int .i64 a.rb.x, .int .i64 a.rb.y, .int .i64 a.rb.z, .int .i64 a.mn, .int .i64 a.mt, .int .i64 a.mu, .int .i64 a.aim, .int .i64 a.rub, .int .i64 a.pn, .int .i64 a.pt, .int .i64 a.pu]) (.agg #[.int .i64 b.a, .int .i64 b.b, .int .i64 b.n.x, .int .i64 b.n.y, .int .i64 b.n.z, .int .i64 b.t.x, .int .i64 b.t.y, .int .i64 b.t.z, .int .i64 b.u.x, .int .i64 b.u.y, .int .i64 b.u.z, .int .i64 b.ra.x, .int .i64 b.ra.y, .int .i64 b.ra.z, .int .i64 b.rb.x, .int .i64 b.rb.y, .int .i64 b.rb.z, .int .i64 b.mn, .int .i64 b.mt, .int .i64 b.mu, .int .i64 b.aim, .int .i64 b.rub, .int .i64 b.pn, .int .i64 b.pt, .int .i64 b.pu])).run Try.prog w = .ok (decide (a = b)) w := by
  by_cases h : a = b
  · subst h
    rw [decide_eq_true rfl]
    go_simp
    try simp
  · rw [decide_eq_false h]
    have hh : ¬ (a.a = b.a ∧ a.b = b.b ∧ a.n = b.n ∧ a.t = b.t ∧ a.u = b.u ∧ a.ra = b.ra ∧ a.rb = b.rb ∧ a.mn = b.mn ∧ a.mt = b.mt ∧ a.mu = b.mu ∧ a.aim = b.aim ∧ a.rub = b.rub ∧ a.pn = b.pn ∧ a.pt = b.pt ∧ a.pu = b.pu) := fun hh => h (by cases a; cases b; simp_all)
    simp only [p3_ext] at hh
    go_simp
    try repeat' split
    all_goals first | rfl | (simp_all; done) | grind
/-! ### inside, limited, smaller -/
theorem cmp_le0 {a b : Int} : cmp a b ≤ 0 ↔ a ≤ b := by
  unfold cmp
  split <;> (try split) <;> omega
set_option maxHeartbeats 2000000 in
theorem inside_any (t u c : Int) (ht : I64 t) (hu : I64 u) (hc : I64 c) (w : World) : Calls Try.prog 11 #[.int .i64 t, .int .i64 u, .int .i64 c] w (Ret (.bool (!outv t u c)) w) := by
  have h1 := sq_fit ht
  have h2 := sq_fit hu
  have h3 := sq_fit hc
  have O1 := Lib.hid (of_i64 t ht)
  have O2 := Lib.hid (of_i64 u hu)
  have O3 := Lib.hid (of_i64 c hc)
  have T1 := mul_any t t (fit_i64 ht) (fit_i64 ht)
  have T2 := mul_any u u (fit_i64 hu) (fit_i64 hu)
  have T3 := mul_any c c (fit_i64 hc) (fit_i64 hc)
  have A1 := add_any (t * t) (u * u) (by unfold Fit M511; omega) (by unfold Fit M511; omega)
  have C1 := Lib.hid (cmp_any (t * t + u * u) (c * c) (by unfold Fit M511; omega) (by unfold Fit M511; omega))
  rw [show fz (t * t) = t * t from if_pos (prod_i64 ht ht)] at T1
  rw [show fz (u * u) = u * u from if_pos (prod_i64 hu hu)] at T2
  rw [show fz (c * c) = c * c from if_pos (prod_i64 hc hc)] at T3
  rw [show fz (t * t + u * u) = t * t + u * u from if_pos (by unfold Fit M511; omega)] at A1
  have e : (!outv t u c) = decide (cmp (t * t + u * u) (c * c) ≤ 0) := by
    rw [Bool.eq_iff_iff]
    simp [outv, cmp_le0]
  rw [e]
  replace T1 := Lib.hid T1
  replace T2 := Lib.hid T2
  replace T3 := Lib.hid T3
  replace A1 := Lib.hid A1
  clear ht hu hc h1 h2 h3 e
  generalize cmp (t * t + u * u) (c * c) = k at *
  generalize t * t + u * u = s at *
  generalize t * t = p at *
  generalize u * u = q at *
  generalize c * c = r at *
  go_enter Try.func11, Try.ntmps11
  have hp := Hp.start [] w
  go_wp2_with (first
          | ((with_reducible apply sx_alloc hp); infer_instance; exact rfl; clear hp; (try clear w1); intro g w1 hp; simp only [zp, zq, z0, z1])
          | ((with_reducible apply sx_load_agg hp); exact zt rfl; infer_instance; infer_instance; (first | exact zl rfl | exact LB_le (by omega)); (first | (with_reducible exact LB_set (by omega)) | (simp only [n0, Nat.reduceAdd, n1, n2, n3, n4, n5, n6, n7, n8, n9]; try rfl)); simp only [zp, zq, z0, z1])
          | ((with_reducible apply sx_store hp); exact zt rfl; exact za rfl; exact rfl; (first | exact AggTy.size | exact OneTy.size); exact rfl; infer_instance; (first | (with_reducible exact LB_set (by omega)) | (simp only [n0, Nat.reduceAdd, n1, n2, n3, n4, n5, n6, n7, n8, n9]; try rfl)); (first | exact zl rfl | exact LB_le (by omega)); exact rfl; infer_instance; clear hp; (try clear w1); intro w1 hp)
          | ((with_reducible first | refine sx_call hp (O1.out _) ?_ | refine sx_call hp (O2.out _) ?_ | refine sx_call hp (O3.out _) ?_ | refine sx_call hp (T1.out _) ?_ | refine sx_call hp (T2.out _) ?_ | refine sx_call hp (T3.out _) ?_ | refine sx_call hp (A1.out _) ?_ | refine sx_call hp (C1.out _) ?_); clear hp; (try clear w1); intro w1 hp))
  exact bodyPost_ret (results_one rfl rfl) rfl ⟨rfl, hp.keep⟩
/-- Speeds within the limits. -/
def P3.lim (p : P3) : Bool := decide (p.x ≤ 1099511627776 ∧ p.y ≤ 1099511627776 ∧ p.z ≤ 1099511627776) && decide (-1099511627776 ≤ p.x ∧ -1099511627776 ≤ p.y ∧ -1099511627776 ≤ p.z)
theorem lim_max3 {P : Program} (ts : Array TypeId) (t : TypeId) (x y z : Int) : ∃ m : Int, (∀ w, (Builtin.max_ ts t #[.int .i64 x, .int .i64 y, .int .i64 z]).run P w = .ok (.int .i64 m) w) ∧ (m ≤ 1099511627776 ↔ x ≤ 1099511627776 ∧ y ≤ 1099511627776 ∧ z ≤ 1099511627776) := by
  refine ⟨if z > (if y > x then y else x) then z else (if y > x then y else x), fun w => ?_, ?_⟩
  · simp [Builtin.max_, Builtin.max2]
  · split <;> split <;> omega
theorem lim_min3 {P : Program} (ts : Array TypeId) (t : TypeId) (x y z : Int) : ∃ m : Int, (∀ w, (Builtin.min_ ts t #[.int .i64 x, .int .i64 y, .int .i64 z]).run P w = .ok (.int .i64 m) w) ∧ (-1099511627776 ≤ m ↔ -1099511627776 ≤ x ∧ -1099511627776 ≤ y ∧ -1099511627776 ≤ z) := by
  refine ⟨if z < (if y < x then y else x) then z else (if y < x then y else x), fun w => ?_, ?_⟩
  · simp [Builtin.min_, Builtin.min2]
  · split <;> split <;> omega
set_option maxHeartbeats 1000000 in
theorem limited_core (x y z M m : Int) (r : Bool) (Hr : Hid (r = (decide (M ≤ 1099511627776) && decide (-1099511627776 ≤ m)))) (hM : ∀ w, (Builtin.max_ #[29, 29, 29] 29 #[.int .i64 x, .int .i64 y, .int .i64 z]).run Try.prog w = .ok (.int .i64 M) w)
    (hm : ∀ w, (Builtin.min_ #[29, 29, 29] 29 #[.int .i64 x, .int .i64 y, .int .i64 z]).run Try.prog w = .ok (.int .i64 m) w) (w : World) : Calls Try.prog 13 #[PV ⟨x, y, z⟩] w (Ret (.bool r) w) := by
  by_cases h1 : M ≤ 1099511627776
  · by_cases h2 : -1099511627776 ≤ m
    · obtain rfl : r = true := by rw [Hr.out]; simp [h1, h2]
      go_enter Try.func13, Try.ntmps13
      have hp := Hp.start [] w
      go_wp2_with (first
          | ((with_reducible apply sx_box hp); exact za rfl; exact rfl; clear hp; (try clear w1); intro g w1 hp; simp only [zp, zq, z0, z1])
          | ((with_reducible apply sx_load_one hp); exact zt rfl; infer_instance; infer_instance; (first | exact zio rfl | exact LB_get (by omega)); simp only [zp, zq, z0, z1])
          | ((with_reducible apply sx_strip); exact rfl)
          | ((with_reducible apply sx_unwanted); exact rfl; simp only [zp, zq, z0, z1]))
      exact bodyPost_ret (results_one rfl rfl) rfl ⟨rfl, hp.keep⟩
    · obtain rfl : r = false := by rw [Hr.out]; simp [h2]
      go_enter Try.func13, Try.ntmps13
      have hp := Hp.start [] w
      go_wp2_with (first
          | ((with_reducible apply sx_box hp); exact za rfl; exact rfl; clear hp; (try clear w1); intro g w1 hp; simp only [zp, zq, z0, z1])
          | ((with_reducible apply sx_load_one hp); exact zt rfl; infer_instance; infer_instance; (first | exact zio rfl | exact LB_get (by omega)); simp only [zp, zq, z0, z1])
          | ((with_reducible apply sx_strip); exact rfl)
          | ((with_reducible apply sx_unwanted); exact rfl; simp only [zp, zq, z0, z1]))
      exact bodyPost_ret (results_one rfl rfl) rfl ⟨rfl, hp.keep⟩
  · obtain rfl : r = false := by rw [Hr.out]; simp [h1]
    go_enter Try.func13, Try.ntmps13
    have hp := Hp.start [] w
    go_wp2_with (first
          | ((with_reducible apply sx_box hp); exact za rfl; exact rfl; clear hp; (try clear w1); intro g w1 hp; simp only [zp, zq, z0, z1])
          | ((with_reducible apply sx_load_one hp); exact zt rfl; infer_instance; infer_instance; (first | exact zio rfl | exact LB_get (by omega)); simp only [zp, zq, z0, z1]))
    exact bodyPost_ret (results_one rfl rfl) rfl ⟨rfl, hp.keep⟩
theorem limited_any (p : P3) (w : World) : Calls Try.prog 13 #[PV p] w (Ret (.bool p.lim) w) := by
  obtain ⟨x, y, z⟩ := p
  obtain ⟨M, hM, eM⟩ := lim_max3 (P := Try.prog) #[29, 29, 29] 29 x y z
  obtain ⟨m, hm, em⟩ := lim_min3 (P := Try.prog) #[29, 29, 29] 29 x y z
  exact limited_core x y z M m _ (Lib.hid (by unfold P3.lim; rw [decide_eq_decide.2 eM, decide_eq_decide.2 em])) hM hm w
end Go.Proofs.Ytblffafmkpnjdaa
set_option linter.unusedSimpArgs false
set_option linter.unusedVariables false
set_option maxRecDepth 100000
namespace Go.Proofs.Ytblffafmkpnjdaa
open Go Go.RowKit
attribute [local irreducible] wpList

theorem smaller_any (a b : Int) (h : 0 ≤ a ∧ a ≤ b ∨ a ≤ 0 ∧ b ≤ a) (w : World) : Calls Try.prog 15 #[.int .i64 a, .int .i64 b] w (Ret (.bool true) w) := by
  by_cases h1 : 0 ≤ a
  case pos =>
    by_cases h2 : a ≤ b
    case pos =>
      clear h
      go_enter Try.func15, Try.ntmps15
      have hp := Hp.start [] w
      go_wp2_with (first
          | fail)
      exact bodyPost_ret (results_one rfl rfl) rfl ⟨rfl, hp.keep⟩
    case neg =>
      obtain ⟨h3, h4⟩ := h.resolve_left (fun h => h2 h.2)
      clear h
      go_enter Try.func15, Try.ntmps15
      have hp := Hp.start [] w
      go_wp2_with (first
          | fail)
      exact bodyPost_ret (results_one rfl rfl) rfl ⟨rfl, hp.keep⟩
  case neg =>
    obtain ⟨h3, h4⟩ := h.resolve_left (fun h => h1 h.1)
    clear h
    go_enter Try.func15, Try.ntmps15
    have hp := Hp.start [] w
    go_wp2_with (first
          | fail)
    exact bodyPost_ret (results_one rfl rfl) rfl ⟨rfl, hp.keep⟩
theorem nar_in {t u c : Int} (ht : I64 t) (hu : I64 u) (hc : I64 c) (h : outv t u c = true) :
    outv (nar t c (t * t + u * u)) (nar u c (t * t + u * u)) c = false ∧ I64 (nar t c (t * t + u * u)) ∧ I64 (nar u c (t * t + u * u)) := by
  have hs : c * c < t * t + u * u := of_decide_eq_true h
  obtain ⟨a0, a1, _⟩ := nar_bd ht hc hs
  obtain ⟨b0, b1, _⟩ := nar_bd hu hc hs
  have h1 := sq_fit ht
  have h2 := sq_fit hu
  have h3 := sq_fit hc
  have hs0 : 0 < t * t + u * u := by omega
  have q1 := rt_spec (Int.ediv_nonneg (Int.mul_nonneg h1.1 h3.1) (Int.le_of_lt hs0))
  have q2 := rt_spec (Int.ediv_nonneg (Int.mul_nonneg h2.1 h3.1) (Int.le_of_lt hs0))
  have e1 := Int.ediv_mul_le (t * t * (c * c)) (Int.ne_of_gt hs0)
  have e2 := Int.ediv_mul_le (u * u * (c * c)) (Int.ne_of_gt hs0)
  have e3 : t * t * (c * c) + u * u * (c * c) = c * c * (t * t + u * u) := by rw [← Int.add_mul, Int.mul_comm]
  have e4 : t * t * (c * c) / (t * t + u * u) + u * u * (c * c) / (t * t + u * u) ≤ c * c := by
    refine Int.le_of_mul_le_mul_right ?_ hs0
    rw [Int.add_mul, ← e3]
    omega
  have sq : ∀ a s, nar a c s * nar a c s = rt (a * a * (c * c) / s) * rt (a * a * (c * c) / s) := fun a s => by
    unfold nar
    split
    · rw [Int.neg_mul_neg]
    · rfl
  have bd : ∀ a s, 0 ≤ rt (a * a * (c * c) / s) → rt (a * a * (c * c) / s) ≤ 9223372036854775807 → I64 (nar a c s) := fun a s x y => by
    unfold nar I64
    split <;> omega
  refine ⟨?_, bd _ _ a0 a1, bd _ _ b0 b1⟩
  unfold outv
  rw [sq, sq]
  exact decide_eq_false (by omega)
theorem nar_small {a c s : Int} (ha : I64 a) (hc : I64 c) (hs : c * c < s) : 0 ≤ nar a c s ∧ nar a c s ≤ a ∨ nar a c s ≤ 0 ∧ a ≤ nar a c s := by
  obtain ⟨a0, a1, a2⟩ := nar_bd ha hc hs
  unfold nar
  generalize rt (a * a * (c * c) / s) = r at *
  by_cases h : a < 0
  · rw [if_pos h]
    right
    refine ⟨by omega, ?_⟩
    by_cases h2 : a ≤ -r
    · exact h2
    · have := Int.mul_self_lt_mul_self (a := -a) (b := r) (by omega) (by omega)
      rw [Int.neg_mul_neg] at this
      omega
  · rw [if_neg h]
    left
    refine ⟨a0, ?_⟩
    by_cases h2 : r ≤ a
    · exact h2
    · have := Int.mul_self_lt_mul_self (a := a) (b := r) (by omega) (by omega)
      omega
set_option maxHeartbeats 2000000 in
theorem cones_in (t u c d : Int) (hmx : ∀ w, (Builtin.max_ #[29, 29] 29 #[.int .i64 c, .int .i64 0]).run Try.prog w = .ok (.int .i64 d) w)
    (CO : Hid (∀ w, Calls Try.prog 14 #[.int .i64 t, .int .i64 u, .int .i64 c] w (Ret (.tuple #[.int .i64 t, .int .i64 u]) w))) (I1 : Hid (∀ w, Calls Try.prog 11 #[.int .i64 t, .int .i64 u, .int .i64 d] w (Ret (.bool true) w))) (w : World) :
    Calls Try.prog 4 #[.int .i64 t, .int .i64 u, .int .i64 c] w (Ret (.bool true) w) := by
  go_enter Try.func4, Try.ntmps4
  have hp := Hp.start [] w
  go_wp2_with (first
          | ((with_reducible apply sx_guard); (conv => whnf); refine Bx.mk ?_; (try simp only [zp, zq, z0, z1]))
          | ((with_reducible first | refine sx_call hp (CO.out _) ?_ | refine sx_call hp (I1.out _) ?_ | refine sx_call hp (awake23 _) ?_); clear hp; (try clear w1); intro w1 hp))
  exact bodyPost_ret (results_one rfl rfl) rfl ⟨rfl, hp.keep⟩
set_option maxHeartbeats 2000000 in
theorem cones_out (t u c d x y : Int) (hmx : ∀ w, (Builtin.max_ #[29, 29] 29 #[.int .i64 c, .int .i64 0]).run Try.prog w = .ok (.int .i64 d) w)
    (CO : Hid (∀ w, Calls Try.prog 14 #[.int .i64 t, .int .i64 u, .int .i64 c] w (Ret (.tuple #[.int .i64 x, .int .i64 y]) w))) (I1 : Hid (∀ w, Calls Try.prog 11 #[.int .i64 t, .int .i64 u, .int .i64 d] w (Ret (.bool false) w)))
    (I2 : Hid (∀ w, Calls Try.prog 11 #[.int .i64 x, .int .i64 y, .int .i64 d] w (Ret (.bool true) w))) (S1 : Hid (∀ w, Calls Try.prog 15 #[.int .i64 x, .int .i64 t] w (Ret (.bool true) w))) (S2 : Hid (∀ w, Calls Try.prog 15 #[.int .i64 y, .int .i64 u] w (Ret (.bool true) w))) (w : World) :
    Calls Try.prog 4 #[.int .i64 t, .int .i64 u, .int .i64 c] w (Ret (.bool true) w) := by
  go_enter Try.func4, Try.ntmps4
  have hp := Hp.start [] w
  go_wp2_with (first
          | ((with_reducible apply sx_guard); (conv => whnf); refine Bx.mk ?_; (try simp only [zp, zq, z0, z1]))
          | ((with_reducible first | refine sx_call hp (CO.out _) ?_ | refine sx_call hp (I1.out _) ?_ | refine sx_call hp (I2.out _) ?_ | refine sx_call hp (S1.out _) ?_ | refine sx_call hp (S2.out _) ?_ | refine sx_call hp (awake23 _) ?_); clear hp; (try clear w1); intro w1 hp))
  exact bodyPost_ret (results_one rfl rfl) rfl ⟨rfl, hp.keep⟩
theorem cones_law (t : Int) (ht : I64 t) (u : Int) (hu : I64 u) (c : Int) (hc : I64 c) (w : World) : Calls Try.prog 4 #[.int .i64 t, .int .i64 u, .int .i64 c] w (Ret (.bool true) w) := by
  have CO := cone_any t u c ht hu hc
  have hmx := run_max0 (P := Try.prog) #[29, 29] 29 c
  have hd : I64 (if c < 0 then 0 else c) := by
    split
    · unfold I64; omega
    · exact hc
  unfold coneO at CO
  generalize (if c < 0 then 0 else c) = d at *
  have I1 := inside_any t u d ht hu hd
  cases h : outv t u d with
  | false =>
    rw [h] at CO I1
    rw [if_neg (by simp)] at CO
    exact cones_in t u c d hmx (Lib.hid CO) (Lib.hid I1) w
  | true =>
    rw [h] at CO I1
    rw [if_pos rfl] at CO
    obtain ⟨n1, n2, n3⟩ := nar_in ht hu hd h
    have I2 := inside_any _ _ d n2 n3 hd
    rw [n1] at I2
    have hs : d * d < t * t + u * u := of_decide_eq_true h
    exact cones_out t u c d _ _ hmx (Lib.hid CO) (Lib.hid I1) (Lib.hid I2) (Lib.hid (smaller_any _ _ (nar_small ht hd hs))) (Lib.hid (smaller_any _ _ (nar_small hu hd hs))) w
end Go.Proofs.Ytblffafmkpnjdaa
set_option linter.unusedSimpArgs false
set_option linter.unusedVariables false
set_option maxRecDepth 100000
namespace Go.Proofs.Ytblffafmkpnjdaa
open Go Go.RowKit
attribute [local irreducible] wpList

theorem lim_iff (p : P3) : p.lim = true ↔ (p.x ≤ 1099511627776 ∧ p.y ≤ 1099511627776 ∧ p.z ≤ 1099511627776) ∧ (-1099511627776 ≤ p.x ∧ -1099511627776 ≤ p.y ∧ -1099511627776 ≤ p.z) := by
  simp [P3.lim]
theorem clam_lim (v : P3) : v.clam.lim = true := by
  rw [lim_iff]
  have h : ∀ a, -1099511627776 ≤ clampv a (-1099511627776) 1099511627776 ∧ clampv a (-1099511627776) 1099511627776 ≤ 1099511627776 := fun a => clampv_bd (by omega)
  unfold P3.clam
  exact ⟨⟨(h _).2, (h _).2, (h _).2⟩, ⟨(h _).1, (h _).1, (h _).1⟩⟩
theorem clam_same {v : P3} (h : v.lim = true) : v.clam = v := by
  rw [lim_iff] at h
  obtain ⟨x, y, z⟩ := v
  unfold P3.clam clampv
  dsimp only at *
  rw [if_neg (by omega), if_neg (by omega), if_neg (by omega), if_neg (by omega), if_neg (by omega), if_neg (by omega)]
theorem lim_i64 {v : P3} (h : v.lim = true) : v.i64 := by
  rw [lim_iff] at h
  refine ⟨?_, ?_, ?_⟩ <;> unfold I64 <;> omega
theorem cl_0 : cl 0 = 0 := by decide
theorem cadd_zero {v : P3} (h : v.i64) : v.cadd ⟨0, 0, 0⟩ = v := by
  obtain ⟨x, y, z⟩ := v
  unfold P3.cadd
  simp only [Int.add_zero]
  rw [cl_id h.1, cl_id h.2.1, cl_id h.2.2]
theorem cscale_zero (k : Int) : P3.cscale ⟨0, 0, 0⟩ k = ⟨0, 0, 0⟩ := by
  unfold P3.cscale
  simp only [Int.zero_mul, Int.zero_ediv, cl_0]
theorem ccross_zero (r : P3) : P3.ccross r ⟨0, 0, 0⟩ = ⟨0, 0, 0⟩ := by
  unfold P3.ccross
  simp only [Int.mul_zero, Int.sub_zero, Int.zero_ediv, cl_0]
theorem cdot_zero (r : P3) : P3.cdot r ⟨0, 0, 0⟩ = 0 := by
  unfold P3.cdot P3.dot
  simp only [Int.mul_zero, Int.add_zero, Int.zero_ediv, cl_0]
/-- A push of nothing. -/
theorem push_still {b : Inr} (r : P3) (hv : b.v.lim = true) (hs : b.s.lim = true) : b.push r ⟨0, 0, 0⟩ = b := by
  unfold Inr.push
  rw [cscale_zero, ccross_zero, cdot_zero, cdot_zero, cdot_zero, cadd_zero (lim_i64 hv), cadd_zero (lim_i64 hs), clam_same hv, clam_same hs]
set_option maxHeartbeats 4000000 in
theorem once_core (b : Inr) (r p : P3) (x : Inr) (hm : x.m = b.m) (hj : x.p = b.p ∧ x.q = b.q ∧ x.r = b.r)
    (P1 : Hid (∀ w, Calls Try.prog 22 #[NV b, PV r, PV p] w (Ret (NV x) w))) (P2 : Hid (∀ w, Calls Try.prog 22 #[NV x, PV r, .agg #[.int .i64 0, .int .i64 0, .int .i64 0]] w (Ret (NV x) w)))
    (L1 : Hid (∀ w, Calls Try.prog 13 #[PV x.v] w (Ret (.bool true) w))) (L2 : Hid (∀ w, Calls Try.prog 13 #[PV x.s] w (Ret (.bool true) w))) (w : World) :
    Calls Try.prog 7 #[NV b, PV r, PV p] w (Ret (.bool true) w) := by
  obtain ⟨xm, xp, xq, xr, xv, xs⟩ := x
  obtain ⟨hj1, hj2, hj3⟩ := hj
  dsimp only at hm hj1 hj2 hj3
  subst hm hj1 hj2 hj3
  have q9 : ∀ (a b c : P3), decide (a = a ∧ b = b ∧ c = c) = true := fun a b c => decide_eq_true ⟨rfl, rfl, rfl⟩
  go_enter Try.func7, Try.ntmps7
  have hp := Hp.start [] w
  go_wp2_with (first
          | ((with_reducible apply sx_guard); (conv => whnf); refine Bx.mk ?_; (try simp only [zp, zq, z0, z1]))
          | ((with_reducible apply sx_box hp); exact za rfl; exact rfl; clear hp; (try clear w1); intro g w1 hp; simp only [zp, zq, z0, z1])
          | ((with_reducible apply sx_alloc hp); infer_instance; exact rfl; clear hp; (try clear w1); intro g w1 hp; simp only [zp, zq, z0, z1])
          | ((with_reducible apply sx_load_agg hp); exact zt rfl; infer_instance; infer_instance; (first | exact zl rfl | exact LB_le (by omega)); (first | (with_reducible exact LB_set (by omega)) | (simp only [n0, Nat.reduceAdd, n1, n2, n3, n4, n5, n6, n7, n8, n9]; try rfl)); simp only [zp, zq, z0, z1])
          | ((with_reducible apply sx_load_one hp); exact zt rfl; infer_instance; infer_instance; (first | exact zio rfl | exact LB_get (by omega)); simp only [zp, zq, z0, z1])
          | ((with_reducible apply sx_store hp); exact zt rfl; exact za rfl; exact rfl; (first | exact AggTy.size | exact OneTy.size); exact rfl; infer_instance; (first | (with_reducible exact LB_set (by omega)) | (simp only [n0, Nat.reduceAdd, n1, n2, n3, n4, n5, n6, n7, n8, n9]; try rfl)); (first | exact zl rfl | exact LB_le (by omega)); exact rfl; infer_instance; clear hp; (try clear w1); intro w1 hp)
          | ((with_reducible first | refine sx_call hp (P1.out _) ?_ | refine sx_call hp (P2.out _) ?_ | refine sx_call hp (L1.out _) ?_ | refine sx_call hp (L2.out _) ?_ | refine sx_call hp (awake23 _) ?_); clear hp; (try clear w1); intro w1 hp))
  exact bodyPost_ret (results_one rfl rfl) rfl ⟨rfl, hp.keep⟩
theorem once_law (b : Inr) (hb : b.i64) (r : P3) (hr : r.i64) (p : P3) (hp' : p.i64) (w : World) : Calls Try.prog 7 #[NV b, PV r, PV p] w (Ret (.bool true) w) := by
  have hx := push_i64 (b := b) r p hb
  have lv : (b.push r p).v.lim = true := clam_lim _
  have ls : (b.push r p).s.lim = true := clam_lim _
  have P2 := push_any (b.push r p) r ⟨0, 0, 0⟩ hx hr (p3i4 (by omega))
  rw [push_still r lv ls] at P2
  have L1 := limited_any (b.push r p).v
  have L2 := limited_any (b.push r p).s
  rw [lv] at L1
  rw [ls] at L2
  exact once_core b r p (b.push r p) rfl ⟨rfl, rfl, rfl⟩ (Lib.hid (push_any b r p hb hr hp')) (Lib.hid P2) (Lib.hid L1) (Lib.hid L2) w
end Go.Proofs.Ytblffafmkpnjdaa
