/-
  Law 23: None (printed by gen_uw.py).
-/
import Derived.Test.YtblffafmkpnjdaaUt
import Derived.Test.YtblffafmkpnjdaaUv
set_option linter.unusedSimpArgs false
set_option linter.unusedVariables false
set_option maxRecDepth 100000
namespace Go.Proofs.Ytblffafmkpnjdaa
open Go Go.RowKit
attribute [local irreducible] wpList

/-- A row that has pushed nothing. -/
def Rw.null (r : Rw) : Rw := { r with pn := 0, pt := 0, pu := 0 }
def nsl (S : List Rw) (k : Nat) : List Value := ((S.take k).map Rw.null).flatMap RVl
theorem nsl_length {S : List Rw} {k : Nat} (h : k ≤ S.length) : (nsl S k).length = k * 25 := by
  unfold nsl
  rw [fl_length RVl 25 RVl_length, List.length_map, List.length_take, Nat.min_eq_left h]
theorem nsl_succ {S : List Rw} {k : Nat} (h : k < S.length) : nsl S (k + 1) = nsl S k ++ RVl (S[k]).null := by
  unfold nsl
  rw [List.take_add_one, List.getElem?_eq_getElem h, List.map_append, List.flatMap_append]
  simp
set_option maxHeartbeats 2000000 in
theorem none_long (s : Int) (b0 b1 : Option Addr) (nb nr c0 c1 : Nat) (h : 20 < (nb : Int) ∨ ¬ 20 < (nb : Int) ∧ 30 < (nr : Int)) (w : World) : Calls Try.prog 6 #[.slice b0 nb c0, .slice b1 nr c1, .int .i64 s] w (Ret (.bool true) w) := by
  rcases h with h | ⟨h, h1⟩
  · skip
    go_enter Try.func6, Try.ntmps6
    have hp := Hp.start [] w
    go_wp2_with (first
          | ((with_reducible apply sx_alloc hp); infer_instance; exact rfl; clear hp; (try clear w1); intro g w1 hp; simp only [zp, zq, z0, z1])
          | ((with_reducible apply sx_load_agg hp); exact zt rfl; infer_instance; infer_instance; (first | exact zl rfl | exact LB_le (by omega)); (first | (with_reducible exact LB_set (by omega)) | (simp only [n0, Nat.reduceAdd, n1, n2, n3, n4, n5, n6, n7, n8, n9]; try rfl)); simp only [zp, zq, z0, z1])
          | ((with_reducible apply sx_store hp); exact zt rfl; (first | exact za rfl | exact zi rfl); exact rfl; (first | exact AggTy.size | exact OneTy.size); exact rfl; infer_instance; (first | (with_reducible exact LB_set (by omega)) | (simp only [n0, Nat.reduceAdd, n1, n2, n3, n4, n5, n6, n7, n8, n9]; try rfl)); (first | exact zl rfl | exact LB_le (by omega)); exact rfl; infer_instance; clear hp; (try clear w1); intro w1 hp)
          | ((with_reducible apply sx_indexAddr); exact zx rfl; exact zk rfl; infer_instance; (first | exact AggTy.size | exact OneTy.size); omega; omega; ((try simp only [m0, Int.reduceToNat, m1, m2, Nat.reduceMul, Nat.reduceAdd, m3, m4, m5, n0]); exact rfl); simp only [zp, zq, z0, z1])
          | ((with_reducible apply sx_load_far hp); exact zt rfl; assumption; infer_instance; assumption; (first | exact zl rfl | omega); simp only [zp, zq, z0, z1])
          | ((with_reducible apply sx_buildSlice hp); infer_instance; (first | exact AggTy.size | exact OneTy.size); infer_instance; exact zl rfl; decide; (first | exact (rfl : _ = numbered 0 [_]) | exact (rfl : _ = numbered 0 [_, _]) | exact (rfl : _ = numbered 0 [_, _, _]) | exact (rfl : _ = numbered 0 [_, _, _, _])); exact rfl; (first | exact (rfl : _ = List.map (fun x : List Value => x.toArray) [_]) | exact (rfl : _ = List.map (fun x : List Value => x.toArray) [_, _]) | exact (rfl : _ = List.map (fun x : List Value => x.toArray) [_, _, _]) | exact (rfl : _ = List.map (fun x : List Value => x.toArray) [_, _, _, _])); (intro l hl <;> simp only [List.mem_cons, List.not_mem_nil, or_false] at hl <;> rcases hl with rfl | rfl | rfl | rfl <;> rfl); exact rfl; clear hp; (try clear w1); intro g w1 hp; simp only [zp, zq, z0, z1])
          | ((with_reducible apply sx_append_nil hp); infer_instance; infer_instance; exact rfl; decide; exact (rfl : _ = Value.slice none 0 0); exact zy rfl; infer_instance; exact rfl; exact rfl; decide; (unfold maxLen; decide); decide; clear hp; (try clear w1); intro g cap junk w1 hl1 hl2 hl3 hp; simp only [zp, zq, z0, z1])
          | ((with_reducible apply sx_append hp); infer_instance; infer_instance; exact rfl; decide; exact zy rfl; (first | exact List.Perm.refl _ | exact List.perm_middle (l₁ := [_]) | exact List.perm_middle (l₁ := [_, _]) | exact List.perm_middle (l₁ := [_, _, _]) | exact List.perm_middle (l₁ := [_, _, _, _]) | exact List.perm_middle (l₁ := [_, _, _, _, _])); (first | exact pcs_length _ | (simp only [List.length_map, Nat.mul_one])); assumption; assumption; assumption; exact zy rfl; infer_instance; exact rfl; exact rfl; decide; (unfold maxLen; omega); omega; clear hp; (try clear w1); intro g cap junk w1 hl1 hl2 hl3 hp; (try dsimp only [List.cons_append, List.nil_append] at hp); simp only [zp, zq, z0, z1])
          | ((with_reducible refine sx_call hp (awake23 _) ?_); clear hp; (try clear w1); intro w1 hp))
    exact bodyPost_ret (results_one rfl rfl) rfl ⟨rfl, hp.keep⟩
  · skip
    go_enter Try.func6, Try.ntmps6
    have hp := Hp.start [] w
    go_wp2_with (first
          | ((with_reducible apply sx_alloc hp); infer_instance; exact rfl; clear hp; (try clear w1); intro g w1 hp; simp only [zp, zq, z0, z1])
          | ((with_reducible apply sx_load_agg hp); exact zt rfl; infer_instance; infer_instance; (first | exact zl rfl | exact LB_le (by omega)); (first | (with_reducible exact LB_set (by omega)) | (simp only [n0, Nat.reduceAdd, n1, n2, n3, n4, n5, n6, n7, n8, n9]; try rfl)); simp only [zp, zq, z0, z1])
          | ((with_reducible apply sx_store hp); exact zt rfl; (first | exact za rfl | exact zi rfl); exact rfl; (first | exact AggTy.size | exact OneTy.size); exact rfl; infer_instance; (first | (with_reducible exact LB_set (by omega)) | (simp only [n0, Nat.reduceAdd, n1, n2, n3, n4, n5, n6, n7, n8, n9]; try rfl)); (first | exact zl rfl | exact LB_le (by omega)); exact rfl; infer_instance; clear hp; (try clear w1); intro w1 hp)
          | ((with_reducible apply sx_indexAddr); exact zx rfl; exact zk rfl; infer_instance; (first | exact AggTy.size | exact OneTy.size); omega; omega; ((try simp only [m0, Int.reduceToNat, m1, m2, Nat.reduceMul, Nat.reduceAdd, m3, m4, m5, n0]); exact rfl); simp only [zp, zq, z0, z1])
          | ((with_reducible apply sx_load_far hp); exact zt rfl; assumption; infer_instance; assumption; (first | exact zl rfl | omega); simp only [zp, zq, z0, z1])
          | ((with_reducible apply sx_buildSlice hp); infer_instance; (first | exact AggTy.size | exact OneTy.size); infer_instance; exact zl rfl; decide; (first | exact (rfl : _ = numbered 0 [_]) | exact (rfl : _ = numbered 0 [_, _]) | exact (rfl : _ = numbered 0 [_, _, _]) | exact (rfl : _ = numbered 0 [_, _, _, _])); exact rfl; (first | exact (rfl : _ = List.map (fun x : List Value => x.toArray) [_]) | exact (rfl : _ = List.map (fun x : List Value => x.toArray) [_, _]) | exact (rfl : _ = List.map (fun x : List Value => x.toArray) [_, _, _]) | exact (rfl : _ = List.map (fun x : List Value => x.toArray) [_, _, _, _])); (intro l hl <;> simp only [List.mem_cons, List.not_mem_nil, or_false] at hl <;> rcases hl with rfl | rfl | rfl | rfl <;> rfl); exact rfl; clear hp; (try clear w1); intro g w1 hp; simp only [zp, zq, z0, z1])
          | ((with_reducible apply sx_append_nil hp); infer_instance; infer_instance; exact rfl; decide; exact (rfl : _ = Value.slice none 0 0); exact zy rfl; infer_instance; exact rfl; exact rfl; decide; (unfold maxLen; decide); decide; clear hp; (try clear w1); intro g cap junk w1 hl1 hl2 hl3 hp; simp only [zp, zq, z0, z1])
          | ((with_reducible apply sx_append hp); infer_instance; infer_instance; exact rfl; decide; exact zy rfl; (first | exact List.Perm.refl _ | exact List.perm_middle (l₁ := [_]) | exact List.perm_middle (l₁ := [_, _]) | exact List.perm_middle (l₁ := [_, _, _]) | exact List.perm_middle (l₁ := [_, _, _, _]) | exact List.perm_middle (l₁ := [_, _, _, _, _])); (first | exact pcs_length _ | (simp only [List.length_map, Nat.mul_one])); assumption; assumption; assumption; exact zy rfl; infer_instance; exact rfl; exact rfl; decide; (unfold maxLen; omega); omega; clear hp; (try clear w1); intro g cap junk w1 hl1 hl2 hl3 hp; (try dsimp only [List.cons_append, List.nil_append] at hp); simp only [zp, zq, z0, z1])
          | ((with_reducible refine sx_call hp (awake23 _) ?_); clear hp; (try clear w1); intro w1 hp))
    exact bodyPost_ret (results_one rfl rfl) rfl ⟨rfl, hp.keep⟩
set_option maxHeartbeats 16000000 in
theorem none_main (s e1 : Int) (b0 b1 : Option Addr) (nb nr c0 c1 : Nat) (h : ¬ 20 < (nb : Int)) (h1 : ¬ 30 < (nr : Int)) (w : World) (L La : List Inr) (S : List Rw)
    (HC : Hid (s < 0 ∧ e1 = 3 ∨ 0 ≤ s ∧ 64 < s ∧ e1 = 3 ∨ 0 ≤ s ∧ s ≤ 64 ∧ e1 = 0 ∧ La = L))
    (SV : Hid (∀ w1, Keep [] w w1 → Calls Try.prog 9 #[.slice b0 nb c0, .slice none 0 0, .int .i64 s] w1 (SolR w1 La [] e1)))
    (FB : Hid (∀ w1, Keep [] w w1 → FSl NVl 16 w1 (.slice b0 nb c0) L)) (FR : Hid (∀ w1, Keep [] w w1 → FSl RVl 25 w1 (.slice b1 nr c1) S))
    (HL1 : Hid (L.length = nb)) (HS1 : Hid (S.length = nr)) (HLB : Hid (L.length ≤ 4294967296)) (HLS : Hid ((S.map Rw.null).length ≤ 4294967296))
    (SW2 : Hid (∀ vr w1, FSl RVl 25 w1 vr (S.map Rw.null) → Keep [] w w1 → (∀ b ∈ L, b.lim) → ∃ (Lb : List Inr) (Sb : List Rw) (e2 : Int), Calls Try.prog 9 #[.slice b0 nb c0, vr, .int .i64 0] w1 (SolR w1 Lb Sb e2) ∧ ((e2 != 0) = true ∨ e2 = 0 ∧ Lb = L ∧ Sb = S.map Rw.null))) :
    Calls Try.prog 6 #[.slice b0 nb c0, .slice b1 nr c1, .int .i64 s] w (Ret (.bool true) w) := by
  go_enter Try.func6, Try.ntmps6
  have hp := Hp.start [] w
  go_upto_region 4 with (first
          | ((with_reducible apply sx_guard); (conv => whnf); refine Bx.mk ?_; (try simp only [zp, zq, z0, z1]))
          | ((with_reducible apply sx_alloc hp); infer_instance; exact rfl; clear hp; (try clear w1); intro g w1 hp; simp only [zp, zq, z0, z1])
          | ((with_reducible apply sx_load_agg hp); exact zt rfl; infer_instance; infer_instance; (first | exact zl rfl | exact LB_le (by omega)); (first | (with_reducible exact LB_set (by omega)) | (simp only [n0, Nat.reduceAdd, n1, n2, n3, n4, n5, n6, n7, n8, n9]; try rfl)); simp only [zp, zq, z0, z1])
          | ((with_reducible apply sx_store hp); exact zt rfl; (first | exact za rfl | exact zi rfl); exact rfl; (first | exact AggTy.size | exact OneTy.size); exact rfl; infer_instance; (first | (with_reducible exact LB_set (by omega)) | (simp only [n0, Nat.reduceAdd, n1, n2, n3, n4, n5, n6, n7, n8, n9]; try rfl)); (first | exact zl rfl | exact LB_le (by omega)); exact rfl; infer_instance; clear hp; (try clear w1); intro w1 hp)
          | ((with_reducible apply sx_indexAddr); exact zx rfl; exact zk rfl; infer_instance; (first | exact AggTy.size | exact OneTy.size); omega; omega; ((try simp only [m0, Int.reduceToNat, m1, m2, Nat.reduceMul, Nat.reduceAdd, m3, m4, m5, n0]); exact rfl); simp only [zp, zq, z0, z1])
          | ((with_reducible apply sx_load_far hp); exact zt rfl; assumption; infer_instance; assumption; (first | exact zl rfl | omega); simp only [zp, zq, z0, z1])
          | ((with_reducible apply sx_buildSlice hp); infer_instance; (first | exact AggTy.size | exact OneTy.size); infer_instance; exact zl rfl; decide; (first | exact (rfl : _ = numbered 0 [_]) | exact (rfl : _ = numbered 0 [_, _]) | exact (rfl : _ = numbered 0 [_, _, _]) | exact (rfl : _ = numbered 0 [_, _, _, _])); exact rfl; (first | exact (rfl : _ = List.map (fun x : List Value => x.toArray) [_]) | exact (rfl : _ = List.map (fun x : List Value => x.toArray) [_, _]) | exact (rfl : _ = List.map (fun x : List Value => x.toArray) [_, _, _]) | exact (rfl : _ = List.map (fun x : List Value => x.toArray) [_, _, _, _])); (intro l hl <;> simp only [List.mem_cons, List.not_mem_nil, or_false] at hl <;> rcases hl with rfl | rfl | rfl | rfl <;> rfl); exact rfl; clear hp; (try clear w1); intro g w1 hp; simp only [zp, zq, z0, z1])
          | ((with_reducible apply sx_append_nil hp); infer_instance; infer_instance; exact rfl; decide; exact (rfl : _ = Value.slice none 0 0); exact zy rfl; infer_instance; exact rfl; exact rfl; decide; (unfold maxLen; decide); decide; clear hp; (try clear w1); intro g cap junk w1 hl1 hl2 hl3 hp; simp only [zp, zq, z0, z1])
          | ((with_reducible apply sx_append hp); infer_instance; infer_instance; exact rfl; decide; exact zy rfl; (first | exact List.Perm.refl _ | exact List.perm_middle (l₁ := [_]) | exact List.perm_middle (l₁ := [_, _]) | exact List.perm_middle (l₁ := [_, _, _]) | exact List.perm_middle (l₁ := [_, _, _, _]) | exact List.perm_middle (l₁ := [_, _, _, _, _])); (first | exact pcs_length _ | (simp only [List.length_map, Nat.mul_one])); assumption; assumption; assumption; exact zy rfl; infer_instance; exact rfl; exact rfl; decide; (unfold maxLen; omega); omega; clear hp; (try clear w1); intro g cap junk w1 hl1 hl2 hl3 hp; (try dsimp only [List.cons_append, List.nil_append] at hp); simp only [zp, zq, z0, z1])
          | ((with_reducible refine Calls.mono (SV.out _ hp.keep) ?_); (rintro _ w2 ⟨hk, vb, vr, rfl, hb, hr⟩); (have HK := Lib.hid (hp.keep.trans hk)); (obtain ⟨b3, c3, rfl⟩ := hr.shapeN (rfl : ([] : List Rw).length = 0)); (have HB := Lib.hid hb); clear hb hr hk hp; (try clear w1); (have hp := Hp.start [] w2)))
  go_cut [56] (fun t wx => t = .bool false ∧ Hp [] w2 [] wx)
  case first =>
    rcases HC.out with ⟨q1, rfl⟩ | ⟨q1, q2, rfl⟩ | ⟨q1, q2, rfl, rfl⟩
    · have f1 : decide (0 ≤ s) = false := decide_eq_false (by omega)
      clear q1
      go_wp2_with (first
          | ((with_reducible apply sx_guard); (conv => whnf); refine Bx.mk ?_; (try simp only [zp, zq, z0, z1]))
          | ((with_reducible apply sx_alloc hp); infer_instance; exact rfl; clear hp; (try clear w1); intro g w1 hp; simp only [zp, zq, z0, z1])
          | ((with_reducible apply sx_load_agg hp); exact zt rfl; infer_instance; infer_instance; (first | exact zl rfl | exact LB_le (by omega)); (first | (with_reducible exact LB_set (by omega)) | (simp only [n0, Nat.reduceAdd, n1, n2, n3, n4, n5, n6, n7, n8, n9]; try rfl)); simp only [zp, zq, z0, z1])
          | ((with_reducible apply sx_store hp); exact zt rfl; (first | exact za rfl | exact zi rfl); exact rfl; (first | exact AggTy.size | exact OneTy.size); exact rfl; infer_instance; (first | (with_reducible exact LB_set (by omega)) | (simp only [n0, Nat.reduceAdd, n1, n2, n3, n4, n5, n6, n7, n8, n9]; try rfl)); (first | exact zl rfl | exact LB_le (by omega)); exact rfl; infer_instance; clear hp; (try clear w1); intro w1 hp)
          | ((with_reducible apply sx_indexAddr); exact zx rfl; exact zk rfl; infer_instance; (first | exact AggTy.size | exact OneTy.size); omega; omega; ((try simp only [m0, Int.reduceToNat, m1, m2, Nat.reduceMul, Nat.reduceAdd, m3, m4, m5, n0]); exact rfl); simp only [zp, zq, z0, z1])
          | ((with_reducible apply sx_load_far hp); exact zt rfl; assumption; infer_instance; assumption; (first | exact zl rfl | omega); simp only [zp, zq, z0, z1])
          | ((with_reducible apply sx_buildSlice hp); infer_instance; (first | exact AggTy.size | exact OneTy.size); infer_instance; exact zl rfl; decide; (first | exact (rfl : _ = numbered 0 [_]) | exact (rfl : _ = numbered 0 [_, _]) | exact (rfl : _ = numbered 0 [_, _, _]) | exact (rfl : _ = numbered 0 [_, _, _, _])); exact rfl; (first | exact (rfl : _ = List.map (fun x : List Value => x.toArray) [_]) | exact (rfl : _ = List.map (fun x : List Value => x.toArray) [_, _]) | exact (rfl : _ = List.map (fun x : List Value => x.toArray) [_, _, _]) | exact (rfl : _ = List.map (fun x : List Value => x.toArray) [_, _, _, _])); (intro l hl <;> simp only [List.mem_cons, List.not_mem_nil, or_false] at hl <;> rcases hl with rfl | rfl | rfl | rfl <;> rfl); exact rfl; clear hp; (try clear w1); intro g w1 hp; simp only [zp, zq, z0, z1])
          | ((with_reducible apply sx_append_nil hp); infer_instance; infer_instance; exact rfl; decide; exact (rfl : _ = Value.slice none 0 0); exact zy rfl; infer_instance; exact rfl; exact rfl; decide; (unfold maxLen; decide); decide; clear hp; (try clear w1); intro g cap junk w1 hl1 hl2 hl3 hp; simp only [zp, zq, z0, z1])
          | ((with_reducible apply sx_append hp); infer_instance; infer_instance; exact rfl; decide; exact zy rfl; (first | exact List.Perm.refl _ | exact List.perm_middle (l₁ := [_]) | exact List.perm_middle (l₁ := [_, _]) | exact List.perm_middle (l₁ := [_, _, _]) | exact List.perm_middle (l₁ := [_, _, _, _]) | exact List.perm_middle (l₁ := [_, _, _, _, _])); (first | exact pcs_length _ | (simp only [List.length_map, Nat.mul_one])); assumption; assumption; assumption; exact zy rfl; infer_instance; exact rfl; exact rfl; decide; (unfold maxLen; omega); omega; clear hp; (try clear w1); intro g cap junk w1 hl1 hl2 hl3 hp; (try dsimp only [List.cons_append, List.nil_append] at hp); simp only [zp, zq, z0, z1]))
      go_meet
      exact ⟨rfl, hp⟩
    · have f1 : decide (0 ≤ s) = true := decide_eq_true q1
      have f2 : decide (s ≤ 64) = false := decide_eq_false (by omega)
      clear q1 q2
      go_wp2_with (first
          | ((with_reducible apply sx_guard); (conv => whnf); refine Bx.mk ?_; (try simp only [zp, zq, z0, z1]))
          | ((with_reducible apply sx_alloc hp); infer_instance; exact rfl; clear hp; (try clear w1); intro g w1 hp; simp only [zp, zq, z0, z1])
          | ((with_reducible apply sx_load_agg hp); exact zt rfl; infer_instance; infer_instance; (first | exact zl rfl | exact LB_le (by omega)); (first | (with_reducible exact LB_set (by omega)) | (simp only [n0, Nat.reduceAdd, n1, n2, n3, n4, n5, n6, n7, n8, n9]; try rfl)); simp only [zp, zq, z0, z1])
          | ((with_reducible apply sx_store hp); exact zt rfl; (first | exact za rfl | exact zi rfl); exact rfl; (first | exact AggTy.size | exact OneTy.size); exact rfl; infer_instance; (first | (with_reducible exact LB_set (by omega)) | (simp only [n0, Nat.reduceAdd, n1, n2, n3, n4, n5, n6, n7, n8, n9]; try rfl)); (first | exact zl rfl | exact LB_le (by omega)); exact rfl; infer_instance; clear hp; (try clear w1); intro w1 hp)
          | ((with_reducible apply sx_indexAddr); exact zx rfl; exact zk rfl; infer_instance; (first | exact AggTy.size | exact OneTy.size); omega; omega; ((try simp only [m0, Int.reduceToNat, m1, m2, Nat.reduceMul, Nat.reduceAdd, m3, m4, m5, n0]); exact rfl); simp only [zp, zq, z0, z1])
          | ((with_reducible apply sx_load_far hp); exact zt rfl; assumption; infer_instance; assumption; (first | exact zl rfl | omega); simp only [zp, zq, z0, z1])
          | ((with_reducible apply sx_buildSlice hp); infer_instance; (first | exact AggTy.size | exact OneTy.size); infer_instance; exact zl rfl; decide; (first | exact (rfl : _ = numbered 0 [_]) | exact (rfl : _ = numbered 0 [_, _]) | exact (rfl : _ = numbered 0 [_, _, _]) | exact (rfl : _ = numbered 0 [_, _, _, _])); exact rfl; (first | exact (rfl : _ = List.map (fun x : List Value => x.toArray) [_]) | exact (rfl : _ = List.map (fun x : List Value => x.toArray) [_, _]) | exact (rfl : _ = List.map (fun x : List Value => x.toArray) [_, _, _]) | exact (rfl : _ = List.map (fun x : List Value => x.toArray) [_, _, _, _])); (intro l hl <;> simp only [List.mem_cons, List.not_mem_nil, or_false] at hl <;> rcases hl with rfl | rfl | rfl | rfl <;> rfl); exact rfl; clear hp; (try clear w1); intro g w1 hp; simp only [zp, zq, z0, z1])
          | ((with_reducible apply sx_append_nil hp); infer_instance; infer_instance; exact rfl; decide; exact (rfl : _ = Value.slice none 0 0); exact zy rfl; infer_instance; exact rfl; exact rfl; decide; (unfold maxLen; decide); decide; clear hp; (try clear w1); intro g cap junk w1 hl1 hl2 hl3 hp; simp only [zp, zq, z0, z1])
          | ((with_reducible apply sx_append hp); infer_instance; infer_instance; exact rfl; decide; exact zy rfl; (first | exact List.Perm.refl _ | exact List.perm_middle (l₁ := [_]) | exact List.perm_middle (l₁ := [_, _]) | exact List.perm_middle (l₁ := [_, _, _]) | exact List.perm_middle (l₁ := [_, _, _, _]) | exact List.perm_middle (l₁ := [_, _, _, _, _])); (first | exact pcs_length _ | (simp only [List.length_map, Nat.mul_one])); assumption; assumption; assumption; exact zy rfl; infer_instance; exact rfl; exact rfl; decide; (unfold maxLen; omega); omega; clear hp; (try clear w1); intro g cap junk w1 hl1 hl2 hl3 hp; (try dsimp only [List.cons_append, List.nil_append] at hp); simp only [zp, zq, z0, z1]))
      go_meet
      exact ⟨rfl, hp⟩
    · have f1 : decide (0 ≤ s) = true := decide_eq_true q1
      have f2 : decide (s ≤ 64) = true := decide_eq_true q2
      clear q1 q2
      go_wp2_with (first
          | ((with_reducible apply sx_guard); (conv => whnf); refine Bx.mk ?_; (try simp only [zp, zq, z0, z1]))
          | ((with_reducible apply sx_alloc hp); infer_instance; exact rfl; clear hp; (try clear w1); intro g w1 hp; simp only [zp, zq, z0, z1])
          | ((with_reducible apply sx_load_agg hp); exact zt rfl; infer_instance; infer_instance; (first | exact zl rfl | exact LB_le (by omega)); (first | (with_reducible exact LB_set (by omega)) | (simp only [n0, Nat.reduceAdd, n1, n2, n3, n4, n5, n6, n7, n8, n9]; try rfl)); simp only [zp, zq, z0, z1])
          | ((with_reducible apply sx_store hp); exact zt rfl; (first | exact za rfl | exact zi rfl); exact rfl; (first | exact AggTy.size | exact OneTy.size); exact rfl; infer_instance; (first | (with_reducible exact LB_set (by omega)) | (simp only [n0, Nat.reduceAdd, n1, n2, n3, n4, n5, n6, n7, n8, n9]; try rfl)); (first | exact zl rfl | exact LB_le (by omega)); exact rfl; infer_instance; clear hp; (try clear w1); intro w1 hp)
          | ((with_reducible apply sx_indexAddr); exact zx rfl; exact zk rfl; infer_instance; (first | exact AggTy.size | exact OneTy.size); omega; omega; ((try simp only [m0, Int.reduceToNat, m1, m2, Nat.reduceMul, Nat.reduceAdd, m3, m4, m5, n0]); exact rfl); simp only [zp, zq, z0, z1])
          | ((with_reducible apply sx_load_far hp); exact zt rfl; assumption; infer_instance; assumption; (first | exact zl rfl | omega); simp only [zp, zq, z0, z1])
          | ((with_reducible apply sx_buildSlice hp); infer_instance; (first | exact AggTy.size | exact OneTy.size); infer_instance; exact zl rfl; decide; (first | exact (rfl : _ = numbered 0 [_]) | exact (rfl : _ = numbered 0 [_, _]) | exact (rfl : _ = numbered 0 [_, _, _]) | exact (rfl : _ = numbered 0 [_, _, _, _])); exact rfl; (first | exact (rfl : _ = List.map (fun x : List Value => x.toArray) [_]) | exact (rfl : _ = List.map (fun x : List Value => x.toArray) [_, _]) | exact (rfl : _ = List.map (fun x : List Value => x.toArray) [_, _, _]) | exact (rfl : _ = List.map (fun x : List Value => x.toArray) [_, _, _, _])); (intro l hl <;> simp only [List.mem_cons, List.not_mem_nil, or_false] at hl <;> rcases hl with rfl | rfl | rfl | rfl <;> rfl); exact rfl; clear hp; (try clear w1); intro g w1 hp; simp only [zp, zq, z0, z1])
          | ((with_reducible apply sx_append_nil hp); infer_instance; infer_instance; exact rfl; decide; exact (rfl : _ = Value.slice none 0 0); exact zy rfl; infer_instance; exact rfl; exact rfl; decide; (unfold maxLen; decide); decide; clear hp; (try clear w1); intro g cap junk w1 hl1 hl2 hl3 hp; simp only [zp, zq, z0, z1])
          | ((with_reducible apply sx_append hp); infer_instance; infer_instance; exact rfl; decide; exact zy rfl; (first | exact List.Perm.refl _ | exact List.perm_middle (l₁ := [_]) | exact List.perm_middle (l₁ := [_, _]) | exact List.perm_middle (l₁ := [_, _, _]) | exact List.perm_middle (l₁ := [_, _, _, _]) | exact List.perm_middle (l₁ := [_, _, _, _, _])); (first | exact pcs_length _ | (simp only [List.length_map, Nat.mul_one])); assumption; assumption; assumption; exact zy rfl; infer_instance; exact rfl; exact rfl; decide; (unfold maxLen; omega); omega; clear hp; (try clear w1); intro g cap junk w1 hl1 hl2 hl3 hp; (try dsimp only [List.cons_append, List.nil_append] at hp); simp only [zp, zq, z0, z1])
          | ((with_reducible refine sx_call hp (same_bodies _ _ _ HLB.out _ (HB.out.keep hp.keep) (FB.out _ (HK.out.trans hp.keep))) ?_); clear hp; (try clear w1); intro w1 hp))
      go_meet
      exact ⟨rfl, hp⟩
  case rest =>
  clear hp SV HC HB
  obtain ⟨rfl, hp⟩ := hcut
  go_wp2_with (first
          | ((with_reducible apply sx_alloc hp); infer_instance; exact rfl; clear hp; (try clear w1); intro g w1 hp; simp only [zp, zq, z0, z1])
          | ((with_reducible apply sx_load_agg hp); exact zt rfl; infer_instance; infer_instance; (first | exact zl rfl | exact LB_le (by omega)); (first | (with_reducible exact LB_set (by omega)) | (simp only [n0, Nat.reduceAdd, n1, n2, n3, n4, n5, n6, n7, n8, n9]; try rfl)); simp only [zp, zq, z0, z1])
          | ((with_reducible apply sx_store hp); exact zt rfl; (first | exact za rfl | exact zi rfl); exact rfl; (first | exact AggTy.size | exact OneTy.size); exact rfl; infer_instance; (first | (with_reducible exact LB_set (by omega)) | (simp only [n0, Nat.reduceAdd, n1, n2, n3, n4, n5, n6, n7, n8, n9]; try rfl)); (first | exact zl rfl | exact LB_le (by omega)); exact rfl; infer_instance; clear hp; (try clear w1); intro w1 hp)
          | ((with_reducible apply sx_indexAddr); exact zx rfl; exact zk rfl; infer_instance; (first | exact AggTy.size | exact OneTy.size); omega; omega; ((try simp only [m0, Int.reduceToNat, m1, m2, Nat.reduceMul, Nat.reduceAdd, m3, m4, m5, n0]); exact rfl); simp only [zp, zq, z0, z1])
          | ((with_reducible apply sx_load_far hp); exact zt rfl; assumption; infer_instance; assumption; (first | exact zl rfl | omega); simp only [zp, zq, z0, z1])
          | ((with_reducible apply sx_buildSlice hp); infer_instance; (first | exact AggTy.size | exact OneTy.size); infer_instance; exact zl rfl; decide; (first | exact (rfl : _ = numbered 0 [_]) | exact (rfl : _ = numbered 0 [_, _]) | exact (rfl : _ = numbered 0 [_, _, _]) | exact (rfl : _ = numbered 0 [_, _, _, _])); exact rfl; (first | exact (rfl : _ = List.map (fun x : List Value => x.toArray) [_]) | exact (rfl : _ = List.map (fun x : List Value => x.toArray) [_, _]) | exact (rfl : _ = List.map (fun x : List Value => x.toArray) [_, _, _]) | exact (rfl : _ = List.map (fun x : List Value => x.toArray) [_, _, _, _])); (intro l hl <;> simp only [List.mem_cons, List.not_mem_nil, or_false] at hl <;> rcases hl with rfl | rfl | rfl | rfl <;> rfl); exact rfl; clear hp; (try clear w1); intro g w1 hp; simp only [zp, zq, z0, z1])
          | ((with_reducible apply sx_append_nil hp); infer_instance; infer_instance; exact rfl; decide; exact (rfl : _ = Value.slice none 0 0); exact zy rfl; infer_instance; exact rfl; exact rfl; decide; (unfold maxLen; decide); decide; clear hp; (try clear w1); intro g cap junk w1 hl1 hl2 hl3 hp; simp only [zp, zq, z0, z1])
          | ((with_reducible apply sx_append hp); infer_instance; infer_instance; exact rfl; decide; exact zy rfl; (first | exact List.Perm.refl _ | exact List.perm_middle (l₁ := [_]) | exact List.perm_middle (l₁ := [_, _]) | exact List.perm_middle (l₁ := [_, _, _]) | exact List.perm_middle (l₁ := [_, _, _, _]) | exact List.perm_middle (l₁ := [_, _, _, _, _])); (first | exact pcs_length _ | (simp only [List.length_map, Nat.mul_one])); assumption; assumption; assumption; exact zy rfl; infer_instance; exact rfl; exact rfl; decide; (unfold maxLen; omega); omega; clear hp; (try clear w1); intro g cap junk w1 hl1 hl2 hl3 hp; (try dsimp only [List.cons_append, List.nil_append] at hp); simp only [zp, zq, z0, z1]))
  go_loopw [10, 11] (fun sv i wr => ∃ (k : Nat) (bo : Option Addr) (cap : Nat), k ≤ nr ∧ i = .int .i64 k ∧ sv = .slice bo k cap ∧ (k = 0 ∧ bo = none ∧ cap = 0 ∧ Hp [] w2 [] wr ∨ ∃ (g : Nat) (junk : List Value), bo = some ⟨g, 0, none⟩ ∧ k ≠ 0 ∧ (nsl S k ++ junk).length = cap * 25 ∧ k ≤ cap ∧ cap ≤ maxLen ∧ Hp [] w2 [⟨g, 33, nsl S k ++ junk⟩] wr)) (fun _ i _ => nr - (intOf i).toNat)
  case atStart => exact ⟨0, none, 0, by omega, rfl, rfl, .inl ⟨rfl, rfl, rfl, hp⟩⟩
  case round =>
    clear hp
    obtain ⟨k, bo, cap, hk, rfl, rfl, hor⟩ := hrel
    by_cases hk1 : k < nr
    · have hk2 : (k : Int) < nr := by omega
      obtain ⟨g1, o1, d1, t1, y1, rfl, hd1, ha1, hl1⟩ := fsl_at (FR.out w2 HK.out) (by omega) RVl_length (by rw [HS1.out]; exact hk1)
      have hks : k < S.length := by rw [HS1.out]; exact hk1
      have HN := Lib.hid (nsl_succ hks)
      have HNL : Hid ((nsl S k).length = k * 25) := Lib.hid (nsl_length (by omega))
      generalize S[k] = r0 at *
      unfold RVl at ha1
      clear hks
      rcases hor with ⟨rfl, rfl, rfl, hp⟩ | ⟨g, junk, rfl, hk0, hjl, hnc, hcm, hp⟩
      · go_wp2_with (first
          | ((with_reducible apply sx_alloc hp); infer_instance; exact rfl; clear hp; (try clear w1); intro g w1 hp; simp only [zp, zq, z0, z1])
          | ((with_reducible apply sx_load_agg hp); exact zt rfl; infer_instance; infer_instance; (first | exact zl rfl | exact LB_le (by omega)); (first | (with_reducible exact LB_set (by omega)) | (simp only [n0, Nat.reduceAdd, n1, n2, n3, n4, n5, n6, n7, n8, n9]; try rfl)); simp only [zp, zq, z0, z1])
          | ((with_reducible apply sx_store hp); exact zt rfl; (first | exact za rfl | exact zi rfl); exact rfl; (first | exact AggTy.size | exact OneTy.size); exact rfl; infer_instance; (first | (with_reducible exact LB_set (by omega)) | (simp only [n0, Nat.reduceAdd, n1, n2, n3, n4, n5, n6, n7, n8, n9]; try rfl)); (first | exact zl rfl | exact LB_le (by omega)); exact rfl; infer_instance; clear hp; (try clear w1); intro w1 hp)
          | ((with_reducible apply sx_indexAddr); exact zx rfl; exact zk rfl; infer_instance; (first | exact AggTy.size | exact OneTy.size); omega; omega; ((try simp only [m0, Int.reduceToNat, m1, m2, Nat.reduceMul, Nat.reduceAdd, m3, m4, m5, n0]); exact rfl); simp only [zp, zq, z0, z1])
          | ((with_reducible apply sx_load_far hp); exact zt rfl; assumption; infer_instance; assumption; (first | exact zl rfl | omega); simp only [zp, zq, z0, z1])
          | ((with_reducible apply sx_buildSlice hp); infer_instance; (first | exact AggTy.size | exact OneTy.size); infer_instance; exact zl rfl; decide; (first | exact (rfl : _ = numbered 0 [_]) | exact (rfl : _ = numbered 0 [_, _]) | exact (rfl : _ = numbered 0 [_, _, _]) | exact (rfl : _ = numbered 0 [_, _, _, _])); exact rfl; (first | exact (rfl : _ = List.map (fun x : List Value => x.toArray) [_]) | exact (rfl : _ = List.map (fun x : List Value => x.toArray) [_, _]) | exact (rfl : _ = List.map (fun x : List Value => x.toArray) [_, _, _]) | exact (rfl : _ = List.map (fun x : List Value => x.toArray) [_, _, _, _])); (intro l hl <;> simp only [List.mem_cons, List.not_mem_nil, or_false] at hl <;> rcases hl with rfl | rfl | rfl | rfl <;> rfl); exact rfl; clear hp; (try clear w1); intro g w1 hp; simp only [zp, zq, z0, z1])
          | ((with_reducible apply sx_append_nil hp); infer_instance; infer_instance; exact rfl; decide; exact (rfl : _ = Value.slice none 0 0); exact zy rfl; infer_instance; exact rfl; exact rfl; decide; (unfold maxLen; decide); decide; clear hp; (try clear w1); intro g cap junk w1 hl1 hl2 hl3 hp; simp only [zp, zq, z0, z1])
          | ((with_reducible apply sx_append hp); infer_instance; infer_instance; exact rfl; decide; exact zy rfl; (first | exact List.Perm.refl _ | exact List.perm_middle (l₁ := [_]) | exact List.perm_middle (l₁ := [_, _]) | exact List.perm_middle (l₁ := [_, _, _]) | exact List.perm_middle (l₁ := [_, _, _, _]) | exact List.perm_middle (l₁ := [_, _, _, _, _])); (first | exact pcs_length _ | (simp only [List.length_map, Nat.mul_one])); assumption; assumption; assumption; exact zy rfl; infer_instance; exact rfl; exact rfl; decide; (unfold maxLen; omega); omega; clear hp; (try clear w1); intro g cap junk w1 hl1 hl2 hl3 hp; (try dsimp only [List.cons_append, List.nil_append] at hp); simp only [zp, zq, z0, z1])
          | ((with_reducible apply sx_append_nil hp); infer_instance; infer_instance; exact rfl; decide; exact (rfl : _ = Value.slice none 0 0); exact zy rfl; infer_instance; exact rfl; exact rfl; decide; (unfold maxLen; omega); omega; clear hp; (try clear w1); intro g cap junk w1 hl1 hl2 hl3 hp; simp only [zp, zq, z0, z1]))
        go_roundw
        case rel =>
          refine ⟨1, some ⟨g, 0, none⟩, cap, by omega, rfl, rfl, .inr ⟨g, junk, rfl, by omega, ?_, hl2, hl3, ?_⟩⟩
          · have e := HN.out
            rw [Nat.zero_add] at e
            rw [e]
            exact hl1
          · have e := HN.out
            rw [Nat.zero_add] at e
            rw [e]
            exact hp.sub (List.Sublist.cons_cons _ (List.nil_sublist _))
        case measure => simp [intOf]; omega
      · go_wp2_with (first
          | ((with_reducible apply sx_alloc hp); infer_instance; exact rfl; clear hp; (try clear w1); intro g w1 hp; simp only [zp, zq, z0, z1])
          | ((with_reducible apply sx_load_agg hp); exact zt rfl; infer_instance; infer_instance; (first | exact zl rfl | exact LB_le (by omega)); (first | (with_reducible exact LB_set (by omega)) | (simp only [n0, Nat.reduceAdd, n1, n2, n3, n4, n5, n6, n7, n8, n9]; try rfl)); simp only [zp, zq, z0, z1])
          | ((with_reducible apply sx_store hp); exact zt rfl; (first | exact za rfl | exact zi rfl); exact rfl; (first | exact AggTy.size | exact OneTy.size); exact rfl; infer_instance; (first | (with_reducible exact LB_set (by omega)) | (simp only [n0, Nat.reduceAdd, n1, n2, n3, n4, n5, n6, n7, n8, n9]; try rfl)); (first | exact zl rfl | exact LB_le (by omega)); exact rfl; infer_instance; clear hp; (try clear w1); intro w1 hp)
          | ((with_reducible apply sx_indexAddr); exact zx rfl; exact zk rfl; infer_instance; (first | exact AggTy.size | exact OneTy.size); omega; omega; ((try simp only [m0, Int.reduceToNat, m1, m2, Nat.reduceMul, Nat.reduceAdd, m3, m4, m5, n0]); exact rfl); simp only [zp, zq, z0, z1])
          | ((with_reducible apply sx_load_far hp); exact zt rfl; assumption; infer_instance; assumption; (first | exact zl rfl | omega); simp only [zp, zq, z0, z1])
          | ((with_reducible apply sx_buildSlice hp); infer_instance; (first | exact AggTy.size | exact OneTy.size); infer_instance; exact zl rfl; decide; (first | exact (rfl : _ = numbered 0 [_]) | exact (rfl : _ = numbered 0 [_, _]) | exact (rfl : _ = numbered 0 [_, _, _]) | exact (rfl : _ = numbered 0 [_, _, _, _])); exact rfl; (first | exact (rfl : _ = List.map (fun x : List Value => x.toArray) [_]) | exact (rfl : _ = List.map (fun x : List Value => x.toArray) [_, _]) | exact (rfl : _ = List.map (fun x : List Value => x.toArray) [_, _, _]) | exact (rfl : _ = List.map (fun x : List Value => x.toArray) [_, _, _, _])); (intro l hl <;> simp only [List.mem_cons, List.not_mem_nil, or_false] at hl <;> rcases hl with rfl | rfl | rfl | rfl <;> rfl); exact rfl; clear hp; (try clear w1); intro g w1 hp; simp only [zp, zq, z0, z1])
          | ((with_reducible apply sx_append_nil hp); infer_instance; infer_instance; exact rfl; decide; exact (rfl : _ = Value.slice none 0 0); exact zy rfl; infer_instance; exact rfl; exact rfl; decide; (unfold maxLen; decide); decide; clear hp; (try clear w1); intro g cap junk w1 hl1 hl2 hl3 hp; simp only [zp, zq, z0, z1])
          | ((with_reducible apply sx_append hp); infer_instance; infer_instance; exact rfl; decide; exact zy rfl; (first | exact List.Perm.refl _ | exact List.perm_middle (l₁ := [_]) | exact List.perm_middle (l₁ := [_, _]) | exact List.perm_middle (l₁ := [_, _, _]) | exact List.perm_middle (l₁ := [_, _, _, _]) | exact List.perm_middle (l₁ := [_, _, _, _, _])); (first | exact pcs_length _ | (simp only [List.length_map, Nat.mul_one])); assumption; assumption; assumption; exact zy rfl; infer_instance; exact rfl; exact rfl; decide; (unfold maxLen; omega); omega; clear hp; (try clear w1); intro g cap junk w1 hl1 hl2 hl3 hp; (try dsimp only [List.cons_append, List.nil_append] at hp); simp only [zp, zq, z0, z1])
          | ((with_reducible apply sx_append (n := k) (m := 1) (size := 25) (cap := cap) (xs := nsl S k) (junk := junk) hp); infer_instance; infer_instance; exact rfl; decide; exact zy rfl; exact List.perm_middle (l₁ := [_, _]); exact HNL.out; assumption; assumption; assumption; exact zy rfl; infer_instance; exact rfl; exact rfl; decide; (unfold maxLen; omega); omega; clear hp; (try clear w1); intro g cap' junk' w1 hl1' hl2' hl3' hp; simp only [zp, zq, z0, z1]))
        go_roundw
        case rel =>
          refine ⟨k + 1, some ⟨g, 0, none⟩, cap', by omega, by go_num, rfl, .inr ⟨g, junk', rfl, by omega, ?_, hl2', hl3', ?_⟩⟩
          · rw [HN.out]
            exact hl1'
          · rw [HN.out]
            exact hp.sub (List.Sublist.cons_cons _ (List.nil_sublist _))
        case measure => simp [intOf]; omega
    · obtain rfl : nr = k := by omega
      have hs : FSl RVl 25 wr (.slice bo nr cap) (S.map Rw.null) ∧ Keep [] w2 wr := by
        have e9 : (S.take nr) = S := List.take_of_length_le (by rw [HS1.out]; exact Nat.le_refl _)
        rcases hor with ⟨h0, rfl, rfl, hp⟩ | ⟨g, junk, rfl, hk0, hjl, hnc, hcm, hp⟩
        · have e8 : S = [] := List.eq_nil_of_length_eq_zero (by rw [HS1.out]; exact h0)
          exact ⟨.inl ⟨by rw [h0], by rw [e8]; rfl⟩, hp.keep⟩
        · have f9 : wr.heap[g]? = some (.cells ((S.map Rw.null).flatMap RVl ++ junk).toArray 33 (0, 0)) := by
            have := hp.blk (g := g)
            unfold nsl at this
            rwa [e9] at this
          exact ⟨FSl.own RVl_length (by rw [List.length_map, HS1.out]) f9, hp.keep⟩
      obtain ⟨w3, hw3⟩ : ∃ x : World, x = wr := ⟨_, rfl⟩
      subst hw3
      have HS := Lib.hid hs.1
      have HK3 := Lib.hid (HK.out.trans hs.2)
      clear hor hs HK
      have hp := Hp.start [] w3
      go_wp2_with (first
          | ((with_reducible apply sx_alloc hp); infer_instance; exact rfl; clear hp; (try clear w1); intro g w1 hp; simp only [zp, zq, z0, z1])
          | ((with_reducible apply sx_load_agg hp); exact zt rfl; infer_instance; infer_instance; (first | exact zl rfl | exact LB_le (by omega)); (first | (with_reducible exact LB_set (by omega)) | (simp only [n0, Nat.reduceAdd, n1, n2, n3, n4, n5, n6, n7, n8, n9]; try rfl)); simp only [zp, zq, z0, z1])
          | ((with_reducible apply sx_store hp); exact zt rfl; (first | exact za rfl | exact zi rfl); exact rfl; (first | exact AggTy.size | exact OneTy.size); exact rfl; infer_instance; (first | (with_reducible exact LB_set (by omega)) | (simp only [n0, Nat.reduceAdd, n1, n2, n3, n4, n5, n6, n7, n8, n9]; try rfl)); (first | exact zl rfl | exact LB_le (by omega)); exact rfl; infer_instance; clear hp; (try clear w1); intro w1 hp)
          | ((with_reducible apply sx_indexAddr); exact zx rfl; exact zk rfl; infer_instance; (first | exact AggTy.size | exact OneTy.size); omega; omega; ((try simp only [m0, Int.reduceToNat, m1, m2, Nat.reduceMul, Nat.reduceAdd, m3, m4, m5, n0]); exact rfl); simp only [zp, zq, z0, z1])
          | ((with_reducible apply sx_load_far hp); exact zt rfl; assumption; infer_instance; assumption; (first | exact zl rfl | omega); simp only [zp, zq, z0, z1])
          | ((with_reducible apply sx_buildSlice hp); infer_instance; (first | exact AggTy.size | exact OneTy.size); infer_instance; exact zl rfl; decide; (first | exact (rfl : _ = numbered 0 [_]) | exact (rfl : _ = numbered 0 [_, _]) | exact (rfl : _ = numbered 0 [_, _, _]) | exact (rfl : _ = numbered 0 [_, _, _, _])); exact rfl; (first | exact (rfl : _ = List.map (fun x : List Value => x.toArray) [_]) | exact (rfl : _ = List.map (fun x : List Value => x.toArray) [_, _]) | exact (rfl : _ = List.map (fun x : List Value => x.toArray) [_, _, _]) | exact (rfl : _ = List.map (fun x : List Value => x.toArray) [_, _, _, _])); (intro l hl <;> simp only [List.mem_cons, List.not_mem_nil, or_false] at hl <;> rcases hl with rfl | rfl | rfl | rfl <;> rfl); exact rfl; clear hp; (try clear w1); intro g w1 hp; simp only [zp, zq, z0, z1])
          | ((with_reducible apply sx_append_nil hp); infer_instance; infer_instance; exact rfl; decide; exact (rfl : _ = Value.slice none 0 0); exact zy rfl; infer_instance; exact rfl; exact rfl; decide; (unfold maxLen; decide); decide; clear hp; (try clear w1); intro g cap junk w1 hl1 hl2 hl3 hp; simp only [zp, zq, z0, z1])
          | ((with_reducible apply sx_append hp); infer_instance; infer_instance; exact rfl; decide; exact zy rfl; (first | exact List.Perm.refl _ | exact List.perm_middle (l₁ := [_]) | exact List.perm_middle (l₁ := [_, _]) | exact List.perm_middle (l₁ := [_, _, _]) | exact List.perm_middle (l₁ := [_, _, _, _]) | exact List.perm_middle (l₁ := [_, _, _, _, _])); (first | exact pcs_length _ | (simp only [List.length_map, Nat.mul_one])); assumption; assumption; assumption; exact zy rfl; infer_instance; exact rfl; exact rfl; decide; (unfold maxLen; omega); omega; clear hp; (try clear w1); intro g cap junk w1 hl1 hl2 hl3 hp; (try dsimp only [List.cons_append, List.nil_append] at hp); simp only [zp, zq, z0, z1]))
      clear hk hk1
      go_loopw [13] (fun i wx => ∃ k : Nat, k ≤ nb ∧ i = .int .i64 k ∧ (∀ j, j < k → (gb L j).lim) ∧ Hp [] w3 [] wx) (fun i _ => nb - (intOf i).toNat)
      case atStart => exact ⟨0, by omega, rfl, (fun j hj => by omega), hp⟩
      case round =>
        clear hp
        obtain ⟨k, hk, rfl, hall, hp⟩ := hrel
        by_cases hk1 : k < nb
        · have hk2 : (k : Int) < nb := by omega
          obtain ⟨g1, o1, d1, t1, y1, rfl, hd1, ha1, hl1⟩ := fsl_at (FB.out w3 HK3.out) (by omega) NVl_length (by rw [HL1.out]; exact hk1)
          have hkl : k < L.length := by rw [HL1.out]; exact hk1
          have HA : Hid ((gb L k).lim → ∀ j, j < k + 1 → (gb L j).lim) := Lib.hid fun hl j hj => by
            by_cases e : j = k
            · rw [e]; exact hl
            · exact hall j (by omega)
          have hg : gb L k = L[k] := getD_eq hkl
          rw [hg] at HA
          generalize L[k] = bb at *
          have xv : (d1.drop (o1 + k * 16 + 10)).take 3 = [.int .i64 bb.v.x, .int .i64 bb.v.y, .int .i64 bb.v.z] := part_of 10 3 ha1 (by omega) rfl
          have xs : (d1.drop (o1 + k * 16 + 13)).take 3 = [.int .i64 bb.s.x, .int .i64 bb.s.y, .int .i64 bb.s.z] := part_of 13 3 ha1 (by omega) rfl
          have CV := Lib.hid (limited_any bb.v)
          have CS := Lib.hid (limited_any bb.s)
          clear ha1 hg hkl hall
          cases f3 : bb.v.lim with
          | false =>
            rw [f3] at CV
            clear f3
            go_wp2_with (first
          | ((with_reducible apply sx_guard); (conv => whnf); refine Bx.mk ?_; (try simp only [zp, zq, z0, z1]))
          | ((with_reducible apply sx_alloc hp); infer_instance; exact rfl; clear hp; (try clear w1); intro g w1 hp; simp only [zp, zq, z0, z1])
          | ((with_reducible apply sx_load_agg hp); exact zt rfl; infer_instance; infer_instance; (first | exact zl rfl | exact LB_le (by omega)); (first | (with_reducible exact LB_set (by omega)) | (simp only [n0, Nat.reduceAdd, n1, n2, n3, n4, n5, n6, n7, n8, n9]; try rfl)); simp only [zp, zq, z0, z1])
          | ((with_reducible apply sx_store hp); exact zt rfl; (first | exact za rfl | exact zi rfl); exact rfl; (first | exact AggTy.size | exact OneTy.size); exact rfl; infer_instance; (first | (with_reducible exact LB_set (by omega)) | (simp only [n0, Nat.reduceAdd, n1, n2, n3, n4, n5, n6, n7, n8, n9]; try rfl)); (first | exact zl rfl | exact LB_le (by omega)); exact rfl; infer_instance; clear hp; (try clear w1); intro w1 hp)
          | ((with_reducible apply sx_indexAddr); exact zx rfl; exact zk rfl; infer_instance; (first | exact AggTy.size | exact OneTy.size); omega; omega; ((try simp only [m0, Int.reduceToNat, m1, m2, Nat.reduceMul, Nat.reduceAdd, m3, m4, m5, n0]); exact rfl); simp only [zp, zq, z0, z1])
          | ((with_reducible apply sx_load_far hp); exact zt rfl; assumption; infer_instance; assumption; (first | exact zl rfl | omega); simp only [zp, zq, z0, z1])
          | ((with_reducible apply sx_buildSlice hp); infer_instance; (first | exact AggTy.size | exact OneTy.size); infer_instance; exact zl rfl; decide; (first | exact (rfl : _ = numbered 0 [_]) | exact (rfl : _ = numbered 0 [_, _]) | exact (rfl : _ = numbered 0 [_, _, _]) | exact (rfl : _ = numbered 0 [_, _, _, _])); exact rfl; (first | exact (rfl : _ = List.map (fun x : List Value => x.toArray) [_]) | exact (rfl : _ = List.map (fun x : List Value => x.toArray) [_, _]) | exact (rfl : _ = List.map (fun x : List Value => x.toArray) [_, _, _]) | exact (rfl : _ = List.map (fun x : List Value => x.toArray) [_, _, _, _])); (intro l hl <;> simp only [List.mem_cons, List.not_mem_nil, or_false] at hl <;> rcases hl with rfl | rfl | rfl | rfl <;> rfl); exact rfl; clear hp; (try clear w1); intro g w1 hp; simp only [zp, zq, z0, z1])
          | ((with_reducible apply sx_append_nil hp); infer_instance; infer_instance; exact rfl; decide; exact (rfl : _ = Value.slice none 0 0); exact zy rfl; infer_instance; exact rfl; exact rfl; decide; (unfold maxLen; decide); decide; clear hp; (try clear w1); intro g cap junk w1 hl1 hl2 hl3 hp; simp only [zp, zq, z0, z1])
          | ((with_reducible apply sx_append hp); infer_instance; infer_instance; exact rfl; decide; exact zy rfl; (first | exact List.Perm.refl _ | exact List.perm_middle (l₁ := [_]) | exact List.perm_middle (l₁ := [_, _]) | exact List.perm_middle (l₁ := [_, _, _]) | exact List.perm_middle (l₁ := [_, _, _, _]) | exact List.perm_middle (l₁ := [_, _, _, _, _])); (first | exact pcs_length _ | (simp only [List.length_map, Nat.mul_one])); assumption; assumption; assumption; exact zy rfl; infer_instance; exact rfl; exact rfl; decide; (unfold maxLen; omega); omega; clear hp; (try clear w1); intro g cap junk w1 hl1 hl2 hl3 hp; (try dsimp only [List.cons_append, List.nil_append] at hp); simp only [zp, zq, z0, z1])
          | ((with_reducible first | refine sx_call hp (CV.out _) ?_ | refine sx_call hp (awake23 _) ?_); clear hp; (try clear w1); intro w1 hp))
            exact bodyPost_ret (results_one rfl rfl) rfl ⟨rfl, HK3.out.trans hp.keep⟩
          | true =>
            rw [f3] at CV
            cases f4 : bb.s.lim with
            | false =>
              rw [f4] at CS
              clear f3 f4
              go_wp2_with (first
          | ((with_reducible apply sx_guard); (conv => whnf); refine Bx.mk ?_; (try simp only [zp, zq, z0, z1]))
          | ((with_reducible apply sx_alloc hp); infer_instance; exact rfl; clear hp; (try clear w1); intro g w1 hp; simp only [zp, zq, z0, z1])
          | ((with_reducible apply sx_load_agg hp); exact zt rfl; infer_instance; infer_instance; (first | exact zl rfl | exact LB_le (by omega)); (first | (with_reducible exact LB_set (by omega)) | (simp only [n0, Nat.reduceAdd, n1, n2, n3, n4, n5, n6, n7, n8, n9]; try rfl)); simp only [zp, zq, z0, z1])
          | ((with_reducible apply sx_store hp); exact zt rfl; (first | exact za rfl | exact zi rfl); exact rfl; (first | exact AggTy.size | exact OneTy.size); exact rfl; infer_instance; (first | (with_reducible exact LB_set (by omega)) | (simp only [n0, Nat.reduceAdd, n1, n2, n3, n4, n5, n6, n7, n8, n9]; try rfl)); (first | exact zl rfl | exact LB_le (by omega)); exact rfl; infer_instance; clear hp; (try clear w1); intro w1 hp)
          | ((with_reducible apply sx_indexAddr); exact zx rfl; exact zk rfl; infer_instance; (first | exact AggTy.size | exact OneTy.size); omega; omega; ((try simp only [m0, Int.reduceToNat, m1, m2, Nat.reduceMul, Nat.reduceAdd, m3, m4, m5, n0]); exact rfl); simp only [zp, zq, z0, z1])
          | ((with_reducible apply sx_load_far hp); exact zt rfl; assumption; infer_instance; assumption; (first | exact zl rfl | omega); simp only [zp, zq, z0, z1])
          | ((with_reducible apply sx_buildSlice hp); infer_instance; (first | exact AggTy.size | exact OneTy.size); infer_instance; exact zl rfl; decide; (first | exact (rfl : _ = numbered 0 [_]) | exact (rfl : _ = numbered 0 [_, _]) | exact (rfl : _ = numbered 0 [_, _, _]) | exact (rfl : _ = numbered 0 [_, _, _, _])); exact rfl; (first | exact (rfl : _ = List.map (fun x : List Value => x.toArray) [_]) | exact (rfl : _ = List.map (fun x : List Value => x.toArray) [_, _]) | exact (rfl : _ = List.map (fun x : List Value => x.toArray) [_, _, _]) | exact (rfl : _ = List.map (fun x : List Value => x.toArray) [_, _, _, _])); (intro l hl <;> simp only [List.mem_cons, List.not_mem_nil, or_false] at hl <;> rcases hl with rfl | rfl | rfl | rfl <;> rfl); exact rfl; clear hp; (try clear w1); intro g w1 hp; simp only [zp, zq, z0, z1])
          | ((with_reducible apply sx_append_nil hp); infer_instance; infer_instance; exact rfl; decide; exact (rfl : _ = Value.slice none 0 0); exact zy rfl; infer_instance; exact rfl; exact rfl; decide; (unfold maxLen; decide); decide; clear hp; (try clear w1); intro g cap junk w1 hl1 hl2 hl3 hp; simp only [zp, zq, z0, z1])
          | ((with_reducible apply sx_append hp); infer_instance; infer_instance; exact rfl; decide; exact zy rfl; (first | exact List.Perm.refl _ | exact List.perm_middle (l₁ := [_]) | exact List.perm_middle (l₁ := [_, _]) | exact List.perm_middle (l₁ := [_, _, _]) | exact List.perm_middle (l₁ := [_, _, _, _]) | exact List.perm_middle (l₁ := [_, _, _, _, _])); (first | exact pcs_length _ | (simp only [List.length_map, Nat.mul_one])); assumption; assumption; assumption; exact zy rfl; infer_instance; exact rfl; exact rfl; decide; (unfold maxLen; omega); omega; clear hp; (try clear w1); intro g cap junk w1 hl1 hl2 hl3 hp; (try dsimp only [List.cons_append, List.nil_append] at hp); simp only [zp, zq, z0, z1])
          | ((with_reducible first | refine sx_call hp (CV.out _) ?_ | refine sx_call hp (CS.out _) ?_ | refine sx_call hp (awake23 _) ?_); clear hp; (try clear w1); intro w1 hp))
              exact bodyPost_ret (results_one rfl rfl) rfl ⟨rfl, HK3.out.trans hp.keep⟩
            | true =>
              rw [f4] at CS
              have HA2 := Lib.hid (HA.out ⟨f3, f4⟩)
              clear f3 f4 HA
              go_wp2_with (first
          | ((with_reducible apply sx_guard); (conv => whnf); refine Bx.mk ?_; (try simp only [zp, zq, z0, z1]))
          | ((with_reducible apply sx_alloc hp); infer_instance; exact rfl; clear hp; (try clear w1); intro g w1 hp; simp only [zp, zq, z0, z1])
          | ((with_reducible apply sx_load_agg hp); exact zt rfl; infer_instance; infer_instance; (first | exact zl rfl | exact LB_le (by omega)); (first | (with_reducible exact LB_set (by omega)) | (simp only [n0, Nat.reduceAdd, n1, n2, n3, n4, n5, n6, n7, n8, n9]; try rfl)); simp only [zp, zq, z0, z1])
          | ((with_reducible apply sx_store hp); exact zt rfl; (first | exact za rfl | exact zi rfl); exact rfl; (first | exact AggTy.size | exact OneTy.size); exact rfl; infer_instance; (first | (with_reducible exact LB_set (by omega)) | (simp only [n0, Nat.reduceAdd, n1, n2, n3, n4, n5, n6, n7, n8, n9]; try rfl)); (first | exact zl rfl | exact LB_le (by omega)); exact rfl; infer_instance; clear hp; (try clear w1); intro w1 hp)
          | ((with_reducible apply sx_indexAddr); exact zx rfl; exact zk rfl; infer_instance; (first | exact AggTy.size | exact OneTy.size); omega; omega; ((try simp only [m0, Int.reduceToNat, m1, m2, Nat.reduceMul, Nat.reduceAdd, m3, m4, m5, n0]); exact rfl); simp only [zp, zq, z0, z1])
          | ((with_reducible apply sx_load_far hp); exact zt rfl; assumption; infer_instance; assumption; (first | exact zl rfl | omega); simp only [zp, zq, z0, z1])
          | ((with_reducible apply sx_buildSlice hp); infer_instance; (first | exact AggTy.size | exact OneTy.size); infer_instance; exact zl rfl; decide; (first | exact (rfl : _ = numbered 0 [_]) | exact (rfl : _ = numbered 0 [_, _]) | exact (rfl : _ = numbered 0 [_, _, _]) | exact (rfl : _ = numbered 0 [_, _, _, _])); exact rfl; (first | exact (rfl : _ = List.map (fun x : List Value => x.toArray) [_]) | exact (rfl : _ = List.map (fun x : List Value => x.toArray) [_, _]) | exact (rfl : _ = List.map (fun x : List Value => x.toArray) [_, _, _]) | exact (rfl : _ = List.map (fun x : List Value => x.toArray) [_, _, _, _])); (intro l hl <;> simp only [List.mem_cons, List.not_mem_nil, or_false] at hl <;> rcases hl with rfl | rfl | rfl | rfl <;> rfl); exact rfl; clear hp; (try clear w1); intro g w1 hp; simp only [zp, zq, z0, z1])
          | ((with_reducible apply sx_append_nil hp); infer_instance; infer_instance; exact rfl; decide; exact (rfl : _ = Value.slice none 0 0); exact zy rfl; infer_instance; exact rfl; exact rfl; decide; (unfold maxLen; decide); decide; clear hp; (try clear w1); intro g cap junk w1 hl1 hl2 hl3 hp; simp only [zp, zq, z0, z1])
          | ((with_reducible apply sx_append hp); infer_instance; infer_instance; exact rfl; decide; exact zy rfl; (first | exact List.Perm.refl _ | exact List.perm_middle (l₁ := [_]) | exact List.perm_middle (l₁ := [_, _]) | exact List.perm_middle (l₁ := [_, _, _]) | exact List.perm_middle (l₁ := [_, _, _, _]) | exact List.perm_middle (l₁ := [_, _, _, _, _])); (first | exact pcs_length _ | (simp only [List.length_map, Nat.mul_one])); assumption; assumption; assumption; exact zy rfl; infer_instance; exact rfl; exact rfl; decide; (unfold maxLen; omega); omega; clear hp; (try clear w1); intro g cap junk w1 hl1 hl2 hl3 hp; (try dsimp only [List.cons_append, List.nil_append] at hp); simp only [zp, zq, z0, z1])
          | ((with_reducible first | refine sx_call hp (CV.out _) ?_ | refine sx_call hp (CS.out _) ?_); clear hp; (try clear w1); intro w1 hp))
              go_roundw
              case rel => exact ⟨k + 1, by omega, by go_num, HA2.out, hp⟩
              case measure => simp [intOf]; omega
        · obtain rfl : k = nb := by omega
          have HA : Hid (∀ b ∈ L, b.lim) := Lib.hid fun b hb => by
            obtain ⟨j, hj, rfl⟩ := List.getElem_of_mem hb
            have h9 := hall j (by rw [← HL1.out]; exact hj)
            have hg : gb L j = L[j] := getD_eq hj
            rwa [hg] at h9
          clear hall
          go_upto_region 20 with (first
          | ((with_reducible apply sx_alloc hp); infer_instance; exact rfl; clear hp; (try clear w1); intro g w1 hp; simp only [zp, zq, z0, z1])
          | ((with_reducible apply sx_load_agg hp); exact zt rfl; infer_instance; infer_instance; (first | exact zl rfl | exact LB_le (by omega)); (first | (with_reducible exact LB_set (by omega)) | (simp only [n0, Nat.reduceAdd, n1, n2, n3, n4, n5, n6, n7, n8, n9]; try rfl)); simp only [zp, zq, z0, z1])
          | ((with_reducible apply sx_store hp); exact zt rfl; (first | exact za rfl | exact zi rfl); exact rfl; (first | exact AggTy.size | exact OneTy.size); exact rfl; infer_instance; (first | (with_reducible exact LB_set (by omega)) | (simp only [n0, Nat.reduceAdd, n1, n2, n3, n4, n5, n6, n7, n8, n9]; try rfl)); (first | exact zl rfl | exact LB_le (by omega)); exact rfl; infer_instance; clear hp; (try clear w1); intro w1 hp)
          | ((with_reducible apply sx_indexAddr); exact zx rfl; exact zk rfl; infer_instance; (first | exact AggTy.size | exact OneTy.size); omega; omega; ((try simp only [m0, Int.reduceToNat, m1, m2, Nat.reduceMul, Nat.reduceAdd, m3, m4, m5, n0]); exact rfl); simp only [zp, zq, z0, z1])
          | ((with_reducible apply sx_load_far hp); exact zt rfl; assumption; infer_instance; assumption; (first | exact zl rfl | omega); simp only [zp, zq, z0, z1])
          | ((with_reducible apply sx_buildSlice hp); infer_instance; (first | exact AggTy.size | exact OneTy.size); infer_instance; exact zl rfl; decide; (first | exact (rfl : _ = numbered 0 [_]) | exact (rfl : _ = numbered 0 [_, _]) | exact (rfl : _ = numbered 0 [_, _, _]) | exact (rfl : _ = numbered 0 [_, _, _, _])); exact rfl; (first | exact (rfl : _ = List.map (fun x : List Value => x.toArray) [_]) | exact (rfl : _ = List.map (fun x : List Value => x.toArray) [_, _]) | exact (rfl : _ = List.map (fun x : List Value => x.toArray) [_, _, _]) | exact (rfl : _ = List.map (fun x : List Value => x.toArray) [_, _, _, _])); (intro l hl <;> simp only [List.mem_cons, List.not_mem_nil, or_false] at hl <;> rcases hl with rfl | rfl | rfl | rfl <;> rfl); exact rfl; clear hp; (try clear w1); intro g w1 hp; simp only [zp, zq, z0, z1])
          | ((with_reducible apply sx_append_nil hp); infer_instance; infer_instance; exact rfl; decide; exact (rfl : _ = Value.slice none 0 0); exact zy rfl; infer_instance; exact rfl; exact rfl; decide; (unfold maxLen; decide); decide; clear hp; (try clear w1); intro g cap junk w1 hl1 hl2 hl3 hp; simp only [zp, zq, z0, z1])
          | ((with_reducible apply sx_append hp); infer_instance; infer_instance; exact rfl; decide; exact zy rfl; (first | exact List.Perm.refl _ | exact List.perm_middle (l₁ := [_]) | exact List.perm_middle (l₁ := [_, _]) | exact List.perm_middle (l₁ := [_, _, _]) | exact List.perm_middle (l₁ := [_, _, _, _]) | exact List.perm_middle (l₁ := [_, _, _, _, _])); (first | exact pcs_length _ | (simp only [List.length_map, Nat.mul_one])); assumption; assumption; assumption; exact zy rfl; infer_instance; exact rfl; exact rfl; decide; (unfold maxLen; omega); omega; clear hp; (try clear w1); intro g cap junk w1 hl1 hl2 hl3 hp; (try dsimp only [List.cons_append, List.nil_append] at hp); simp only [zp, zq, z0, z1]))
          have HS2 := HS.out.keep hp.keep
          have HK5 := HK3.out.trans hp.keep
          obtain ⟨Lb, Sb, e2, SC, hcase⟩ := SW2.out _ _ HS2 HK5 HA.out
          have HSC := Lib.hid SC
          have HS5 := Lib.hid HS2
          have HK6 := Lib.hid HK5
          clear SC HS2 HK5
          rcases hcase with he2 | ⟨rfl, rfl, rfl⟩
          · go_wp2_with (first
          | ((with_reducible apply sx_guard); (conv => whnf); refine Bx.mk ?_; (try simp only [zp, zq, z0, z1]))
          | ((with_reducible apply sx_alloc hp); infer_instance; exact rfl; clear hp; (try clear w1); intro g w1 hp; simp only [zp, zq, z0, z1])
          | ((with_reducible apply sx_load_agg hp); exact zt rfl; infer_instance; infer_instance; (first | exact zl rfl | exact LB_le (by omega)); (first | (with_reducible exact LB_set (by omega)) | (simp only [n0, Nat.reduceAdd, n1, n2, n3, n4, n5, n6, n7, n8, n9]; try rfl)); simp only [zp, zq, z0, z1])
          | ((with_reducible apply sx_store hp); exact zt rfl; (first | exact za rfl | exact zi rfl); exact rfl; (first | exact AggTy.size | exact OneTy.size); exact rfl; infer_instance; (first | (with_reducible exact LB_set (by omega)) | (simp only [n0, Nat.reduceAdd, n1, n2, n3, n4, n5, n6, n7, n8, n9]; try rfl)); (first | exact zl rfl | exact LB_le (by omega)); exact rfl; infer_instance; clear hp; (try clear w1); intro w1 hp)
          | ((with_reducible apply sx_indexAddr); exact zx rfl; exact zk rfl; infer_instance; (first | exact AggTy.size | exact OneTy.size); omega; omega; ((try simp only [m0, Int.reduceToNat, m1, m2, Nat.reduceMul, Nat.reduceAdd, m3, m4, m5, n0]); exact rfl); simp only [zp, zq, z0, z1])
          | ((with_reducible apply sx_load_far hp); exact zt rfl; assumption; infer_instance; assumption; (first | exact zl rfl | omega); simp only [zp, zq, z0, z1])
          | ((with_reducible apply sx_buildSlice hp); infer_instance; (first | exact AggTy.size | exact OneTy.size); infer_instance; exact zl rfl; decide; (first | exact (rfl : _ = numbered 0 [_]) | exact (rfl : _ = numbered 0 [_, _]) | exact (rfl : _ = numbered 0 [_, _, _]) | exact (rfl : _ = numbered 0 [_, _, _, _])); exact rfl; (first | exact (rfl : _ = List.map (fun x : List Value => x.toArray) [_]) | exact (rfl : _ = List.map (fun x : List Value => x.toArray) [_, _]) | exact (rfl : _ = List.map (fun x : List Value => x.toArray) [_, _, _]) | exact (rfl : _ = List.map (fun x : List Value => x.toArray) [_, _, _, _])); (intro l hl <;> simp only [List.mem_cons, List.not_mem_nil, or_false] at hl <;> rcases hl with rfl | rfl | rfl | rfl <;> rfl); exact rfl; clear hp; (try clear w1); intro g w1 hp; simp only [zp, zq, z0, z1])
          | ((with_reducible apply sx_append_nil hp); infer_instance; infer_instance; exact rfl; decide; exact (rfl : _ = Value.slice none 0 0); exact zy rfl; infer_instance; exact rfl; exact rfl; decide; (unfold maxLen; decide); decide; clear hp; (try clear w1); intro g cap junk w1 hl1 hl2 hl3 hp; simp only [zp, zq, z0, z1])
          | ((with_reducible apply sx_append hp); infer_instance; infer_instance; exact rfl; decide; exact zy rfl; (first | exact List.Perm.refl _ | exact List.perm_middle (l₁ := [_]) | exact List.perm_middle (l₁ := [_, _]) | exact List.perm_middle (l₁ := [_, _, _]) | exact List.perm_middle (l₁ := [_, _, _, _]) | exact List.perm_middle (l₁ := [_, _, _, _, _])); (first | exact pcs_length _ | (simp only [List.length_map, Nat.mul_one])); assumption; assumption; assumption; exact zy rfl; infer_instance; exact rfl; exact rfl; decide; (unfold maxLen; omega); omega; clear hp; (try clear w1); intro g cap junk w1 hl1 hl2 hl3 hp; (try dsimp only [List.cons_append, List.nil_append] at hp); simp only [zp, zq, z0, z1])
          | ((with_reducible refine sx_call hp (awake23 _) ?_); clear hp; (try clear w1); intro w1 hp)
          | ((with_reducible refine Calls.mono HSC.out ?_); (rintro _ w4 ⟨hk, vb', vr', rfl, hb, hr⟩); (have HK4 := Lib.hid (HK6.out.trans hk)); (have HS4 := Lib.hid (HS5.out.keep hk)); (have HB4 := Lib.hid hb); (have HR4 := Lib.hid hr); clear hb hr hk hp; (try clear w1); (have hp := Hp.start [] w4)))
            exact bodyPost_ret (results_one rfl rfl) rfl ⟨rfl, HK4.out.trans hp.keep⟩
          · go_wp2_with (first
          | ((with_reducible apply sx_guard); (conv => whnf); refine Bx.mk ?_; (try simp only [zp, zq, z0, z1]))
          | ((with_reducible apply sx_alloc hp); infer_instance; exact rfl; clear hp; (try clear w1); intro g w1 hp; simp only [zp, zq, z0, z1])
          | ((with_reducible apply sx_load_agg hp); exact zt rfl; infer_instance; infer_instance; (first | exact zl rfl | exact LB_le (by omega)); (first | (with_reducible exact LB_set (by omega)) | (simp only [n0, Nat.reduceAdd, n1, n2, n3, n4, n5, n6, n7, n8, n9]; try rfl)); simp only [zp, zq, z0, z1])
          | ((with_reducible apply sx_store hp); exact zt rfl; (first | exact za rfl | exact zi rfl); exact rfl; (first | exact AggTy.size | exact OneTy.size); exact rfl; infer_instance; (first | (with_reducible exact LB_set (by omega)) | (simp only [n0, Nat.reduceAdd, n1, n2, n3, n4, n5, n6, n7, n8, n9]; try rfl)); (first | exact zl rfl | exact LB_le (by omega)); exact rfl; infer_instance; clear hp; (try clear w1); intro w1 hp)
          | ((with_reducible apply sx_indexAddr); exact zx rfl; exact zk rfl; infer_instance; (first | exact AggTy.size | exact OneTy.size); omega; omega; ((try simp only [m0, Int.reduceToNat, m1, m2, Nat.reduceMul, Nat.reduceAdd, m3, m4, m5, n0]); exact rfl); simp only [zp, zq, z0, z1])
          | ((with_reducible apply sx_load_far hp); exact zt rfl; assumption; infer_instance; assumption; (first | exact zl rfl | omega); simp only [zp, zq, z0, z1])
          | ((with_reducible apply sx_buildSlice hp); infer_instance; (first | exact AggTy.size | exact OneTy.size); infer_instance; exact zl rfl; decide; (first | exact (rfl : _ = numbered 0 [_]) | exact (rfl : _ = numbered 0 [_, _]) | exact (rfl : _ = numbered 0 [_, _, _]) | exact (rfl : _ = numbered 0 [_, _, _, _])); exact rfl; (first | exact (rfl : _ = List.map (fun x : List Value => x.toArray) [_]) | exact (rfl : _ = List.map (fun x : List Value => x.toArray) [_, _]) | exact (rfl : _ = List.map (fun x : List Value => x.toArray) [_, _, _]) | exact (rfl : _ = List.map (fun x : List Value => x.toArray) [_, _, _, _])); (intro l hl <;> simp only [List.mem_cons, List.not_mem_nil, or_false] at hl <;> rcases hl with rfl | rfl | rfl | rfl <;> rfl); exact rfl; clear hp; (try clear w1); intro g w1 hp; simp only [zp, zq, z0, z1])
          | ((with_reducible apply sx_append_nil hp); infer_instance; infer_instance; exact rfl; decide; exact (rfl : _ = Value.slice none 0 0); exact zy rfl; infer_instance; exact rfl; exact rfl; decide; (unfold maxLen; decide); decide; clear hp; (try clear w1); intro g cap junk w1 hl1 hl2 hl3 hp; simp only [zp, zq, z0, z1])
          | ((with_reducible apply sx_append hp); infer_instance; infer_instance; exact rfl; decide; exact zy rfl; (first | exact List.Perm.refl _ | exact List.perm_middle (l₁ := [_]) | exact List.perm_middle (l₁ := [_, _]) | exact List.perm_middle (l₁ := [_, _, _]) | exact List.perm_middle (l₁ := [_, _, _, _]) | exact List.perm_middle (l₁ := [_, _, _, _, _])); (first | exact pcs_length _ | (simp only [List.length_map, Nat.mul_one])); assumption; assumption; assumption; exact zy rfl; infer_instance; exact rfl; exact rfl; decide; (unfold maxLen; omega); omega; clear hp; (try clear w1); intro g cap junk w1 hl1 hl2 hl3 hp; (try dsimp only [List.cons_append, List.nil_append] at hp); simp only [zp, zq, z0, z1])
          | ((with_reducible refine sx_call hp (awake23 _) ?_); clear hp; (try clear w1); intro w1 hp)
          | ((with_reducible refine Calls.mono HSC.out ?_); (rintro _ w4 ⟨hk, vb', vr', rfl, hb, hr⟩); (have HK4 := Lib.hid (HK6.out.trans hk)); (have HS4 := Lib.hid (HS5.out.keep hk)); (have HB4 := Lib.hid hb); (have HR4 := Lib.hid hr); clear hb hr hk hp; (try clear w1); (have hp := Hp.start [] w4))
          | ((with_reducible refine sx_call hp (same_bodies _ _ _ HLB.out _ (HB4.out.keep hp.keep) (FB.out _ (HK4.out.trans hp.keep))) ?_); clear hp; (try clear w1); intro w1 hp)
          | ((with_reducible refine sx_call hp (same_rows _ _ _ HLS.out _ (HR4.out.keep hp.keep) (HS4.out.keep hp.keep)) ?_); clear hp; (try clear w1); intro w1 hp))
            exact bodyPost_ret (results_one rfl rfl) rfl ⟨rfl, HK4.out.trans hp.keep⟩
theorem sweep_nil (L : List Inr) : ∀ k, sweepM ([] : List Rw).length k (eachM warmM ([] : List Rw).length (L, [])) = (L, [])
  | 0 => rfl
  | k + 1 => by
    unfold sweepM
    rw [sweep_nil L k]
    rfl
theorem none_law (L : List Inr) (hn : L.length ≤ maxLen) (hL : ∀ x ∈ L, x.i64) {W : World} {v v2 : Value} (h : FSl NVl 16 W v L) (S : List Rw) (hm : S.length ≤ maxLen) (hS : ∀ x ∈ S, x.i64f) (h2 : FSl RVl 25 W v2 S) (s : Int) (hs : I64 s) :
    Calls Try.prog 6 #[v, v2, .int .i64 s] W (Ret (.bool true) W) := by
  obtain ⟨b0, c0, rfl⟩ := h.shape
  obtain ⟨b1, c1, rfl⟩ := h2.shape
  by_cases h20 : 20 < (L.length : Int)
  · exact none_long s b0 b1 _ _ c0 c1 (.inl h20) W
  by_cases h30 : 30 < (S.length : Int)
  · exact none_long s b0 b1 _ _ c0 c1 (.inr ⟨h20, h30⟩) W
  have hc0 : checkM L.length [] = 0 := by
    unfold checkM
    rw [if_neg (by simp; omega)]
    rfl
  have SV : ∃ (e1 : Int) (La : List Inr), (s < 0 ∧ e1 = 3 ∨ 0 ≤ s ∧ 64 < s ∧ e1 = 3 ∨ 0 ≤ s ∧ s ≤ 64 ∧ e1 = 0 ∧ La = L) ∧ ∀ w1, Keep [] W w1 → Calls Try.prog 9 #[.slice b0 L.length c0, .slice none 0 0, .int .i64 s] w1 (SolR w1 La [] e1) := by
    have SV := fun w1 (hk : Keep [] W w1) => solve_any L [] s hL (fun r hr => by cases hr) _ (.slice none 0 0) w1 (h.keep hk) (.inl ⟨rfl, rfl⟩)
    unfold solveM at SV
    by_cases h3 : s < 0 ∨ 64 < s
    · simp only [if_pos h3] at SV
      refine ⟨3, [], ?_, SV⟩
      rcases h3 with h3 | h3
      · exact .inl ⟨h3, rfl⟩
      · exact .inr (.inl ⟨by omega, h3, rfl⟩)
    · simp only [if_neg h3, if_pos hc0, sweep_nil] at SV
      exact ⟨0, L, .inr (.inr ⟨by omega, by omega, rfl, rfl⟩), SV⟩
  obtain ⟨e1, La, HC, SV⟩ := SV
  have z0 : I64 0 := by unfold I64; omega
  refine none_main s e1 b0 b1 _ _ c0 c1 h20 h30 W L La S (Lib.hid HC) (Lib.hid SV) (Lib.hid fun w1 hk => h.keep hk) (Lib.hid fun w1 hk => h2.keep hk) (Lib.hid rfl) (Lib.hid rfl) (Lib.hid (by omega)) (Lib.hid (by rw [List.length_map]; omega)) (Lib.hid fun vr w1 hv hk hl => ?_)
  have hS2 : ∀ r ∈ S.map Rw.null, r.i64f := fun r hr => by
    obtain ⟨q, hq, rfl⟩ := List.mem_map.1 hr
    have := hS q hq
    exact ⟨this.1, this.2.1, this.2.2.1, this.2.2.2.1, this.2.2.2.2.1, this.2.2.2.2.2.1, z0, z0, z0⟩
  refine ⟨_, _, _, solve_any L (S.map Rw.null) 0 hL hS2 _ vr w1 (h.keep hk) hv, ?_⟩
  unfold solveM
  rw [if_neg (by omega)]
  by_cases hc : checkM L.length (S.map Rw.null) = 0
  · rw [if_pos hc]
    have hz : ∀ r ∈ S.map Rw.null, r.pn = 0 ∧ r.pt = 0 ∧ r.pu = 0 := fun r hr => by
      obtain ⟨q, hq, rfl⟩ := List.mem_map.1 hr
      exact ⟨rfl, rfl, rfl⟩
    have e := none_0 hl hz (check_names hc) _ (Nat.le_refl _)
    have e2 : ∀ st, sweepM (S.map Rw.null).length (0 : Int).toNat st = st := fun st => rfl
    rw [e2, e]
    exact .inr ⟨rfl, rfl, rfl⟩
  · rw [if_neg hc]
    exact .inl (by simpa using hc)
end Go.Proofs.Ytblffafmkpnjdaa
