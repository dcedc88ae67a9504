/-
  ninepinlaw07.OrientTurns (contract).
-/
import Derived.Test.YtncejckicppeoaaLa
set_option linter.unusedSimpArgs false
set_option linter.unusedVariables false
set_option maxRecDepth 100000
namespace Go.Proofs.Ytncejckicppeoaa
open Go Go.RowKit

theorem sgn_minus (n : Int) : sgn (-n) = -sgn n := by
  unfold sgn
  split <;> split <;> (try split) <;> (try split) <;> omega
theorem side_ba (a b c p : P3) : side b a c p = -side a b c p := by
  unfold side
  rw [← sgn_minus]
  congr 1
  simp only [P3.det, P3.dot, P3.cross, P3.sub]
  grind
theorem side_cb (a b c p : P3) : side a c b p = -side a b c p := by
  unfold side
  rw [← sgn_minus]
  congr 1
  simp only [P3.det, P3.dot, P3.cross, P3.sub]
  grind
theorem side_range (a b c p : P3) : side a b c p = -1 ∨ side a b c p = 0 ∨ side a b c p = 1 := by
  unfold side sgn
  split
  · exact .inl rfl
  · split
    · exact .inr (.inl rfl)
    · exact .inr (.inr rfl)
theorem fineb_perm {l m : List P3} (h : l.Perm m) : fineb l = fineb m := by
  unfold fineb
  rw [Bool.eq_iff_iff, List.all_eq_true, List.all_eq_true]
  exact ⟨fun h' x hx => h' x (h.mem_iff.2 hx), fun h' x hx => h' x (h.mem_iff.1 hx)⟩
theorem turns_core (a b c p : P3) (s e : Int) (hs : (s = -1 ∧ e = 0) ∨ (s = 0 ∧ e = 0) ∨ (s = 1 ∧ e = 0) ∨ (s = 0 ∧ e = 7))
    (H1 : Hid (∀ w, Calls Try.prog 4 #[PV a, PV b, PV c, PV p] w (Ret (.tuple #[.int .i64 s, .int .i64 e]) w)))
    (H2 : Hid (∀ w, Calls Try.prog 4 #[PV b, PV a, PV c, PV p] w (Ret (.tuple #[.int .i64 (-s), .int .i64 e]) w)))
    (H3 : Hid (∀ w, Calls Try.prog 4 #[PV a, PV c, PV b, PV p] w (Ret (.tuple #[.int .i64 (-s), .int .i64 e]) w)))
    (H4 : Hid (∀ w, Calls Try.prog 4 #[PV b, PV c, PV a, PV p] w (Ret (.tuple #[.int .i64 s, .int .i64 e]) w)))
    (H5 : Hid (∀ w, Calls Try.prog 4 #[PV c, PV a, PV b, PV p] w (Ret (.tuple #[.int .i64 s, .int .i64 e]) w))) (w : World) :
    Calls Try.prog 3 #[PV a, PV b, PV c, PV p] w (Ret (.bool true) w) := by
  rcases hs with ⟨rfl, rfl⟩ | ⟨rfl, rfl⟩ | ⟨rfl, rfl⟩ | ⟨rfl, rfl⟩
  · skip
    go_enter Try.func3, Try.ntmps3
    have hp := Hp.start [] w
    go_wp2_with (first
          | ((with_reducible apply sx_box hp); exact (rfl : _ = Value.agg (List.toArray _)); exact rfl; clear hp; (try clear w1); intro g w1 hp; simp only [Act.put, List.setIfInBounds_toArray, List.set_cons_zero, List.set_cons_succ])
          | ((with_reducible apply sx_load_agg hp); exact (rfl : _ = Value.pointer (some (Addr.mk _ _ none))); infer_instance; infer_instance; (first | exact Nat.le_of_ble_eq_true rfl | exact LB_le (by omega)); (first | (with_reducible exact LB_set (by omega)) | (simp only [Nat.zero_add, Nat.reduceAdd, List.take_succ_cons, List.take_zero, List.take_nil, List.drop_succ_cons, List.drop_zero, List.drop_nil, List.nil_append, List.cons_append, List.append_nil]; try rfl)); simp only [Act.put, List.setIfInBounds_toArray, List.set_cons_zero, List.set_cons_succ])
          | ((with_reducible refine sx_call hp (H1.out _) ?_); clear hp; (try clear w1); intro w1 hp)
          | ((with_reducible refine sx_call hp (H2.out _) ?_); clear hp; (try clear w1); intro w1 hp)
          | ((with_reducible refine sx_call hp (H3.out _) ?_); clear hp; (try clear w1); intro w1 hp)
          | ((with_reducible refine sx_call hp (H4.out _) ?_); clear hp; (try clear w1); intro w1 hp)
          | ((with_reducible refine sx_call hp (H5.out _) ?_); clear hp; (try clear w1); intro w1 hp)
          | ((with_reducible refine sx_call hp (awake7 _) ?_); clear hp; (try clear w1); intro w1 hp)
          | ((with_reducible apply sx_strip); exact rfl)
          | ((with_reducible apply sx_unwanted); exact rfl; simp only [Act.put, List.setIfInBounds_toArray, List.set_cons_zero, List.set_cons_succ]))
    exact bodyPost_ret (results_one rfl rfl) rfl ⟨rfl, hp.keep⟩
  · skip
    go_enter Try.func3, Try.ntmps3
    have hp := Hp.start [] w
    go_wp2_with (first
          | ((with_reducible apply sx_box hp); exact (rfl : _ = Value.agg (List.toArray _)); exact rfl; clear hp; (try clear w1); intro g w1 hp; simp only [Act.put, List.setIfInBounds_toArray, List.set_cons_zero, List.set_cons_succ])
          | ((with_reducible apply sx_load_agg hp); exact (rfl : _ = Value.pointer (some (Addr.mk _ _ none))); infer_instance; infer_instance; (first | exact Nat.le_of_ble_eq_true rfl | exact LB_le (by omega)); (first | (with_reducible exact LB_set (by omega)) | (simp only [Nat.zero_add, Nat.reduceAdd, List.take_succ_cons, List.take_zero, List.take_nil, List.drop_succ_cons, List.drop_zero, List.drop_nil, List.nil_append, List.cons_append, List.append_nil]; try rfl)); simp only [Act.put, List.setIfInBounds_toArray, List.set_cons_zero, List.set_cons_succ])
          | ((with_reducible refine sx_call hp (H1.out _) ?_); clear hp; (try clear w1); intro w1 hp)
          | ((with_reducible refine sx_call hp (H2.out _) ?_); clear hp; (try clear w1); intro w1 hp)
          | ((with_reducible refine sx_call hp (H3.out _) ?_); clear hp; (try clear w1); intro w1 hp)
          | ((with_reducible refine sx_call hp (H4.out _) ?_); clear hp; (try clear w1); intro w1 hp)
          | ((with_reducible refine sx_call hp (H5.out _) ?_); clear hp; (try clear w1); intro w1 hp)
          | ((with_reducible refine sx_call hp (awake7 _) ?_); clear hp; (try clear w1); intro w1 hp)
          | ((with_reducible apply sx_strip); exact rfl)
          | ((with_reducible apply sx_unwanted); exact rfl; simp only [Act.put, List.setIfInBounds_toArray, List.set_cons_zero, List.set_cons_succ]))
    exact bodyPost_ret (results_one rfl rfl) rfl ⟨rfl, hp.keep⟩
  · skip
    go_enter Try.func3, Try.ntmps3
    have hp := Hp.start [] w
    go_wp2_with (first
          | ((with_reducible apply sx_box hp); exact (rfl : _ = Value.agg (List.toArray _)); exact rfl; clear hp; (try clear w1); intro g w1 hp; simp only [Act.put, List.setIfInBounds_toArray, List.set_cons_zero, List.set_cons_succ])
          | ((with_reducible apply sx_load_agg hp); exact (rfl : _ = Value.pointer (some (Addr.mk _ _ none))); infer_instance; infer_instance; (first | exact Nat.le_of_ble_eq_true rfl | exact LB_le (by omega)); (first | (with_reducible exact LB_set (by omega)) | (simp only [Nat.zero_add, Nat.reduceAdd, List.take_succ_cons, List.take_zero, List.take_nil, List.drop_succ_cons, List.drop_zero, List.drop_nil, List.nil_append, List.cons_append, List.append_nil]; try rfl)); simp only [Act.put, List.setIfInBounds_toArray, List.set_cons_zero, List.set_cons_succ])
          | ((with_reducible refine sx_call hp (H1.out _) ?_); clear hp; (try clear w1); intro w1 hp)
          | ((with_reducible refine sx_call hp (H2.out _) ?_); clear hp; (try clear w1); intro w1 hp)
          | ((with_reducible refine sx_call hp (H3.out _) ?_); clear hp; (try clear w1); intro w1 hp)
          | ((with_reducible refine sx_call hp (H4.out _) ?_); clear hp; (try clear w1); intro w1 hp)
          | ((with_reducible refine sx_call hp (H5.out _) ?_); clear hp; (try clear w1); intro w1 hp)
          | ((with_reducible refine sx_call hp (awake7 _) ?_); clear hp; (try clear w1); intro w1 hp)
          | ((with_reducible apply sx_strip); exact rfl)
          | ((with_reducible apply sx_unwanted); exact rfl; simp only [Act.put, List.setIfInBounds_toArray, List.set_cons_zero, List.set_cons_succ]))
    exact bodyPost_ret (results_one rfl rfl) rfl ⟨rfl, hp.keep⟩
  · skip
    go_enter Try.func3, Try.ntmps3
    have hp := Hp.start [] w
    go_wp2_with (first
          | ((with_reducible apply sx_box hp); exact (rfl : _ = Value.agg (List.toArray _)); exact rfl; clear hp; (try clear w1); intro g w1 hp; simp only [Act.put, List.setIfInBounds_toArray, List.set_cons_zero, List.set_cons_succ])
          | ((with_reducible apply sx_load_agg hp); exact (rfl : _ = Value.pointer (some (Addr.mk _ _ none))); infer_instance; infer_instance; (first | exact Nat.le_of_ble_eq_true rfl | exact LB_le (by omega)); (first | (with_reducible exact LB_set (by omega)) | (simp only [Nat.zero_add, Nat.reduceAdd, List.take_succ_cons, List.take_zero, List.take_nil, List.drop_succ_cons, List.drop_zero, List.drop_nil, List.nil_append, List.cons_append, List.append_nil]; try rfl)); simp only [Act.put, List.setIfInBounds_toArray, List.set_cons_zero, List.set_cons_succ])
          | ((with_reducible refine sx_call hp (H1.out _) ?_); clear hp; (try clear w1); intro w1 hp)
          | ((with_reducible refine sx_call hp (H2.out _) ?_); clear hp; (try clear w1); intro w1 hp)
          | ((with_reducible refine sx_call hp (H3.out _) ?_); clear hp; (try clear w1); intro w1 hp)
          | ((with_reducible refine sx_call hp (H4.out _) ?_); clear hp; (try clear w1); intro w1 hp)
          | ((with_reducible refine sx_call hp (H5.out _) ?_); clear hp; (try clear w1); intro w1 hp)
          | ((with_reducible refine sx_call hp (awake7 _) ?_); clear hp; (try clear w1); intro w1 hp)
          | ((with_reducible apply sx_strip); exact rfl)
          | ((with_reducible apply sx_unwanted); exact rfl; simp only [Act.put, List.setIfInBounds_toArray, List.set_cons_zero, List.set_cons_succ]))
    exact bodyPost_ret (results_one rfl rfl) rfl ⟨rfl, hp.keep⟩
theorem turns_any (a b c p : P3) (w : World) : Calls Try.prog 3 #[PV a, PV b, PV c, PV p] w (Ret (.bool true) w) := by
  have h1 := side_any a b c p
  have h2 := side_any b a c p
  have h3 := side_any a c b p
  have h4 := side_any b c a p
  have h5 := side_any c a b p
  unfold sideV at h1 h2 h3 h4 h5
  rw [fineb_perm (l := [b, a, c, p]) (m := [a, b, c, p]) (List.Perm.swap _ _ _), side_ba] at h2
  rw [fineb_perm (l := [a, c, b, p]) (m := [a, b, c, p]) ((List.Perm.swap _ _ _).cons _), side_cb] at h3
  rw [fineb_perm (l := [b, c, a, p]) (m := [a, b, c, p]) (((List.Perm.swap _ _ _).cons _).trans (List.Perm.swap _ _ _)), side_cb, side_ba, Int.neg_neg] at h4
  rw [fineb_perm (l := [c, a, b, p]) (m := [a, b, c, p]) ((List.Perm.swap _ _ _).trans ((List.Perm.swap _ _ _).cons _)), side_ba, side_cb, Int.neg_neg] at h5
  by_cases hf : fineb [a, b, c, p] = true
  · simp only [if_pos hf] at h1 h2 h3 h4 h5
    exact turns_core a b c p (side a b c p) 0 (by rcases side_range a b c p with h | h | h <;> simp [h]) (Lib.hid h1) (Lib.hid h2) (Lib.hid h3) (Lib.hid h4) (Lib.hid h5) w
  · simp only [if_neg hf] at h1 h2 h3 h4 h5
    exact turns_core a b c p 0 7 (by simp) (Lib.hid h1) (Lib.hid h2) (Lib.hid h3) (Lib.hid h4) (Lib.hid h5) w
theorem turns_law (a : P3) (_ : a.i64) (b : P3) (_ : b.i64) (c : P3) (_ : c.i64) (p : P3) (_ : p.i64) (w : World) : Calls Try.prog 3 #[PV a, PV b, PV c, PV p] w (Ret (.bool true) w) := turns_any a b c p w
end Go.Proofs.Ytncejckicppeoaa
