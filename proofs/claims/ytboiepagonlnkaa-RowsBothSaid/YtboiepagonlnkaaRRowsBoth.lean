/-
  Rows.RowsBothSaid: the mass between two bodies is the same the other way round, and is not below 0; a row that is made whole again is the same.
  ninepinlaw22: RowsBoth (contract).
-/
import Derived.Test.YtboiepagonlnkaaLo
import Derived.Test.YtboiepagonlnkaaRows
import Derived.Test.YtboiepagonlnkaaYl
import Derived.Test.YtboiepagonlnkaaYf
set_option linter.unusedSimpArgs false
set_option linter.unusedVariables false
set_option maxRecDepth 100000
namespace Go.Proofs.Ytboiepagonlnkaa
open Go Go.RowKit
attribute [local irreducible] wpList

theorem btw_comm (a b : Inr) (ra rb d : P3) : btw b a rb ra d = btw a b ra rb d := by
  unfold btw
  rw [Int.add_comm (resv b rb d)]
theorem btw_nn (a b : Inr) (ra rb d : P3) : 0 ≤ btw a b ra rb d := by
  unfold btw
  split
  · omega
  · rw [dq_pos (by omega) (by unfold I64; omega) (by omega)]
    exact cl_pos (Int.ediv_nonneg (by omega) (by omega))
set_option maxHeartbeats 8000000 in
theorem both_no (a b : Inr) (r : Rw) (gap t m : Int) (hm : decide (m < 0) = false)
    (B1 : Hid (∀ w, Calls Try.prog 14 #[NV a, NV b, PV r.ra, PV r.rb, PV r.n] w (Ret (.int .i64 m) w)))
    (B2 : Hid (∀ w, Calls Try.prog 14 #[NV b, NV a, PV r.rb, PV r.ra, PV r.n] w (Ret (.int .i64 m) w))) (e : Int) (he : (e == 0) = false)
    (M1 : Hid (∀ w, Calls Try.prog 17 #[NV a, NV b, RoV r, .int .i64 gap, .int .i64 t] w (Ret (.tuple #[.agg #[.int .i64 0, .int .i64 0, .int .i64 0, .int .i64 0, .int .i64 0, .int .i64 0, .int .i64 0, .int .i64 0, .int .i64 0, .int .i64 0, .int .i64 0, .int .i64 0, .int .i64 0, .int .i64 0, .int .i64 0, .int .i64 0, .int .i64 0, .int .i64 0, .int .i64 0, .int .i64 0, .int .i64 0, .int .i64 0, .int .i64 0, .int .i64 0, .int .i64 0], .int .i64 e]) w))) (w : World) : Calls Try.prog 6 #[NV a, NV b, RoV r, .int .i64 gap, .int .i64 t] w (Ret (.bool true) w) := by
  go_enter Try.func6, Try.ntmps6
  have hp := Hp.start [] w
  go_wp2_with (first
          | ((with_reducible apply sx_guard); (conv => whnf); refine Bx.mk ?_; (try simp only [zp, zq, z0, z1]))
          | ((with_reducible apply sx_box hp); exact za rfl; exact rfl; clear hp; (try clear w1); intro g w1 hp; simp only [zp, zq, z0, z1])
          | ((with_reducible apply sx_alloc hp); infer_instance; exact rfl; clear hp; (try clear w1); intro g w1 hp; simp only [zp, zq, z0, z1])
          | ((with_reducible apply sx_load_agg hp); exact zt rfl; infer_instance; infer_instance; (first | exact zl rfl | exact LB_le (by omega)); (first | (with_reducible exact LB_set (by omega)) | (simp only [n0, Nat.reduceAdd, n1, n2, n3, n4, n5, n6, n7, n8, n9]; try rfl)); simp only [zp, zq, z0, z1])
          | ((with_reducible apply sx_load_one hp); exact zt rfl; infer_instance; infer_instance; (first | exact zio rfl | exact LB_get (by omega)); simp only [zp, zq, z0, z1])
          | ((with_reducible apply sx_store hp); exact zt rfl; exact za rfl; exact rfl; (first | exact AggTy.size | exact OneTy.size); exact rfl; infer_instance; (first | (with_reducible exact LB_set (by omega)) | (simp only [n0, Nat.reduceAdd, n1, n2, n3, n4, n5, n6, n7, n8, n9]; try rfl)); (first | exact zl rfl | exact LB_le (by omega)); exact rfl; infer_instance; clear hp; (try clear w1); intro w1 hp)
          | ((with_reducible first | refine sx_call hp (B1.out _) ?_ | refine sx_call hp (B2.out _) ?_ | refine sx_call hp (M1.out _) ?_ | refine sx_call hp (awake22 _) ?_); clear hp; (try clear w1); intro w1 hp))
  exact bodyPost_ret (results_one rfl rfl) rfl ⟨rfl, hp.keep⟩
set_option maxHeartbeats 8000000 in
theorem both_yes (a b : Inr) (r : Rw) (gap t m : Int) (hm : decide (m < 0) = false)
    (B1 : Hid (∀ w, Calls Try.prog 14 #[NV a, NV b, PV r.ra, PV r.rb, PV r.n] w (Ret (.int .i64 m) w)))
    (B2 : Hid (∀ w, Calls Try.prog 14 #[NV b, NV a, PV r.rb, PV r.ra, PV r.n] w (Ret (.int .i64 m) w))) (x y : P3) (m1 m2 m3 q : Int)
    (M1 : Hid (∀ w, Calls Try.prog 17 #[NV a, NV b, RoV r, .int .i64 gap, .int .i64 t] w (Ret (.tuple #[.agg #[.int .i64 r.a, .int .i64 r.b, .int .i64 r.n.x, .int .i64 r.n.y, .int .i64 r.n.z, .int .i64 x.x, .int .i64 x.y, .int .i64 x.z, .int .i64 y.x, .int .i64 y.y, .int .i64 y.z, .int .i64 r.ra.x, .int .i64 r.ra.y, .int .i64 r.ra.z, .int .i64 r.rb.x, .int .i64 r.rb.y, .int .i64 r.rb.z, .int .i64 m1, .int .i64 m2, .int .i64 m3, .int .i64 q, .int .i64 r.rub, .int .i64 r.pn, .int .i64 r.pt, .int .i64 r.pu], .int .i64 0]) w)))
    (M2 : Hid (∀ w, Calls Try.prog 17 #[NV a, NV b, .agg #[.int .i64 r.a, .int .i64 r.b, .int .i64 r.n.x, .int .i64 r.n.y, .int .i64 r.n.z, .int .i64 x.x, .int .i64 x.y, .int .i64 x.z, .int .i64 y.x, .int .i64 y.y, .int .i64 y.z, .int .i64 r.ra.x, .int .i64 r.ra.y, .int .i64 r.ra.z, .int .i64 r.rb.x, .int .i64 r.rb.y, .int .i64 r.rb.z, .int .i64 m1, .int .i64 m2, .int .i64 m3, .int .i64 q, .int .i64 r.rub, .int .i64 r.pn, .int .i64 r.pt, .int .i64 r.pu], .int .i64 gap, .int .i64 t] w (Ret (.tuple #[.agg #[.int .i64 r.a, .int .i64 r.b, .int .i64 r.n.x, .int .i64 r.n.y, .int .i64 r.n.z, .int .i64 x.x, .int .i64 x.y, .int .i64 x.z, .int .i64 y.x, .int .i64 y.y, .int .i64 y.z, .int .i64 r.ra.x, .int .i64 r.ra.y, .int .i64 r.ra.z, .int .i64 r.rb.x, .int .i64 r.rb.y, .int .i64 r.rb.z, .int .i64 m1, .int .i64 m2, .int .i64 m3, .int .i64 q, .int .i64 r.rub, .int .i64 r.pn, .int .i64 r.pt, .int .i64 r.pu], .int .i64 0]) w))) (w : World) : Calls Try.prog 6 #[NV a, NV b, RoV r, .int .i64 gap, .int .i64 t] w (Ret (.bool true) w) := by
  go_enter Try.func6, Try.ntmps6
  have hp := Hp.start [] w
  go_wp2_with (first
          | ((with_reducible apply sx_guard); (conv => whnf); refine Bx.mk ?_; (try simp only [zp, zq, z0, z1]))
          | ((with_reducible apply sx_box hp); exact za rfl; exact rfl; clear hp; (try clear w1); intro g w1 hp; simp only [zp, zq, z0, z1])
          | ((with_reducible apply sx_alloc hp); infer_instance; exact rfl; clear hp; (try clear w1); intro g w1 hp; simp only [zp, zq, z0, z1])
          | ((with_reducible apply sx_load_agg hp); exact zt rfl; infer_instance; infer_instance; (first | exact zl rfl | exact LB_le (by omega)); (first | (with_reducible exact LB_set (by omega)) | (simp only [n0, Nat.reduceAdd, n1, n2, n3, n4, n5, n6, n7, n8, n9]; try rfl)); simp only [zp, zq, z0, z1])
          | ((with_reducible apply sx_load_one hp); exact zt rfl; infer_instance; infer_instance; (first | exact zio rfl | exact LB_get (by omega)); simp only [zp, zq, z0, z1])
          | ((with_reducible apply sx_store hp); exact zt rfl; exact za rfl; exact rfl; (first | exact AggTy.size | exact OneTy.size); exact rfl; infer_instance; (first | (with_reducible exact LB_set (by omega)) | (simp only [n0, Nat.reduceAdd, n1, n2, n3, n4, n5, n6, n7, n8, n9]; try rfl)); (first | exact zl rfl | exact LB_le (by omega)); exact rfl; infer_instance; clear hp; (try clear w1); intro w1 hp)
          | ((with_reducible first | refine sx_call hp (B1.out _) ?_ | refine sx_call hp (B2.out _) ?_ | refine sx_call hp (M1.out _) ?_ | refine sx_call hp (M2.out _) ?_ | refine sx_call hp (awake22 _) ?_); clear hp; (try clear w1); intro w1 hp))
  exact bodyPost_ret (results_one rfl rfl) rfl ⟨rfl, hp.keep⟩
theorem both_law (a : Inr) (ha : a.i64) (b : Inr) (hb : b.i64) (r : Rw) (hr : r.i64) (gap : Int) (hg : I64 gap) (t : Int) (ht : I64 t) (w : World) : Calls Try.prog 6 #[NV a, NV b, RoV r, .int .i64 gap, .int .i64 t] w (Ret (.bool true) w) := by
  have B1 := between_row a b r.ra r.rb r.n ha hb hr.2.1 hr.2.2 hr.1
  have B2 := between_row b a r.rb r.ra r.n hb ha hr.2.2 hr.2.1 hr.1
  rw [btw_comm] at B2
  have hm : decide (btw a b r.ra r.rb r.n < 0) = false := decide_eq_false (by have := btw_nn a b r.ra r.rb r.n; omega)
  have M1 := make_any a b r gap t ha hb hr hg ht
  have M2 := make_any a b (rowM a b r gap t) gap t ha hb hr hg ht
  have e2 : makeO a b (rowM a b r gap t) gap t = makeO a b r gap t := rfl
  rw [e2] at M2
  clear e2
  unfold makeO at M1 M2
  by_cases h0 : (frO r.n).2.2 = 0
  · by_cases h1 : (aimO gap t).2 = 0
    · rw [if_pos h0, if_pos h1] at M1 M2
      exact both_yes a b r gap t _ hm (Lib.hid B1) (Lib.hid B2) _ _ _ _ _ _ (Lib.hid M1) (Lib.hid M2) w
    · rw [if_pos h0, if_neg h1] at M1
      exact both_no a b r gap t _ hm (Lib.hid B1) (Lib.hid B2) _ (by simpa using h1) (Lib.hid M1) w
  · rw [if_neg h0] at M1
    exact both_no a b r gap t _ hm (Lib.hid B1) (Lib.hid B2) _ (by simpa using h0) (Lib.hid M1) w
end Go.Proofs.Ytboiepagonlnkaa
set_option linter.unusedVariables false
namespace Go.Proofs.Ytboiepagonlnkaa
open Go Go.ChangeShapes Go.WideShapes Go.ChangeAt Go.RowKit

set_option maxRecDepth 100000
theorem rowsBoth_c0 : (Rows.rowsBothRow.wf (OpenSpec.ofChange Rows.rowsBothSpec)) = true := by kernel_rfl
theorem rowsBoth_c1 : (laidOutB Try.pinned.checked.prog) = true := by kernel_rfl
theorem rowsBoth_c2 : (mapsRowed Try.pinned.checked.prog) = true := by kernel_rfl
theorem rowsBoth_c3 : (Try.f6.params.all (Try.pinned.checked.prog.readableRec ·)) = true := by kernel_rfl
theorem rowsBoth_c4 : (namedTie Try.pinned.checked.prog Rows.rowsBothRow.named Rows.rowsBothSpec.vars) = true := by kernel_rfl
theorem rowsBoth_c5 : ((Rows.rowsBothRow.stops == [])) = true := by kernel_rfl
theorem rowsBoth_c6 : ((Try.pinned.checked.prog.stops == [])) = true := by kernel_rfl
theorem rowsBoth_c7 : ((Rows.rowsBothRow.knobs == [])) = true := by kernel_rfl
theorem rowsBoth_c8 : ((Try.pinned.checked.prog.stopKnobs == [])) = true := by kernel_rfl
theorem rowsBoth_c9 : ((Rows.rowsBothRow.inPlace == Try.pinned.checked.prog.inPlace 6)) = true := by kernel_rfl
theorem rowsBoth_c10 : ((Rows.rowsBothRow.unfollowed == Try.pinned.checked.prog.unfollowed 6)) = true := by kernel_rfl
theorem rowsBoth_c11 : ((Rows.rowsBothRow.recurses == Try.pinned.checked.prog.recurses 6)) = true := by kernel_rfl
theorem rowsBoth_c12 : ((Rows.rowsBothRow.named == Try.pinned.checked.prog.varsNamed 6)) = true := by kernel_rfl
theorem rowsBoth_c13 : ((Rows.rowsBothRow.maps == (Try.f6.params.toList ++ Rows.rowsBothSpec.plain.varTypes Try.pinned.checked.prog).any (Try.pinned.checked.prog.mapsRec ·))) = true := by kernel_rfl
theorem rowsBoth_c14 : ((Rows.rowsBothRow.ifaces == (Try.f6.params.toList ++ Rows.rowsBothSpec.plain.varTypes Try.pinned.checked.prog).any (Try.pinned.checked.prog.ifacesRec ·))) = true := by kernel_rfl
theorem rowsBoth_c15 : ((Rows.rowsBothRow.mapsOut == Try.pinned.checked.prog.mapsAmong Try.f6.resultTypes.toList)) = true := by kernel_rfl
theorem rowsBoth_c16 : ((Rows.rowsBothRow.loops == (Try.f6.params.toList ++ Rows.rowsBothSpec.plain.varTypes Try.pinned.checked.prog).any (Try.pinned.checked.prog.loopsFrom ·))) = true := by kernel_rfl
theorem rowsBoth_c17 : ((Rows.rowsBothRow.wideKeys == (Try.f6.params.toList ++ Rows.rowsBothSpec.plain.varTypes Try.pinned.checked.prog ++ Try.f6.resultTypes.toList).any (Try.pinned.checked.prog.wideKeysFrom ·))) = true := by kernel_rfl
theorem rowsBoth_c18 : (Rows.rowsBothSpec.vars.all (Try.pinned.checked.prog.varReadable ·)) = true := by kernel_rfl
theorem rowsBoth_c19 : (Try.f6.resultTypes.all (fun t => Try.pinned.checked.prog.readableRec t && decide (t < Try.pinned.checked.prog.types.size))) = true := by kernel_rfl
theorem rowsBoth_c20 : ((Rows.rowsBothRow.ifacesOut == Try.f6.resultTypes.toList.any (Try.pinned.checked.prog.ifacesRec ·))) = true := by kernel_rfl
theorem rowsBoth_c21 : ((Rows.rowsBothRow.loopsOut == Try.f6.resultTypes.toList.any (Try.pinned.checked.prog.loopsFrom ·))) = true := by kernel_rfl
theorem rowsBoth_c22 : ((Rows.rowsBothRow.plainKeys == Try.pinned.checked.prog.plainKeys)) = true := by kernel_rfl
theorem rowsBoth_c23 : (Rows.rowsBothRow.shortTexts.isNone) = true := by kernel_rfl
theorem rowsBoth_c24 : (Try.pinned.checked.prog.stopsHeard) = true := by kernel_rfl
theorem rowsBoth_c25 : (Try.pinned.checked.prog.mayEnter) = true := by kernel_rfl
theorem rowsBoth_c26 : ((Rows.rowsBothRow.lifted == Try.pinned.checked.prog.liftsFinal)) = true := by kernel_rfl
theorem rowsBoth_c27 : ((Try.pinned.checked.prog.make == some Rows.rowsBothRow.make)) = true := by kernel_rfl
theorem rowsBoth_c28 : ((Rows.rowsBothRow.kinds == (if Rows.rowsBothRow.domain.isEmpty then [] else Try.f6.params.toList.map fun t => match Try.pinned.checked.prog.underlying t with | some (.int k) => some k | _ => none))) = true := by kernel_rfl
theorem rowsBoth_c29 : ((Rows.rowsBothRow.pinned == Rows.rowsBothRow.pinnedBy)) = true := by kernel_rfl
theorem rowsBoth_c30 : ((Rows.rowsBothRow.veiled == (Try.f6.params.toList ++ Rows.rowsBothSpec.plain.varTypes Try.pinned.checked.prog ++ Try.f6.resultTypes.toList).any (Try.pinned.checked.prog.veiledRec ·))) = true := by kernel_rfl
theorem rowsBoth_c31 : (Rows.rowsBothRow.veiledFits Try.pinned.checked.prog Try.f6.params.toList (Try.f6.params.toList ++ Rows.rowsBothSpec.plain.varTypes Try.pinned.checked.prog ++ Try.f6.resultTypes.toList)) = true := by kernel_rfl
theorem rowsBoth_closed : joinedFacts Try.pinned.checked.prog 6 Try.f6 Rows.rowsBothSpec Rows.rowsBothRow = true := by
  unfold joinedFacts
  simp only [Bool.and_eq_true]
  exact ⟨⟨⟨⟨⟨⟨⟨⟨⟨⟨⟨⟨⟨⟨⟨⟨⟨⟨⟨⟨⟨⟨⟨⟨⟨⟨⟨⟨⟨⟨⟨rowsBoth_c0, rowsBoth_c1⟩, rowsBoth_c2⟩, rowsBoth_c3⟩, rowsBoth_c4⟩, rowsBoth_c5⟩, rowsBoth_c6⟩, rowsBoth_c7⟩, rowsBoth_c8⟩, rowsBoth_c9⟩, rowsBoth_c10⟩, rowsBoth_c11⟩, rowsBoth_c12⟩, rowsBoth_c13⟩, rowsBoth_c14⟩, rowsBoth_c15⟩, rowsBoth_c16⟩, rowsBoth_c17⟩, rowsBoth_c18⟩, rowsBoth_c19⟩, rowsBoth_c20⟩, rowsBoth_c21⟩, rowsBoth_c22⟩, rowsBoth_c23⟩, rowsBoth_c24⟩, rowsBoth_c25⟩, rowsBoth_c26⟩, rowsBoth_c27⟩, rowsBoth_c28⟩, rowsBoth_c29⟩, rowsBoth_c30⟩, rowsBoth_c31⟩
theorem rowsBoth_lifted (os : Os) (started : os.Started) (H : Type) (enc : TypeId × Value → H) :
    ReturnsInHanded {} Try.checked os 6 .any (Rows.rowsBothSpec.pre6 enc Try.prog Try.f6 Rows.rowsBothRow.domain false) (Rows.rowsBothSpec.post enc Try.prog Try.f6 false true false false) := by
  refine returnsInHanded_of_change (C := Try.checked) own started (by kernel_rfl) Try.func6
    (ChangeSpec.witness6 (enc := enc) (C := Try.checked) false ⟨#[], #[.agg #[.int .i64 0, .int .i64 0, .int .i64 0, .int .i64 0, .int .i64 0, .int .i64 0, .int .i64 0, .int .i64 0, .int .i64 0, .int .i64 0, .int .i64 0, .int .i64 0, .int .i64 0, .int .i64 0, .int .i64 0, .int .i64 0], .agg #[.int .i64 0, .int .i64 0, .int .i64 0, .int .i64 0, .int .i64 0, .int .i64 0, .int .i64 0, .int .i64 0, .int .i64 0, .int .i64 0, .int .i64 0, .int .i64 0, .int .i64 0, .int .i64 0, .int .i64 0, .int .i64 0], .agg #[.int .i64 0, .int .i64 0, .int .i64 0, .int .i64 0, .int .i64 0, .int .i64 0, .int .i64 0, .int .i64 0, .int .i64 0, .int .i64 0, .int .i64 0, .int .i64 0, .int .i64 0, .int .i64 0, .int .i64 0, .int .i64 0, .int .i64 0, .int .i64 0, .int .i64 0, .int .i64 0, .int .i64 0, .int .i64 0, .int .i64 0, .int .i64 0, .int .i64 0], .int .i64 0, .int .i64 0], []⟩ 8 (by kernel_rfl) (by kernel_rfl) (by kernel_rfl) (by kernel_rfl)) ?_
  intro W base args ds gs before hval0 hW hcnd _
  have hval : ∀ (j : Nat) t v, Try.f6.params[j]? = some t → args[j]? = some v → Value.okWide Try.prog W .any base t v := hval0
  have hW' := hW
  obtain ⟨p, q, hA0, hV, rfl, hfz, hnd⟩ := hW
  have hA : DataW.TrodAll enc Try.prog W 0 (fun _ => true) true Try.f6.params.toList args.toList ds p := hA0
  rw [Try.params6] at hA hval
  obtain ⟨v0, vs0, d0, ds0, p0, q0, hargs, rfl, rfl, h0, r0⟩ := trodAll_cons hA
  obtain ⟨v1, vs1, d1, ds1, p1, q1, rfl, rfl, rfl, h1, r1⟩ := trodAll_cons r0
  obtain ⟨v2, vs2, d2, ds2, p2, q2, rfl, rfl, rfl, h2, r2⟩ := trodAll_cons r1
  obtain ⟨v3, vs3, d3, ds3, p3, q3, rfl, rfl, rfl, h3, r3⟩ := trodAll_cons r2
  obtain ⟨v4, vs4, d4, ds4, p4, q4, rfl, rfl, rfl, h4, r4⟩ := trodAll_cons r3
  obtain ⟨rfl, rfl, rfl⟩ := trodAll_nil r4
  obtain rfl : args = #[v0, v1, v2, v3, v4] := by cases args; simp_all
  obtain ⟨rfl, rfl⟩ := trodVars_none hV
  have k0 := h0
  have k1 := h1
  have k2 := h2
  have k3 := h3
  have k4 := h4
  have lt0 : ∀ x ∈ p0, x.block < W.heap.size := by obtain ⟨m, hm⟩ := k0; exact DataW.trod_lt m _ _ _ hm
  have lt1 : ∀ x ∈ p1, x.block < W.heap.size := by obtain ⟨m, hm⟩ := k1; exact DataW.trod_lt m _ _ _ hm
  have lt2 : ∀ x ∈ p2, x.block < W.heap.size := by obtain ⟨m, hm⟩ := k2; exact DataW.trod_lt m _ _ _ hm
  have lt3 : ∀ x ∈ p3, x.block < W.heap.size := by obtain ⟨m, hm⟩ := k3; exact DataW.trod_lt m _ _ _ hm
  have lt4 : ∀ x ∈ p4, x.block < W.heap.size := by obtain ⟨m, hm⟩ := k4; exact DataW.trod_lt m _ _ _ hm
  obtain ⟨a0, rfl, ha0⟩ := open_inert (hval 0 38 v0 rfl rfl) h0
  obtain ⟨a1, rfl, ha1⟩ := open_inert (hval 1 38 v1 rfl rfl) h1
  obtain ⟨a2, rfl, ha2⟩ := open_row (hval 2 47 v2 rfl rfl) h2
  obtain ⟨a3, rfl, ha3⟩ := open_fix (hval 3 22 v3 rfl rfl) h3
  obtain ⟨a4, rfl, ha4⟩ := open_fix (hval 4 22 v4 rfl rfl) h4
  clear hA0 hval0
  refine (both_law a0 ha0 a1 ha1 a2 ha2 a3 ha3 a4 ha4 W).mono fun e W' ⟨he, hk⟩ => ?_
  subst he
  have bel := hk.below
  exact ⟨_, rfl, _, _, _, [], _, [], hW', trodAll_mk1 (shut_bool Try.underlying4 _), (trodAll_cons_mk (Below.trod laidOut (by kernel_rfl) (of_decide_eq_true (by kernel_rfl)) k0 bel lt0) (trodAll_cons_mk (Below.trod laidOut (by kernel_rfl) (of_decide_eq_true (by kernel_rfl)) k1 bel lt1) (trodAll_cons_mk (Below.trod laidOut (by kernel_rfl) (of_decide_eq_true (by kernel_rfl)) k2 bel lt2) (trodAll_cons_mk (Below.trod laidOut (by kernel_rfl) (of_decide_eq_true (by kernel_rfl)) k3 bel lt3) (trodAll_cons_mk (Below.trod laidOut (by kernel_rfl) (of_decide_eq_true (by kernel_rfl)) k4 bel lt4) trodAll_mk0))))), rfl, bel.frame _, fun h => by cases h⟩
theorem rowsBoth_named : Try.pinned.checked.prog.funcNamed Rows.rowsBothRow.func = some 6 := by kernel_rfl
theorem rowsBoth_inst : (Try.f6).isInstance Try.pinned.checked.prog Rows.rowsBothRow.origin Rows.rowsBothRow.targs := of_decide_eq_true (by kernel_rfl)
theorem rowsBoth_wrap : (Try.f6).isWrapper Try.pinned.checked.prog Rows.rowsBothRow.wrapper Rows.rowsBothRow.mainSum := by unfold Func.isWrapper; rw [if_neg (of_decide_eq_false (by kernel_rfl))]; exact ⟨rfl, rfl⟩
theorem rowsBoth_over : Rows.rowsBothRow.holds Try.pinned (OpenSpec.ofChange Rows.rowsBothSpec) :=
  OpenClaim.holds_of_wide 6 Try.f6 rfl rfl rfl rfl rfl rfl rfl ⟨rfl, rfl, rfl, rfl, rfl⟩ rfl rfl rfl rfl rfl rowsBoth_named Try.func6 rowsBoth_closed
    rowsBoth_inst rowsBoth_wrap
    (fun os started H enc _ => rowsBoth_lifted os started H enc)
/-- The statement. -/
theorem rowsBoth_proved : Rows.RowsBothSaid := rowsBoth_over
end Go.Proofs.Ytboiepagonlnkaa
