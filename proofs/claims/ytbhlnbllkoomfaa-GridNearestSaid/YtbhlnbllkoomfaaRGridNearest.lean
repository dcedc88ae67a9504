/-
  Rows.GridNearestSaid: a point that may be is rounded to itself, nothing is rounded further off than 2^-17, and rounding keeps the order of numbers.
-/
import Derived.Test.YtbhlnbllkoomfaaFn
import Derived.Test.YtbhlnbllkoomfaaLo
import Derived.Test.YtbhlnbllkoomfaaRows
set_option linter.unusedVariables false
namespace Go.Proofs.Ytbhlnbllkoomfaa
open Go Go.ChangeShapes Go.WideShapes Go.ChangeAt Go.RowKit

set_option maxRecDepth 100000
theorem gridNearest_c0 : (Rows.gridNearestRow.wf (OpenSpec.ofChange Rows.gridNearestSpec)) = true := by kernel_rfl
theorem gridNearest_c1 : (laidOutB Try.pinned.checked.prog) = true := by kernel_rfl
theorem gridNearest_c2 : (mapsRowed Try.pinned.checked.prog) = true := by kernel_rfl
theorem gridNearest_c3 : (Try.f13.params.all (Try.pinned.checked.prog.readableRec ·)) = true := by kernel_rfl
theorem gridNearest_c4 : (namedTie Try.pinned.checked.prog Rows.gridNearestRow.named Rows.gridNearestSpec.vars) = true := by kernel_rfl
theorem gridNearest_c5 : ((Rows.gridNearestRow.stops == [])) = true := by kernel_rfl
theorem gridNearest_c6 : ((Try.pinned.checked.prog.stops == [])) = true := by kernel_rfl
theorem gridNearest_c7 : ((Rows.gridNearestRow.knobs == [])) = true := by kernel_rfl
theorem gridNearest_c8 : ((Try.pinned.checked.prog.stopKnobs == [])) = true := by kernel_rfl
theorem gridNearest_c9 : ((Rows.gridNearestRow.inPlace == Try.pinned.checked.prog.inPlace 13)) = true := by kernel_rfl
theorem gridNearest_c10 : ((Rows.gridNearestRow.unfollowed == Try.pinned.checked.prog.unfollowed 13)) = true := by kernel_rfl
theorem gridNearest_c11 : ((Rows.gridNearestRow.recurses == Try.pinned.checked.prog.recurses 13)) = true := by kernel_rfl
theorem gridNearest_c12 : ((Rows.gridNearestRow.named == Try.pinned.checked.prog.varsNamed 13)) = true := by kernel_rfl
theorem gridNearest_c13 : ((Rows.gridNearestRow.maps == (Try.f13.params.toList ++ Rows.gridNearestSpec.plain.varTypes Try.pinned.checked.prog).any (Try.pinned.checked.prog.mapsRec ·))) = true := by kernel_rfl
theorem gridNearest_c14 : ((Rows.gridNearestRow.ifaces == (Try.f13.params.toList ++ Rows.gridNearestSpec.plain.varTypes Try.pinned.checked.prog).any (Try.pinned.checked.prog.ifacesRec ·))) = true := by kernel_rfl
theorem gridNearest_c15 : ((Rows.gridNearestRow.mapsOut == Try.pinned.checked.prog.mapsAmong Try.f13.resultTypes.toList)) = true := by kernel_rfl
theorem gridNearest_c16 : ((Rows.gridNearestRow.loops == (Try.f13.params.toList ++ Rows.gridNearestSpec.plain.varTypes Try.pinned.checked.prog).any (Try.pinned.checked.prog.loopsFrom ·))) = true := by kernel_rfl
theorem gridNearest_c17 : ((Rows.gridNearestRow.wideKeys == (Try.f13.params.toList ++ Rows.gridNearestSpec.plain.varTypes Try.pinned.checked.prog ++ Try.f13.resultTypes.toList).any (Try.pinned.checked.prog.wideKeysFrom ·))) = true := by kernel_rfl
theorem gridNearest_c18 : (Rows.gridNearestSpec.vars.all (Try.pinned.checked.prog.varReadable ·)) = true := by kernel_rfl
theorem gridNearest_c19 : (Try.f13.resultTypes.all (fun t => Try.pinned.checked.prog.readableRec t && decide (t < Try.pinned.checked.prog.types.size))) = true := by kernel_rfl
theorem gridNearest_c20 : ((Rows.gridNearestRow.ifacesOut == Try.f13.resultTypes.toList.any (Try.pinned.checked.prog.ifacesRec ·))) = true := by kernel_rfl
theorem gridNearest_c21 : ((Rows.gridNearestRow.loopsOut == Try.f13.resultTypes.toList.any (Try.pinned.checked.prog.loopsFrom ·))) = true := by kernel_rfl
theorem gridNearest_c22 : ((Rows.gridNearestRow.plainKeys == Try.pinned.checked.prog.plainKeys)) = true := by kernel_rfl
theorem gridNearest_c23 : (Rows.gridNearestRow.shortTexts.isNone) = true := by kernel_rfl
theorem gridNearest_c24 : (Try.pinned.checked.prog.stopsHeard) = true := by kernel_rfl
theorem gridNearest_c25 : (Try.pinned.checked.prog.mayEnter) = true := by kernel_rfl
theorem gridNearest_c26 : ((Rows.gridNearestRow.lifted == Try.pinned.checked.prog.liftsFinal)) = true := by kernel_rfl
theorem gridNearest_c27 : ((Try.pinned.checked.prog.make == some Rows.gridNearestRow.make)) = true := by kernel_rfl
theorem gridNearest_c28 : ((Rows.gridNearestRow.kinds == (if Rows.gridNearestRow.domain.isEmpty then [] else Try.f13.params.toList.map fun t => match Try.pinned.checked.prog.underlying t with | some (.int k) => some k | _ => none))) = true := by kernel_rfl
theorem gridNearest_c29 : ((Rows.gridNearestRow.pinned == Rows.gridNearestRow.pinnedBy)) = true := by kernel_rfl
theorem gridNearest_c30 : ((Rows.gridNearestRow.veiled == (Try.f13.params.toList ++ Rows.gridNearestSpec.plain.varTypes Try.pinned.checked.prog ++ Try.f13.resultTypes.toList).any (Try.pinned.checked.prog.veiledRec ·))) = true := by kernel_rfl
theorem gridNearest_c31 : (Rows.gridNearestRow.veiledFits Try.pinned.checked.prog Try.f13.params.toList (Try.f13.params.toList ++ Rows.gridNearestSpec.plain.varTypes Try.pinned.checked.prog ++ Try.f13.resultTypes.toList)) = true := by kernel_rfl
theorem gridNearest_closed : joinedFacts Try.pinned.checked.prog 13 Try.f13 Rows.gridNearestSpec Rows.gridNearestRow = true := by
  unfold joinedFacts
  simp only [Bool.and_eq_true]
  exact ⟨⟨⟨⟨⟨⟨⟨⟨⟨⟨⟨⟨⟨⟨⟨⟨⟨⟨⟨⟨⟨⟨⟨⟨⟨⟨⟨⟨⟨⟨⟨gridNearest_c0, gridNearest_c1⟩, gridNearest_c2⟩, gridNearest_c3⟩, gridNearest_c4⟩, gridNearest_c5⟩, gridNearest_c6⟩, gridNearest_c7⟩, gridNearest_c8⟩, gridNearest_c9⟩, gridNearest_c10⟩, gridNearest_c11⟩, gridNearest_c12⟩, gridNearest_c13⟩, gridNearest_c14⟩, gridNearest_c15⟩, gridNearest_c16⟩, gridNearest_c17⟩, gridNearest_c18⟩, gridNearest_c19⟩, gridNearest_c20⟩, gridNearest_c21⟩, gridNearest_c22⟩, gridNearest_c23⟩, gridNearest_c24⟩, gridNearest_c25⟩, gridNearest_c26⟩, gridNearest_c27⟩, gridNearest_c28⟩, gridNearest_c29⟩, gridNearest_c30⟩, gridNearest_c31⟩
theorem gridNearest_lifted (os : Os) (started : os.Started) (H : Type) (enc : TypeId × Value → H) :
    ReturnsInHanded {} Try.checked os 13 .any (Rows.gridNearestSpec.pre6 enc Try.prog Try.f13 Rows.gridNearestRow.domain false) (Rows.gridNearestSpec.post enc Try.prog Try.f13 false true false false) := by
  refine returnsInHanded_of_change (C := Try.checked) own started (by kernel_rfl) Try.func13
    (ChangeSpec.witness6 (enc := enc) (C := Try.checked) false ⟨#[], #[.agg #[.int .i64 0, .int .i64 0, .int .i64 0], .agg #[.int .i64 0, .int .i64 0, .int .i64 0], .agg #[.int .i64 0, .int .i64 0, .int .i64 0]], []⟩ 8 (by kernel_rfl) (by kernel_rfl) (by kernel_rfl) (by kernel_rfl)) ?_
  intro W base args ds gs before hval0 hW hcnd _
  have hval : ∀ (j : Nat) t v, Try.f13.params[j]? = some t → args[j]? = some v → Value.okWide Try.prog W .any base t v := hval0
  have hW' := hW
  obtain ⟨p, q, hA0, hV, rfl, hfz, hnd⟩ := hW
  have hA : DataW.TrodAll enc Try.prog W 0 (fun _ => true) true Try.f13.params.toList args.toList ds p := hA0
  rw [Try.params13] at hA hval
  obtain ⟨v0, vs0, d0, ds0, p0, q0, hargs, rfl, rfl, h0, r0⟩ := trodAll_cons hA
  obtain ⟨v1, vs1, d1, ds1, p1, q1, rfl, rfl, rfl, h1, r1⟩ := trodAll_cons r0
  obtain ⟨v2, vs2, d2, ds2, p2, q2, rfl, rfl, rfl, h2, r2⟩ := trodAll_cons r1
  obtain ⟨rfl, rfl, rfl⟩ := trodAll_nil r2
  obtain rfl : args = #[v0, v1, v2] := by cases args; simp_all
  obtain ⟨rfl, rfl⟩ := trodVars_none hV
  have k0 := h0
  have k1 := h1
  have k2 := h2
  have lt0 : ∀ x ∈ p0, x.block < W.heap.size := by obtain ⟨m, hm⟩ := k0; exact DataW.trod_lt m _ _ _ hm
  have lt1 : ∀ x ∈ p1, x.block < W.heap.size := by obtain ⟨m, hm⟩ := k1; exact DataW.trod_lt m _ _ _ hm
  have lt2 : ∀ x ∈ p2, x.block < W.heap.size := by obtain ⟨m, hm⟩ := k2; exact DataW.trod_lt m _ _ _ hm
  obtain ⟨a0, rfl, ha0⟩ := open_point (hval 0 29 v0 rfl rfl) h0
  obtain ⟨a1, rfl, ha1⟩ := open_vec (hval 1 58 v1 rfl rfl) h1
  obtain ⟨a2, rfl, ha2⟩ := open_vec (hval 2 58 v2 rfl rfl) h2
  clear hA0 hval0
  refine (nearest_law a0 ha0 a1 ha1 a2 ha2 W).mono fun e W' ⟨he, hk⟩ => ?_
  subst he
  have bel := hk.below
  exact ⟨_, rfl, _, _, _, [], _, [], hW', trodAll_mk1 (shut_bool Try.underlying4 _), (trodAll_cons_mk (Below.trod laidOut (by kernel_rfl) (of_decide_eq_true (by kernel_rfl)) k0 bel lt0) (trodAll_cons_mk (Below.trod laidOut (by kernel_rfl) (of_decide_eq_true (by kernel_rfl)) k1 bel lt1) (trodAll_cons_mk (Below.trod laidOut (by kernel_rfl) (of_decide_eq_true (by kernel_rfl)) k2 bel lt2) trodAll_mk0))), rfl, bel.frame _, fun h => by cases h⟩
theorem gridNearest_named : Try.pinned.checked.prog.funcNamed Rows.gridNearestRow.func = some 13 := by kernel_rfl
theorem gridNearest_inst : (Try.f13).isInstance Try.pinned.checked.prog Rows.gridNearestRow.origin Rows.gridNearestRow.targs := of_decide_eq_true (by kernel_rfl)
theorem gridNearest_wrap : (Try.f13).isWrapper Try.pinned.checked.prog Rows.gridNearestRow.wrapper Rows.gridNearestRow.mainSum := by unfold Func.isWrapper; rw [if_neg (of_decide_eq_false (by kernel_rfl))]; exact ⟨rfl, rfl⟩
theorem gridNearest_over : Rows.gridNearestRow.holds Try.pinned (OpenSpec.ofChange Rows.gridNearestSpec) :=
  OpenClaim.holds_of_wide 13 Try.f13 rfl rfl rfl rfl rfl rfl rfl ⟨rfl, rfl, rfl, rfl, rfl⟩ rfl rfl rfl rfl rfl gridNearest_named Try.func13 gridNearest_closed
    gridNearest_inst gridNearest_wrap
    (fun os started H enc _ => gridNearest_lifted os started H enc)
/-- The statement. -/
theorem gridNearest_proved : Rows.GridNearestSaid := gridNearest_over
end Go.Proofs.Ytbhlnbllkoomfaa
