/-
  Rows.OrientPartsSaid: the volume of four points is the sum of those with any point in the place of each of them.
-/
import Derived.Test.YthnpmmpcejfllaaLp
import Derived.Test.YthnpmmpcejfllaaLc
import Derived.Test.YthnpmmpcejfllaaRows
set_option linter.unusedVariables false
namespace Go.Proofs.Ythnpmmpcejfllaa
open Go Go.ChangeShapes Go.WideShapes Go.ChangeAt Go.RowKit

set_option maxRecDepth 100000
theorem orientParts_c0 : (Rows.orientPartsRow.wf (OpenSpec.ofChange Rows.orientPartsSpec)) = true := by kernel_rfl
theorem orientParts_c1 : (laidOutB Try.pinned.checked.prog) = true := by kernel_rfl
theorem orientParts_c2 : (mapsRowed Try.pinned.checked.prog) = true := by kernel_rfl
theorem orientParts_c3 : (Try.f10.params.all (Try.pinned.checked.prog.readableRec ·)) = true := by kernel_rfl
theorem orientParts_c4 : (namedTie Try.pinned.checked.prog Rows.orientPartsRow.named Rows.orientPartsSpec.vars) = true := by kernel_rfl
theorem orientParts_c5 : ((Rows.orientPartsRow.stops == [])) = true := by kernel_rfl
theorem orientParts_c6 : ((Try.pinned.checked.prog.stops == [])) = true := by kernel_rfl
theorem orientParts_c7 : ((Rows.orientPartsRow.knobs == [])) = true := by kernel_rfl
theorem orientParts_c8 : ((Try.pinned.checked.prog.stopKnobs == [])) = true := by kernel_rfl
theorem orientParts_c9 : ((Rows.orientPartsRow.inPlace == Try.pinned.checked.prog.inPlace 10)) = true := by kernel_rfl
theorem orientParts_c10 : ((Rows.orientPartsRow.unfollowed == Try.pinned.checked.prog.unfollowed 10)) = true := by kernel_rfl
theorem orientParts_c11 : ((Rows.orientPartsRow.recurses == Try.pinned.checked.prog.recurses 10)) = true := by kernel_rfl
theorem orientParts_c12 : ((Rows.orientPartsRow.named == Try.pinned.checked.prog.varsNamed 10)) = true := by kernel_rfl
theorem orientParts_c13 : ((Rows.orientPartsRow.maps == (Try.f10.params.toList ++ Rows.orientPartsSpec.plain.varTypes Try.pinned.checked.prog).any (Try.pinned.checked.prog.mapsRec ·))) = true := by kernel_rfl
theorem orientParts_c14 : ((Rows.orientPartsRow.ifaces == (Try.f10.params.toList ++ Rows.orientPartsSpec.plain.varTypes Try.pinned.checked.prog).any (Try.pinned.checked.prog.ifacesRec ·))) = true := by kernel_rfl
theorem orientParts_c15 : ((Rows.orientPartsRow.mapsOut == Try.pinned.checked.prog.mapsAmong Try.f10.resultTypes.toList)) = true := by kernel_rfl
theorem orientParts_c16 : ((Rows.orientPartsRow.loops == (Try.f10.params.toList ++ Rows.orientPartsSpec.plain.varTypes Try.pinned.checked.prog).any (Try.pinned.checked.prog.loopsFrom ·))) = true := by kernel_rfl
theorem orientParts_c17 : ((Rows.orientPartsRow.wideKeys == (Try.f10.params.toList ++ Rows.orientPartsSpec.plain.varTypes Try.pinned.checked.prog ++ Try.f10.resultTypes.toList).any (Try.pinned.checked.prog.wideKeysFrom ·))) = true := by kernel_rfl
theorem orientParts_c18 : (Rows.orientPartsSpec.vars.all (Try.pinned.checked.prog.varReadable ·)) = true := by kernel_rfl
theorem orientParts_c19 : (Try.f10.resultTypes.all (fun t => Try.pinned.checked.prog.readableRec t && decide (t < Try.pinned.checked.prog.types.size))) = true := by kernel_rfl
theorem orientParts_c20 : ((Rows.orientPartsRow.ifacesOut == Try.f10.resultTypes.toList.any (Try.pinned.checked.prog.ifacesRec ·))) = true := by kernel_rfl
theorem orientParts_c21 : ((Rows.orientPartsRow.loopsOut == Try.f10.resultTypes.toList.any (Try.pinned.checked.prog.loopsFrom ·))) = true := by kernel_rfl
theorem orientParts_c22 : ((Rows.orientPartsRow.plainKeys == Try.pinned.checked.prog.plainKeys)) = true := by kernel_rfl
theorem orientParts_c23 : (Rows.orientPartsRow.shortTexts.isNone) = true := by kernel_rfl
theorem orientParts_c24 : (Try.pinned.checked.prog.stopsHeard) = true := by kernel_rfl
theorem orientParts_c25 : (Try.pinned.checked.prog.mayEnter) = true := by kernel_rfl
theorem orientParts_c26 : ((Rows.orientPartsRow.lifted == Try.pinned.checked.prog.liftsFinal)) = true := by kernel_rfl
theorem orientParts_c27 : ((Try.pinned.checked.prog.make == some Rows.orientPartsRow.make)) = true := by kernel_rfl
theorem orientParts_c28 : ((Rows.orientPartsRow.kinds == (if Rows.orientPartsRow.domain.isEmpty then [] else Try.f10.params.toList.map fun t => match Try.pinned.checked.prog.underlying t with | some (.int k) => some k | _ => none))) = true := by kernel_rfl
theorem orientParts_c29 : ((Rows.orientPartsRow.pinned == Rows.orientPartsRow.pinnedBy)) = true := by kernel_rfl
theorem orientParts_c30 : ((Rows.orientPartsRow.veiled == (Try.f10.params.toList ++ Rows.orientPartsSpec.plain.varTypes Try.pinned.checked.prog ++ Try.f10.resultTypes.toList).any (Try.pinned.checked.prog.veiledRec ·))) = true := by kernel_rfl
theorem orientParts_c31 : (Rows.orientPartsRow.veiledFits Try.pinned.checked.prog Try.f10.params.toList (Try.f10.params.toList ++ Rows.orientPartsSpec.plain.varTypes Try.pinned.checked.prog ++ Try.f10.resultTypes.toList)) = true := by kernel_rfl
theorem orientParts_closed : joinedFacts Try.pinned.checked.prog 10 Try.f10 Rows.orientPartsSpec Rows.orientPartsRow = true := by
  unfold joinedFacts
  simp only [Bool.and_eq_true]
  exact ⟨⟨⟨⟨⟨⟨⟨⟨⟨⟨⟨⟨⟨⟨⟨⟨⟨⟨⟨⟨⟨⟨⟨⟨⟨⟨⟨⟨⟨⟨⟨orientParts_c0, orientParts_c1⟩, orientParts_c2⟩, orientParts_c3⟩, orientParts_c4⟩, orientParts_c5⟩, orientParts_c6⟩, orientParts_c7⟩, orientParts_c8⟩, orientParts_c9⟩, orientParts_c10⟩, orientParts_c11⟩, orientParts_c12⟩, orientParts_c13⟩, orientParts_c14⟩, orientParts_c15⟩, orientParts_c16⟩, orientParts_c17⟩, orientParts_c18⟩, orientParts_c19⟩, orientParts_c20⟩, orientParts_c21⟩, orientParts_c22⟩, orientParts_c23⟩, orientParts_c24⟩, orientParts_c25⟩, orientParts_c26⟩, orientParts_c27⟩, orientParts_c28⟩, orientParts_c29⟩, orientParts_c30⟩, orientParts_c31⟩
theorem orientParts_lifted (os : Os) (started : os.Started) (H : Type) (enc : TypeId × Value → H) :
    ReturnsInHanded {} Try.checked os 10 .any (Rows.orientPartsSpec.pre6 enc Try.prog Try.f10 Rows.orientPartsRow.domain false) (Rows.orientPartsSpec.post enc Try.prog Try.f10 false true false false) := by
  refine returnsInHanded_of_change (C := Try.checked) own started (by kernel_rfl) Try.func10
    (ChangeSpec.witness6 (enc := enc) (C := Try.checked) false ⟨#[], #[.agg #[.int .i64 0, .int .i64 0, .int .i64 0], .agg #[.int .i64 0, .int .i64 0, .int .i64 0], .agg #[.int .i64 0, .int .i64 0, .int .i64 0], .agg #[.int .i64 0, .int .i64 0, .int .i64 0], .agg #[.int .i64 0, .int .i64 0, .int .i64 0]], []⟩ 8 (by kernel_rfl) (by kernel_rfl) (by kernel_rfl) (by kernel_rfl)) ?_
  intro W base args ds gs before hval0 hW hcnd _
  have hval : ∀ (j : Nat) t v, Try.f10.params[j]? = some t → args[j]? = some v → Value.okWide Try.prog W .any base t v := hval0
  have hW' := hW
  obtain ⟨p, q, hA0, hV, rfl, hfz, hnd⟩ := hW
  have hA : DataW.TrodAll enc Try.prog W 0 (fun _ => true) true Try.f10.params.toList args.toList ds p := hA0
  rw [Try.params10] at hA hval
  obtain ⟨v0, vs0, d0, ds0, p0, q0, hargs, rfl, rfl, h0, r0⟩ := trodAll_cons hA
  obtain ⟨v1, vs1, d1, ds1, p1, q1, rfl, rfl, rfl, h1, r1⟩ := trodAll_cons r0
  obtain ⟨v2, vs2, d2, ds2, p2, q2, rfl, rfl, rfl, h2, r2⟩ := trodAll_cons r1
  obtain ⟨v3, vs3, d3, ds3, p3, q3, rfl, rfl, rfl, h3, r3⟩ := trodAll_cons r2
  obtain ⟨v4, vs4, d4, ds4, p4, q4, rfl, rfl, rfl, h4, r4⟩ := trodAll_cons r3
  obtain ⟨rfl, rfl, rfl⟩ := trodAll_nil r4
  obtain rfl : args = #[v0, v1, v2, v3, v4] := by cases args; simp_all
  obtain ⟨rfl, rfl⟩ := trodVars_none hV
  have k0 := h0
  have k1 := h1
  have k2 := h2
  have k3 := h3
  have k4 := h4
  have lt0 : ∀ x ∈ p0, x.block < W.heap.size := by obtain ⟨m, hm⟩ := k0; exact DataW.trod_lt m _ _ _ hm
  have lt1 : ∀ x ∈ p1, x.block < W.heap.size := by obtain ⟨m, hm⟩ := k1; exact DataW.trod_lt m _ _ _ hm
  have lt2 : ∀ x ∈ p2, x.block < W.heap.size := by obtain ⟨m, hm⟩ := k2; exact DataW.trod_lt m _ _ _ hm
  have lt3 : ∀ x ∈ p3, x.block < W.heap.size := by obtain ⟨m, hm⟩ := k3; exact DataW.trod_lt m _ _ _ hm
  have lt4 : ∀ x ∈ p4, x.block < W.heap.size := by obtain ⟨m, hm⟩ := k4; exact DataW.trod_lt m _ _ _ hm
  obtain ⟨a0, rfl, ha0⟩ := open_point (hval 0 33 v0 rfl rfl) h0
  obtain ⟨a1, rfl, ha1⟩ := open_point (hval 1 33 v1 rfl rfl) h1
  obtain ⟨a2, rfl, ha2⟩ := open_point (hval 2 33 v2 rfl rfl) h2
  obtain ⟨a3, rfl, ha3⟩ := open_point (hval 3 33 v3 rfl rfl) h3
  obtain ⟨a4, rfl, ha4⟩ := open_point (hval 4 33 v4 rfl rfl) h4
  clear hA0 hval0
  refine (parts_law a0 ha0 a1 ha1 a2 ha2 a3 ha3 a4 ha4 W).mono fun e W' ⟨he, hk⟩ => ?_
  subst he
  have bel := hk.below
  exact ⟨_, rfl, _, _, _, [], _, [], hW', trodAll_mk1 (shut_bool Try.underlying4 _), (trodAll_cons_mk (Below.trod laidOut (by kernel_rfl) (of_decide_eq_true (by kernel_rfl)) k0 bel lt0) (trodAll_cons_mk (Below.trod laidOut (by kernel_rfl) (of_decide_eq_true (by kernel_rfl)) k1 bel lt1) (trodAll_cons_mk (Below.trod laidOut (by kernel_rfl) (of_decide_eq_true (by kernel_rfl)) k2 bel lt2) (trodAll_cons_mk (Below.trod laidOut (by kernel_rfl) (of_decide_eq_true (by kernel_rfl)) k3 bel lt3) (trodAll_cons_mk (Below.trod laidOut (by kernel_rfl) (of_decide_eq_true (by kernel_rfl)) k4 bel lt4) trodAll_mk0))))), rfl, bel.frame _, fun h => by cases h⟩
theorem orientParts_named : Try.pinned.checked.prog.funcNamed Rows.orientPartsRow.func = some 10 := by kernel_rfl
theorem orientParts_inst : (Try.f10).isInstance Try.pinned.checked.prog Rows.orientPartsRow.origin Rows.orientPartsRow.targs := of_decide_eq_true (by kernel_rfl)
theorem orientParts_wrap : (Try.f10).isWrapper Try.pinned.checked.prog Rows.orientPartsRow.wrapper Rows.orientPartsRow.mainSum := by unfold Func.isWrapper; rw [if_neg (of_decide_eq_false (by kernel_rfl))]; exact ⟨rfl, rfl⟩
theorem orientParts_over : Rows.orientPartsRow.holds Try.pinned (OpenSpec.ofChange Rows.orientPartsSpec) :=
  OpenClaim.holds_of_wide 10 Try.f10 rfl rfl rfl rfl rfl rfl rfl ⟨rfl, rfl, rfl, rfl, rfl⟩ rfl rfl rfl rfl rfl orientParts_named Try.func10 orientParts_closed
    orientParts_inst orientParts_wrap
    (fun os started H enc _ => orientParts_lifted os started H enc)
/-- The statement. -/
theorem orientParts_proved : Rows.OrientPartsSaid := orientParts_over
end Go.Proofs.Ythnpmmpcejfllaa
