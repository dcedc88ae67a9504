/-
  Rows.OrientInsideSaid: the simplex and the point: inside or not is the document's, or refused (at most 300 points).
-/
import Derived.Test.YthnpmmpcejfllaaBz
import Derived.Test.YthnpmmpcejfllaaLl
import Derived.Test.YthnpmmpcejfllaaRows
set_option linter.unusedVariables false
namespace Go.Proofs.Ythnpmmpcejfllaa
open Go Go.ChangeShapes Go.WideShapes Go.ChangeAt Go.RowKit

set_option maxRecDepth 100000
theorem orientInside_c0 : (Rows.orientInsideRow.wf (OpenSpec.ofChange Rows.orientInsideSpec)) = true := by kernel_rfl
theorem orientInside_c1 : (laidOutB Try.pinned.checked.prog) = true := by kernel_rfl
theorem orientInside_c2 : (mapsRowed Try.pinned.checked.prog) = true := by kernel_rfl
theorem orientInside_c3 : (Try.f4.params.all (Try.pinned.checked.prog.readableRec ·)) = true := by kernel_rfl
theorem orientInside_c4 : (namedTie Try.pinned.checked.prog Rows.orientInsideRow.named Rows.orientInsideSpec.vars) = true := by kernel_rfl
theorem orientInside_c5 : ((Rows.orientInsideRow.stops == [])) = true := by kernel_rfl
theorem orientInside_c6 : ((Try.pinned.checked.prog.stops == [])) = true := by kernel_rfl
theorem orientInside_c7 : ((Rows.orientInsideRow.knobs == [])) = true := by kernel_rfl
theorem orientInside_c8 : ((Try.pinned.checked.prog.stopKnobs == [])) = true := by kernel_rfl
theorem orientInside_c9 : ((Rows.orientInsideRow.inPlace == Try.pinned.checked.prog.inPlace 4)) = true := by kernel_rfl
theorem orientInside_c10 : ((Rows.orientInsideRow.unfollowed == Try.pinned.checked.prog.unfollowed 4)) = true := by kernel_rfl
theorem orientInside_c11 : ((Rows.orientInsideRow.recurses == Try.pinned.checked.prog.recurses 4)) = true := by kernel_rfl
theorem orientInside_c12 : ((Rows.orientInsideRow.named == Try.pinned.checked.prog.varsNamed 4)) = true := by kernel_rfl
theorem orientInside_c13 : ((Rows.orientInsideRow.maps == (Try.f4.params.toList ++ Rows.orientInsideSpec.plain.varTypes Try.pinned.checked.prog).any (Try.pinned.checked.prog.mapsRec ·))) = true := by kernel_rfl
theorem orientInside_c14 : ((Rows.orientInsideRow.ifaces == (Try.f4.params.toList ++ Rows.orientInsideSpec.plain.varTypes Try.pinned.checked.prog).any (Try.pinned.checked.prog.ifacesRec ·))) = true := by kernel_rfl
theorem orientInside_c15 : ((Rows.orientInsideRow.mapsOut == Try.pinned.checked.prog.mapsAmong Try.f4.resultTypes.toList)) = true := by kernel_rfl
theorem orientInside_c16 : ((Rows.orientInsideRow.loops == (Try.f4.params.toList ++ Rows.orientInsideSpec.plain.varTypes Try.pinned.checked.prog).any (Try.pinned.checked.prog.loopsFrom ·))) = true := by kernel_rfl
theorem orientInside_c17 : ((Rows.orientInsideRow.wideKeys == (Try.f4.params.toList ++ Rows.orientInsideSpec.plain.varTypes Try.pinned.checked.prog ++ Try.f4.resultTypes.toList).any (Try.pinned.checked.prog.wideKeysFrom ·))) = true := by kernel_rfl
theorem orientInside_c18 : (Rows.orientInsideSpec.vars.all (Try.pinned.checked.prog.varReadable ·)) = true := by kernel_rfl
theorem orientInside_c19 : (Try.f4.resultTypes.all (fun t => Try.pinned.checked.prog.readableRec t && decide (t < Try.pinned.checked.prog.types.size))) = true := by kernel_rfl
theorem orientInside_c20 : ((Rows.orientInsideRow.ifacesOut == Try.f4.resultTypes.toList.any (Try.pinned.checked.prog.ifacesRec ·))) = true := by kernel_rfl
theorem orientInside_c21 : ((Rows.orientInsideRow.loopsOut == Try.f4.resultTypes.toList.any (Try.pinned.checked.prog.loopsFrom ·))) = true := by kernel_rfl
theorem orientInside_c22 : ((Rows.orientInsideRow.plainKeys == Try.pinned.checked.prog.plainKeys)) = true := by kernel_rfl
theorem orientInside_c23 : (Rows.orientInsideRow.shortTexts.isNone) = true := by kernel_rfl
theorem orientInside_c24 : (Try.pinned.checked.prog.stopsHeard) = true := by kernel_rfl
theorem orientInside_c25 : (Try.pinned.checked.prog.mayEnter) = true := by kernel_rfl
theorem orientInside_c26 : ((Rows.orientInsideRow.lifted == Try.pinned.checked.prog.liftsFinal)) = true := by kernel_rfl
theorem orientInside_c27 : ((Try.pinned.checked.prog.make == some Rows.orientInsideRow.make)) = true := by kernel_rfl
theorem orientInside_c28 : ((Rows.orientInsideRow.kinds == (if Rows.orientInsideRow.domain.isEmpty then [] else Try.f4.params.toList.map fun t => match Try.pinned.checked.prog.underlying t with | some (.int k) => some k | _ => none))) = true := by kernel_rfl
theorem orientInside_c29 : ((Rows.orientInsideRow.pinned == Rows.orientInsideRow.pinnedBy)) = true := by kernel_rfl
theorem orientInside_c30 : ((Rows.orientInsideRow.veiled == (Try.f4.params.toList ++ Rows.orientInsideSpec.plain.varTypes Try.pinned.checked.prog ++ Try.f4.resultTypes.toList).any (Try.pinned.checked.prog.veiledRec ·))) = true := by kernel_rfl
theorem orientInside_c31 : (Rows.orientInsideRow.veiledFits Try.pinned.checked.prog Try.f4.params.toList (Try.f4.params.toList ++ Rows.orientInsideSpec.plain.varTypes Try.pinned.checked.prog ++ Try.f4.resultTypes.toList)) = true := by kernel_rfl
theorem orientInside_closed : joinedFacts Try.pinned.checked.prog 4 Try.f4 Rows.orientInsideSpec Rows.orientInsideRow = true := by
  unfold joinedFacts
  simp only [Bool.and_eq_true]
  exact ⟨⟨⟨⟨⟨⟨⟨⟨⟨⟨⟨⟨⟨⟨⟨⟨⟨⟨⟨⟨⟨⟨⟨⟨⟨⟨⟨⟨⟨⟨⟨orientInside_c0, orientInside_c1⟩, orientInside_c2⟩, orientInside_c3⟩, orientInside_c4⟩, orientInside_c5⟩, orientInside_c6⟩, orientInside_c7⟩, orientInside_c8⟩, orientInside_c9⟩, orientInside_c10⟩, orientInside_c11⟩, orientInside_c12⟩, orientInside_c13⟩, orientInside_c14⟩, orientInside_c15⟩, orientInside_c16⟩, orientInside_c17⟩, orientInside_c18⟩, orientInside_c19⟩, orientInside_c20⟩, orientInside_c21⟩, orientInside_c22⟩, orientInside_c23⟩, orientInside_c24⟩, orientInside_c25⟩, orientInside_c26⟩, orientInside_c27⟩, orientInside_c28⟩, orientInside_c29⟩, orientInside_c30⟩, orientInside_c31⟩
theorem orientInside_lifted (os : Os) (started : os.Started) (H : Type) (enc : TypeId × Value → H) :
    ReturnsInHanded {} Try.checked os 4 .any (Rows.orientInsideSpec.pre6 enc Try.prog Try.f4 Rows.orientInsideRow.domain false) (Rows.orientInsideSpec.post enc Try.prog Try.f4 false true false false) := by
  refine returnsInHanded_of_change (C := Try.checked) own started (by kernel_rfl) Try.func4
    (ChangeSpec.witness6 (enc := enc) (C := Try.checked) false ⟨#[], #[.slice none 0 0, .agg #[.int .i64 0, .int .i64 0, .int .i64 0]], []⟩ 8 (by kernel_rfl) (by kernel_rfl) (by kernel_rfl) (by kernel_rfl)) ?_
  intro W base args ds gs before hval0 hW hcnd _
  have hval : ∀ (j : Nat) t v, Try.f4.params[j]? = some t → args[j]? = some v → Value.okWide Try.prog W .any base t v := hval0
  have hW' := hW
  obtain ⟨p, q, hA0, hV, rfl, hfz, hnd⟩ := hW
  have hA : DataW.TrodAll enc Try.prog W 0 (fun _ => true) true Try.f4.params.toList args.toList ds p := hA0
  rw [Try.params4] at hA hval
  obtain ⟨v0, vs0, d0, ds0, p0, q0, hargs, rfl, rfl, h0, r0⟩ := trodAll_cons hA
  obtain ⟨v1, vs1, d1, ds1, p1, q1, rfl, rfl, rfl, h1, r1⟩ := trodAll_cons r0
  obtain ⟨rfl, rfl, rfl⟩ := trodAll_nil r1
  obtain rfl : args = #[v0, v1] := by cases args; simp_all
  obtain ⟨rfl, rfl⟩ := trodVars_none hV
  have k0 := h0
  have k1 := h1
  have lt0 : ∀ x ∈ p0, x.block < W.heap.size := by obtain ⟨m, hm⟩ := k0; exact DataW.trod_lt m _ _ _ hm
  have lt1 : ∀ x ∈ p1, x.block < W.heap.size := by obtain ⟨m, hm⟩ := k1; exact DataW.trod_lt m _ _ _ hm
  obtain ⟨l0, s0, n0, i0⟩ := open_points (hval 0 22 v0 rfl rfl) h0
  obtain ⟨a1, rfl, ha1⟩ := open_point (hval 1 33 v1 rfl rfl) h1
  clear hA0 hval0
  refine (insides_law l0 n0 i0 s0 a1 ha1).mono fun e W' ⟨he, hk⟩ => ?_
  subst he
  have bel := hk.below
  exact ⟨_, rfl, _, _, _, [], _, [], hW', trodAll_mk1 (shut_bool Try.underlying4 _), (trodAll_cons_mk (Below.trod laidOut (by kernel_rfl) (of_decide_eq_true (by kernel_rfl)) k0 bel lt0) (trodAll_cons_mk (Below.trod laidOut (by kernel_rfl) (of_decide_eq_true (by kernel_rfl)) k1 bel lt1) trodAll_mk0)), rfl, bel.frame _, fun h => by cases h⟩
theorem orientInside_named : Try.pinned.checked.prog.funcNamed Rows.orientInsideRow.func = some 4 := by kernel_rfl
theorem orientInside_inst : (Try.f4).isInstance Try.pinned.checked.prog Rows.orientInsideRow.origin Rows.orientInsideRow.targs := of_decide_eq_true (by kernel_rfl)
theorem orientInside_wrap : (Try.f4).isWrapper Try.pinned.checked.prog Rows.orientInsideRow.wrapper Rows.orientInsideRow.mainSum := by unfold Func.isWrapper; rw [if_neg (of_decide_eq_false (by kernel_rfl))]; exact ⟨rfl, rfl⟩
theorem orientInside_over : Rows.orientInsideRow.holds Try.pinned (OpenSpec.ofChange Rows.orientInsideSpec) :=
  OpenClaim.holds_of_wide 4 Try.f4 rfl rfl rfl rfl rfl rfl rfl ⟨rfl, rfl, rfl, rfl, rfl⟩ rfl rfl rfl rfl rfl orientInside_named Try.func4 orientInside_closed
    orientInside_inst orientInside_wrap
    (fun os started H enc _ => orientInside_lifted os started H enc)
/-- The statement. -/
theorem orientInside_proved : Rows.OrientInsideSaid := orientInside_over
end Go.Proofs.Ythnpmmpcejfllaa
