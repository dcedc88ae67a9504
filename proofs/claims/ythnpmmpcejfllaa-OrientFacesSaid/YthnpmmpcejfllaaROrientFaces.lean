/-
  Rows.OrientFacesSaid: each point of a simplex is inside, what is inside of a face is inside, and the middle of two points, if it is one, is.
-/
import Derived.Test.YthnpmmpcejfllaaLg
import Derived.Test.YthnpmmpcejfllaaLc
import Derived.Test.YthnpmmpcejfllaaRows
set_option linter.unusedVariables false
namespace Go.Proofs.Ythnpmmpcejfllaa
open Go Go.ChangeShapes Go.WideShapes Go.ChangeAt Go.RowKit

set_option maxRecDepth 100000
theorem orientFaces_c0 : (Rows.orientFacesRow.wf (OpenSpec.ofChange Rows.orientFacesSpec)) = true := by kernel_rfl
theorem orientFaces_c1 : (laidOutB Try.pinned.checked.prog) = true := by kernel_rfl
theorem orientFaces_c2 : (mapsRowed Try.pinned.checked.prog) = true := by kernel_rfl
theorem orientFaces_c3 : (Try.f7.params.all (Try.pinned.checked.prog.readableRec ·)) = true := by kernel_rfl
theorem orientFaces_c4 : (namedTie Try.pinned.checked.prog Rows.orientFacesRow.named Rows.orientFacesSpec.vars) = true := by kernel_rfl
theorem orientFaces_c5 : ((Rows.orientFacesRow.stops == [])) = true := by kernel_rfl
theorem orientFaces_c6 : ((Try.pinned.checked.prog.stops == [])) = true := by kernel_rfl
theorem orientFaces_c7 : ((Rows.orientFacesRow.knobs == [])) = true := by kernel_rfl
theorem orientFaces_c8 : ((Try.pinned.checked.prog.stopKnobs == [])) = true := by kernel_rfl
theorem orientFaces_c9 : ((Rows.orientFacesRow.inPlace == Try.pinned.checked.prog.inPlace 7)) = true := by kernel_rfl
theorem orientFaces_c10 : ((Rows.orientFacesRow.unfollowed == Try.pinned.checked.prog.unfollowed 7)) = true := by kernel_rfl
theorem orientFaces_c11 : ((Rows.orientFacesRow.recurses == Try.pinned.checked.prog.recurses 7)) = true := by kernel_rfl
theorem orientFaces_c12 : ((Rows.orientFacesRow.named == Try.pinned.checked.prog.varsNamed 7)) = true := by kernel_rfl
theorem orientFaces_c13 : ((Rows.orientFacesRow.maps == (Try.f7.params.toList ++ Rows.orientFacesSpec.plain.varTypes Try.pinned.checked.prog).any (Try.pinned.checked.prog.mapsRec ·))) = true := by kernel_rfl
theorem orientFaces_c14 : ((Rows.orientFacesRow.ifaces == (Try.f7.params.toList ++ Rows.orientFacesSpec.plain.varTypes Try.pinned.checked.prog).any (Try.pinned.checked.prog.ifacesRec ·))) = true := by kernel_rfl
theorem orientFaces_c15 : ((Rows.orientFacesRow.mapsOut == Try.pinned.checked.prog.mapsAmong Try.f7.resultTypes.toList)) = true := by kernel_rfl
theorem orientFaces_c16 : ((Rows.orientFacesRow.loops == (Try.f7.params.toList ++ Rows.orientFacesSpec.plain.varTypes Try.pinned.checked.prog).any (Try.pinned.checked.prog.loopsFrom ·))) = true := by kernel_rfl
theorem orientFaces_c17 : ((Rows.orientFacesRow.wideKeys == (Try.f7.params.toList ++ Rows.orientFacesSpec.plain.varTypes Try.pinned.checked.prog ++ Try.f7.resultTypes.toList).any (Try.pinned.checked.prog.wideKeysFrom ·))) = true := by kernel_rfl
theorem orientFaces_c18 : (Rows.orientFacesSpec.vars.all (Try.pinned.checked.prog.varReadable ·)) = true := by kernel_rfl
theorem orientFaces_c19 : (Try.f7.resultTypes.all (fun t => Try.pinned.checked.prog.readableRec t && decide (t < Try.pinned.checked.prog.types.size))) = true := by kernel_rfl
theorem orientFaces_c20 : ((Rows.orientFacesRow.ifacesOut == Try.f7.resultTypes.toList.any (Try.pinned.checked.prog.ifacesRec ·))) = true := by kernel_rfl
theorem orientFaces_c21 : ((Rows.orientFacesRow.loopsOut == Try.f7.resultTypes.toList.any (Try.pinned.checked.prog.loopsFrom ·))) = true := by kernel_rfl
theorem orientFaces_c22 : ((Rows.orientFacesRow.plainKeys == Try.pinned.checked.prog.plainKeys)) = true := by kernel_rfl
theorem orientFaces_c23 : (Rows.orientFacesRow.shortTexts.isNone) = true := by kernel_rfl
theorem orientFaces_c24 : (Try.pinned.checked.prog.stopsHeard) = true := by kernel_rfl
theorem orientFaces_c25 : (Try.pinned.checked.prog.mayEnter) = true := by kernel_rfl
theorem orientFaces_c26 : ((Rows.orientFacesRow.lifted == Try.pinned.checked.prog.liftsFinal)) = true := by kernel_rfl
theorem orientFaces_c27 : ((Try.pinned.checked.prog.make == some Rows.orientFacesRow.make)) = true := by kernel_rfl
theorem orientFaces_c28 : ((Rows.orientFacesRow.kinds == (if Rows.orientFacesRow.domain.isEmpty then [] else Try.f7.params.toList.map fun t => match Try.pinned.checked.prog.underlying t with | some (.int k) => some k | _ => none))) = true := by kernel_rfl
theorem orientFaces_c29 : ((Rows.orientFacesRow.pinned == Rows.orientFacesRow.pinnedBy)) = true := by kernel_rfl
theorem orientFaces_c30 : ((Rows.orientFacesRow.veiled == (Try.f7.params.toList ++ Rows.orientFacesSpec.plain.varTypes Try.pinned.checked.prog ++ Try.f7.resultTypes.toList).any (Try.pinned.checked.prog.veiledRec ·))) = true := by kernel_rfl
theorem orientFaces_c31 : (Rows.orientFacesRow.veiledFits Try.pinned.checked.prog Try.f7.params.toList (Try.f7.params.toList ++ Rows.orientFacesSpec.plain.varTypes Try.pinned.checked.prog ++ Try.f7.resultTypes.toList)) = true := by kernel_rfl
theorem orientFaces_closed : joinedFacts Try.pinned.checked.prog 7 Try.f7 Rows.orientFacesSpec Rows.orientFacesRow = true := by
  unfold joinedFacts
  simp only [Bool.and_eq_true]
  exact ⟨⟨⟨⟨⟨⟨⟨⟨⟨⟨⟨⟨⟨⟨⟨⟨⟨⟨⟨⟨⟨⟨⟨⟨⟨⟨⟨⟨⟨⟨⟨orientFaces_c0, orientFaces_c1⟩, orientFaces_c2⟩, orientFaces_c3⟩, orientFaces_c4⟩, orientFaces_c5⟩, orientFaces_c6⟩, orientFaces_c7⟩, orientFaces_c8⟩, orientFaces_c9⟩, orientFaces_c10⟩, orientFaces_c11⟩, orientFaces_c12⟩, orientFaces_c13⟩, orientFaces_c14⟩, orientFaces_c15⟩, orientFaces_c16⟩, orientFaces_c17⟩, orientFaces_c18⟩, orientFaces_c19⟩, orientFaces_c20⟩, orientFaces_c21⟩, orientFaces_c22⟩, orientFaces_c23⟩, orientFaces_c24⟩, orientFaces_c25⟩, orientFaces_c26⟩, orientFaces_c27⟩, orientFaces_c28⟩, orientFaces_c29⟩, orientFaces_c30⟩, orientFaces_c31⟩
theorem orientFaces_lifted (os : Os) (started : os.Started) (H : Type) (enc : TypeId × Value → H) :
    ReturnsInHanded {} Try.checked os 7 .any (Rows.orientFacesSpec.pre6 enc Try.prog Try.f7 Rows.orientFacesRow.domain false) (Rows.orientFacesSpec.post enc Try.prog Try.f7 false true false false) := by
  refine returnsInHanded_of_change (C := Try.checked) own started (by kernel_rfl) Try.func7
    (ChangeSpec.witness6 (enc := enc) (C := Try.checked) false ⟨#[], #[.slice none 0 0, .agg #[.int .i64 0, .int .i64 0, .int .i64 0]], []⟩ 8 (by kernel_rfl) (by kernel_rfl) (by kernel_rfl) (by kernel_rfl)) ?_
  intro W base args ds gs before hval0 hW hcnd _
  have hval : ∀ (j : Nat) t v, Try.f7.params[j]? = some t → args[j]? = some v → Value.okWide Try.prog W .any base t v := hval0
  have hW' := hW
  obtain ⟨p, q, hA0, hV, rfl, hfz, hnd⟩ := hW
  have hA : DataW.TrodAll enc Try.prog W 0 (fun _ => true) true Try.f7.params.toList args.toList ds p := hA0
  rw [Try.params7] at hA hval
  obtain ⟨v0, vs0, d0, ds0, p0, q0, hargs, rfl, rfl, h0, r0⟩ := trodAll_cons hA
  obtain ⟨v1, vs1, d1, ds1, p1, q1, rfl, rfl, rfl, h1, r1⟩ := trodAll_cons r0
  obtain ⟨rfl, rfl, rfl⟩ := trodAll_nil r1
  obtain rfl : args = #[v0, v1] := by cases args; simp_all
  obtain ⟨rfl, rfl⟩ := trodVars_none hV
  have k0 := h0
  have k1 := h1
  have lt0 : ∀ x ∈ p0, x.block < W.heap.size := by obtain ⟨m, hm⟩ := k0; exact DataW.trod_lt m _ _ _ hm
  have lt1 : ∀ x ∈ p1, x.block < W.heap.size := by obtain ⟨m, hm⟩ := k1; exact DataW.trod_lt m _ _ _ hm
  obtain ⟨l0, s0, n0, i0⟩ := open_points (hval 0 22 v0 rfl rfl) h0
  obtain ⟨a1, rfl, ha1⟩ := open_point (hval 1 33 v1 rfl rfl) h1
  clear hA0 hval0
  refine (faces_law l0 n0 i0 s0 a1 ha1).mono fun e W' ⟨he, hk⟩ => ?_
  subst he
  have bel := hk.below
  exact ⟨_, rfl, _, _, _, [], _, [], hW', trodAll_mk1 (shut_bool Try.underlying4 _), (trodAll_cons_mk (Below.trod laidOut (by kernel_rfl) (of_decide_eq_true (by kernel_rfl)) k0 bel lt0) (trodAll_cons_mk (Below.trod laidOut (by kernel_rfl) (of_decide_eq_true (by kernel_rfl)) k1 bel lt1) trodAll_mk0)), rfl, bel.frame _, fun h => by cases h⟩
theorem orientFaces_named : Try.pinned.checked.prog.funcNamed Rows.orientFacesRow.func = some 7 := by kernel_rfl
theorem orientFaces_inst : (Try.f7).isInstance Try.pinned.checked.prog Rows.orientFacesRow.origin Rows.orientFacesRow.targs := of_decide_eq_true (by kernel_rfl)
theorem orientFaces_wrap : (Try.f7).isWrapper Try.pinned.checked.prog Rows.orientFacesRow.wrapper Rows.orientFacesRow.mainSum := by unfold Func.isWrapper; rw [if_neg (of_decide_eq_false (by kernel_rfl))]; exact ⟨rfl, rfl⟩
theorem orientFaces_over : Rows.orientFacesRow.holds Try.pinned (OpenSpec.ofChange Rows.orientFacesSpec) :=
  OpenClaim.holds_of_wide 7 Try.f7 rfl rfl rfl rfl rfl rfl rfl ⟨rfl, rfl, rfl, rfl, rfl⟩ rfl rfl rfl rfl rfl orientFaces_named Try.func7 orientFaces_closed
    orientFaces_inst orientFaces_wrap
    (fun os started H enc _ => orientFaces_lifted os started H enc)
/-- The statement. -/
theorem orientFaces_proved : Rows.OrientFacesSaid := orientFaces_over
end Go.Proofs.Ythnpmmpcejfllaa
