/-
  Rows.OrientSpreadSaid: the spread has one place more than the rank, rising, and each place raised the rank.
-/
import Derived.Test.YthnpmmpcejfllaaLs
import Derived.Test.YthnpmmpcejfllaaLc
import Derived.Test.YthnpmmpcejfllaaRows
set_option linter.unusedVariables false
namespace Go.Proofs.Ythnpmmpcejfllaa
open Go Go.ChangeShapes Go.WideShapes Go.ChangeAt Go.RowKit

set_option maxRecDepth 100000
theorem orientSpread_c0 : (Rows.orientSpreadRow.wf (OpenSpec.ofChange Rows.orientSpreadSpec)) = true := by kernel_rfl
theorem orientSpread_c1 : (laidOutB Try.pinned.checked.prog) = true := by kernel_rfl
theorem orientSpread_c2 : (mapsRowed Try.pinned.checked.prog) = true := by kernel_rfl
theorem orientSpread_c3 : (Try.f6.params.all (Try.pinned.checked.prog.readableRec ·)) = true := by kernel_rfl
theorem orientSpread_c4 : (namedTie Try.pinned.checked.prog Rows.orientSpreadRow.named Rows.orientSpreadSpec.vars) = true := by kernel_rfl
theorem orientSpread_c5 : ((Rows.orientSpreadRow.stops == [])) = true := by kernel_rfl
theorem orientSpread_c6 : ((Try.pinned.checked.prog.stops == [])) = true := by kernel_rfl
theorem orientSpread_c7 : ((Rows.orientSpreadRow.knobs == [])) = true := by kernel_rfl
theorem orientSpread_c8 : ((Try.pinned.checked.prog.stopKnobs == [])) = true := by kernel_rfl
theorem orientSpread_c9 : ((Rows.orientSpreadRow.inPlace == Try.pinned.checked.prog.inPlace 6)) = true := by kernel_rfl
theorem orientSpread_c10 : ((Rows.orientSpreadRow.unfollowed == Try.pinned.checked.prog.unfollowed 6)) = true := by kernel_rfl
theorem orientSpread_c11 : ((Rows.orientSpreadRow.recurses == Try.pinned.checked.prog.recurses 6)) = true := by kernel_rfl
theorem orientSpread_c12 : ((Rows.orientSpreadRow.named == Try.pinned.checked.prog.varsNamed 6)) = true := by kernel_rfl
theorem orientSpread_c13 : ((Rows.orientSpreadRow.maps == (Try.f6.params.toList ++ Rows.orientSpreadSpec.plain.varTypes Try.pinned.checked.prog).any (Try.pinned.checked.prog.mapsRec ·))) = true := by kernel_rfl
theorem orientSpread_c14 : ((Rows.orientSpreadRow.ifaces == (Try.f6.params.toList ++ Rows.orientSpreadSpec.plain.varTypes Try.pinned.checked.prog).any (Try.pinned.checked.prog.ifacesRec ·))) = true := by kernel_rfl
theorem orientSpread_c15 : ((Rows.orientSpreadRow.mapsOut == Try.pinned.checked.prog.mapsAmong Try.f6.resultTypes.toList)) = true := by kernel_rfl
theorem orientSpread_c16 : ((Rows.orientSpreadRow.loops == (Try.f6.params.toList ++ Rows.orientSpreadSpec.plain.varTypes Try.pinned.checked.prog).any (Try.pinned.checked.prog.loopsFrom ·))) = true := by kernel_rfl
theorem orientSpread_c17 : ((Rows.orientSpreadRow.wideKeys == (Try.f6.params.toList ++ Rows.orientSpreadSpec.plain.varTypes Try.pinned.checked.prog ++ Try.f6.resultTypes.toList).any (Try.pinned.checked.prog.wideKeysFrom ·))) = true := by kernel_rfl
theorem orientSpread_c18 : (Rows.orientSpreadSpec.vars.all (Try.pinned.checked.prog.varReadable ·)) = true := by kernel_rfl
theorem orientSpread_c19 : (Try.f6.resultTypes.all (fun t => Try.pinned.checked.prog.readableRec t && decide (t < Try.pinned.checked.prog.types.size))) = true := by kernel_rfl
theorem orientSpread_c20 : ((Rows.orientSpreadRow.ifacesOut == Try.f6.resultTypes.toList.any (Try.pinned.checked.prog.ifacesRec ·))) = true := by kernel_rfl
theorem orientSpread_c21 : ((Rows.orientSpreadRow.loopsOut == Try.f6.resultTypes.toList.any (Try.pinned.checked.prog.loopsFrom ·))) = true := by kernel_rfl
theorem orientSpread_c22 : ((Rows.orientSpreadRow.plainKeys == Try.pinned.checked.prog.plainKeys)) = true := by kernel_rfl
theorem orientSpread_c23 : (Rows.orientSpreadRow.shortTexts.isNone) = true := by kernel_rfl
theorem orientSpread_c24 : (Try.pinned.checked.prog.stopsHeard) = true := by kernel_rfl
theorem orientSpread_c25 : (Try.pinned.checked.prog.mayEnter) = true := by kernel_rfl
theorem orientSpread_c26 : ((Rows.orientSpreadRow.lifted == Try.pinned.checked.prog.liftsFinal)) = true := by kernel_rfl
theorem orientSpread_c27 : ((Try.pinned.checked.prog.make == some Rows.orientSpreadRow.make)) = true := by kernel_rfl
theorem orientSpread_c28 : ((Rows.orientSpreadRow.kinds == (if Rows.orientSpreadRow.domain.isEmpty then [] else Try.f6.params.toList.map fun t => match Try.pinned.checked.prog.underlying t with | some (.int k) => some k | _ => none))) = true := by kernel_rfl
theorem orientSpread_c29 : ((Rows.orientSpreadRow.pinned == Rows.orientSpreadRow.pinnedBy)) = true := by kernel_rfl
theorem orientSpread_c30 : ((Rows.orientSpreadRow.veiled == (Try.f6.params.toList ++ Rows.orientSpreadSpec.plain.varTypes Try.pinned.checked.prog ++ Try.f6.resultTypes.toList).any (Try.pinned.checked.prog.veiledRec ·))) = true := by kernel_rfl
theorem orientSpread_c31 : (Rows.orientSpreadRow.veiledFits Try.pinned.checked.prog Try.f6.params.toList (Try.f6.params.toList ++ Rows.orientSpreadSpec.plain.varTypes Try.pinned.checked.prog ++ Try.f6.resultTypes.toList)) = true := by kernel_rfl
theorem orientSpread_closed : joinedFacts Try.pinned.checked.prog 6 Try.f6 Rows.orientSpreadSpec Rows.orientSpreadRow = true := by
  unfold joinedFacts
  simp only [Bool.and_eq_true]
  exact ⟨⟨⟨⟨⟨⟨⟨⟨⟨⟨⟨⟨⟨⟨⟨⟨⟨⟨⟨⟨⟨⟨⟨⟨⟨⟨⟨⟨⟨⟨⟨orientSpread_c0, orientSpread_c1⟩, orientSpread_c2⟩, orientSpread_c3⟩, orientSpread_c4⟩, orientSpread_c5⟩, orientSpread_c6⟩, orientSpread_c7⟩, orientSpread_c8⟩, orientSpread_c9⟩, orientSpread_c10⟩, orientSpread_c11⟩, orientSpread_c12⟩, orientSpread_c13⟩, orientSpread_c14⟩, orientSpread_c15⟩, orientSpread_c16⟩, orientSpread_c17⟩, orientSpread_c18⟩, orientSpread_c19⟩, orientSpread_c20⟩, orientSpread_c21⟩, orientSpread_c22⟩, orientSpread_c23⟩, orientSpread_c24⟩, orientSpread_c25⟩, orientSpread_c26⟩, orientSpread_c27⟩, orientSpread_c28⟩, orientSpread_c29⟩, orientSpread_c30⟩, orientSpread_c31⟩
theorem orientSpread_lifted (os : Os) (started : os.Started) (H : Type) (enc : TypeId × Value → H) :
    ReturnsInHanded {} Try.checked os 6 .any (Rows.orientSpreadSpec.pre6 enc Try.prog Try.f6 Rows.orientSpreadRow.domain false) (Rows.orientSpreadSpec.post enc Try.prog Try.f6 false true false false) := by
  refine returnsInHanded_of_change (C := Try.checked) own started (by kernel_rfl) Try.func6
    (ChangeSpec.witness6 (enc := enc) (C := Try.checked) false ⟨#[], #[.slice none 0 0], []⟩ 8 (by kernel_rfl) (by kernel_rfl) (by kernel_rfl) (by kernel_rfl)) ?_
  intro W base args ds gs before hval0 hW hcnd _
  have hval : ∀ (j : Nat) t v, Try.f6.params[j]? = some t → args[j]? = some v → Value.okWide Try.prog W .any base t v := hval0
  have hW' := hW
  obtain ⟨p, q, hA0, hV, rfl, hfz, hnd⟩ := hW
  have hA : DataW.TrodAll enc Try.prog W 0 (fun _ => true) true Try.f6.params.toList args.toList ds p := hA0
  rw [Try.params6] at hA hval
  obtain ⟨v0, vs0, d0, ds0, p0, q0, hargs, rfl, rfl, h0, r0⟩ := trodAll_cons hA
  obtain ⟨rfl, rfl, rfl⟩ := trodAll_nil r0
  obtain rfl : args = #[v0] := by cases args; simp_all
  obtain ⟨rfl, rfl⟩ := trodVars_none hV
  have k0 := h0
  have lt0 : ∀ x ∈ p0, x.block < W.heap.size := by obtain ⟨m, hm⟩ := k0; exact DataW.trod_lt m _ _ _ hm
  obtain ⟨l0, s0, n0, i0⟩ := open_points (hval 0 22 v0 rfl rfl) h0
  clear hA0 hval0
  refine (spread_law l0 n0 i0 s0).mono fun e W' ⟨he, hk⟩ => ?_
  subst he
  have bel := hk.below
  exact ⟨_, rfl, _, _, _, [], _, [], hW', trodAll_mk1 (shut_bool Try.underlying4 _), (trodAll_cons_mk (Below.trod laidOut (by kernel_rfl) (of_decide_eq_true (by kernel_rfl)) k0 bel lt0) trodAll_mk0), rfl, bel.frame _, fun h => by cases h⟩
theorem orientSpread_named : Try.pinned.checked.prog.funcNamed Rows.orientSpreadRow.func = some 6 := by kernel_rfl
theorem orientSpread_inst : (Try.f6).isInstance Try.pinned.checked.prog Rows.orientSpreadRow.origin Rows.orientSpreadRow.targs := of_decide_eq_true (by kernel_rfl)
theorem orientSpread_wrap : (Try.f6).isWrapper Try.pinned.checked.prog Rows.orientSpreadRow.wrapper Rows.orientSpreadRow.mainSum := by unfold Func.isWrapper; rw [if_neg (of_decide_eq_false (by kernel_rfl))]; exact ⟨rfl, rfl⟩
theorem orientSpread_over : Rows.orientSpreadRow.holds Try.pinned (OpenSpec.ofChange Rows.orientSpreadSpec) :=
  OpenClaim.holds_of_wide 6 Try.f6 rfl rfl rfl rfl rfl rfl rfl ⟨rfl, rfl, rfl, rfl, rfl⟩ rfl rfl rfl rfl rfl orientSpread_named Try.func6 orientSpread_closed
    orientSpread_inst orientSpread_wrap
    (fun os started H enc _ => orientSpread_lifted os started H enc)
/-- The statement. -/
theorem orientSpread_proved : Rows.OrientSpreadSaid := orientSpread_over
end Go.Proofs.Ythnpmmpcejfllaa
