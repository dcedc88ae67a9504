/-
  Rows.OrientRankSaid: the rank and the spread of any points are the document's, or refused (at most 12 points, or more than 256, but at most 300).
-/
import Derived.Test.YthnpmmpcejfllaaLr
import Derived.Test.YthnpmmpcejfllaaLc
import Derived.Test.YthnpmmpcejfllaaRows
set_option linter.unusedVariables false
namespace Go.Proofs.Ythnpmmpcejfllaa
open Go Go.ChangeShapes Go.WideShapes Go.ChangeAt Go.RowKit

set_option maxRecDepth 100000
theorem orientRank_c0 : (Rows.orientRankRow.wf (OpenSpec.ofChange Rows.orientRankSpec)) = true := by kernel_rfl
theorem orientRank_c1 : (laidOutB Try.pinned.checked.prog) = true := by kernel_rfl
theorem orientRank_c2 : (mapsRowed Try.pinned.checked.prog) = true := by kernel_rfl
theorem orientRank_c3 : (Try.f3.params.all (Try.pinned.checked.prog.readableRec ·)) = true := by kernel_rfl
theorem orientRank_c4 : (namedTie Try.pinned.checked.prog Rows.orientRankRow.named Rows.orientRankSpec.vars) = true := by kernel_rfl
theorem orientRank_c5 : ((Rows.orientRankRow.stops == [])) = true := by kernel_rfl
theorem orientRank_c6 : ((Try.pinned.checked.prog.stops == [])) = true := by kernel_rfl
theorem orientRank_c7 : ((Rows.orientRankRow.knobs == [])) = true := by kernel_rfl
theorem orientRank_c8 : ((Try.pinned.checked.prog.stopKnobs == [])) = true := by kernel_rfl
theorem orientRank_c9 : ((Rows.orientRankRow.inPlace == Try.pinned.checked.prog.inPlace 3)) = true := by kernel_rfl
theorem orientRank_c10 : ((Rows.orientRankRow.unfollowed == Try.pinned.checked.prog.unfollowed 3)) = true := by kernel_rfl
theorem orientRank_c11 : ((Rows.orientRankRow.recurses == Try.pinned.checked.prog.recurses 3)) = true := by kernel_rfl
theorem orientRank_c12 : ((Rows.orientRankRow.named == Try.pinned.checked.prog.varsNamed 3)) = true := by kernel_rfl
theorem orientRank_c13 : ((Rows.orientRankRow.maps == (Try.f3.params.toList ++ Rows.orientRankSpec.plain.varTypes Try.pinned.checked.prog).any (Try.pinned.checked.prog.mapsRec ·))) = true := by kernel_rfl
theorem orientRank_c14 : ((Rows.orientRankRow.ifaces == (Try.f3.params.toList ++ Rows.orientRankSpec.plain.varTypes Try.pinned.checked.prog).any (Try.pinned.checked.prog.ifacesRec ·))) = true := by kernel_rfl
theorem orientRank_c15 : ((Rows.orientRankRow.mapsOut == Try.pinned.checked.prog.mapsAmong Try.f3.resultTypes.toList)) = true := by kernel_rfl
theorem orientRank_c16 : ((Rows.orientRankRow.loops == (Try.f3.params.toList ++ Rows.orientRankSpec.plain.varTypes Try.pinned.checked.prog).any (Try.pinned.checked.prog.loopsFrom ·))) = true := by kernel_rfl
theorem orientRank_c17 : ((Rows.orientRankRow.wideKeys == (Try.f3.params.toList ++ Rows.orientRankSpec.plain.varTypes Try.pinned.checked.prog ++ Try.f3.resultTypes.toList).any (Try.pinned.checked.prog.wideKeysFrom ·))) = true := by kernel_rfl
theorem orientRank_c18 : (Rows.orientRankSpec.vars.all (Try.pinned.checked.prog.varReadable ·)) = true := by kernel_rfl
theorem orientRank_c19 : (Try.f3.resultTypes.all (fun t => Try.pinned.checked.prog.readableRec t && decide (t < Try.pinned.checked.prog.types.size))) = true := by kernel_rfl
theorem orientRank_c20 : ((Rows.orientRankRow.ifacesOut == Try.f3.resultTypes.toList.any (Try.pinned.checked.prog.ifacesRec ·))) = true := by kernel_rfl
theorem orientRank_c21 : ((Rows.orientRankRow.loopsOut == Try.f3.resultTypes.toList.any (Try.pinned.checked.prog.loopsFrom ·))) = true := by kernel_rfl
theorem orientRank_c22 : ((Rows.orientRankRow.plainKeys == Try.pinned.checked.prog.plainKeys)) = true := by kernel_rfl
theorem orientRank_c23 : (Rows.orientRankRow.shortTexts.isNone) = true := by kernel_rfl
theorem orientRank_c24 : (Try.pinned.checked.prog.stopsHeard) = true := by kernel_rfl
theorem orientRank_c25 : (Try.pinned.checked.prog.mayEnter) = true := by kernel_rfl
theorem orientRank_c26 : ((Rows.orientRankRow.lifted == Try.pinned.checked.prog.liftsFinal)) = true := by kernel_rfl
theorem orientRank_c27 : ((Try.pinned.checked.prog.make == some Rows.orientRankRow.make)) = true := by kernel_rfl
theorem orientRank_c28 : ((Rows.orientRankRow.kinds == (if Rows.orientRankRow.domain.isEmpty then [] else Try.f3.params.toList.map fun t => match Try.pinned.checked.prog.underlying t with | some (.int k) => some k | _ => none))) = true := by kernel_rfl
theorem orientRank_c29 : ((Rows.orientRankRow.pinned == Rows.orientRankRow.pinnedBy)) = true := by kernel_rfl
theorem orientRank_c30 : ((Rows.orientRankRow.veiled == (Try.f3.params.toList ++ Rows.orientRankSpec.plain.varTypes Try.pinned.checked.prog ++ Try.f3.resultTypes.toList).any (Try.pinned.checked.prog.veiledRec ·))) = true := by kernel_rfl
theorem orientRank_c31 : (Rows.orientRankRow.veiledFits Try.pinned.checked.prog Try.f3.params.toList (Try.f3.params.toList ++ Rows.orientRankSpec.plain.varTypes Try.pinned.checked.prog ++ Try.f3.resultTypes.toList)) = true := by kernel_rfl
theorem orientRank_closed : joinedFacts Try.pinned.checked.prog 3 Try.f3 Rows.orientRankSpec Rows.orientRankRow = true := by
  unfold joinedFacts
  simp only [Bool.and_eq_true]
  exact ⟨⟨⟨⟨⟨⟨⟨⟨⟨⟨⟨⟨⟨⟨⟨⟨⟨⟨⟨⟨⟨⟨⟨⟨⟨⟨⟨⟨⟨⟨⟨orientRank_c0, orientRank_c1⟩, orientRank_c2⟩, orientRank_c3⟩, orientRank_c4⟩, orientRank_c5⟩, orientRank_c6⟩, orientRank_c7⟩, orientRank_c8⟩, orientRank_c9⟩, orientRank_c10⟩, orientRank_c11⟩, orientRank_c12⟩, orientRank_c13⟩, orientRank_c14⟩, orientRank_c15⟩, orientRank_c16⟩, orientRank_c17⟩, orientRank_c18⟩, orientRank_c19⟩, orientRank_c20⟩, orientRank_c21⟩, orientRank_c22⟩, orientRank_c23⟩, orientRank_c24⟩, orientRank_c25⟩, orientRank_c26⟩, orientRank_c27⟩, orientRank_c28⟩, orientRank_c29⟩, orientRank_c30⟩, orientRank_c31⟩
theorem orientRank_lifted (os : Os) (started : os.Started) (H : Type) (enc : TypeId × Value → H) :
    ReturnsInHanded {} Try.checked os 3 .any (Rows.orientRankSpec.pre6 enc Try.prog Try.f3 Rows.orientRankRow.domain false) (Rows.orientRankSpec.post enc Try.prog Try.f3 false true false false) := by
  refine returnsInHanded_of_change (C := Try.checked) own started (by kernel_rfl) Try.func3
    (ChangeSpec.witness6 (enc := enc) (C := Try.checked) false ⟨#[], #[.slice none 0 0], []⟩ 8 (by kernel_rfl) (by kernel_rfl) (by kernel_rfl) (by kernel_rfl)) ?_
  intro W base args ds gs before hval0 hW hcnd _
  have hval : ∀ (j : Nat) t v, Try.f3.params[j]? = some t → args[j]? = some v → Value.okWide Try.prog W .any base t v := hval0
  have hW' := hW
  obtain ⟨p, q, hA0, hV, rfl, hfz, hnd⟩ := hW
  have hA : DataW.TrodAll enc Try.prog W 0 (fun _ => true) true Try.f3.params.toList args.toList ds p := hA0
  rw [Try.params3] at hA hval
  obtain ⟨v0, vs0, d0, ds0, p0, q0, hargs, rfl, rfl, h0, r0⟩ := trodAll_cons hA
  obtain ⟨rfl, rfl, rfl⟩ := trodAll_nil r0
  obtain rfl : args = #[v0] := by cases args; simp_all
  obtain ⟨rfl, rfl⟩ := trodVars_none hV
  have k0 := h0
  have lt0 : ∀ x ∈ p0, x.block < W.heap.size := by obtain ⟨m, hm⟩ := k0; exact DataW.trod_lt m _ _ _ hm
  obtain ⟨l0, s0, n0, i0⟩ := open_points (hval 0 22 v0 rfl rfl) h0
  clear hA0 hval0
  refine (ranks_law l0 n0 i0 s0).mono fun e W' ⟨he, hk⟩ => ?_
  subst he
  have bel := hk.below
  exact ⟨_, rfl, _, _, _, [], _, [], hW', trodAll_mk1 (shut_bool Try.underlying4 _), (trodAll_cons_mk (Below.trod laidOut (by kernel_rfl) (of_decide_eq_true (by kernel_rfl)) k0 bel lt0) trodAll_mk0), rfl, bel.frame _, fun h => by cases h⟩
theorem orientRank_named : Try.pinned.checked.prog.funcNamed Rows.orientRankRow.func = some 3 := by kernel_rfl
theorem orientRank_inst : (Try.f3).isInstance Try.pinned.checked.prog Rows.orientRankRow.origin Rows.orientRankRow.targs := of_decide_eq_true (by kernel_rfl)
theorem orientRank_wrap : (Try.f3).isWrapper Try.pinned.checked.prog Rows.orientRankRow.wrapper Rows.orientRankRow.mainSum := by unfold Func.isWrapper; rw [if_neg (of_decide_eq_false (by kernel_rfl))]; exact ⟨rfl, rfl⟩
theorem orientRank_over : Rows.orientRankRow.holds Try.pinned (OpenSpec.ofChange Rows.orientRankSpec) :=
  OpenClaim.holds_of_wide 3 Try.f3 rfl rfl rfl rfl rfl rfl rfl ⟨rfl, rfl, rfl, rfl, rfl⟩ rfl rfl rfl rfl rfl orientRank_named Try.func3 orientRank_closed
    orientRank_inst orientRank_wrap
    (fun os started H enc _ => orientRank_lifted os started H enc)
/-- The statement. -/
theorem orientRank_proved : Rows.OrientRankSaid := orientRank_over
end Go.Proofs.Ythnpmmpcejfllaa
