/-
  Rows.VecSumsSaid: sums, differences, and vectors times a number are the document's.
-/
import Derived.Test.YtnipjafcgicddaaVm
import Derived.Test.YtnipjafcgicddaaLo
import Derived.Test.YtnipjafcgicddaaRows
set_option linter.unusedVariables false
namespace Go.Proofs.Ytnipjafcgicddaa
open Go Go.ChangeShapes Go.WideShapes Go.ChangeAt Go.RowKit

set_option maxRecDepth 100000
theorem vecSums_c0 : (Rows.vecSumsRow.wf (OpenSpec.ofChange Rows.vecSumsSpec)) = true := by kernel_rfl
theorem vecSums_c1 : (laidOutB Try.pinned.checked.prog) = true := by kernel_rfl
theorem vecSums_c2 : (mapsRowed Try.pinned.checked.prog) = true := by kernel_rfl
theorem vecSums_c3 : (Try.f13.params.all (Try.pinned.checked.prog.readableRec ·)) = true := by kernel_rfl
theorem vecSums_c4 : (namedTie Try.pinned.checked.prog Rows.vecSumsRow.named Rows.vecSumsSpec.vars) = true := by kernel_rfl
theorem vecSums_c5 : ((Rows.vecSumsRow.stops == [])) = true := by kernel_rfl
theorem vecSums_c6 : ((Try.pinned.checked.prog.stops == [])) = true := by kernel_rfl
theorem vecSums_c7 : ((Rows.vecSumsRow.knobs == [])) = true := by kernel_rfl
theorem vecSums_c8 : ((Try.pinned.checked.prog.stopKnobs == [])) = true := by kernel_rfl
theorem vecSums_c9 : ((Rows.vecSumsRow.inPlace == Try.pinned.checked.prog.inPlace 13)) = true := by kernel_rfl
theorem vecSums_c10 : ((Rows.vecSumsRow.unfollowed == Try.pinned.checked.prog.unfollowed 13)) = true := by kernel_rfl
theorem vecSums_c11 : ((Rows.vecSumsRow.recurses == Try.pinned.checked.prog.recurses 13)) = true := by kernel_rfl
theorem vecSums_c12 : ((Rows.vecSumsRow.named == Try.pinned.checked.prog.varsNamed 13)) = true := by kernel_rfl
theorem vecSums_c13 : ((Rows.vecSumsRow.maps == (Try.f13.params.toList ++ Rows.vecSumsSpec.plain.varTypes Try.pinned.checked.prog).any (Try.pinned.checked.prog.mapsRec ·))) = true := by kernel_rfl
theorem vecSums_c14 : ((Rows.vecSumsRow.ifaces == (Try.f13.params.toList ++ Rows.vecSumsSpec.plain.varTypes Try.pinned.checked.prog).any (Try.pinned.checked.prog.ifacesRec ·))) = true := by kernel_rfl
theorem vecSums_c15 : ((Rows.vecSumsRow.mapsOut == Try.pinned.checked.prog.mapsAmong Try.f13.resultTypes.toList)) = true := by kernel_rfl
theorem vecSums_c16 : ((Rows.vecSumsRow.loops == (Try.f13.params.toList ++ Rows.vecSumsSpec.plain.varTypes Try.pinned.checked.prog).any (Try.pinned.checked.prog.loopsFrom ·))) = true := by kernel_rfl
theorem vecSums_c17 : ((Rows.vecSumsRow.wideKeys == (Try.f13.params.toList ++ Rows.vecSumsSpec.plain.varTypes Try.pinned.checked.prog ++ Try.f13.resultTypes.toList).any (Try.pinned.checked.prog.wideKeysFrom ·))) = true := by kernel_rfl
theorem vecSums_c18 : (Rows.vecSumsSpec.vars.all (Try.pinned.checked.prog.varReadable ·)) = true := by kernel_rfl
theorem vecSums_c19 : (Try.f13.resultTypes.all (fun t => Try.pinned.checked.prog.readableRec t && decide (t < Try.pinned.checked.prog.types.size))) = true := by kernel_rfl
theorem vecSums_c20 : ((Rows.vecSumsRow.ifacesOut == Try.f13.resultTypes.toList.any (Try.pinned.checked.prog.ifacesRec ·))) = true := by kernel_rfl
theorem vecSums_c21 : ((Rows.vecSumsRow.loopsOut == Try.f13.resultTypes.toList.any (Try.pinned.checked.prog.loopsFrom ·))) = true := by kernel_rfl
theorem vecSums_c22 : ((Rows.vecSumsRow.plainKeys == Try.pinned.checked.prog.plainKeys)) = true := by kernel_rfl
theorem vecSums_c23 : (Rows.vecSumsRow.shortTexts.isNone) = true := by kernel_rfl
theorem vecSums_c24 : (Try.pinned.checked.prog.stopsHeard) = true := by kernel_rfl
theorem vecSums_c25 : (Try.pinned.checked.prog.mayEnter) = true := by kernel_rfl
theorem vecSums_c26 : ((Rows.vecSumsRow.lifted == Try.pinned.checked.prog.liftsFinal)) = true := by kernel_rfl
theorem vecSums_c27 : ((Try.pinned.checked.prog.make == some Rows.vecSumsRow.make)) = true := by kernel_rfl
theorem vecSums_c28 : ((Rows.vecSumsRow.kinds == (if Rows.vecSumsRow.domain.isEmpty then [] else Try.f13.params.toList.map fun t => match Try.pinned.checked.prog.underlying t with | some (.int k) => some k | _ => none))) = true := by kernel_rfl
theorem vecSums_c29 : ((Rows.vecSumsRow.pinned == Rows.vecSumsRow.pinnedBy)) = true := by kernel_rfl
theorem vecSums_c30 : ((Rows.vecSumsRow.veiled == (Try.f13.params.toList ++ Rows.vecSumsSpec.plain.varTypes Try.pinned.checked.prog ++ Try.f13.resultTypes.toList).any (Try.pinned.checked.prog.veiledRec ·))) = true := by kernel_rfl
theorem vecSums_c31 : (Rows.vecSumsRow.veiledFits Try.pinned.checked.prog Try.f13.params.toList (Try.f13.params.toList ++ Rows.vecSumsSpec.plain.varTypes Try.pinned.checked.prog ++ Try.f13.resultTypes.toList)) = true := by kernel_rfl
theorem vecSums_closed : joinedFacts Try.pinned.checked.prog 13 Try.f13 Rows.vecSumsSpec Rows.vecSumsRow = true := by
  unfold joinedFacts
  simp only [Bool.and_eq_true]
  exact ⟨⟨⟨⟨⟨⟨⟨⟨⟨⟨⟨⟨⟨⟨⟨⟨⟨⟨⟨⟨⟨⟨⟨⟨⟨⟨⟨⟨⟨⟨⟨vecSums_c0, vecSums_c1⟩, vecSums_c2⟩, vecSums_c3⟩, vecSums_c4⟩, vecSums_c5⟩, vecSums_c6⟩, vecSums_c7⟩, vecSums_c8⟩, vecSums_c9⟩, vecSums_c10⟩, vecSums_c11⟩, vecSums_c12⟩, vecSums_c13⟩, vecSums_c14⟩, vecSums_c15⟩, vecSums_c16⟩, vecSums_c17⟩, vecSums_c18⟩, vecSums_c19⟩, vecSums_c20⟩, vecSums_c21⟩, vecSums_c22⟩, vecSums_c23⟩, vecSums_c24⟩, vecSums_c25⟩, vecSums_c26⟩, vecSums_c27⟩, vecSums_c28⟩, vecSums_c29⟩, vecSums_c30⟩, vecSums_c31⟩
theorem vecSums_lifted (os : Os) (started : os.Started) (H : Type) (enc : TypeId × Value → H) :
    ReturnsInHanded {} Try.checked os 13 .any (Rows.vecSumsSpec.pre6 enc Try.prog Try.f13 Rows.vecSumsRow.domain false) (Rows.vecSumsSpec.post enc Try.prog Try.f13 false true false false) := by
  refine returnsInHanded_of_change (C := Try.checked) own started (by kernel_rfl) Try.func13
    (ChangeSpec.witness6 (enc := enc) (C := Try.checked) false ⟨#[], #[.agg #[.int .i64 0, .int .i64 0, .int .i64 0], .agg #[.int .i64 0, .int .i64 0, .int .i64 0], .int .i64 0], []⟩ 8 (by kernel_rfl) (by kernel_rfl) (by kernel_rfl) (by kernel_rfl)) ?_
  intro W base args ds gs before hval0 hW hcnd _
  have hval : ∀ (j : Nat) t v, Try.f13.params[j]? = some t → args[j]? = some v → Value.okWide Try.prog W .any base t v := hval0
  have hW' := hW
  obtain ⟨p, q, hA0, hV, rfl, hfz, hnd⟩ := hW
  have hA : DataW.TrodAll enc Try.prog W 0 (fun _ => true) true Try.f13.params.toList args.toList ds p := hA0
  rw [Try.params13] at hA hval
  obtain ⟨v0, vs0, d0, ds0, p0, q0, hargs, rfl, rfl, h0, r0⟩ := trodAll_cons hA
  obtain ⟨v1, vs1, d1, ds1, p1, q1, rfl, rfl, rfl, h1, r1⟩ := trodAll_cons r0
  obtain ⟨v2, vs2, d2, ds2, p2, q2, rfl, rfl, rfl, h2, r2⟩ := trodAll_cons r1
  obtain ⟨rfl, rfl, rfl⟩ := trodAll_nil r2
  obtain rfl : args = #[v0, v1, v2] := by cases args; simp_all
  obtain ⟨rfl, rfl⟩ := trodVars_none hV
  have k0 := h0
  have k1 := h1
  have k2 := h2
  have lt0 : ∀ x ∈ p0, x.block < W.heap.size := by obtain ⟨m, hm⟩ := k0; exact DataW.trod_lt m _ _ _ hm
  have lt1 : ∀ x ∈ p1, x.block < W.heap.size := by obtain ⟨m, hm⟩ := k1; exact DataW.trod_lt m _ _ _ hm
  have lt2 : ∀ x ∈ p2, x.block < W.heap.size := by obtain ⟨m, hm⟩ := k2; exact DataW.trod_lt m _ _ _ hm
  obtain ⟨a0, rfl, ha0⟩ := open_vec (hval 0 24 v0 rfl rfl) h0
  obtain ⟨a1, rfl, ha1⟩ := open_vec (hval 1 24 v1 rfl rfl) h1
  obtain ⟨a2, rfl, ha2⟩ := open_fix (hval 2 22 v2 rfl rfl) h2
  clear hA0 hval0
  refine (vecsums_law a0 ha0 a1 ha1 a2 ha2 W).mono fun e W' ⟨he, hk⟩ => ?_
  subst he
  have bel := hk.below
  exact ⟨_, rfl, _, _, _, [], _, [], hW', trodAll_mk1 (shut_bool Try.underlying4 _), (trodAll_cons_mk (Below.trod laidOut (by kernel_rfl) (of_decide_eq_true (by kernel_rfl)) k0 bel lt0) (trodAll_cons_mk (Below.trod laidOut (by kernel_rfl) (of_decide_eq_true (by kernel_rfl)) k1 bel lt1) (trodAll_cons_mk (Below.trod laidOut (by kernel_rfl) (of_decide_eq_true (by kernel_rfl)) k2 bel lt2) trodAll_mk0))), rfl, bel.frame _, fun h => by cases h⟩
theorem vecSums_named : Try.pinned.checked.prog.funcNamed Rows.vecSumsRow.func = some 13 := by kernel_rfl
theorem vecSums_inst : (Try.f13).isInstance Try.pinned.checked.prog Rows.vecSumsRow.origin Rows.vecSumsRow.targs := of_decide_eq_true (by kernel_rfl)
theorem vecSums_wrap : (Try.f13).isWrapper Try.pinned.checked.prog Rows.vecSumsRow.wrapper Rows.vecSumsRow.mainSum := by unfold Func.isWrapper; rw [if_neg (of_decide_eq_false (by kernel_rfl))]; exact ⟨rfl, rfl⟩
theorem vecSums_over : Rows.vecSumsRow.holds Try.pinned (OpenSpec.ofChange Rows.vecSumsSpec) :=
  OpenClaim.holds_of_wide 13 Try.f13 rfl rfl rfl rfl rfl rfl rfl ⟨rfl, rfl, rfl, rfl, rfl⟩ rfl rfl rfl rfl rfl vecSums_named Try.func13 vecSums_closed
    vecSums_inst vecSums_wrap
    (fun os started H enc _ => vecSums_lifted os started H enc)
/-- The statement. -/
theorem vecSums_proved : Rows.VecSumsSaid := vecSums_over
end Go.Proofs.Ytnipjafcgicddaa
