/-
  Rows.VecTurnedSaid: Dot does not hang on the order, Cross turned over is 0 less it, or that less 2^-32, and of a vector with itself zero.
-/
import Derived.Test.YtnipjafcgicddaaVq
import Derived.Test.YtnipjafcgicddaaLo
import Derived.Test.YtnipjafcgicddaaRows
set_option linter.unusedVariables false
namespace Go.Proofs.Ytnipjafcgicddaa
open Go Go.ChangeShapes Go.WideShapes Go.ChangeAt Go.RowKit

set_option maxRecDepth 100000
theorem vecTurned_c0 : (Rows.vecTurnedRow.wf (OpenSpec.ofChange Rows.vecTurnedSpec)) = true := by kernel_rfl
theorem vecTurned_c1 : (laidOutB Try.pinned.checked.prog) = true := by kernel_rfl
theorem vecTurned_c2 : (mapsRowed Try.pinned.checked.prog) = true := by kernel_rfl
theorem vecTurned_c3 : (Try.f6.params.all (Try.pinned.checked.prog.readableRec ·)) = true := by kernel_rfl
theorem vecTurned_c4 : (namedTie Try.pinned.checked.prog Rows.vecTurnedRow.named Rows.vecTurnedSpec.vars) = true := by kernel_rfl
theorem vecTurned_c5 : ((Rows.vecTurnedRow.stops == [])) = true := by kernel_rfl
theorem vecTurned_c6 : ((Try.pinned.checked.prog.stops == [])) = true := by kernel_rfl
theorem vecTurned_c7 : ((Rows.vecTurnedRow.knobs == [])) = true := by kernel_rfl
theorem vecTurned_c8 : ((Try.pinned.checked.prog.stopKnobs == [])) = true := by kernel_rfl
theorem vecTurned_c9 : ((Rows.vecTurnedRow.inPlace == Try.pinned.checked.prog.inPlace 6)) = true := by kernel_rfl
theorem vecTurned_c10 : ((Rows.vecTurnedRow.unfollowed == Try.pinned.checked.prog.unfollowed 6)) = true := by kernel_rfl
theorem vecTurned_c11 : ((Rows.vecTurnedRow.recurses == Try.pinned.checked.prog.recurses 6)) = true := by kernel_rfl
theorem vecTurned_c12 : ((Rows.vecTurnedRow.named == Try.pinned.checked.prog.varsNamed 6)) = true := by kernel_rfl
theorem vecTurned_c13 : ((Rows.vecTurnedRow.maps == (Try.f6.params.toList ++ Rows.vecTurnedSpec.plain.varTypes Try.pinned.checked.prog).any (Try.pinned.checked.prog.mapsRec ·))) = true := by kernel_rfl
theorem vecTurned_c14 : ((Rows.vecTurnedRow.ifaces == (Try.f6.params.toList ++ Rows.vecTurnedSpec.plain.varTypes Try.pinned.checked.prog).any (Try.pinned.checked.prog.ifacesRec ·))) = true := by kernel_rfl
theorem vecTurned_c15 : ((Rows.vecTurnedRow.mapsOut == Try.pinned.checked.prog.mapsAmong Try.f6.resultTypes.toList)) = true := by kernel_rfl
theorem vecTurned_c16 : ((Rows.vecTurnedRow.loops == (Try.f6.params.toList ++ Rows.vecTurnedSpec.plain.varTypes Try.pinned.checked.prog).any (Try.pinned.checked.prog.loopsFrom ·))) = true := by kernel_rfl
theorem vecTurned_c17 : ((Rows.vecTurnedRow.wideKeys == (Try.f6.params.toList ++ Rows.vecTurnedSpec.plain.varTypes Try.pinned.checked.prog ++ Try.f6.resultTypes.toList).any (Try.pinned.checked.prog.wideKeysFrom ·))) = true := by kernel_rfl
theorem vecTurned_c18 : (Rows.vecTurnedSpec.vars.all (Try.pinned.checked.prog.varReadable ·)) = true := by kernel_rfl
theorem vecTurned_c19 : (Try.f6.resultTypes.all (fun t => Try.pinned.checked.prog.readableRec t && decide (t < Try.pinned.checked.prog.types.size))) = true := by kernel_rfl
theorem vecTurned_c20 : ((Rows.vecTurnedRow.ifacesOut == Try.f6.resultTypes.toList.any (Try.pinned.checked.prog.ifacesRec ·))) = true := by kernel_rfl
theorem vecTurned_c21 : ((Rows.vecTurnedRow.loopsOut == Try.f6.resultTypes.toList.any (Try.pinned.checked.prog.loopsFrom ·))) = true := by kernel_rfl
theorem vecTurned_c22 : ((Rows.vecTurnedRow.plainKeys == Try.pinned.checked.prog.plainKeys)) = true := by kernel_rfl
theorem vecTurned_c23 : (Rows.vecTurnedRow.shortTexts.isNone) = true := by kernel_rfl
theorem vecTurned_c24 : (Try.pinned.checked.prog.stopsHeard) = true := by kernel_rfl
theorem vecTurned_c25 : (Try.pinned.checked.prog.mayEnter) = true := by kernel_rfl
theorem vecTurned_c26 : ((Rows.vecTurnedRow.lifted == Try.pinned.checked.prog.liftsFinal)) = true := by kernel_rfl
theorem vecTurned_c27 : ((Try.pinned.checked.prog.make == some Rows.vecTurnedRow.make)) = true := by kernel_rfl
theorem vecTurned_c28 : ((Rows.vecTurnedRow.kinds == (if Rows.vecTurnedRow.domain.isEmpty then [] else Try.f6.params.toList.map fun t => match Try.pinned.checked.prog.underlying t with | some (.int k) => some k | _ => none))) = true := by kernel_rfl
theorem vecTurned_c29 : ((Rows.vecTurnedRow.pinned == Rows.vecTurnedRow.pinnedBy)) = true := by kernel_rfl
theorem vecTurned_c30 : ((Rows.vecTurnedRow.veiled == (Try.f6.params.toList ++ Rows.vecTurnedSpec.plain.varTypes Try.pinned.checked.prog ++ Try.f6.resultTypes.toList).any (Try.pinned.checked.prog.veiledRec ·))) = true := by kernel_rfl
theorem vecTurned_c31 : (Rows.vecTurnedRow.veiledFits Try.pinned.checked.prog Try.f6.params.toList (Try.f6.params.toList ++ Rows.vecTurnedSpec.plain.varTypes Try.pinned.checked.prog ++ Try.f6.resultTypes.toList)) = true := by kernel_rfl
theorem vecTurned_closed : joinedFacts Try.pinned.checked.prog 6 Try.f6 Rows.vecTurnedSpec Rows.vecTurnedRow = true := by
  unfold joinedFacts
  simp only [Bool.and_eq_true]
  exact ⟨⟨⟨⟨⟨⟨⟨⟨⟨⟨⟨⟨⟨⟨⟨⟨⟨⟨⟨⟨⟨⟨⟨⟨⟨⟨⟨⟨⟨⟨⟨vecTurned_c0, vecTurned_c1⟩, vecTurned_c2⟩, vecTurned_c3⟩, vecTurned_c4⟩, vecTurned_c5⟩, vecTurned_c6⟩, vecTurned_c7⟩, vecTurned_c8⟩, vecTurned_c9⟩, vecTurned_c10⟩, vecTurned_c11⟩, vecTurned_c12⟩, vecTurned_c13⟩, vecTurned_c14⟩, vecTurned_c15⟩, vecTurned_c16⟩, vecTurned_c17⟩, vecTurned_c18⟩, vecTurned_c19⟩, vecTurned_c20⟩, vecTurned_c21⟩, vecTurned_c22⟩, vecTurned_c23⟩, vecTurned_c24⟩, vecTurned_c25⟩, vecTurned_c26⟩, vecTurned_c27⟩, vecTurned_c28⟩, vecTurned_c29⟩, vecTurned_c30⟩, vecTurned_c31⟩
theorem vecTurned_lifted (os : Os) (started : os.Started) (H : Type) (enc : TypeId × Value → H) :
    ReturnsInHanded {} Try.checked os 6 .any (Rows.vecTurnedSpec.pre6 enc Try.prog Try.f6 Rows.vecTurnedRow.domain false) (Rows.vecTurnedSpec.post enc Try.prog Try.f6 false true false false) := by
  refine returnsInHanded_of_change (C := Try.checked) own started (by kernel_rfl) Try.func6
    (ChangeSpec.witness6 (enc := enc) (C := Try.checked) false ⟨#[], #[.agg #[.int .i64 0, .int .i64 0, .int .i64 0], .agg #[.int .i64 0, .int .i64 0, .int .i64 0]], []⟩ 8 (by kernel_rfl) (by kernel_rfl) (by kernel_rfl) (by kernel_rfl)) ?_
  intro W base args ds gs before hval0 hW hcnd _
  have hval : ∀ (j : Nat) t v, Try.f6.params[j]? = some t → args[j]? = some v → Value.okWide Try.prog W .any base t v := hval0
  have hW' := hW
  obtain ⟨p, q, hA0, hV, rfl, hfz, hnd⟩ := hW
  have hA : DataW.TrodAll enc Try.prog W 0 (fun _ => true) true Try.f6.params.toList args.toList ds p := hA0
  rw [Try.params6] at hA hval
  obtain ⟨v0, vs0, d0, ds0, p0, q0, hargs, rfl, rfl, h0, r0⟩ := trodAll_cons hA
  obtain ⟨v1, vs1, d1, ds1, p1, q1, rfl, rfl, rfl, h1, r1⟩ := trodAll_cons r0
  obtain ⟨rfl, rfl, rfl⟩ := trodAll_nil r1
  obtain rfl : args = #[v0, v1] := by cases args; simp_all
  obtain ⟨rfl, rfl⟩ := trodVars_none hV
  have k0 := h0
  have k1 := h1
  have lt0 : ∀ x ∈ p0, x.block < W.heap.size := by obtain ⟨m, hm⟩ := k0; exact DataW.trod_lt m _ _ _ hm
  have lt1 : ∀ x ∈ p1, x.block < W.heap.size := by obtain ⟨m, hm⟩ := k1; exact DataW.trod_lt m _ _ _ hm
  obtain ⟨a0, rfl, ha0⟩ := open_vec (hval 0 24 v0 rfl rfl) h0
  obtain ⟨a1, rfl, ha1⟩ := open_vec (hval 1 24 v1 rfl rfl) h1
  clear hA0 hval0
  refine (turned_law a0 ha0 a1 ha1 W).mono fun e W' ⟨he, hk⟩ => ?_
  subst he
  have bel := hk.below
  exact ⟨_, rfl, _, _, _, [], _, [], hW', trodAll_mk1 (shut_bool Try.underlying4 _), (trodAll_cons_mk (Below.trod laidOut (by kernel_rfl) (of_decide_eq_true (by kernel_rfl)) k0 bel lt0) (trodAll_cons_mk (Below.trod laidOut (by kernel_rfl) (of_decide_eq_true (by kernel_rfl)) k1 bel lt1) trodAll_mk0)), rfl, bel.frame _, fun h => by cases h⟩
theorem vecTurned_named : Try.pinned.checked.prog.funcNamed Rows.vecTurnedRow.func = some 6 := by kernel_rfl
theorem vecTurned_inst : (Try.f6).isInstance Try.pinned.checked.prog Rows.vecTurnedRow.origin Rows.vecTurnedRow.targs := of_decide_eq_true (by kernel_rfl)
theorem vecTurned_wrap : (Try.f6).isWrapper Try.pinned.checked.prog Rows.vecTurnedRow.wrapper Rows.vecTurnedRow.mainSum := by unfold Func.isWrapper; rw [if_neg (of_decide_eq_false (by kernel_rfl))]; exact ⟨rfl, rfl⟩
theorem vecTurned_over : Rows.vecTurnedRow.holds Try.pinned (OpenSpec.ofChange Rows.vecTurnedSpec) :=
  OpenClaim.holds_of_wide 6 Try.f6 rfl rfl rfl rfl rfl rfl rfl ⟨rfl, rfl, rfl, rfl, rfl⟩ rfl rfl rfl rfl rfl vecTurned_named Try.func6 vecTurned_closed
    vecTurned_inst vecTurned_wrap
    (fun os started H enc _ => vecTurned_lifted os started H enc)
/-- The statement. -/
theorem vecTurned_proved : Rows.VecTurnedSaid := vecTurned_over
end Go.Proofs.Ytnipjafcgicddaa
