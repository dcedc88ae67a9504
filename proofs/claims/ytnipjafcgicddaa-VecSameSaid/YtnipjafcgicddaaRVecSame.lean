/-
  Rows.VecSameSaid: a vector times One, and moved by nothing, or for no time, is itself; a length is the same, turned over.
-/
import Derived.Test.YtnipjafcgicddaaVq
import Derived.Test.YtnipjafcgicddaaLo
import Derived.Test.YtnipjafcgicddaaRows
set_option linter.unusedVariables false
namespace Go.Proofs.Ytnipjafcgicddaa
open Go Go.ChangeShapes Go.WideShapes Go.ChangeAt Go.RowKit

set_option maxRecDepth 100000
theorem vecSame_c0 : (Rows.vecSameRow.wf (OpenSpec.ofChange Rows.vecSameSpec)) = true := by kernel_rfl
theorem vecSame_c1 : (laidOutB Try.pinned.checked.prog) = true := by kernel_rfl
theorem vecSame_c2 : (mapsRowed Try.pinned.checked.prog) = true := by kernel_rfl
theorem vecSame_c3 : (Try.f14.params.all (Try.pinned.checked.prog.readableRec ·)) = true := by kernel_rfl
theorem vecSame_c4 : (namedTie Try.pinned.checked.prog Rows.vecSameRow.named Rows.vecSameSpec.vars) = true := by kernel_rfl
theorem vecSame_c5 : ((Rows.vecSameRow.stops == [])) = true := by kernel_rfl
theorem vecSame_c6 : ((Try.pinned.checked.prog.stops == [])) = true := by kernel_rfl
theorem vecSame_c7 : ((Rows.vecSameRow.knobs == [])) = true := by kernel_rfl
theorem vecSame_c8 : ((Try.pinned.checked.prog.stopKnobs == [])) = true := by kernel_rfl
theorem vecSame_c9 : ((Rows.vecSameRow.inPlace == Try.pinned.checked.prog.inPlace 14)) = true := by kernel_rfl
theorem vecSame_c10 : ((Rows.vecSameRow.unfollowed == Try.pinned.checked.prog.unfollowed 14)) = true := by kernel_rfl
theorem vecSame_c11 : ((Rows.vecSameRow.recurses == Try.pinned.checked.prog.recurses 14)) = true := by kernel_rfl
theorem vecSame_c12 : ((Rows.vecSameRow.named == Try.pinned.checked.prog.varsNamed 14)) = true := by kernel_rfl
theorem vecSame_c13 : ((Rows.vecSameRow.maps == (Try.f14.params.toList ++ Rows.vecSameSpec.plain.varTypes Try.pinned.checked.prog).any (Try.pinned.checked.prog.mapsRec ·))) = true := by kernel_rfl
theorem vecSame_c14 : ((Rows.vecSameRow.ifaces == (Try.f14.params.toList ++ Rows.vecSameSpec.plain.varTypes Try.pinned.checked.prog).any (Try.pinned.checked.prog.ifacesRec ·))) = true := by kernel_rfl
theorem vecSame_c15 : ((Rows.vecSameRow.mapsOut == Try.pinned.checked.prog.mapsAmong Try.f14.resultTypes.toList)) = true := by kernel_rfl
theorem vecSame_c16 : ((Rows.vecSameRow.loops == (Try.f14.params.toList ++ Rows.vecSameSpec.plain.varTypes Try.pinned.checked.prog).any (Try.pinned.checked.prog.loopsFrom ·))) = true := by kernel_rfl
theorem vecSame_c17 : ((Rows.vecSameRow.wideKeys == (Try.f14.params.toList ++ Rows.vecSameSpec.plain.varTypes Try.pinned.checked.prog ++ Try.f14.resultTypes.toList).any (Try.pinned.checked.prog.wideKeysFrom ·))) = true := by kernel_rfl
theorem vecSame_c18 : (Rows.vecSameSpec.vars.all (Try.pinned.checked.prog.varReadable ·)) = true := by kernel_rfl
theorem vecSame_c19 : (Try.f14.resultTypes.all (fun t => Try.pinned.checked.prog.readableRec t && decide (t < Try.pinned.checked.prog.types.size))) = true := by kernel_rfl
theorem vecSame_c20 : ((Rows.vecSameRow.ifacesOut == Try.f14.resultTypes.toList.any (Try.pinned.checked.prog.ifacesRec ·))) = true := by kernel_rfl
theorem vecSame_c21 : ((Rows.vecSameRow.loopsOut == Try.f14.resultTypes.toList.any (Try.pinned.checked.prog.loopsFrom ·))) = true := by kernel_rfl
theorem vecSame_c22 : ((Rows.vecSameRow.plainKeys == Try.pinned.checked.prog.plainKeys)) = true := by kernel_rfl
theorem vecSame_c23 : (Rows.vecSameRow.shortTexts.isNone) = true := by kernel_rfl
theorem vecSame_c24 : (Try.pinned.checked.prog.stopsHeard) = true := by kernel_rfl
theorem vecSame_c25 : (Try.pinned.checked.prog.mayEnter) = true := by kernel_rfl
theorem vecSame_c26 : ((Rows.vecSameRow.lifted == Try.pinned.checked.prog.liftsFinal)) = true := by kernel_rfl
theorem vecSame_c27 : ((Try.pinned.checked.prog.make == some Rows.vecSameRow.make)) = true := by kernel_rfl
theorem vecSame_c28 : ((Rows.vecSameRow.kinds == (if Rows.vecSameRow.domain.isEmpty then [] else Try.f14.params.toList.map fun t => match Try.pinned.checked.prog.underlying t with | some (.int k) => some k | _ => none))) = true := by kernel_rfl
theorem vecSame_c29 : ((Rows.vecSameRow.pinned == Rows.vecSameRow.pinnedBy)) = true := by kernel_rfl
theorem vecSame_c30 : ((Rows.vecSameRow.veiled == (Try.f14.params.toList ++ Rows.vecSameSpec.plain.varTypes Try.pinned.checked.prog ++ Try.f14.resultTypes.toList).any (Try.pinned.checked.prog.veiledRec ·))) = true := by kernel_rfl
theorem vecSame_c31 : (Rows.vecSameRow.veiledFits Try.pinned.checked.prog Try.f14.params.toList (Try.f14.params.toList ++ Rows.vecSameSpec.plain.varTypes Try.pinned.checked.prog ++ Try.f14.resultTypes.toList)) = true := by kernel_rfl
theorem vecSame_closed : joinedFacts Try.pinned.checked.prog 14 Try.f14 Rows.vecSameSpec Rows.vecSameRow = true := by
  unfold joinedFacts
  simp only [Bool.and_eq_true]
  exact ⟨⟨⟨⟨⟨⟨⟨⟨⟨⟨⟨⟨⟨⟨⟨⟨⟨⟨⟨⟨⟨⟨⟨⟨⟨⟨⟨⟨⟨⟨⟨vecSame_c0, vecSame_c1⟩, vecSame_c2⟩, vecSame_c3⟩, vecSame_c4⟩, vecSame_c5⟩, vecSame_c6⟩, vecSame_c7⟩, vecSame_c8⟩, vecSame_c9⟩, vecSame_c10⟩, vecSame_c11⟩, vecSame_c12⟩, vecSame_c13⟩, vecSame_c14⟩, vecSame_c15⟩, vecSame_c16⟩, vecSame_c17⟩, vecSame_c18⟩, vecSame_c19⟩, vecSame_c20⟩, vecSame_c21⟩, vecSame_c22⟩, vecSame_c23⟩, vecSame_c24⟩, vecSame_c25⟩, vecSame_c26⟩, vecSame_c27⟩, vecSame_c28⟩, vecSame_c29⟩, vecSame_c30⟩, vecSame_c31⟩
theorem vecSame_lifted (os : Os) (started : os.Started) (H : Type) (enc : TypeId × Value → H) :
    ReturnsInHanded {} Try.checked os 14 .any (Rows.vecSameSpec.pre6 enc Try.prog Try.f14 Rows.vecSameRow.domain false) (Rows.vecSameSpec.post enc Try.prog Try.f14 false true false false) := by
  refine returnsInHanded_of_change (C := Try.checked) own started (by kernel_rfl) Try.func14
    (ChangeSpec.witness6 (enc := enc) (C := Try.checked) false ⟨#[], #[.agg #[.int .i64 0, .int .i64 0, .int .i64 0], .agg #[.int .i64 0, .int .i64 0, .int .i64 0], .int .i64 0], []⟩ 8 (by kernel_rfl) (by kernel_rfl) (by kernel_rfl) (by kernel_rfl)) ?_
  intro W base args ds gs before hval0 hW hcnd _
  have hval : ∀ (j : Nat) t v, Try.f14.params[j]? = some t → args[j]? = some v → Value.okWide Try.prog W .any base t v := hval0
  have hW' := hW
  obtain ⟨p, q, hA0, hV, rfl, hfz, hnd⟩ := hW
  have hA : DataW.TrodAll enc Try.prog W 0 (fun _ => true) true Try.f14.params.toList args.toList ds p := hA0
  rw [Try.params14] at hA hval
  obtain ⟨v0, vs0, d0, ds0, p0, q0, hargs, rfl, rfl, h0, r0⟩ := trodAll_cons hA
  obtain ⟨v1, vs1, d1, ds1, p1, q1, rfl, rfl, rfl, h1, r1⟩ := trodAll_cons r0
  obtain ⟨v2, vs2, d2, ds2, p2, q2, rfl, rfl, rfl, h2, r2⟩ := trodAll_cons r1
  obtain ⟨rfl, rfl, rfl⟩ := trodAll_nil r2
  obtain rfl : args = #[v0, v1, v2] := by cases args; simp_all
  obtain ⟨rfl, rfl⟩ := trodVars_none hV
  have k0 := h0
  have k1 := h1
  have k2 := h2
  have lt0 : ∀ x ∈ p0, x.block < W.heap.size := by obtain ⟨m, hm⟩ := k0; exact DataW.trod_lt m _ _ _ hm
  have lt1 : ∀ x ∈ p1, x.block < W.heap.size := by obtain ⟨m, hm⟩ := k1; exact DataW.trod_lt m _ _ _ hm
  have lt2 : ∀ x ∈ p2, x.block < W.heap.size := by obtain ⟨m, hm⟩ := k2; exact DataW.trod_lt m _ _ _ hm
  obtain ⟨a0, rfl, ha0⟩ := open_vec (hval 0 24 v0 rfl rfl) h0
  obtain ⟨a1, rfl, ha1⟩ := open_vec (hval 1 24 v1 rfl rfl) h1
  obtain ⟨a2, rfl, ha2⟩ := open_fix (hval 2 22 v2 rfl rfl) h2
  clear hA0 hval0
  refine (same3_law a0 ha0 a1 ha1 a2 ha2 W).mono fun e W' ⟨he, hk⟩ => ?_
  subst he
  have bel := hk.below
  exact ⟨_, rfl, _, _, _, [], _, [], hW', trodAll_mk1 (shut_bool Try.underlying4 _), (trodAll_cons_mk (Below.trod laidOut (by kernel_rfl) (of_decide_eq_true (by kernel_rfl)) k0 bel lt0) (trodAll_cons_mk (Below.trod laidOut (by kernel_rfl) (of_decide_eq_true (by kernel_rfl)) k1 bel lt1) (trodAll_cons_mk (Below.trod laidOut (by kernel_rfl) (of_decide_eq_true (by kernel_rfl)) k2 bel lt2) trodAll_mk0))), rfl, bel.frame _, fun h => by cases h⟩
theorem vecSame_named : Try.pinned.checked.prog.funcNamed Rows.vecSameRow.func = some 14 := by kernel_rfl
theorem vecSame_inst : (Try.f14).isInstance Try.pinned.checked.prog Rows.vecSameRow.origin Rows.vecSameRow.targs := of_decide_eq_true (by kernel_rfl)
theorem vecSame_wrap : (Try.f14).isWrapper Try.pinned.checked.prog Rows.vecSameRow.wrapper Rows.vecSameRow.mainSum := by unfold Func.isWrapper; rw [if_neg (of_decide_eq_false (by kernel_rfl))]; exact ⟨rfl, rfl⟩
theorem vecSame_over : Rows.vecSameRow.holds Try.pinned (OpenSpec.ofChange Rows.vecSameSpec) :=
  OpenClaim.holds_of_wide 14 Try.f14 rfl rfl rfl rfl rfl rfl rfl ⟨rfl, rfl, rfl, rfl, rfl⟩ rfl rfl rfl rfl rfl vecSame_named Try.func14 vecSame_closed
    vecSame_inst vecSame_wrap
    (fun os started H enc _ => vecSame_lifted os started H enc)
/-- The statement. -/
theorem vecSame_proved : Rows.VecSameSaid := vecSame_over
end Go.Proofs.Ytnipjafcgicddaa
