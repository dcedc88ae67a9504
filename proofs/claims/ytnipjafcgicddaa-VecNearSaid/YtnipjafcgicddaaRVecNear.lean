/-
  Rows.VecNearSaid: it is told whether two are within a distance, and where one moves, as the document says.
-/
import Derived.Test.YtnipjafcgicddaaVm
import Derived.Test.YtnipjafcgicddaaLo
import Derived.Test.YtnipjafcgicddaaRows
set_option linter.unusedVariables false
namespace Go.Proofs.Ytnipjafcgicddaa
open Go Go.ChangeShapes Go.WideShapes Go.ChangeAt Go.RowKit

set_option maxRecDepth 100000
theorem vecNear_c0 : (Rows.vecNearRow.wf (OpenSpec.ofChange Rows.vecNearSpec)) = true := by kernel_rfl
theorem vecNear_c1 : (laidOutB Try.pinned.checked.prog) = true := by kernel_rfl
theorem vecNear_c2 : (mapsRowed Try.pinned.checked.prog) = true := by kernel_rfl
theorem vecNear_c3 : (Try.f10.params.all (Try.pinned.checked.prog.readableRec ·)) = true := by kernel_rfl
theorem vecNear_c4 : (namedTie Try.pinned.checked.prog Rows.vecNearRow.named Rows.vecNearSpec.vars) = true := by kernel_rfl
theorem vecNear_c5 : ((Rows.vecNearRow.stops == [])) = true := by kernel_rfl
theorem vecNear_c6 : ((Try.pinned.checked.prog.stops == [])) = true := by kernel_rfl
theorem vecNear_c7 : ((Rows.vecNearRow.knobs == [])) = true := by kernel_rfl
theorem vecNear_c8 : ((Try.pinned.checked.prog.stopKnobs == [])) = true := by kernel_rfl
theorem vecNear_c9 : ((Rows.vecNearRow.inPlace == Try.pinned.checked.prog.inPlace 10)) = true := by kernel_rfl
theorem vecNear_c10 : ((Rows.vecNearRow.unfollowed == Try.pinned.checked.prog.unfollowed 10)) = true := by kernel_rfl
theorem vecNear_c11 : ((Rows.vecNearRow.recurses == Try.pinned.checked.prog.recurses 10)) = true := by kernel_rfl
theorem vecNear_c12 : ((Rows.vecNearRow.named == Try.pinned.checked.prog.varsNamed 10)) = true := by kernel_rfl
theorem vecNear_c13 : ((Rows.vecNearRow.maps == (Try.f10.params.toList ++ Rows.vecNearSpec.plain.varTypes Try.pinned.checked.prog).any (Try.pinned.checked.prog.mapsRec ·))) = true := by kernel_rfl
theorem vecNear_c14 : ((Rows.vecNearRow.ifaces == (Try.f10.params.toList ++ Rows.vecNearSpec.plain.varTypes Try.pinned.checked.prog).any (Try.pinned.checked.prog.ifacesRec ·))) = true := by kernel_rfl
theorem vecNear_c15 : ((Rows.vecNearRow.mapsOut == Try.pinned.checked.prog.mapsAmong Try.f10.resultTypes.toList)) = true := by kernel_rfl
theorem vecNear_c16 : ((Rows.vecNearRow.loops == (Try.f10.params.toList ++ Rows.vecNearSpec.plain.varTypes Try.pinned.checked.prog).any (Try.pinned.checked.prog.loopsFrom ·))) = true := by kernel_rfl
theorem vecNear_c17 : ((Rows.vecNearRow.wideKeys == (Try.f10.params.toList ++ Rows.vecNearSpec.plain.varTypes Try.pinned.checked.prog ++ Try.f10.resultTypes.toList).any (Try.pinned.checked.prog.wideKeysFrom ·))) = true := by kernel_rfl
theorem vecNear_c18 : (Rows.vecNearSpec.vars.all (Try.pinned.checked.prog.varReadable ·)) = true := by kernel_rfl
theorem vecNear_c19 : (Try.f10.resultTypes.all (fun t => Try.pinned.checked.prog.readableRec t && decide (t < Try.pinned.checked.prog.types.size))) = true := by kernel_rfl
theorem vecNear_c20 : ((Rows.vecNearRow.ifacesOut == Try.f10.resultTypes.toList.any (Try.pinned.checked.prog.ifacesRec ·))) = true := by kernel_rfl
theorem vecNear_c21 : ((Rows.vecNearRow.loopsOut == Try.f10.resultTypes.toList.any (Try.pinned.checked.prog.loopsFrom ·))) = true := by kernel_rfl
theorem vecNear_c22 : ((Rows.vecNearRow.plainKeys == Try.pinned.checked.prog.plainKeys)) = true := by kernel_rfl
theorem vecNear_c23 : (Rows.vecNearRow.shortTexts.isNone) = true := by kernel_rfl
theorem vecNear_c24 : (Try.pinned.checked.prog.stopsHeard) = true := by kernel_rfl
theorem vecNear_c25 : (Try.pinned.checked.prog.mayEnter) = true := by kernel_rfl
theorem vecNear_c26 : ((Rows.vecNearRow.lifted == Try.pinned.checked.prog.liftsFinal)) = true := by kernel_rfl
theorem vecNear_c27 : ((Try.pinned.checked.prog.make == some Rows.vecNearRow.make)) = true := by kernel_rfl
theorem vecNear_c28 : ((Rows.vecNearRow.kinds == (if Rows.vecNearRow.domain.isEmpty then [] else Try.f10.params.toList.map fun t => match Try.pinned.checked.prog.underlying t with | some (.int k) => some k | _ => none))) = true := by kernel_rfl
theorem vecNear_c29 : ((Rows.vecNearRow.pinned == Rows.vecNearRow.pinnedBy)) = true := by kernel_rfl
theorem vecNear_c30 : ((Rows.vecNearRow.veiled == (Try.f10.params.toList ++ Rows.vecNearSpec.plain.varTypes Try.pinned.checked.prog ++ Try.f10.resultTypes.toList).any (Try.pinned.checked.prog.veiledRec ·))) = true := by kernel_rfl
theorem vecNear_c31 : (Rows.vecNearRow.veiledFits Try.pinned.checked.prog Try.f10.params.toList (Try.f10.params.toList ++ Rows.vecNearSpec.plain.varTypes Try.pinned.checked.prog ++ Try.f10.resultTypes.toList)) = true := by kernel_rfl
theorem vecNear_closed : joinedFacts Try.pinned.checked.prog 10 Try.f10 Rows.vecNearSpec Rows.vecNearRow = true := by
  unfold joinedFacts
  simp only [Bool.and_eq_true]
  exact ⟨⟨⟨⟨⟨⟨⟨⟨⟨⟨⟨⟨⟨⟨⟨⟨⟨⟨⟨⟨⟨⟨⟨⟨⟨⟨⟨⟨⟨⟨⟨vecNear_c0, vecNear_c1⟩, vecNear_c2⟩, vecNear_c3⟩, vecNear_c4⟩, vecNear_c5⟩, vecNear_c6⟩, vecNear_c7⟩, vecNear_c8⟩, vecNear_c9⟩, vecNear_c10⟩, vecNear_c11⟩, vecNear_c12⟩, vecNear_c13⟩, vecNear_c14⟩, vecNear_c15⟩, vecNear_c16⟩, vecNear_c17⟩, vecNear_c18⟩, vecNear_c19⟩, vecNear_c20⟩, vecNear_c21⟩, vecNear_c22⟩, vecNear_c23⟩, vecNear_c24⟩, vecNear_c25⟩, vecNear_c26⟩, vecNear_c27⟩, vecNear_c28⟩, vecNear_c29⟩, vecNear_c30⟩, vecNear_c31⟩
theorem vecNear_lifted (os : Os) (started : os.Started) (H : Type) (enc : TypeId × Value → H) :
    ReturnsInHanded {} Try.checked os 10 .any (Rows.vecNearSpec.pre6 enc Try.prog Try.f10 Rows.vecNearRow.domain false) (Rows.vecNearSpec.post enc Try.prog Try.f10 false true false false) := by
  refine returnsInHanded_of_change (C := Try.checked) own started (by kernel_rfl) Try.func10
    (ChangeSpec.witness6 (enc := enc) (C := Try.checked) false ⟨#[], #[.agg #[.int .i64 0, .int .i64 0, .int .i64 0], .agg #[.int .i64 0, .int .i64 0, .int .i64 0], .int .i64 0], []⟩ 8 (by kernel_rfl) (by kernel_rfl) (by kernel_rfl) (by kernel_rfl)) ?_
  intro W base args ds gs before hval0 hW hcnd _
  have hval : ∀ (j : Nat) t v, Try.f10.params[j]? = some t → args[j]? = some v → Value.okWide Try.prog W .any base t v := hval0
  have hW' := hW
  obtain ⟨p, q, hA0, hV, rfl, hfz, hnd⟩ := hW
  have hA : DataW.TrodAll enc Try.prog W 0 (fun _ => true) true Try.f10.params.toList args.toList ds p := hA0
  rw [Try.params10] at hA hval
  obtain ⟨v0, vs0, d0, ds0, p0, q0, hargs, rfl, rfl, h0, r0⟩ := trodAll_cons hA
  obtain ⟨v1, vs1, d1, ds1, p1, q1, rfl, rfl, rfl, h1, r1⟩ := trodAll_cons r0
  obtain ⟨v2, vs2, d2, ds2, p2, q2, rfl, rfl, rfl, h2, r2⟩ := trodAll_cons r1
  obtain ⟨rfl, rfl, rfl⟩ := trodAll_nil r2
  obtain rfl : args = #[v0, v1, v2] := by cases args; simp_all
  obtain ⟨rfl, rfl⟩ := trodVars_none hV
  have k0 := h0
  have k1 := h1
  have k2 := h2
  have lt0 : ∀ x ∈ p0, x.block < W.heap.size := by obtain ⟨m, hm⟩ := k0; exact DataW.trod_lt m _ _ _ hm
  have lt1 : ∀ x ∈ p1, x.block < W.heap.size := by obtain ⟨m, hm⟩ := k1; exact DataW.trod_lt m _ _ _ hm
  have lt2 : ∀ x ∈ p2, x.block < W.heap.size := by obtain ⟨m, hm⟩ := k2; exact DataW.trod_lt m _ _ _ hm
  obtain ⟨a0, rfl, ha0⟩ := open_vec (hval 0 24 v0 rfl rfl) h0
  obtain ⟨a1, rfl, ha1⟩ := open_vec (hval 1 24 v1 rfl rfl) h1
  obtain ⟨a2, rfl, ha2⟩ := open_fix (hval 2 22 v2 rfl rfl) h2
  clear hA0 hval0
  refine (vecnear_law a0 ha0 a1 ha1 a2 ha2 W).mono fun e W' ⟨he, hk⟩ => ?_
  subst he
  have bel := hk.below
  exact ⟨_, rfl, _, _, _, [], _, [], hW', trodAll_mk1 (shut_bool Try.underlying4 _), (trodAll_cons_mk (Below.trod laidOut (by kernel_rfl) (of_decide_eq_true (by kernel_rfl)) k0 bel lt0) (trodAll_cons_mk (Below.trod laidOut (by kernel_rfl) (of_decide_eq_true (by kernel_rfl)) k1 bel lt1) (trodAll_cons_mk (Below.trod laidOut (by kernel_rfl) (of_decide_eq_true (by kernel_rfl)) k2 bel lt2) trodAll_mk0))), rfl, bel.frame _, fun h => by cases h⟩
theorem vecNear_named : Try.pinned.checked.prog.funcNamed Rows.vecNearRow.func = some 10 := by kernel_rfl
theorem vecNear_inst : (Try.f10).isInstance Try.pinned.checked.prog Rows.vecNearRow.origin Rows.vecNearRow.targs := of_decide_eq_true (by kernel_rfl)
theorem vecNear_wrap : (Try.f10).isWrapper Try.pinned.checked.prog Rows.vecNearRow.wrapper Rows.vecNearRow.mainSum := by unfold Func.isWrapper; rw [if_neg (of_decide_eq_false (by kernel_rfl))]; exact ⟨rfl, rfl⟩
theorem vecNear_over : Rows.vecNearRow.holds Try.pinned (OpenSpec.ofChange Rows.vecNearSpec) :=
  OpenClaim.holds_of_wide 10 Try.f10 rfl rfl rfl rfl rfl rfl rfl ⟨rfl, rfl, rfl, rfl, rfl⟩ rfl rfl rfl rfl rfl vecNear_named Try.func10 vecNear_closed
    vecNear_inst vecNear_wrap
    (fun os started H enc _ => vecNear_lifted os started H enc)
/-- The statement. -/
theorem vecNear_proved : Rows.VecNearSaid := vecNear_over
end Go.Proofs.Ytnipjafcgicddaa
