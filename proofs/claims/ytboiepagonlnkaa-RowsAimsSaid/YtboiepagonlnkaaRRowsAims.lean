/-
  Rows.RowsAimsSaid: the aim falls, or stays, as the gap grows, within its limits.
-/
import Derived.Test.YtboiepagonlnkaaYf
import Derived.Test.YtboiepagonlnkaaLo
import Derived.Test.YtboiepagonlnkaaRows
set_option linter.unusedVariables false
namespace Go.Proofs.Ytboiepagonlnkaa
open Go Go.ChangeShapes Go.WideShapes Go.ChangeAt Go.RowKit

set_option maxRecDepth 100000
theorem rowsAims_c0 : (Rows.rowsAimsRow.wf (OpenSpec.ofChange Rows.rowsAimsSpec)) = true := by kernel_rfl
theorem rowsAims_c1 : (laidOutB Try.pinned.checked.prog) = true := by kernel_rfl
theorem rowsAims_c2 : (mapsRowed Try.pinned.checked.prog) = true := by kernel_rfl
theorem rowsAims_c3 : (Try.f5.params.all (Try.pinned.checked.prog.readableRec ·)) = true := by kernel_rfl
theorem rowsAims_c4 : (namedTie Try.pinned.checked.prog Rows.rowsAimsRow.named Rows.rowsAimsSpec.vars) = true := by kernel_rfl
theorem rowsAims_c5 : ((Rows.rowsAimsRow.stops == [])) = true := by kernel_rfl
theorem rowsAims_c6 : ((Try.pinned.checked.prog.stops == [])) = true := by kernel_rfl
theorem rowsAims_c7 : ((Rows.rowsAimsRow.knobs == [])) = true := by kernel_rfl
theorem rowsAims_c8 : ((Try.pinned.checked.prog.stopKnobs == [])) = true := by kernel_rfl
theorem rowsAims_c9 : ((Rows.rowsAimsRow.inPlace == Try.pinned.checked.prog.inPlace 5)) = true := by kernel_rfl
theorem rowsAims_c10 : ((Rows.rowsAimsRow.unfollowed == Try.pinned.checked.prog.unfollowed 5)) = true := by kernel_rfl
theorem rowsAims_c11 : ((Rows.rowsAimsRow.recurses == Try.pinned.checked.prog.recurses 5)) = true := by kernel_rfl
theorem rowsAims_c12 : ((Rows.rowsAimsRow.named == Try.pinned.checked.prog.varsNamed 5)) = true := by kernel_rfl
theorem rowsAims_c13 : ((Rows.rowsAimsRow.maps == (Try.f5.params.toList ++ Rows.rowsAimsSpec.plain.varTypes Try.pinned.checked.prog).any (Try.pinned.checked.prog.mapsRec ·))) = true := by kernel_rfl
theorem rowsAims_c14 : ((Rows.rowsAimsRow.ifaces == (Try.f5.params.toList ++ Rows.rowsAimsSpec.plain.varTypes Try.pinned.checked.prog).any (Try.pinned.checked.prog.ifacesRec ·))) = true := by kernel_rfl
theorem rowsAims_c15 : ((Rows.rowsAimsRow.mapsOut == Try.pinned.checked.prog.mapsAmong Try.f5.resultTypes.toList)) = true := by kernel_rfl
theorem rowsAims_c16 : ((Rows.rowsAimsRow.loops == (Try.f5.params.toList ++ Rows.rowsAimsSpec.plain.varTypes Try.pinned.checked.prog).any (Try.pinned.checked.prog.loopsFrom ·))) = true := by kernel_rfl
theorem rowsAims_c17 : ((Rows.rowsAimsRow.wideKeys == (Try.f5.params.toList ++ Rows.rowsAimsSpec.plain.varTypes Try.pinned.checked.prog ++ Try.f5.resultTypes.toList).any (Try.pinned.checked.prog.wideKeysFrom ·))) = true := by kernel_rfl
theorem rowsAims_c18 : (Rows.rowsAimsSpec.vars.all (Try.pinned.checked.prog.varReadable ·)) = true := by kernel_rfl
theorem rowsAims_c19 : (Try.f5.resultTypes.all (fun t => Try.pinned.checked.prog.readableRec t && decide (t < Try.pinned.checked.prog.types.size))) = true := by kernel_rfl
theorem rowsAims_c20 : ((Rows.rowsAimsRow.ifacesOut == Try.f5.resultTypes.toList.any (Try.pinned.checked.prog.ifacesRec ·))) = true := by kernel_rfl
theorem rowsAims_c21 : ((Rows.rowsAimsRow.loopsOut == Try.f5.resultTypes.toList.any (Try.pinned.checked.prog.loopsFrom ·))) = true := by kernel_rfl
theorem rowsAims_c22 : ((Rows.rowsAimsRow.plainKeys == Try.pinned.checked.prog.plainKeys)) = true := by kernel_rfl
theorem rowsAims_c23 : (Rows.rowsAimsRow.shortTexts.isNone) = true := by kernel_rfl
theorem rowsAims_c24 : (Try.pinned.checked.prog.stopsHeard) = true := by kernel_rfl
theorem rowsAims_c25 : (Try.pinned.checked.prog.mayEnter) = true := by kernel_rfl
theorem rowsAims_c26 : ((Rows.rowsAimsRow.lifted == Try.pinned.checked.prog.liftsFinal)) = true := by kernel_rfl
theorem rowsAims_c27 : ((Try.pinned.checked.prog.make == some Rows.rowsAimsRow.make)) = true := by kernel_rfl
theorem rowsAims_c28 : ((Rows.rowsAimsRow.kinds == (if Rows.rowsAimsRow.domain.isEmpty then [] else Try.f5.params.toList.map fun t => match Try.pinned.checked.prog.underlying t with | some (.int k) => some k | _ => none))) = true := by kernel_rfl
theorem rowsAims_c29 : ((Rows.rowsAimsRow.pinned == Rows.rowsAimsRow.pinnedBy)) = true := by kernel_rfl
theorem rowsAims_c30 : ((Rows.rowsAimsRow.veiled == (Try.f5.params.toList ++ Rows.rowsAimsSpec.plain.varTypes Try.pinned.checked.prog ++ Try.f5.resultTypes.toList).any (Try.pinned.checked.prog.veiledRec ·))) = true := by kernel_rfl
theorem rowsAims_c31 : (Rows.rowsAimsRow.veiledFits Try.pinned.checked.prog Try.f5.params.toList (Try.f5.params.toList ++ Rows.rowsAimsSpec.plain.varTypes Try.pinned.checked.prog ++ Try.f5.resultTypes.toList)) = true := by kernel_rfl
theorem rowsAims_closed : joinedFacts Try.pinned.checked.prog 5 Try.f5 Rows.rowsAimsSpec Rows.rowsAimsRow = true := by
  unfold joinedFacts
  simp only [Bool.and_eq_true]
  exact ⟨⟨⟨⟨⟨⟨⟨⟨⟨⟨⟨⟨⟨⟨⟨⟨⟨⟨⟨⟨⟨⟨⟨⟨⟨⟨⟨⟨⟨⟨⟨rowsAims_c0, rowsAims_c1⟩, rowsAims_c2⟩, rowsAims_c3⟩, rowsAims_c4⟩, rowsAims_c5⟩, rowsAims_c6⟩, rowsAims_c7⟩, rowsAims_c8⟩, rowsAims_c9⟩, rowsAims_c10⟩, rowsAims_c11⟩, rowsAims_c12⟩, rowsAims_c13⟩, rowsAims_c14⟩, rowsAims_c15⟩, rowsAims_c16⟩, rowsAims_c17⟩, rowsAims_c18⟩, rowsAims_c19⟩, rowsAims_c20⟩, rowsAims_c21⟩, rowsAims_c22⟩, rowsAims_c23⟩, rowsAims_c24⟩, rowsAims_c25⟩, rowsAims_c26⟩, rowsAims_c27⟩, rowsAims_c28⟩, rowsAims_c29⟩, rowsAims_c30⟩, rowsAims_c31⟩
theorem rowsAims_lifted (os : Os) (started : os.Started) (H : Type) (enc : TypeId × Value → H) :
    ReturnsInHanded {} Try.checked os 5 .any (Rows.rowsAimsSpec.pre6 enc Try.prog Try.f5 Rows.rowsAimsRow.domain false) (Rows.rowsAimsSpec.post enc Try.prog Try.f5 false true false false) := by
  refine returnsInHanded_of_change (C := Try.checked) own started (by kernel_rfl) Try.func5
    (ChangeSpec.witness6 (enc := enc) (C := Try.checked) false ⟨#[], #[.int .i64 0, .int .i64 0, .int .i64 0], []⟩ 8 (by kernel_rfl) (by kernel_rfl) (by kernel_rfl) (by kernel_rfl)) ?_
  intro W base args ds gs before hval0 hW hcnd _
  have hval : ∀ (j : Nat) t v, Try.f5.params[j]? = some t → args[j]? = some v → Value.okWide Try.prog W .any base t v := hval0
  have hW' := hW
  obtain ⟨p, q, hA0, hV, rfl, hfz, hnd⟩ := hW
  have hA : DataW.TrodAll enc Try.prog W 0 (fun _ => true) true Try.f5.params.toList args.toList ds p := hA0
  rw [Try.params5] at hA hval
  obtain ⟨v0, vs0, d0, ds0, p0, q0, hargs, rfl, rfl, h0, r0⟩ := trodAll_cons hA
  obtain ⟨v1, vs1, d1, ds1, p1, q1, rfl, rfl, rfl, h1, r1⟩ := trodAll_cons r0
  obtain ⟨v2, vs2, d2, ds2, p2, q2, rfl, rfl, rfl, h2, r2⟩ := trodAll_cons r1
  obtain ⟨rfl, rfl, rfl⟩ := trodAll_nil r2
  obtain rfl : args = #[v0, v1, v2] := by cases args; simp_all
  obtain ⟨rfl, rfl⟩ := trodVars_none hV
  have k0 := h0
  have k1 := h1
  have k2 := h2
  have lt0 : ∀ x ∈ p0, x.block < W.heap.size := by obtain ⟨m, hm⟩ := k0; exact DataW.trod_lt m _ _ _ hm
  have lt1 : ∀ x ∈ p1, x.block < W.heap.size := by obtain ⟨m, hm⟩ := k1; exact DataW.trod_lt m _ _ _ hm
  have lt2 : ∀ x ∈ p2, x.block < W.heap.size := by obtain ⟨m, hm⟩ := k2; exact DataW.trod_lt m _ _ _ hm
  obtain ⟨a0, rfl, ha0⟩ := open_fix (hval 0 22 v0 rfl rfl) h0
  obtain ⟨a1, rfl, ha1⟩ := open_fix (hval 1 22 v1 rfl rfl) h1
  obtain ⟨a2, rfl, ha2⟩ := open_fix (hval 2 22 v2 rfl rfl) h2
  clear hA0 hval0
  refine (aims_law a0 ha0 a1 ha1 a2 ha2 W).mono fun e W' ⟨he, hk⟩ => ?_
  subst he
  have bel := hk.below
  exact ⟨_, rfl, _, _, _, [], _, [], hW', trodAll_mk1 (shut_bool Try.underlying4 _), (trodAll_cons_mk (Below.trod laidOut (by kernel_rfl) (of_decide_eq_true (by kernel_rfl)) k0 bel lt0) (trodAll_cons_mk (Below.trod laidOut (by kernel_rfl) (of_decide_eq_true (by kernel_rfl)) k1 bel lt1) (trodAll_cons_mk (Below.trod laidOut (by kernel_rfl) (of_decide_eq_true (by kernel_rfl)) k2 bel lt2) trodAll_mk0))), rfl, bel.frame _, fun h => by cases h⟩
theorem rowsAims_named : Try.pinned.checked.prog.funcNamed Rows.rowsAimsRow.func = some 5 := by kernel_rfl
theorem rowsAims_inst : (Try.f5).isInstance Try.pinned.checked.prog Rows.rowsAimsRow.origin Rows.rowsAimsRow.targs := of_decide_eq_true (by kernel_rfl)
theorem rowsAims_wrap : (Try.f5).isWrapper Try.pinned.checked.prog Rows.rowsAimsRow.wrapper Rows.rowsAimsRow.mainSum := by unfold Func.isWrapper; rw [if_neg (of_decide_eq_false (by kernel_rfl))]; exact ⟨rfl, rfl⟩
theorem rowsAims_over : Rows.rowsAimsRow.holds Try.pinned (OpenSpec.ofChange Rows.rowsAimsSpec) :=
  OpenClaim.holds_of_wide 5 Try.f5 rfl rfl rfl rfl rfl rfl rfl ⟨rfl, rfl, rfl, rfl, rfl⟩ rfl rfl rfl rfl rfl rowsAims_named Try.func5 rowsAims_closed
    rowsAims_inst rowsAims_wrap
    (fun os started H enc _ => rowsAims_lifted os started H enc)
/-- The statement. -/
theorem rowsAims_proved : Rows.RowsAimsSaid := rowsAims_over
end Go.Proofs.Ytboiepagonlnkaa
