/-
  Rows.SolveOnceSaid: the law answers true at every input, and leaves its arguments as they were.
-/
import Derived.Test.YtblffafmkpnjdaaLo
import Derived.Test.YtblffafmkpnjdaaLq
import Derived.Test.YtblffafmkpnjdaaUp
import Derived.Test.YtblffafmkpnjdaaRows
set_option linter.unusedVariables false
namespace Go.Proofs.Ytblffafmkpnjdaa
open Go Go.ChangeShapes Go.WideShapes Go.ChangeAt Go.RowKit

set_option maxRecDepth 100000
theorem solveOnce_c0 : (Rows.solveOnceRow.wf (OpenSpec.ofChange Rows.solveOnceSpec)) = true := by kernel_rfl
theorem solveOnce_c1 : (laidOutB Try.pinned.checked.prog) = true := by kernel_rfl
theorem solveOnce_c2 : (mapsRowed Try.pinned.checked.prog) = true := by kernel_rfl
theorem solveOnce_c3 : (Try.f7.params.all (Try.pinned.checked.prog.readableRec ·)) = true := by kernel_rfl
theorem solveOnce_c4 : (namedTie Try.pinned.checked.prog Rows.solveOnceRow.named Rows.solveOnceSpec.vars) = true := by kernel_rfl
theorem solveOnce_c5 : ((Rows.solveOnceRow.stops == [])) = true := by kernel_rfl
theorem solveOnce_c6 : ((Try.pinned.checked.prog.stops == [])) = true := by kernel_rfl
theorem solveOnce_c7 : ((Rows.solveOnceRow.knobs == [])) = true := by kernel_rfl
theorem solveOnce_c8 : ((Try.pinned.checked.prog.stopKnobs == [])) = true := by kernel_rfl
theorem solveOnce_c9 : ((Rows.solveOnceRow.inPlace == Try.pinned.checked.prog.inPlace 7)) = true := by kernel_rfl
theorem solveOnce_c10 : ((Rows.solveOnceRow.unfollowed == Try.pinned.checked.prog.unfollowed 7)) = true := by kernel_rfl
theorem solveOnce_c11 : ((Rows.solveOnceRow.recurses == Try.pinned.checked.prog.recurses 7)) = true := by kernel_rfl
theorem solveOnce_c12 : ((Rows.solveOnceRow.named == Try.pinned.checked.prog.varsNamed 7)) = true := by kernel_rfl
theorem solveOnce_c13 : ((Rows.solveOnceRow.maps == (Try.f7.params.toList ++ Rows.solveOnceSpec.plain.varTypes Try.pinned.checked.prog).any (Try.pinned.checked.prog.mapsRec ·))) = true := by kernel_rfl
theorem solveOnce_c14 : ((Rows.solveOnceRow.ifaces == (Try.f7.params.toList ++ Rows.solveOnceSpec.plain.varTypes Try.pinned.checked.prog).any (Try.pinned.checked.prog.ifacesRec ·))) = true := by kernel_rfl
theorem solveOnce_c15 : ((Rows.solveOnceRow.mapsOut == Try.pinned.checked.prog.mapsAmong Try.f7.resultTypes.toList)) = true := by kernel_rfl
theorem solveOnce_c16 : ((Rows.solveOnceRow.loops == (Try.f7.params.toList ++ Rows.solveOnceSpec.plain.varTypes Try.pinned.checked.prog).any (Try.pinned.checked.prog.loopsFrom ·))) = true := by kernel_rfl
theorem solveOnce_c17 : ((Rows.solveOnceRow.wideKeys == (Try.f7.params.toList ++ Rows.solveOnceSpec.plain.varTypes Try.pinned.checked.prog ++ Try.f7.resultTypes.toList).any (Try.pinned.checked.prog.wideKeysFrom ·))) = true := by kernel_rfl
theorem solveOnce_c18 : (Rows.solveOnceSpec.vars.all (Try.pinned.checked.prog.varReadable ·)) = true := by kernel_rfl
theorem solveOnce_c19 : (Try.f7.resultTypes.all (fun t => Try.pinned.checked.prog.readableRec t && decide (t < Try.pinned.checked.prog.types.size))) = true := by kernel_rfl
theorem solveOnce_c20 : ((Rows.solveOnceRow.ifacesOut == Try.f7.resultTypes.toList.any (Try.pinned.checked.prog.ifacesRec ·))) = true := by kernel_rfl
theorem solveOnce_c21 : ((Rows.solveOnceRow.loopsOut == Try.f7.resultTypes.toList.any (Try.pinned.checked.prog.loopsFrom ·))) = true := by kernel_rfl
theorem solveOnce_c22 : ((Rows.solveOnceRow.plainKeys == Try.pinned.checked.prog.plainKeys)) = true := by kernel_rfl
theorem solveOnce_c23 : (Rows.solveOnceRow.shortTexts.isNone) = true := by kernel_rfl
theorem solveOnce_c24 : (Try.pinned.checked.prog.stopsHeard) = true := by kernel_rfl
theorem solveOnce_c25 : (Try.pinned.checked.prog.mayEnter) = true := by kernel_rfl
theorem solveOnce_c26 : ((Rows.solveOnceRow.lifted == Try.pinned.checked.prog.liftsFinal)) = true := by kernel_rfl
theorem solveOnce_c27 : ((Try.pinned.checked.prog.make == some Rows.solveOnceRow.make)) = true := by kernel_rfl
theorem solveOnce_c28 : ((Rows.solveOnceRow.kinds == (if Rows.solveOnceRow.domain.isEmpty then [] else Try.f7.params.toList.map fun t => match Try.pinned.checked.prog.underlying t with | some (.int k) => some k | _ => none))) = true := by kernel_rfl
theorem solveOnce_c29 : ((Rows.solveOnceRow.pinned == Rows.solveOnceRow.pinnedBy)) = true := by kernel_rfl
theorem solveOnce_c30 : ((Rows.solveOnceRow.veiled == (Try.f7.params.toList ++ Rows.solveOnceSpec.plain.varTypes Try.pinned.checked.prog ++ Try.f7.resultTypes.toList).any (Try.pinned.checked.prog.veiledRec ·))) = true := by kernel_rfl
theorem solveOnce_c31 : (Rows.solveOnceRow.veiledFits Try.pinned.checked.prog Try.f7.params.toList (Try.f7.params.toList ++ Rows.solveOnceSpec.plain.varTypes Try.pinned.checked.prog ++ Try.f7.resultTypes.toList)) = true := by kernel_rfl
theorem solveOnce_closed : joinedFacts Try.pinned.checked.prog 7 Try.f7 Rows.solveOnceSpec Rows.solveOnceRow = true := by
  unfold joinedFacts
  simp only [Bool.and_eq_true]
  exact ⟨⟨⟨⟨⟨⟨⟨⟨⟨⟨⟨⟨⟨⟨⟨⟨⟨⟨⟨⟨⟨⟨⟨⟨⟨⟨⟨⟨⟨⟨⟨solveOnce_c0, solveOnce_c1⟩, solveOnce_c2⟩, solveOnce_c3⟩, solveOnce_c4⟩, solveOnce_c5⟩, solveOnce_c6⟩, solveOnce_c7⟩, solveOnce_c8⟩, solveOnce_c9⟩, solveOnce_c10⟩, solveOnce_c11⟩, solveOnce_c12⟩, solveOnce_c13⟩, solveOnce_c14⟩, solveOnce_c15⟩, solveOnce_c16⟩, solveOnce_c17⟩, solveOnce_c18⟩, solveOnce_c19⟩, solveOnce_c20⟩, solveOnce_c21⟩, solveOnce_c22⟩, solveOnce_c23⟩, solveOnce_c24⟩, solveOnce_c25⟩, solveOnce_c26⟩, solveOnce_c27⟩, solveOnce_c28⟩, solveOnce_c29⟩, solveOnce_c30⟩, solveOnce_c31⟩
theorem solveOnce_lifted (os : Os) (started : os.Started) (H : Type) (enc : TypeId × Value → H) :
    ReturnsInHanded {} Try.checked os 7 .any (Rows.solveOnceSpec.pre6 enc Try.prog Try.f7 Rows.solveOnceRow.domain false) (Rows.solveOnceSpec.post enc Try.prog Try.f7 false true false false) := by
  refine returnsInHanded_of_change (C := Try.checked) own started (by kernel_rfl) Try.func7
    (ChangeSpec.witness6 (enc := enc) (C := Try.checked) false ⟨#[], #[.agg #[.int .i64 0, .int .i64 0, .int .i64 0, .int .i64 0, .int .i64 0, .int .i64 0, .int .i64 0, .int .i64 0, .int .i64 0, .int .i64 0, .int .i64 0, .int .i64 0, .int .i64 0, .int .i64 0, .int .i64 0, .int .i64 0], .agg #[.int .i64 0, .int .i64 0, .int .i64 0], .agg #[.int .i64 0, .int .i64 0, .int .i64 0]], []⟩ 8 (by kernel_rfl) (by kernel_rfl) (by kernel_rfl) (by kernel_rfl)) ?_
  intro W base args ds gs before hval0 hW hcnd _
  have hval : ∀ (j : Nat) t v, Try.f7.params[j]? = some t → args[j]? = some v → Value.okWide Try.prog W .any base t v := hval0
  have hW' := hW
  obtain ⟨p, q, hA0, hV, rfl, hfz, hnd⟩ := hW
  have hA : DataW.TrodAll enc Try.prog W 0 (fun _ => true) true Try.f7.params.toList args.toList ds p := hA0
  rw [Try.params7] at hA hval
  obtain ⟨v0, vs0, d0, ds0, p0, q0, hargs, rfl, rfl, h0, r0⟩ := trodAll_cons hA
  obtain ⟨v1, vs1, d1, ds1, p1, q1, rfl, rfl, rfl, h1, r1⟩ := trodAll_cons r0
  obtain ⟨v2, vs2, d2, ds2, p2, q2, rfl, rfl, rfl, h2, r2⟩ := trodAll_cons r1
  obtain ⟨rfl, rfl, rfl⟩ := trodAll_nil r2
  obtain rfl : args = #[v0, v1, v2] := by cases args; simp_all
  obtain ⟨rfl, rfl⟩ := trodVars_none hV
  have k0 := h0
  have k1 := h1
  have k2 := h2
  have lt0 : ∀ x ∈ p0, x.block < W.heap.size := by obtain ⟨m, hm⟩ := k0; exact DataW.trod_lt m _ _ _ hm
  have lt1 : ∀ x ∈ p1, x.block < W.heap.size := by obtain ⟨m, hm⟩ := k1; exact DataW.trod_lt m _ _ _ hm
  have lt2 : ∀ x ∈ p2, x.block < W.heap.size := by obtain ⟨m, hm⟩ := k2; exact DataW.trod_lt m _ _ _ hm
  obtain ⟨a0, rfl, ha0⟩ := open_inert (hval 0 40 v0 rfl rfl) h0
  obtain ⟨a1, rfl, ha1⟩ := open_vec (hval 1 31 v1 rfl rfl) h1
  obtain ⟨a2, rfl, ha2⟩ := open_vec (hval 2 31 v2 rfl rfl) h2
  clear hA0 hval0
  refine (once_law a0 ha0 a1 ha1 a2 ha2 W).mono fun e W' ⟨he, hk⟩ => ?_
  subst he
  have bel := hk.below
  exact ⟨_, rfl, _, _, _, [], _, [], hW', trodAll_mk1 (shut_bool Try.underlying4 _), (trodAll_cons_mk (Below.trod laidOut (by kernel_rfl) (of_decide_eq_true (by kernel_rfl)) k0 bel lt0) (trodAll_cons_mk (Below.trod laidOut (by kernel_rfl) (of_decide_eq_true (by kernel_rfl)) k1 bel lt1) (trodAll_cons_mk (Below.trod laidOut (by kernel_rfl) (of_decide_eq_true (by kernel_rfl)) k2 bel lt2) trodAll_mk0))), rfl, bel.frame _, fun h => by cases h⟩
theorem solveOnce_named : Try.pinned.checked.prog.funcNamed Rows.solveOnceRow.func = some 7 := by kernel_rfl
theorem solveOnce_inst : (Try.f7).isInstance Try.pinned.checked.prog Rows.solveOnceRow.origin Rows.solveOnceRow.targs := of_decide_eq_true (by kernel_rfl)
theorem solveOnce_wrap : (Try.f7).isWrapper Try.pinned.checked.prog Rows.solveOnceRow.wrapper Rows.solveOnceRow.mainSum := by unfold Func.isWrapper; rw [if_neg (of_decide_eq_false (by kernel_rfl))]; exact ⟨rfl, rfl⟩
theorem solveOnce_over : Rows.solveOnceRow.holds Try.pinned (OpenSpec.ofChange Rows.solveOnceSpec) :=
  OpenClaim.holds_of_wide 7 Try.f7 rfl rfl rfl rfl rfl rfl rfl ⟨rfl, rfl, rfl, rfl, rfl⟩ rfl rfl rfl rfl rfl solveOnce_named Try.func7 solveOnce_closed
    solveOnce_inst solveOnce_wrap
    (fun os started H enc _ => solveOnce_lifted os started H enc)
/-- The statement. -/
theorem solveOnce_proved : Rows.SolveOnceSaid := solveOnce_over
end Go.Proofs.Ytblffafmkpnjdaa
