/-
  Rows.SolveNoneSaid: the law answers true at every input, and leaves its arguments as they were.
-/
import Derived.Test.YtblffafmkpnjdaaLo
import Derived.Test.YtblffafmkpnjdaaLt
import Derived.Test.YtblffafmkpnjdaaUw
import Derived.Test.YtblffafmkpnjdaaRows
set_option linter.unusedVariables false
namespace Go.Proofs.Ytblffafmkpnjdaa
open Go Go.ChangeShapes Go.WideShapes Go.ChangeAt Go.RowKit

set_option maxRecDepth 100000
theorem solveNone_c0 : (Rows.solveNoneRow.wf (OpenSpec.ofChange Rows.solveNoneSpec)) = true := by kernel_rfl
theorem solveNone_c1 : (laidOutB Try.pinned.checked.prog) = true := by kernel_rfl
theorem solveNone_c2 : (mapsRowed Try.pinned.checked.prog) = true := by kernel_rfl
theorem solveNone_c3 : (Try.f6.params.all (Try.pinned.checked.prog.readableRec ·)) = true := by kernel_rfl
theorem solveNone_c4 : (namedTie Try.pinned.checked.prog Rows.solveNoneRow.named Rows.solveNoneSpec.vars) = true := by kernel_rfl
theorem solveNone_c5 : ((Rows.solveNoneRow.stops == [])) = true := by kernel_rfl
theorem solveNone_c6 : ((Try.pinned.checked.prog.stops == [])) = true := by kernel_rfl
theorem solveNone_c7 : ((Rows.solveNoneRow.knobs == [])) = true := by kernel_rfl
theorem solveNone_c8 : ((Try.pinned.checked.prog.stopKnobs == [])) = true := by kernel_rfl
theorem solveNone_c9 : ((Rows.solveNoneRow.inPlace == Try.pinned.checked.prog.inPlace 6)) = true := by kernel_rfl
theorem solveNone_c10 : ((Rows.solveNoneRow.unfollowed == Try.pinned.checked.prog.unfollowed 6)) = true := by kernel_rfl
theorem solveNone_c11 : ((Rows.solveNoneRow.recurses == Try.pinned.checked.prog.recurses 6)) = true := by kernel_rfl
theorem solveNone_c12 : ((Rows.solveNoneRow.named == Try.pinned.checked.prog.varsNamed 6)) = true := by kernel_rfl
theorem solveNone_c13 : ((Rows.solveNoneRow.maps == (Try.f6.params.toList ++ Rows.solveNoneSpec.plain.varTypes Try.pinned.checked.prog).any (Try.pinned.checked.prog.mapsRec ·))) = true := by kernel_rfl
theorem solveNone_c14 : ((Rows.solveNoneRow.ifaces == (Try.f6.params.toList ++ Rows.solveNoneSpec.plain.varTypes Try.pinned.checked.prog).any (Try.pinned.checked.prog.ifacesRec ·))) = true := by kernel_rfl
theorem solveNone_c15 : ((Rows.solveNoneRow.mapsOut == Try.pinned.checked.prog.mapsAmong Try.f6.resultTypes.toList)) = true := by kernel_rfl
theorem solveNone_c16 : ((Rows.solveNoneRow.loops == (Try.f6.params.toList ++ Rows.solveNoneSpec.plain.varTypes Try.pinned.checked.prog).any (Try.pinned.checked.prog.loopsFrom ·))) = true := by kernel_rfl
theorem solveNone_c17 : ((Rows.solveNoneRow.wideKeys == (Try.f6.params.toList ++ Rows.solveNoneSpec.plain.varTypes Try.pinned.checked.prog ++ Try.f6.resultTypes.toList).any (Try.pinned.checked.prog.wideKeysFrom ·))) = true := by kernel_rfl
theorem solveNone_c18 : (Rows.solveNoneSpec.vars.all (Try.pinned.checked.prog.varReadable ·)) = true := by kernel_rfl
theorem solveNone_c19 : (Try.f6.resultTypes.all (fun t => Try.pinned.checked.prog.readableRec t && decide (t < Try.pinned.checked.prog.types.size))) = true := by kernel_rfl
theorem solveNone_c20 : ((Rows.solveNoneRow.ifacesOut == Try.f6.resultTypes.toList.any (Try.pinned.checked.prog.ifacesRec ·))) = true := by kernel_rfl
theorem solveNone_c21 : ((Rows.solveNoneRow.loopsOut == Try.f6.resultTypes.toList.any (Try.pinned.checked.prog.loopsFrom ·))) = true := by kernel_rfl
theorem solveNone_c22 : ((Rows.solveNoneRow.plainKeys == Try.pinned.checked.prog.plainKeys)) = true := by kernel_rfl
theorem solveNone_c23 : (Rows.solveNoneRow.shortTexts.isNone) = true := by kernel_rfl
theorem solveNone_c24 : (Try.pinned.checked.prog.stopsHeard) = true := by kernel_rfl
theorem solveNone_c25 : (Try.pinned.checked.prog.mayEnter) = true := by kernel_rfl
theorem solveNone_c26 : ((Rows.solveNoneRow.lifted == Try.pinned.checked.prog.liftsFinal)) = true := by kernel_rfl
theorem solveNone_c27 : ((Try.pinned.checked.prog.make == some Rows.solveNoneRow.make)) = true := by kernel_rfl
theorem solveNone_c28 : ((Rows.solveNoneRow.kinds == (if Rows.solveNoneRow.domain.isEmpty then [] else Try.f6.params.toList.map fun t => match Try.pinned.checked.prog.underlying t with | some (.int k) => some k | _ => none))) = true := by kernel_rfl
theorem solveNone_c29 : ((Rows.solveNoneRow.pinned == Rows.solveNoneRow.pinnedBy)) = true := by kernel_rfl
theorem solveNone_c30 : ((Rows.solveNoneRow.veiled == (Try.f6.params.toList ++ Rows.solveNoneSpec.plain.varTypes Try.pinned.checked.prog ++ Try.f6.resultTypes.toList).any (Try.pinned.checked.prog.veiledRec ·))) = true := by kernel_rfl
theorem solveNone_c31 : (Rows.solveNoneRow.veiledFits Try.pinned.checked.prog Try.f6.params.toList (Try.f6.params.toList ++ Rows.solveNoneSpec.plain.varTypes Try.pinned.checked.prog ++ Try.f6.resultTypes.toList)) = true := by kernel_rfl
theorem solveNone_closed : joinedFacts Try.pinned.checked.prog 6 Try.f6 Rows.solveNoneSpec Rows.solveNoneRow = true := by
  unfold joinedFacts
  simp only [Bool.and_eq_true]
  exact ⟨⟨⟨⟨⟨⟨⟨⟨⟨⟨⟨⟨⟨⟨⟨⟨⟨⟨⟨⟨⟨⟨⟨⟨⟨⟨⟨⟨⟨⟨⟨solveNone_c0, solveNone_c1⟩, solveNone_c2⟩, solveNone_c3⟩, solveNone_c4⟩, solveNone_c5⟩, solveNone_c6⟩, solveNone_c7⟩, solveNone_c8⟩, solveNone_c9⟩, solveNone_c10⟩, solveNone_c11⟩, solveNone_c12⟩, solveNone_c13⟩, solveNone_c14⟩, solveNone_c15⟩, solveNone_c16⟩, solveNone_c17⟩, solveNone_c18⟩, solveNone_c19⟩, solveNone_c20⟩, solveNone_c21⟩, solveNone_c22⟩, solveNone_c23⟩, solveNone_c24⟩, solveNone_c25⟩, solveNone_c26⟩, solveNone_c27⟩, solveNone_c28⟩, solveNone_c29⟩, solveNone_c30⟩, solveNone_c31⟩
theorem solveNone_lifted (os : Os) (started : os.Started) (H : Type) (enc : TypeId × Value → H) :
    ReturnsInHanded {} Try.checked os 6 .any (Rows.solveNoneSpec.pre6 enc Try.prog Try.f6 Rows.solveNoneRow.domain false) (Rows.solveNoneSpec.post enc Try.prog Try.f6 false true false false) := by
  refine returnsInHanded_of_change (C := Try.checked) own started (by kernel_rfl) Try.func6
    (ChangeSpec.witness6 (enc := enc) (C := Try.checked) false ⟨#[], #[.slice none 0 0, .slice none 0 0, .int .i64 0], []⟩ 8 (by kernel_rfl) (by kernel_rfl) (by kernel_rfl) (by kernel_rfl)) ?_
  intro W base args ds gs before hval0 hW hcnd _
  have hval : ∀ (j : Nat) t v, Try.f6.params[j]? = some t → args[j]? = some v → Value.okWide Try.prog W .any base t v := hval0
  have hW' := hW
  obtain ⟨p, q, hA0, hV, rfl, hfz, hnd⟩ := hW
  have hA : DataW.TrodAll enc Try.prog W 0 (fun _ => true) true Try.f6.params.toList args.toList ds p := hA0
  rw [Try.params6] at hA hval
  obtain ⟨v0, vs0, d0, ds0, p0, q0, hargs, rfl, rfl, h0, r0⟩ := trodAll_cons hA
  obtain ⟨v1, vs1, d1, ds1, p1, q1, rfl, rfl, rfl, h1, r1⟩ := trodAll_cons r0
  obtain ⟨v2, vs2, d2, ds2, p2, q2, rfl, rfl, rfl, h2, r2⟩ := trodAll_cons r1
  obtain ⟨rfl, rfl, rfl⟩ := trodAll_nil r2
  obtain rfl : args = #[v0, v1, v2] := by cases args; simp_all
  obtain ⟨rfl, rfl⟩ := trodVars_none hV
  have k0 := h0
  have k1 := h1
  have k2 := h2
  have lt0 : ∀ x ∈ p0, x.block < W.heap.size := by obtain ⟨m, hm⟩ := k0; exact DataW.trod_lt m _ _ _ hm
  have lt1 : ∀ x ∈ p1, x.block < W.heap.size := by obtain ⟨m, hm⟩ := k1; exact DataW.trod_lt m _ _ _ hm
  have lt2 : ∀ x ∈ p2, x.block < W.heap.size := by obtain ⟨m, hm⟩ := k2; exact DataW.trod_lt m _ _ _ hm
  obtain ⟨l0, s0, n0, i0⟩ := open_bodies (hval 0 22 v0 rfl rfl) h0
  obtain ⟨l1, s1, n1, i1⟩ := open_rows (hval 1 23 v1 rfl rfl) h1
  obtain ⟨a2, rfl, ha2⟩ := open_idx (hval 2 3 v2 rfl rfl) h2
  clear hA0 hval0
  refine (none_law l0 n0 i0 s0 l1 n1 i1 s1 a2 ha2).mono fun e W' ⟨he, hk⟩ => ?_
  subst he
  have bel := hk.below
  exact ⟨_, rfl, _, _, _, [], _, [], hW', trodAll_mk1 (shut_bool Try.underlying4 _), (trodAll_cons_mk (Below.trod laidOut (by kernel_rfl) (of_decide_eq_true (by kernel_rfl)) k0 bel lt0) (trodAll_cons_mk (Below.trod laidOut (by kernel_rfl) (of_decide_eq_true (by kernel_rfl)) k1 bel lt1) (trodAll_cons_mk (Below.trod laidOut (by kernel_rfl) (of_decide_eq_true (by kernel_rfl)) k2 bel lt2) trodAll_mk0))), rfl, bel.frame _, fun h => by cases h⟩
theorem solveNone_named : Try.pinned.checked.prog.funcNamed Rows.solveNoneRow.func = some 6 := by kernel_rfl
theorem solveNone_inst : (Try.f6).isInstance Try.pinned.checked.prog Rows.solveNoneRow.origin Rows.solveNoneRow.targs := of_decide_eq_true (by kernel_rfl)
theorem solveNone_wrap : (Try.f6).isWrapper Try.pinned.checked.prog Rows.solveNoneRow.wrapper Rows.solveNoneRow.mainSum := by unfold Func.isWrapper; rw [if_neg (of_decide_eq_false (by kernel_rfl))]; exact ⟨rfl, rfl⟩
theorem solveNone_over : Rows.solveNoneRow.holds Try.pinned (OpenSpec.ofChange Rows.solveNoneSpec) :=
  OpenClaim.holds_of_wide 6 Try.f6 rfl rfl rfl rfl rfl rfl rfl ⟨rfl, rfl, rfl, rfl, rfl⟩ rfl rfl rfl rfl rfl solveNone_named Try.func6 solveNone_closed
    solveNone_inst solveNone_wrap
    (fun os started H enc _ => solveNone_lifted os started H enc)
/-- The statement. -/
theorem solveNone_proved : Rows.SolveNoneSaid := solveNone_over
end Go.Proofs.Ytblffafmkpnjdaa
