/-
  Rows.VecBackSaid: the difference added is the vector again, where nothing is out of bounds; Near asks the same both ways, and is true of the length, rounded up, of the difference.
-/
import Derived.Test.YtnipjafcgicddaaVq
import Derived.Test.YtnipjafcgicddaaLo
import Derived.Test.YtnipjafcgicddaaRows
set_option linter.unusedVariables false
namespace Go.Proofs.Ytnipjafcgicddaa
open Go Go.ChangeShapes Go.WideShapes Go.ChangeAt Go.RowKit

set_option maxRecDepth 100000
theorem vecBack_c0 : (Rows.vecBackRow.wf (OpenSpec.ofChange Rows.vecBackSpec)) = true := by kernel_rfl
theorem vecBack_c1 : (laidOutB Try.pinned.checked.prog) = true := by kernel_rfl
theorem vecBack_c2 : (mapsRowed Try.pinned.checked.prog) = true := by kernel_rfl
theorem vecBack_c3 : (Try.f12.params.all (Try.pinned.checked.prog.readableRec ·)) = true := by kernel_rfl
theorem vecBack_c4 : (namedTie Try.pinned.checked.prog Rows.vecBackRow.named Rows.vecBackSpec.vars) = true := by kernel_rfl
theorem vecBack_c5 : ((Rows.vecBackRow.stops == [])) = true := by kernel_rfl
theorem vecBack_c6 : ((Try.pinned.checked.prog.stops == [])) = true := by kernel_rfl
theorem vecBack_c7 : ((Rows.vecBackRow.knobs == [])) = true := by kernel_rfl
theorem vecBack_c8 : ((Try.pinned.checked.prog.stopKnobs == [])) = true := by kernel_rfl
theorem vecBack_c9 : ((Rows.vecBackRow.inPlace == Try.pinned.checked.prog.inPlace 12)) = true := by kernel_rfl
theorem vecBack_c10 : ((Rows.vecBackRow.unfollowed == Try.pinned.checked.prog.unfollowed 12)) = true := by kernel_rfl
theorem vecBack_c11 : ((Rows.vecBackRow.recurses == Try.pinned.checked.prog.recurses 12)) = true := by kernel_rfl
theorem vecBack_c12 : ((Rows.vecBackRow.named == Try.pinned.checked.prog.varsNamed 12)) = true := by kernel_rfl
theorem vecBack_c13 : ((Rows.vecBackRow.maps == (Try.f12.params.toList ++ Rows.vecBackSpec.plain.varTypes Try.pinned.checked.prog).any (Try.pinned.checked.prog.mapsRec ·))) = true := by kernel_rfl
theorem vecBack_c14 : ((Rows.vecBackRow.ifaces == (Try.f12.params.toList ++ Rows.vecBackSpec.plain.varTypes Try.pinned.checked.prog).any (Try.pinned.checked.prog.ifacesRec ·))) = true := by kernel_rfl
theorem vecBack_c15 : ((Rows.vecBackRow.mapsOut == Try.pinned.checked.prog.mapsAmong Try.f12.resultTypes.toList)) = true := by kernel_rfl
theorem vecBack_c16 : ((Rows.vecBackRow.loops == (Try.f12.params.toList ++ Rows.vecBackSpec.plain.varTypes Try.pinned.checked.prog).any (Try.pinned.checked.prog.loopsFrom ·))) = true := by kernel_rfl
theorem vecBack_c17 : ((Rows.vecBackRow.wideKeys == (Try.f12.params.toList ++ Rows.vecBackSpec.plain.varTypes Try.pinned.checked.prog ++ Try.f12.resultTypes.toList).any (Try.pinned.checked.prog.wideKeysFrom ·))) = true := by kernel_rfl
theorem vecBack_c18 : (Rows.vecBackSpec.vars.all (Try.pinned.checked.prog.varReadable ·)) = true := by kernel_rfl
theorem vecBack_c19 : (Try.f12.resultTypes.all (fun t => Try.pinned.checked.prog.readableRec t && decide (t < Try.pinned.checked.prog.types.size))) = true := by kernel_rfl
theorem vecBack_c20 : ((Rows.vecBackRow.ifacesOut == Try.f12.resultTypes.toList.any (Try.pinned.checked.prog.ifacesRec ·))) = true := by kernel_rfl
theorem vecBack_c21 : ((Rows.vecBackRow.loopsOut == Try.f12.resultTypes.toList.any (Try.pinned.checked.prog.loopsFrom ·))) = true := by kernel_rfl
theorem vecBack_c22 : ((Rows.vecBackRow.plainKeys == Try.pinned.checked.prog.plainKeys)) = true := by kernel_rfl
theorem vecBack_c23 : (Rows.vecBackRow.shortTexts.isNone) = true := by kernel_rfl
theorem vecBack_c24 : (Try.pinned.checked.prog.stopsHeard) = true := by kernel_rfl
theorem vecBack_c25 : (Try.pinned.checked.prog.mayEnter) = true := by kernel_rfl
theorem vecBack_c26 : ((Rows.vecBackRow.lifted == Try.pinned.checked.prog.liftsFinal)) = true := by kernel_rfl
theorem vecBack_c27 : ((Try.pinned.checked.prog.make == some Rows.vecBackRow.make)) = true := by kernel_rfl
theorem vecBack_c28 : ((Rows.vecBackRow.kinds == (if Rows.vecBackRow.domain.isEmpty then [] else Try.f12.params.toList.map fun t => match Try.pinned.checked.prog.underlying t with | some (.int k) => some k | _ => none))) = true := by kernel_rfl
theorem vecBack_c29 : ((Rows.vecBackRow.pinned == Rows.vecBackRow.pinnedBy)) = true := by kernel_rfl
theorem vecBack_c30 : ((Rows.vecBackRow.veiled == (Try.f12.params.toList ++ Rows.vecBackSpec.plain.varTypes Try.pinned.checked.prog ++ Try.f12.resultTypes.toList).any (Try.pinned.checked.prog.veiledRec ·))) = true := by kernel_rfl
theorem vecBack_c31 : (Rows.vecBackRow.veiledFits Try.pinned.checked.prog Try.f12.params.toList (Try.f12.params.toList ++ Rows.vecBackSpec.plain.varTypes Try.pinned.checked.prog ++ Try.f12.resultTypes.toList)) = true := by kernel_rfl
theorem vecBack_closed : joinedFacts Try.pinned.checked.prog 12 Try.f12 Rows.vecBackSpec Rows.vecBackRow = true := by
  unfold joinedFacts
  simp only [Bool.and_eq_true]
  exact ⟨⟨⟨⟨⟨⟨⟨⟨⟨⟨⟨⟨⟨⟨⟨⟨⟨⟨⟨⟨⟨⟨⟨⟨⟨⟨⟨⟨⟨⟨⟨vecBack_c0, vecBack_c1⟩, vecBack_c2⟩, vecBack_c3⟩, vecBack_c4⟩, vecBack_c5⟩, vecBack_c6⟩, vecBack_c7⟩, vecBack_c8⟩, vecBack_c9⟩, vecBack_c10⟩, vecBack_c11⟩, vecBack_c12⟩, vecBack_c13⟩, vecBack_c14⟩, vecBack_c15⟩, vecBack_c16⟩, vecBack_c17⟩, vecBack_c18⟩, vecBack_c19⟩, vecBack_c20⟩, vecBack_c21⟩, vecBack_c22⟩, vecBack_c23⟩, vecBack_c24⟩, vecBack_c25⟩, vecBack_c26⟩, vecBack_c27⟩, vecBack_c28⟩, vecBack_c29⟩, vecBack_c30⟩, vecBack_c31⟩
theorem vecBack_lifted (os : Os) (started : os.Started) (H : Type) (enc : TypeId × Value → H) :
    ReturnsInHanded {} Try.checked os 12 .any (Rows.vecBackSpec.pre6 enc Try.prog Try.f12 Rows.vecBackRow.domain false) (Rows.vecBackSpec.post enc Try.prog Try.f12 false true false false) := by
  refine returnsInHanded_of_change (C := Try.checked) own started (by kernel_rfl) Try.func12
    (ChangeSpec.witness6 (enc := enc) (C := Try.checked) false ⟨#[], #[.agg #[.int .i64 0, .int .i64 0, .int .i64 0], .agg #[.int .i64 0, .int .i64 0, .int .i64 0], .int .i64 0], []⟩ 8 (by kernel_rfl) (by kernel_rfl) (by kernel_rfl) (by kernel_rfl)) ?_
  intro W base args ds gs before hval0 hW hcnd _
  have hval : ∀ (j : Nat) t v, Try.f12.params[j]? = some t → args[j]? = some v → Value.okWide Try.prog W .any base t v := hval0
  have hW' := hW
  obtain ⟨p, q, hA0, hV, rfl, hfz, hnd⟩ := hW
  have hA : DataW.TrodAll enc Try.prog W 0 (fun _ => true) true Try.f12.params.toList args.toList ds p := hA0
  rw [Try.params12] at hA hval
  obtain ⟨v0, vs0, d0, ds0, p0, q0, hargs, rfl, rfl, h0, r0⟩ := trodAll_cons hA
  obtain ⟨v1, vs1, d1, ds1, p1, q1, rfl, rfl, rfl, h1, r1⟩ := trodAll_cons r0
  obtain ⟨v2, vs2, d2, ds2, p2, q2, rfl, rfl, rfl, h2, r2⟩ := trodAll_cons r1
  obtain ⟨rfl, rfl, rfl⟩ := trodAll_nil r2
  obtain rfl : args = #[v0, v1, v2] := by cases args; simp_all
  obtain ⟨rfl, rfl⟩ := trodVars_none hV
  have k0 := h0
  have k1 := h1
  have k2 := h2
  have lt0 : ∀ x ∈ p0, x.block < W.heap.size := by obtain ⟨m, hm⟩ := k0; exact DataW.trod_lt m _ _ _ hm
  have lt1 : ∀ x ∈ p1, x.block < W.heap.size := by obtain ⟨m, hm⟩ := k1; exact DataW.trod_lt m _ _ _ hm
  have lt2 : ∀ x ∈ p2, x.block < W.heap.size := by obtain ⟨m, hm⟩ := k2; exact DataW.trod_lt m _ _ _ hm
  obtain ⟨a0, rfl, ha0⟩ := open_vec (hval 0 24 v0 rfl rfl) h0
  obtain ⟨a1, rfl, ha1⟩ := open_vec (hval 1 24 v1 rfl rfl) h1
  obtain ⟨a2, rfl, ha2⟩ := open_fix (hval 2 22 v2 rfl rfl) h2
  clear hA0 hval0
  refine (back_law a0 ha0 a1 ha1 a2 ha2 W).mono fun e W' ⟨he, hk⟩ => ?_
  subst he
  have bel := hk.below
  exact ⟨_, rfl, _, _, _, [], _, [], hW', trodAll_mk1 (shut_bool Try.underlying4 _), (trodAll_cons_mk (Below.trod laidOut (by kernel_rfl) (of_decide_eq_true (by kernel_rfl)) k0 bel lt0) (trodAll_cons_mk (Below.trod laidOut (by kernel_rfl) (of_decide_eq_true (by kernel_rfl)) k1 bel lt1) (trodAll_cons_mk (Below.trod laidOut (by kernel_rfl) (of_decide_eq_true (by kernel_rfl)) k2 bel lt2) trodAll_mk0))), rfl, bel.frame _, fun h => by cases h⟩
theorem vecBack_named : Try.pinned.checked.prog.funcNamed Rows.vecBackRow.func = some 12 := by kernel_rfl
theorem vecBack_inst : (Try.f12).isInstance Try.pinned.checked.prog Rows.vecBackRow.origin Rows.vecBackRow.targs := of_decide_eq_true (by kernel_rfl)
theorem vecBack_wrap : (Try.f12).isWrapper Try.pinned.checked.prog Rows.vecBackRow.wrapper Rows.vecBackRow.mainSum := by unfold Func.isWrapper; rw [if_neg (of_decide_eq_false (by kernel_rfl))]; exact ⟨rfl, rfl⟩
theorem vecBack_over : Rows.vecBackRow.holds Try.pinned (OpenSpec.ofChange Rows.vecBackSpec) :=
  OpenClaim.holds_of_wide 12 Try.f12 rfl rfl rfl rfl rfl rfl rfl ⟨rfl, rfl, rfl, rfl, rfl⟩ rfl rfl rfl rfl rfl vecBack_named Try.func12 vecBack_closed
    vecBack_inst vecBack_wrap
    (fun os started H enc _ => vecBack_lifted os started H enc)
/-- The statement. -/
theorem vecBack_proved : Rows.VecBackSaid := vecBack_over
end Go.Proofs.Ytnipjafcgicddaa
