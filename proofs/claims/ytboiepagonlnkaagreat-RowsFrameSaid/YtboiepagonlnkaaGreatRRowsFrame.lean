/-
  Rows.RowsFrameSaid: the frame of any direction, and the aim of any gap, are those of the document, or refused.
-/
import Derived.Test.YtboiepagonlnkaaGreatYi
import Derived.Test.YtboiepagonlnkaaGreatLo
import Derived.Test.YtboiepagonlnkaaGreatRows
set_option linter.unusedVariables false
namespace Go.Proofs.YtboiepagonlnkaaGreat
open Go Go.ChangeShapes Go.WideShapes Go.ChangeAt Go.RowKit

set_option maxRecDepth 100000
theorem rowsFrame_c0 : (Rows.rowsFrameRow.wf (OpenSpec.ofChange Rows.rowsFrameSpec)) = true := by kernel_rfl
theorem rowsFrame_c1 : (laidOutB Tryz.pinned.checked.prog) = true := by kernel_rfl
theorem rowsFrame_c2 : (mapsRowed Tryz.pinned.checked.prog) = true := by kernel_rfl
theorem rowsFrame_c3 : (Tryz.f3.params.all (Tryz.pinned.checked.prog.readableRec ·)) = true := by kernel_rfl
theorem rowsFrame_c4 : (namedTie Tryz.pinned.checked.prog Rows.rowsFrameRow.named Rows.rowsFrameSpec.vars) = true := by kernel_rfl
theorem rowsFrame_c5 : ((Rows.rowsFrameRow.stops == [])) = true := by kernel_rfl
theorem rowsFrame_c6 : ((Tryz.pinned.checked.prog.stops == [])) = true := by kernel_rfl
theorem rowsFrame_c7 : ((Rows.rowsFrameRow.knobs == [])) = true := by kernel_rfl
theorem rowsFrame_c8 : ((Tryz.pinned.checked.prog.stopKnobs == [])) = true := by kernel_rfl
theorem rowsFrame_c9 : ((Rows.rowsFrameRow.inPlace == Tryz.pinned.checked.prog.inPlace 3)) = true := by kernel_rfl
theorem rowsFrame_c10 : ((Rows.rowsFrameRow.unfollowed == Tryz.pinned.checked.prog.unfollowed 3)) = true := by kernel_rfl
theorem rowsFrame_c11 : ((Rows.rowsFrameRow.recurses == Tryz.pinned.checked.prog.recurses 3)) = true := by kernel_rfl
theorem rowsFrame_c12 : ((Rows.rowsFrameRow.named == Tryz.pinned.checked.prog.varsNamed 3)) = true := by kernel_rfl
theorem rowsFrame_c13 : ((Rows.rowsFrameRow.maps == (Tryz.f3.params.toList ++ Rows.rowsFrameSpec.plain.varTypes Tryz.pinned.checked.prog).any (Tryz.pinned.checked.prog.mapsRec ·))) = true := by kernel_rfl
theorem rowsFrame_c14 : ((Rows.rowsFrameRow.ifaces == (Tryz.f3.params.toList ++ Rows.rowsFrameSpec.plain.varTypes Tryz.pinned.checked.prog).any (Tryz.pinned.checked.prog.ifacesRec ·))) = true := by kernel_rfl
theorem rowsFrame_c15 : ((Rows.rowsFrameRow.mapsOut == Tryz.pinned.checked.prog.mapsAmong Tryz.f3.resultTypes.toList)) = true := by kernel_rfl
theorem rowsFrame_c16 : ((Rows.rowsFrameRow.loops == (Tryz.f3.params.toList ++ Rows.rowsFrameSpec.plain.varTypes Tryz.pinned.checked.prog).any (Tryz.pinned.checked.prog.loopsFrom ·))) = true := by kernel_rfl
theorem rowsFrame_c17 : ((Rows.rowsFrameRow.wideKeys == (Tryz.f3.params.toList ++ Rows.rowsFrameSpec.plain.varTypes Tryz.pinned.checked.prog ++ Tryz.f3.resultTypes.toList).any (Tryz.pinned.checked.prog.wideKeysFrom ·))) = true := by kernel_rfl
theorem rowsFrame_c18 : (Rows.rowsFrameSpec.vars.all (Tryz.pinned.checked.prog.varReadable ·)) = true := by kernel_rfl
theorem rowsFrame_c19 : (Tryz.f3.resultTypes.all (fun t => Tryz.pinned.checked.prog.readableRec t && decide (t < Tryz.pinned.checked.prog.types.size))) = true := by kernel_rfl
theorem rowsFrame_c20 : ((Rows.rowsFrameRow.ifacesOut == Tryz.f3.resultTypes.toList.any (Tryz.pinned.checked.prog.ifacesRec ·))) = true := by kernel_rfl
theorem rowsFrame_c21 : ((Rows.rowsFrameRow.loopsOut == Tryz.f3.resultTypes.toList.any (Tryz.pinned.checked.prog.loopsFrom ·))) = true := by kernel_rfl
theorem rowsFrame_c22 : ((Rows.rowsFrameRow.plainKeys == Tryz.pinned.checked.prog.plainKeys)) = true := by kernel_rfl
theorem rowsFrame_c23 : (Rows.rowsFrameRow.shortTexts.isNone) = true := by kernel_rfl
theorem rowsFrame_c24 : (Tryz.pinned.checked.prog.stopsHeard) = true := by kernel_rfl
theorem rowsFrame_c25 : (Tryz.pinned.checked.prog.mayEnter) = true := by kernel_rfl
theorem rowsFrame_c26 : ((Rows.rowsFrameRow.lifted == Tryz.pinned.checked.prog.liftsFinal)) = true := by kernel_rfl
theorem rowsFrame_c27 : ((Tryz.pinned.checked.prog.make == some Rows.rowsFrameRow.make)) = true := by kernel_rfl
theorem rowsFrame_c28 : ((Rows.rowsFrameRow.kinds == (if Rows.rowsFrameRow.domain.isEmpty then [] else Tryz.f3.params.toList.map fun t => match Tryz.pinned.checked.prog.underlying t with | some (.int k) => some k | _ => none))) = true := by kernel_rfl
theorem rowsFrame_c29 : ((Rows.rowsFrameRow.pinned == Rows.rowsFrameRow.pinnedBy)) = true := by kernel_rfl
theorem rowsFrame_c30 : ((Rows.rowsFrameRow.veiled == (Tryz.f3.params.toList ++ Rows.rowsFrameSpec.plain.varTypes Tryz.pinned.checked.prog ++ Tryz.f3.resultTypes.toList).any (Tryz.pinned.checked.prog.veiledRec ·))) = true := by kernel_rfl
theorem rowsFrame_c31 : (Rows.rowsFrameRow.veiledFits Tryz.pinned.checked.prog Tryz.f3.params.toList (Tryz.f3.params.toList ++ Rows.rowsFrameSpec.plain.varTypes Tryz.pinned.checked.prog ++ Tryz.f3.resultTypes.toList)) = true := by kernel_rfl
theorem rowsFrame_closed : joinedFacts Tryz.pinned.checked.prog 3 Tryz.f3 Rows.rowsFrameSpec Rows.rowsFrameRow = true := by
  unfold joinedFacts
  simp only [Bool.and_eq_true]
  exact ⟨⟨⟨⟨⟨⟨⟨⟨⟨⟨⟨⟨⟨⟨⟨⟨⟨⟨⟨⟨⟨⟨⟨⟨⟨⟨⟨⟨⟨⟨⟨rowsFrame_c0, rowsFrame_c1⟩, rowsFrame_c2⟩, rowsFrame_c3⟩, rowsFrame_c4⟩, rowsFrame_c5⟩, rowsFrame_c6⟩, rowsFrame_c7⟩, rowsFrame_c8⟩, rowsFrame_c9⟩, rowsFrame_c10⟩, rowsFrame_c11⟩, rowsFrame_c12⟩, rowsFrame_c13⟩, rowsFrame_c14⟩, rowsFrame_c15⟩, rowsFrame_c16⟩, rowsFrame_c17⟩, rowsFrame_c18⟩, rowsFrame_c19⟩, rowsFrame_c20⟩, rowsFrame_c21⟩, rowsFrame_c22⟩, rowsFrame_c23⟩, rowsFrame_c24⟩, rowsFrame_c25⟩, rowsFrame_c26⟩, rowsFrame_c27⟩, rowsFrame_c28⟩, rowsFrame_c29⟩, rowsFrame_c30⟩, rowsFrame_c31⟩
theorem rowsFrame_lifted (os : Os) (started : os.Started) (H : Type) (enc : TypeId × Value → H) :
    ReturnsInHanded {} Tryz.checked os 3 .any (Rows.rowsFrameSpec.pre6 enc Tryz.prog Tryz.f3 Rows.rowsFrameRow.domain false) (Rows.rowsFrameSpec.post enc Tryz.prog Tryz.f3 false true false false) := by
  refine returnsInHanded_of_change (C := Tryz.checked) own started (by kernel_rfl) Tryz.func3
    (ChangeSpec.witness6 (enc := enc) (C := Tryz.checked) false ⟨#[], #[.agg #[.int .i64 0, .int .i64 0, .int .i64 0], .int .i64 0, .int .i64 0], []⟩ 8 (by kernel_rfl) (by kernel_rfl) (by kernel_rfl) (by kernel_rfl)) ?_
  intro W base args ds gs before hval0 hW hcnd _
  have hval : ∀ (j : Nat) t v, Tryz.f3.params[j]? = some t → args[j]? = some v → Value.okWide Tryz.prog W .any base t v := hval0
  have hW' := hW
  obtain ⟨p, q, hA0, hV, rfl, hfz, hnd⟩ := hW
  have hA : DataW.TrodAll enc Tryz.prog W 0 (fun _ => true) true Tryz.f3.params.toList args.toList ds p := hA0
  rw [Tryz.params3] at hA hval
  obtain ⟨v0, vs0, d0, ds0, p0, q0, hargs, rfl, rfl, h0, r0⟩ := trodAll_cons hA
  obtain ⟨v1, vs1, d1, ds1, p1, q1, rfl, rfl, rfl, h1, r1⟩ := trodAll_cons r0
  obtain ⟨v2, vs2, d2, ds2, p2, q2, rfl, rfl, rfl, h2, r2⟩ := trodAll_cons r1
  obtain ⟨rfl, rfl, rfl⟩ := trodAll_nil r2
  obtain rfl : args = #[v0, v1, v2] := by cases args; simp_all
  obtain ⟨rfl, rfl⟩ := trodVars_none hV
  have k0 := h0
  have k1 := h1
  have k2 := h2
  have lt0 : ∀ x ∈ p0, x.block < W.heap.size := by obtain ⟨m, hm⟩ := k0; exact DataW.trod_lt m _ _ _ hm
  have lt1 : ∀ x ∈ p1, x.block < W.heap.size := by obtain ⟨m, hm⟩ := k1; exact DataW.trod_lt m _ _ _ hm
  have lt2 : ∀ x ∈ p2, x.block < W.heap.size := by obtain ⟨m, hm⟩ := k2; exact DataW.trod_lt m _ _ _ hm
  obtain ⟨a0, rfl, ha0⟩ := open_vec (hval 0 24 v0 rfl rfl) h0
  obtain ⟨a1, rfl, ha1⟩ := open_fix (hval 1 22 v1 rfl rfl) h1
  obtain ⟨a2, rfl, ha2⟩ := open_fix (hval 2 22 v2 rfl rfl) h2
  clear hA0 hval0
  refine (rowsframe_law a0 ha0 a1 ha1 a2 ha2 W).mono fun e W' ⟨he, hk⟩ => ?_
  subst he
  have bel := hk.below
  exact ⟨_, rfl, _, _, _, [], _, [], hW', trodAll_mk1 (shut_bool Tryz.underlying4 _), (trodAll_cons_mk (Below.trod laidOut (by kernel_rfl) (of_decide_eq_true (by kernel_rfl)) k0 bel lt0) (trodAll_cons_mk (Below.trod laidOut (by kernel_rfl) (of_decide_eq_true (by kernel_rfl)) k1 bel lt1) (trodAll_cons_mk (Below.trod laidOut (by kernel_rfl) (of_decide_eq_true (by kernel_rfl)) k2 bel lt2) trodAll_mk0))), rfl, bel.frame _, fun h => by cases h⟩
theorem rowsFrame_named : Tryz.pinned.checked.prog.funcNamed Rows.rowsFrameRow.func = some 3 := by kernel_rfl
theorem rowsFrame_inst : (Tryz.f3).isInstance Tryz.pinned.checked.prog Rows.rowsFrameRow.origin Rows.rowsFrameRow.targs := of_decide_eq_true (by kernel_rfl)
theorem rowsFrame_wrap : (Tryz.f3).isWrapper Tryz.pinned.checked.prog Rows.rowsFrameRow.wrapper Rows.rowsFrameRow.mainSum := by unfold Func.isWrapper; rw [if_neg (of_decide_eq_false (by kernel_rfl))]; exact ⟨rfl, rfl⟩
theorem rowsFrame_over : Rows.rowsFrameRow.holds Tryz.pinned (OpenSpec.ofChange Rows.rowsFrameSpec) :=
  OpenClaim.holds_of_wide 3 Tryz.f3 rfl rfl rfl rfl rfl rfl rfl ⟨rfl, rfl, rfl, rfl, rfl⟩ rfl rfl rfl rfl rfl rowsFrame_named Tryz.func3 rowsFrame_closed
    rowsFrame_inst rowsFrame_wrap
    (fun os started H enc _ => rowsFrame_lifted os started H enc)
/-- The statement. -/
theorem rowsFrame_proved : Rows.RowsFrameSaid := rowsFrame_over
end Go.Proofs.YtboiepagonlnkaaGreat
