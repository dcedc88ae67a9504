/-
  Rows.RowsStillSaid: the mass between two bodies that do not turn is 1 by the sum of their own.
-/
import Derived.Test.YtboiepagonlnkaaYg
import Derived.Test.YtboiepagonlnkaaLo
import Derived.Test.YtboiepagonlnkaaRows
set_option linter.unusedVariables false
namespace Go.Proofs.Ytboiepagonlnkaa
open Go Go.ChangeShapes Go.WideShapes Go.ChangeAt Go.RowKit

set_option maxRecDepth 100000
theorem rowsStill_c0 : (Rows.rowsStillRow.wf (OpenSpec.ofChange Rows.rowsStillSpec)) = true := by kernel_rfl
theorem rowsStill_c1 : (laidOutB Try.pinned.checked.prog) = true := by kernel_rfl
theorem rowsStill_c2 : (mapsRowed Try.pinned.checked.prog) = true := by kernel_rfl
theorem rowsStill_c3 : (Try.f4.params.all (Try.pinned.checked.prog.readableRec ·)) = true := by kernel_rfl
theorem rowsStill_c4 : (namedTie Try.pinned.checked.prog Rows.rowsStillRow.named Rows.rowsStillSpec.vars) = true := by kernel_rfl
theorem rowsStill_c5 : ((Rows.rowsStillRow.stops == [])) = true := by kernel_rfl
theorem rowsStill_c6 : ((Try.pinned.checked.prog.stops == [])) = true := by kernel_rfl
theorem rowsStill_c7 : ((Rows.rowsStillRow.knobs == [])) = true := by kernel_rfl
theorem rowsStill_c8 : ((Try.pinned.checked.prog.stopKnobs == [])) = true := by kernel_rfl
theorem rowsStill_c9 : ((Rows.rowsStillRow.inPlace == Try.pinned.checked.prog.inPlace 4)) = true := by kernel_rfl
theorem rowsStill_c10 : ((Rows.rowsStillRow.unfollowed == Try.pinned.checked.prog.unfollowed 4)) = true := by kernel_rfl
theorem rowsStill_c11 : ((Rows.rowsStillRow.recurses == Try.pinned.checked.prog.recurses 4)) = true := by kernel_rfl
theorem rowsStill_c12 : ((Rows.rowsStillRow.named == Try.pinned.checked.prog.varsNamed 4)) = true := by kernel_rfl
theorem rowsStill_c13 : ((Rows.rowsStillRow.maps == (Try.f4.params.toList ++ Rows.rowsStillSpec.plain.varTypes Try.pinned.checked.prog).any (Try.pinned.checked.prog.mapsRec ·))) = true := by kernel_rfl
theorem rowsStill_c14 : ((Rows.rowsStillRow.ifaces == (Try.f4.params.toList ++ Rows.rowsStillSpec.plain.varTypes Try.pinned.checked.prog).any (Try.pinned.checked.prog.ifacesRec ·))) = true := by kernel_rfl
theorem rowsStill_c15 : ((Rows.rowsStillRow.mapsOut == Try.pinned.checked.prog.mapsAmong Try.f4.resultTypes.toList)) = true := by kernel_rfl
theorem rowsStill_c16 : ((Rows.rowsStillRow.loops == (Try.f4.params.toList ++ Rows.rowsStillSpec.plain.varTypes Try.pinned.checked.prog).any (Try.pinned.checked.prog.loopsFrom ·))) = true := by kernel_rfl
theorem rowsStill_c17 : ((Rows.rowsStillRow.wideKeys == (Try.f4.params.toList ++ Rows.rowsStillSpec.plain.varTypes Try.pinned.checked.prog ++ Try.f4.resultTypes.toList).any (Try.pinned.checked.prog.wideKeysFrom ·))) = true := by kernel_rfl
theorem rowsStill_c18 : (Rows.rowsStillSpec.vars.all (Try.pinned.checked.prog.varReadable ·)) = true := by kernel_rfl
theorem rowsStill_c19 : (Try.f4.resultTypes.all (fun t => Try.pinned.checked.prog.readableRec t && decide (t < Try.pinned.checked.prog.types.size))) = true := by kernel_rfl
theorem rowsStill_c20 : ((Rows.rowsStillRow.ifacesOut == Try.f4.resultTypes.toList.any (Try.pinned.checked.prog.ifacesRec ·))) = true := by kernel_rfl
theorem rowsStill_c21 : ((Rows.rowsStillRow.loopsOut == Try.f4.resultTypes.toList.any (Try.pinned.checked.prog.loopsFrom ·))) = true := by kernel_rfl
theorem rowsStill_c22 : ((Rows.rowsStillRow.plainKeys == Try.pinned.checked.prog.plainKeys)) = true := by kernel_rfl
theorem rowsStill_c23 : (Rows.rowsStillRow.shortTexts.isNone) = true := by kernel_rfl
theorem rowsStill_c24 : (Try.pinned.checked.prog.stopsHeard) = true := by kernel_rfl
theorem rowsStill_c25 : (Try.pinned.checked.prog.mayEnter) = true := by kernel_rfl
theorem rowsStill_c26 : ((Rows.rowsStillRow.lifted == Try.pinned.checked.prog.liftsFinal)) = true := by kernel_rfl
theorem rowsStill_c27 : ((Try.pinned.checked.prog.make == some Rows.rowsStillRow.make)) = true := by kernel_rfl
theorem rowsStill_c28 : ((Rows.rowsStillRow.kinds == (if Rows.rowsStillRow.domain.isEmpty then [] else Try.f4.params.toList.map fun t => match Try.pinned.checked.prog.underlying t with | some (.int k) => some k | _ => none))) = true := by kernel_rfl
theorem rowsStill_c29 : ((Rows.rowsStillRow.pinned == Rows.rowsStillRow.pinnedBy)) = true := by kernel_rfl
theorem rowsStill_c30 : ((Rows.rowsStillRow.veiled == (Try.f4.params.toList ++ Rows.rowsStillSpec.plain.varTypes Try.pinned.checked.prog ++ Try.f4.resultTypes.toList).any (Try.pinned.checked.prog.veiledRec ·))) = true := by kernel_rfl
theorem rowsStill_c31 : (Rows.rowsStillRow.veiledFits Try.pinned.checked.prog Try.f4.params.toList (Try.f4.params.toList ++ Rows.rowsStillSpec.plain.varTypes Try.pinned.checked.prog ++ Try.f4.resultTypes.toList)) = true := by kernel_rfl
theorem rowsStill_closed : joinedFacts Try.pinned.checked.prog 4 Try.f4 Rows.rowsStillSpec Rows.rowsStillRow = true := by
  unfold joinedFacts
  simp only [Bool.and_eq_true]
  exact ⟨⟨⟨⟨⟨⟨⟨⟨⟨⟨⟨⟨⟨⟨⟨⟨⟨⟨⟨⟨⟨⟨⟨⟨⟨⟨⟨⟨⟨⟨⟨rowsStill_c0, rowsStill_c1⟩, rowsStill_c2⟩, rowsStill_c3⟩, rowsStill_c4⟩, rowsStill_c5⟩, rowsStill_c6⟩, rowsStill_c7⟩, rowsStill_c8⟩, rowsStill_c9⟩, rowsStill_c10⟩, rowsStill_c11⟩, rowsStill_c12⟩, rowsStill_c13⟩, rowsStill_c14⟩, rowsStill_c15⟩, rowsStill_c16⟩, rowsStill_c17⟩, rowsStill_c18⟩, rowsStill_c19⟩, rowsStill_c20⟩, rowsStill_c21⟩, rowsStill_c22⟩, rowsStill_c23⟩, rowsStill_c24⟩, rowsStill_c25⟩, rowsStill_c26⟩, rowsStill_c27⟩, rowsStill_c28⟩, rowsStill_c29⟩, rowsStill_c30⟩, rowsStill_c31⟩
theorem rowsStill_lifted (os : Os) (started : os.Started) (H : Type) (enc : TypeId × Value → H) :
    ReturnsInHanded {} Try.checked os 4 .any (Rows.rowsStillSpec.pre6 enc Try.prog Try.f4 Rows.rowsStillRow.domain false) (Rows.rowsStillSpec.post enc Try.prog Try.f4 false true false false) := by
  refine returnsInHanded_of_change (C := Try.checked) own started (by kernel_rfl) Try.func4
    (ChangeSpec.witness6 (enc := enc) (C := Try.checked) false ⟨#[], #[.int .i64 0, .int .i64 0, .agg #[.int .i64 0, .int .i64 0, .int .i64 0], .agg #[.int .i64 0, .int .i64 0, .int .i64 0], .agg #[.int .i64 0, .int .i64 0, .int .i64 0]], []⟩ 8 (by kernel_rfl) (by kernel_rfl) (by kernel_rfl) (by kernel_rfl)) ?_
  intro W base args ds gs before hval0 hW hcnd _
  have hval : ∀ (j : Nat) t v, Try.f4.params[j]? = some t → args[j]? = some v → Value.okWide Try.prog W .any base t v := hval0
  have hW' := hW
  obtain ⟨p, q, hA0, hV, rfl, hfz, hnd⟩ := hW
  have hA : DataW.TrodAll enc Try.prog W 0 (fun _ => true) true Try.f4.params.toList args.toList ds p := hA0
  rw [Try.params4] at hA hval
  obtain ⟨v0, vs0, d0, ds0, p0, q0, hargs, rfl, rfl, h0, r0⟩ := trodAll_cons hA
  obtain ⟨v1, vs1, d1, ds1, p1, q1, rfl, rfl, rfl, h1, r1⟩ := trodAll_cons r0
  obtain ⟨v2, vs2, d2, ds2, p2, q2, rfl, rfl, rfl, h2, r2⟩ := trodAll_cons r1
  obtain ⟨v3, vs3, d3, ds3, p3, q3, rfl, rfl, rfl, h3, r3⟩ := trodAll_cons r2
  obtain ⟨v4, vs4, d4, ds4, p4, q4, rfl, rfl, rfl, h4, r4⟩ := trodAll_cons r3
  obtain ⟨rfl, rfl, rfl⟩ := trodAll_nil r4
  obtain rfl : args = #[v0, v1, v2, v3, v4] := by cases args; simp_all
  obtain ⟨rfl, rfl⟩ := trodVars_none hV
  have k0 := h0
  have k1 := h1
  have k2 := h2
  have k3 := h3
  have k4 := h4
  have lt0 : ∀ x ∈ p0, x.block < W.heap.size := by obtain ⟨m, hm⟩ := k0; exact DataW.trod_lt m _ _ _ hm
  have lt1 : ∀ x ∈ p1, x.block < W.heap.size := by obtain ⟨m, hm⟩ := k1; exact DataW.trod_lt m _ _ _ hm
  have lt2 : ∀ x ∈ p2, x.block < W.heap.size := by obtain ⟨m, hm⟩ := k2; exact DataW.trod_lt m _ _ _ hm
  have lt3 : ∀ x ∈ p3, x.block < W.heap.size := by obtain ⟨m, hm⟩ := k3; exact DataW.trod_lt m _ _ _ hm
  have lt4 : ∀ x ∈ p4, x.block < W.heap.size := by obtain ⟨m, hm⟩ := k4; exact DataW.trod_lt m _ _ _ hm
  obtain ⟨a0, rfl, ha0⟩ := open_fix (hval 0 22 v0 rfl rfl) h0
  obtain ⟨a1, rfl, ha1⟩ := open_fix (hval 1 22 v1 rfl rfl) h1
  obtain ⟨a2, rfl, ha2⟩ := open_vec (hval 2 24 v2 rfl rfl) h2
  obtain ⟨a3, rfl, ha3⟩ := open_vec (hval 3 24 v3 rfl rfl) h3
  obtain ⟨a4, rfl, ha4⟩ := open_vec (hval 4 24 v4 rfl rfl) h4
  clear hA0 hval0
  refine (still_law a0 ha0 a1 ha1 a2 ha2 a3 ha3 a4 ha4 W).mono fun e W' ⟨he, hk⟩ => ?_
  subst he
  have bel := hk.below
  exact ⟨_, rfl, _, _, _, [], _, [], hW', trodAll_mk1 (shut_bool Try.underlying4 _), (trodAll_cons_mk (Below.trod laidOut (by kernel_rfl) (of_decide_eq_true (by kernel_rfl)) k0 bel lt0) (trodAll_cons_mk (Below.trod laidOut (by kernel_rfl) (of_decide_eq_true (by kernel_rfl)) k1 bel lt1) (trodAll_cons_mk (Below.trod laidOut (by kernel_rfl) (of_decide_eq_true (by kernel_rfl)) k2 bel lt2) (trodAll_cons_mk (Below.trod laidOut (by kernel_rfl) (of_decide_eq_true (by kernel_rfl)) k3 bel lt3) (trodAll_cons_mk (Below.trod laidOut (by kernel_rfl) (of_decide_eq_true (by kernel_rfl)) k4 bel lt4) trodAll_mk0))))), rfl, bel.frame _, fun h => by cases h⟩
theorem rowsStill_named : Try.pinned.checked.prog.funcNamed Rows.rowsStillRow.func = some 4 := by kernel_rfl
theorem rowsStill_inst : (Try.f4).isInstance Try.pinned.checked.prog Rows.rowsStillRow.origin Rows.rowsStillRow.targs := of_decide_eq_true (by kernel_rfl)
theorem rowsStill_wrap : (Try.f4).isWrapper Try.pinned.checked.prog Rows.rowsStillRow.wrapper Rows.rowsStillRow.mainSum := by unfold Func.isWrapper; rw [if_neg (of_decide_eq_false (by kernel_rfl))]; exact ⟨rfl, rfl⟩
theorem rowsStill_over : Rows.rowsStillRow.holds Try.pinned (OpenSpec.ofChange Rows.rowsStillSpec) :=
  OpenClaim.holds_of_wide 4 Try.f4 rfl rfl rfl rfl rfl rfl rfl ⟨rfl, rfl, rfl, rfl, rfl⟩ rfl rfl rfl rfl rfl rowsStill_named Try.func4 rowsStill_closed
    rowsStill_inst rowsStill_wrap
    (fun os started H enc _ => rowsStill_lifted os started H enc)
/-- The statement. -/
theorem rowsStill_proved : Rows.RowsStillSaid := rowsStill_over
end Go.Proofs.Ytboiepagonlnkaa
