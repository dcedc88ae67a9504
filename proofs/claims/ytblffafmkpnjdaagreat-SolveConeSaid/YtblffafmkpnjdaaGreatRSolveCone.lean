/-
  Rows.SolveConeSaid: the law answers true at every input, and leaves its arguments as they were.
-/
import Derived.Test.YtblffafmkpnjdaaGreatLo
import Derived.Test.YtblffafmkpnjdaaGreatLq
import Derived.Test.YtblffafmkpnjdaaGreatUr
import Derived.Test.YtblffafmkpnjdaaGreatRows
set_option linter.unusedVariables false
namespace Go.Proofs.YtblffafmkpnjdaaGreat
open Go Go.ChangeShapes Go.WideShapes Go.ChangeAt Go.RowKit

set_option maxRecDepth 100000
theorem solveCone_c0 : (Rows.solveConeRow.wf (OpenSpec.ofChange Rows.solveConeSpec)) = true := by kernel_rfl
theorem solveCone_c1 : (laidOutB Tryz.pinned.checked.prog) = true := by kernel_rfl
theorem solveCone_c2 : (mapsRowed Tryz.pinned.checked.prog) = true := by kernel_rfl
theorem solveCone_c3 : (Tryz.f3.params.all (Tryz.pinned.checked.prog.readableRec ·)) = true := by kernel_rfl
theorem solveCone_c4 : (namedTie Tryz.pinned.checked.prog Rows.solveConeRow.named Rows.solveConeSpec.vars) = true := by kernel_rfl
theorem solveCone_c5 : ((Rows.solveConeRow.stops == [])) = true := by kernel_rfl
theorem solveCone_c6 : ((Tryz.pinned.checked.prog.stops == [])) = true := by kernel_rfl
theorem solveCone_c7 : ((Rows.solveConeRow.knobs == [])) = true := by kernel_rfl
theorem solveCone_c8 : ((Tryz.pinned.checked.prog.stopKnobs == [])) = true := by kernel_rfl
theorem solveCone_c9 : ((Rows.solveConeRow.inPlace == Tryz.pinned.checked.prog.inPlace 3)) = true := by kernel_rfl
theorem solveCone_c10 : ((Rows.solveConeRow.unfollowed == Tryz.pinned.checked.prog.unfollowed 3)) = true := by kernel_rfl
theorem solveCone_c11 : ((Rows.solveConeRow.recurses == Tryz.pinned.checked.prog.recurses 3)) = true := by kernel_rfl
theorem solveCone_c12 : ((Rows.solveConeRow.named == Tryz.pinned.checked.prog.varsNamed 3)) = true := by kernel_rfl
theorem solveCone_c13 : ((Rows.solveConeRow.maps == (Tryz.f3.params.toList ++ Rows.solveConeSpec.plain.varTypes Tryz.pinned.checked.prog).any (Tryz.pinned.checked.prog.mapsRec ·))) = true := by kernel_rfl
theorem solveCone_c14 : ((Rows.solveConeRow.ifaces == (Tryz.f3.params.toList ++ Rows.solveConeSpec.plain.varTypes Tryz.pinned.checked.prog).any (Tryz.pinned.checked.prog.ifacesRec ·))) = true := by kernel_rfl
theorem solveCone_c15 : ((Rows.solveConeRow.mapsOut == Tryz.pinned.checked.prog.mapsAmong Tryz.f3.resultTypes.toList)) = true := by kernel_rfl
theorem solveCone_c16 : ((Rows.solveConeRow.loops == (Tryz.f3.params.toList ++ Rows.solveConeSpec.plain.varTypes Tryz.pinned.checked.prog).any (Tryz.pinned.checked.prog.loopsFrom ·))) = true := by kernel_rfl
theorem solveCone_c17 : ((Rows.solveConeRow.wideKeys == (Tryz.f3.params.toList ++ Rows.solveConeSpec.plain.varTypes Tryz.pinned.checked.prog ++ Tryz.f3.resultTypes.toList).any (Tryz.pinned.checked.prog.wideKeysFrom ·))) = true := by kernel_rfl
theorem solveCone_c18 : (Rows.solveConeSpec.vars.all (Tryz.pinned.checked.prog.varReadable ·)) = true := by kernel_rfl
theorem solveCone_c19 : (Tryz.f3.resultTypes.all (fun t => Tryz.pinned.checked.prog.readableRec t && decide (t < Tryz.pinned.checked.prog.types.size))) = true := by kernel_rfl
theorem solveCone_c20 : ((Rows.solveConeRow.ifacesOut == Tryz.f3.resultTypes.toList.any (Tryz.pinned.checked.prog.ifacesRec ·))) = true := by kernel_rfl
theorem solveCone_c21 : ((Rows.solveConeRow.loopsOut == Tryz.f3.resultTypes.toList.any (Tryz.pinned.checked.prog.loopsFrom ·))) = true := by kernel_rfl
theorem solveCone_c22 : ((Rows.solveConeRow.plainKeys == Tryz.pinned.checked.prog.plainKeys)) = true := by kernel_rfl
theorem solveCone_c23 : (Rows.solveConeRow.shortTexts.isNone) = true := by kernel_rfl
theorem solveCone_c24 : (Tryz.pinned.checked.prog.stopsHeard) = true := by kernel_rfl
theorem solveCone_c25 : (Tryz.pinned.checked.prog.mayEnter) = true := by kernel_rfl
theorem solveCone_c26 : ((Rows.solveConeRow.lifted == Tryz.pinned.checked.prog.liftsFinal)) = true := by kernel_rfl
theorem solveCone_c27 : ((Tryz.pinned.checked.prog.make == some Rows.solveConeRow.make)) = true := by kernel_rfl
theorem solveCone_c28 : ((Rows.solveConeRow.kinds == (if Rows.solveConeRow.domain.isEmpty then [] else Tryz.f3.params.toList.map fun t => match Tryz.pinned.checked.prog.underlying t with | some (.int k) => some k | _ => none))) = true := by kernel_rfl
theorem solveCone_c29 : ((Rows.solveConeRow.pinned == Rows.solveConeRow.pinnedBy)) = true := by kernel_rfl
theorem solveCone_c30 : ((Rows.solveConeRow.veiled == (Tryz.f3.params.toList ++ Rows.solveConeSpec.plain.varTypes Tryz.pinned.checked.prog ++ Tryz.f3.resultTypes.toList).any (Tryz.pinned.checked.prog.veiledRec ·))) = true := by kernel_rfl
theorem solveCone_c31 : (Rows.solveConeRow.veiledFits Tryz.pinned.checked.prog Tryz.f3.params.toList (Tryz.f3.params.toList ++ Rows.solveConeSpec.plain.varTypes Tryz.pinned.checked.prog ++ Tryz.f3.resultTypes.toList)) = true := by kernel_rfl
theorem solveCone_closed : joinedFacts Tryz.pinned.checked.prog 3 Tryz.f3 Rows.solveConeSpec Rows.solveConeRow = true := by
  unfold joinedFacts
  simp only [Bool.and_eq_true]
  exact ⟨⟨⟨⟨⟨⟨⟨⟨⟨⟨⟨⟨⟨⟨⟨⟨⟨⟨⟨⟨⟨⟨⟨⟨⟨⟨⟨⟨⟨⟨⟨solveCone_c0, solveCone_c1⟩, solveCone_c2⟩, solveCone_c3⟩, solveCone_c4⟩, solveCone_c5⟩, solveCone_c6⟩, solveCone_c7⟩, solveCone_c8⟩, solveCone_c9⟩, solveCone_c10⟩, solveCone_c11⟩, solveCone_c12⟩, solveCone_c13⟩, solveCone_c14⟩, solveCone_c15⟩, solveCone_c16⟩, solveCone_c17⟩, solveCone_c18⟩, solveCone_c19⟩, solveCone_c20⟩, solveCone_c21⟩, solveCone_c22⟩, solveCone_c23⟩, solveCone_c24⟩, solveCone_c25⟩, solveCone_c26⟩, solveCone_c27⟩, solveCone_c28⟩, solveCone_c29⟩, solveCone_c30⟩, solveCone_c31⟩
theorem solveCone_lifted (os : Os) (started : os.Started) (H : Type) (enc : TypeId × Value → H) :
    ReturnsInHanded {} Tryz.checked os 3 .any (Rows.solveConeSpec.pre6 enc Tryz.prog Tryz.f3 Rows.solveConeRow.domain false) (Rows.solveConeSpec.post enc Tryz.prog Tryz.f3 false true false false) := by
  refine returnsInHanded_of_change (C := Tryz.checked) own started (by kernel_rfl) Tryz.func3
    (ChangeSpec.witness6 (enc := enc) (C := Tryz.checked) false ⟨#[], #[.int .i64 0, .int .i64 0, .int .i64 0, .agg #[.int .i64 0, .int .i64 0, .int .i64 0, .int .i64 0, .int .i64 0, .int .i64 0, .int .i64 0, .int .i64 0, .int .i64 0, .int .i64 0, .int .i64 0, .int .i64 0, .int .i64 0, .int .i64 0, .int .i64 0, .int .i64 0], .agg #[.int .i64 0, .int .i64 0, .int .i64 0], .agg #[.int .i64 0, .int .i64 0, .int .i64 0]], []⟩ 8 (by kernel_rfl) (by kernel_rfl) (by kernel_rfl) (by kernel_rfl)) ?_
  intro W base args ds gs before hval0 hW hcnd _
  have hval : ∀ (j : Nat) t v, Tryz.f3.params[j]? = some t → args[j]? = some v → Value.okWide Tryz.prog W .any base t v := hval0
  have hW' := hW
  obtain ⟨p, q, hA0, hV, rfl, hfz, hnd⟩ := hW
  have hA : DataW.TrodAll enc Tryz.prog W 0 (fun _ => true) true Tryz.f3.params.toList args.toList ds p := hA0
  rw [Tryz.params3] at hA hval
  obtain ⟨v0, vs0, d0, ds0, p0, q0, hargs, rfl, rfl, h0, r0⟩ := trodAll_cons hA
  obtain ⟨v1, vs1, d1, ds1, p1, q1, rfl, rfl, rfl, h1, r1⟩ := trodAll_cons r0
  obtain ⟨v2, vs2, d2, ds2, p2, q2, rfl, rfl, rfl, h2, r2⟩ := trodAll_cons r1
  obtain ⟨v3, vs3, d3, ds3, p3, q3, rfl, rfl, rfl, h3, r3⟩ := trodAll_cons r2
  obtain ⟨v4, vs4, d4, ds4, p4, q4, rfl, rfl, rfl, h4, r4⟩ := trodAll_cons r3
  obtain ⟨v5, vs5, d5, ds5, p5, q5, rfl, rfl, rfl, h5, r5⟩ := trodAll_cons r4
  obtain ⟨rfl, rfl, rfl⟩ := trodAll_nil r5
  obtain rfl : args = #[v0, v1, v2, v3, v4, v5] := by cases args; simp_all
  obtain ⟨rfl, rfl⟩ := trodVars_none hV
  have k0 := h0
  have k1 := h1
  have k2 := h2
  have k3 := h3
  have k4 := h4
  have k5 := h5
  have lt0 : ∀ x ∈ p0, x.block < W.heap.size := by obtain ⟨m, hm⟩ := k0; exact DataW.trod_lt m _ _ _ hm
  have lt1 : ∀ x ∈ p1, x.block < W.heap.size := by obtain ⟨m, hm⟩ := k1; exact DataW.trod_lt m _ _ _ hm
  have lt2 : ∀ x ∈ p2, x.block < W.heap.size := by obtain ⟨m, hm⟩ := k2; exact DataW.trod_lt m _ _ _ hm
  have lt3 : ∀ x ∈ p3, x.block < W.heap.size := by obtain ⟨m, hm⟩ := k3; exact DataW.trod_lt m _ _ _ hm
  have lt4 : ∀ x ∈ p4, x.block < W.heap.size := by obtain ⟨m, hm⟩ := k4; exact DataW.trod_lt m _ _ _ hm
  have lt5 : ∀ x ∈ p5, x.block < W.heap.size := by obtain ⟨m, hm⟩ := k5; exact DataW.trod_lt m _ _ _ hm
  obtain ⟨a0, rfl, ha0⟩ := open_fix (hval 0 22 v0 rfl rfl) h0
  obtain ⟨a1, rfl, ha1⟩ := open_fix (hval 1 22 v1 rfl rfl) h1
  obtain ⟨a2, rfl, ha2⟩ := open_fix (hval 2 22 v2 rfl rfl) h2
  obtain ⟨a3, rfl, ha3⟩ := open_inert (hval 3 29 v3 rfl rfl) h3
  obtain ⟨a4, rfl, ha4⟩ := open_vec (hval 4 24 v4 rfl rfl) h4
  obtain ⟨a5, rfl, ha5⟩ := open_vec (hval 5 24 v5 rfl rfl) h5
  clear hA0 hval0
  refine (cone_law a0 ha0 a1 ha1 a2 ha2 a3 ha3 a4 ha4 a5 ha5 W).mono fun e W' ⟨he, hk⟩ => ?_
  subst he
  have bel := hk.below
  exact ⟨_, rfl, _, _, _, [], _, [], hW', trodAll_mk1 (shut_bool Tryz.underlying4 _), (trodAll_cons_mk (Below.trod laidOut (by kernel_rfl) (of_decide_eq_true (by kernel_rfl)) k0 bel lt0) (trodAll_cons_mk (Below.trod laidOut (by kernel_rfl) (of_decide_eq_true (by kernel_rfl)) k1 bel lt1) (trodAll_cons_mk (Below.trod laidOut (by kernel_rfl) (of_decide_eq_true (by kernel_rfl)) k2 bel lt2) (trodAll_cons_mk (Below.trod laidOut (by kernel_rfl) (of_decide_eq_true (by kernel_rfl)) k3 bel lt3) (trodAll_cons_mk (Below.trod laidOut (by kernel_rfl) (of_decide_eq_true (by kernel_rfl)) k4 bel lt4) (trodAll_cons_mk (Below.trod laidOut (by kernel_rfl) (of_decide_eq_true (by kernel_rfl)) k5 bel lt5) trodAll_mk0)))))), rfl, bel.frame _, fun h => by cases h⟩
theorem solveCone_named : Tryz.pinned.checked.prog.funcNamed Rows.solveConeRow.func = some 3 := by kernel_rfl
theorem solveCone_inst : (Tryz.f3).isInstance Tryz.pinned.checked.prog Rows.solveConeRow.origin Rows.solveConeRow.targs := of_decide_eq_true (by kernel_rfl)
theorem solveCone_wrap : (Tryz.f3).isWrapper Tryz.pinned.checked.prog Rows.solveConeRow.wrapper Rows.solveConeRow.mainSum := by unfold Func.isWrapper; rw [if_neg (of_decide_eq_false (by kernel_rfl))]; exact ⟨rfl, rfl⟩
theorem solveCone_over : Rows.solveConeRow.holds Tryz.pinned (OpenSpec.ofChange Rows.solveConeSpec) :=
  OpenClaim.holds_of_wide 3 Tryz.f3 rfl rfl rfl rfl rfl rfl rfl ⟨rfl, rfl, rfl, rfl, rfl⟩ rfl rfl rfl rfl rfl solveCone_named Tryz.func3 solveCone_closed
    solveCone_inst solveCone_wrap
    (fun os started H enc _ => solveCone_lifted os started H enc)
/-- The statement. -/
theorem solveCone_proved : Rows.SolveConeSaid := solveCone_over
end Go.Proofs.YtblffafmkpnjdaaGreat
