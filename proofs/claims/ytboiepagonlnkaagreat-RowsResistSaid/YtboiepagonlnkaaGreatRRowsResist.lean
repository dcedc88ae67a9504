/-
  Rows.RowsResistSaid: the law answers true at every input, and leaves its arguments as they were.
-/
import Derived.Test.YtboiepagonlnkaaGreatLo
import Derived.Test.YtboiepagonlnkaaGreatLq
import Derived.Test.YtboiepagonlnkaaGreatYj
import Derived.Test.YtboiepagonlnkaaGreatRows
set_option linter.unusedVariables false
namespace Go.Proofs.YtboiepagonlnkaaGreat
open Go Go.ChangeShapes Go.WideShapes Go.ChangeAt Go.RowKit

set_option maxRecDepth 100000
theorem rowsResist_c0 : (Rows.rowsResistRow.wf (OpenSpec.ofChange Rows.rowsResistSpec)) = true := by kernel_rfl
theorem rowsResist_c1 : (laidOutB Tryz.pinned.checked.prog) = true := by kernel_rfl
theorem rowsResist_c2 : (mapsRowed Tryz.pinned.checked.prog) = true := by kernel_rfl
theorem rowsResist_c3 : (Tryz.f4.params.all (Tryz.pinned.checked.prog.readableRec ·)) = true := by kernel_rfl
theorem rowsResist_c4 : (namedTie Tryz.pinned.checked.prog Rows.rowsResistRow.named Rows.rowsResistSpec.vars) = true := by kernel_rfl
theorem rowsResist_c5 : ((Rows.rowsResistRow.stops == [])) = true := by kernel_rfl
theorem rowsResist_c6 : ((Tryz.pinned.checked.prog.stops == [])) = true := by kernel_rfl
theorem rowsResist_c7 : ((Rows.rowsResistRow.knobs == [])) = true := by kernel_rfl
theorem rowsResist_c8 : ((Tryz.pinned.checked.prog.stopKnobs == [])) = true := by kernel_rfl
theorem rowsResist_c9 : ((Rows.rowsResistRow.inPlace == Tryz.pinned.checked.prog.inPlace 4)) = true := by kernel_rfl
theorem rowsResist_c10 : ((Rows.rowsResistRow.unfollowed == Tryz.pinned.checked.prog.unfollowed 4)) = true := by kernel_rfl
theorem rowsResist_c11 : ((Rows.rowsResistRow.recurses == Tryz.pinned.checked.prog.recurses 4)) = true := by kernel_rfl
theorem rowsResist_c12 : ((Rows.rowsResistRow.named == Tryz.pinned.checked.prog.varsNamed 4)) = true := by kernel_rfl
theorem rowsResist_c13 : ((Rows.rowsResistRow.maps == (Tryz.f4.params.toList ++ Rows.rowsResistSpec.plain.varTypes Tryz.pinned.checked.prog).any (Tryz.pinned.checked.prog.mapsRec ·))) = true := by kernel_rfl
theorem rowsResist_c14 : ((Rows.rowsResistRow.ifaces == (Tryz.f4.params.toList ++ Rows.rowsResistSpec.plain.varTypes Tryz.pinned.checked.prog).any (Tryz.pinned.checked.prog.ifacesRec ·))) = true := by kernel_rfl
theorem rowsResist_c15 : ((Rows.rowsResistRow.mapsOut == Tryz.pinned.checked.prog.mapsAmong Tryz.f4.resultTypes.toList)) = true := by kernel_rfl
theorem rowsResist_c16 : ((Rows.rowsResistRow.loops == (Tryz.f4.params.toList ++ Rows.rowsResistSpec.plain.varTypes Tryz.pinned.checked.prog).any (Tryz.pinned.checked.prog.loopsFrom ·))) = true := by kernel_rfl
theorem rowsResist_c17 : ((Rows.rowsResistRow.wideKeys == (Tryz.f4.params.toList ++ Rows.rowsResistSpec.plain.varTypes Tryz.pinned.checked.prog ++ Tryz.f4.resultTypes.toList).any (Tryz.pinned.checked.prog.wideKeysFrom ·))) = true := by kernel_rfl
theorem rowsResist_c18 : (Rows.rowsResistSpec.vars.all (Tryz.pinned.checked.prog.varReadable ·)) = true := by kernel_rfl
theorem rowsResist_c19 : (Tryz.f4.resultTypes.all (fun t => Tryz.pinned.checked.prog.readableRec t && decide (t < Tryz.pinned.checked.prog.types.size))) = true := by kernel_rfl
theorem rowsResist_c20 : ((Rows.rowsResistRow.ifacesOut == Tryz.f4.resultTypes.toList.any (Tryz.pinned.checked.prog.ifacesRec ·))) = true := by kernel_rfl
theorem rowsResist_c21 : ((Rows.rowsResistRow.loopsOut == Tryz.f4.resultTypes.toList.any (Tryz.pinned.checked.prog.loopsFrom ·))) = true := by kernel_rfl
theorem rowsResist_c22 : ((Rows.rowsResistRow.plainKeys == Tryz.pinned.checked.prog.plainKeys)) = true := by kernel_rfl
theorem rowsResist_c23 : (Rows.rowsResistRow.shortTexts.isNone) = true := by kernel_rfl
theorem rowsResist_c24 : (Tryz.pinned.checked.prog.stopsHeard) = true := by kernel_rfl
theorem rowsResist_c25 : (Tryz.pinned.checked.prog.mayEnter) = true := by kernel_rfl
theorem rowsResist_c26 : ((Rows.rowsResistRow.lifted == Tryz.pinned.checked.prog.liftsFinal)) = true := by kernel_rfl
theorem rowsResist_c27 : ((Tryz.pinned.checked.prog.make == some Rows.rowsResistRow.make)) = true := by kernel_rfl
theorem rowsResist_c28 : ((Rows.rowsResistRow.kinds == (if Rows.rowsResistRow.domain.isEmpty then [] else Tryz.f4.params.toList.map fun t => match Tryz.pinned.checked.prog.underlying t with | some (.int k) => some k | _ => none))) = true := by kernel_rfl
theorem rowsResist_c29 : ((Rows.rowsResistRow.pinned == Rows.rowsResistRow.pinnedBy)) = true := by kernel_rfl
theorem rowsResist_c30 : ((Rows.rowsResistRow.veiled == (Tryz.f4.params.toList ++ Rows.rowsResistSpec.plain.varTypes Tryz.pinned.checked.prog ++ Tryz.f4.resultTypes.toList).any (Tryz.pinned.checked.prog.veiledRec ·))) = true := by kernel_rfl
theorem rowsResist_c31 : (Rows.rowsResistRow.veiledFits Tryz.pinned.checked.prog Tryz.f4.params.toList (Tryz.f4.params.toList ++ Rows.rowsResistSpec.plain.varTypes Tryz.pinned.checked.prog ++ Tryz.f4.resultTypes.toList)) = true := by kernel_rfl
theorem rowsResist_closed : joinedFacts Tryz.pinned.checked.prog 4 Tryz.f4 Rows.rowsResistSpec Rows.rowsResistRow = true := by
  unfold joinedFacts
  simp only [Bool.and_eq_true]
  exact ⟨⟨⟨⟨⟨⟨⟨⟨⟨⟨⟨⟨⟨⟨⟨⟨⟨⟨⟨⟨⟨⟨⟨⟨⟨⟨⟨⟨⟨⟨⟨rowsResist_c0, rowsResist_c1⟩, rowsResist_c2⟩, rowsResist_c3⟩, rowsResist_c4⟩, rowsResist_c5⟩, rowsResist_c6⟩, rowsResist_c7⟩, rowsResist_c8⟩, rowsResist_c9⟩, rowsResist_c10⟩, rowsResist_c11⟩, rowsResist_c12⟩, rowsResist_c13⟩, rowsResist_c14⟩, rowsResist_c15⟩, rowsResist_c16⟩, rowsResist_c17⟩, rowsResist_c18⟩, rowsResist_c19⟩, rowsResist_c20⟩, rowsResist_c21⟩, rowsResist_c22⟩, rowsResist_c23⟩, rowsResist_c24⟩, rowsResist_c25⟩, rowsResist_c26⟩, rowsResist_c27⟩, rowsResist_c28⟩, rowsResist_c29⟩, rowsResist_c30⟩, rowsResist_c31⟩
theorem rowsResist_lifted (os : Os) (started : os.Started) (H : Type) (enc : TypeId × Value → H) :
    ReturnsInHanded {} Tryz.checked os 4 .any (Rows.rowsResistSpec.pre6 enc Tryz.prog Tryz.f4 Rows.rowsResistRow.domain false) (Rows.rowsResistSpec.post enc Tryz.prog Tryz.f4 false true false false) := by
  refine returnsInHanded_of_change (C := Tryz.checked) own started (by kernel_rfl) Tryz.func4
    (ChangeSpec.witness6 (enc := enc) (C := Tryz.checked) false ⟨#[], #[.agg #[.int .i64 0, .int .i64 0, .int .i64 0, .int .i64 0, .int .i64 0, .int .i64 0, .int .i64 0, .int .i64 0, .int .i64 0, .int .i64 0, .int .i64 0, .int .i64 0, .int .i64 0, .int .i64 0, .int .i64 0, .int .i64 0], .agg #[.int .i64 0, .int .i64 0, .int .i64 0, .int .i64 0, .int .i64 0, .int .i64 0, .int .i64 0, .int .i64 0, .int .i64 0, .int .i64 0, .int .i64 0, .int .i64 0, .int .i64 0, .int .i64 0, .int .i64 0, .int .i64 0], .agg #[.int .i64 0, .int .i64 0, .int .i64 0], .agg #[.int .i64 0, .int .i64 0, .int .i64 0], .agg #[.int .i64 0, .int .i64 0, .int .i64 0]], []⟩ 8 (by kernel_rfl) (by kernel_rfl) (by kernel_rfl) (by kernel_rfl)) ?_
  intro W base args ds gs before hval0 hW hcnd _
  have hval : ∀ (j : Nat) t v, Tryz.f4.params[j]? = some t → args[j]? = some v → Value.okWide Tryz.prog W .any base t v := hval0
  have hW' := hW
  obtain ⟨p, q, hA0, hV, rfl, hfz, hnd⟩ := hW
  have hA : DataW.TrodAll enc Tryz.prog W 0 (fun _ => true) true Tryz.f4.params.toList args.toList ds p := hA0
  rw [Tryz.params4] at hA hval
  obtain ⟨v0, vs0, d0, ds0, p0, q0, hargs, rfl, rfl, h0, r0⟩ := trodAll_cons hA
  obtain ⟨v1, vs1, d1, ds1, p1, q1, rfl, rfl, rfl, h1, r1⟩ := trodAll_cons r0
  obtain ⟨v2, vs2, d2, ds2, p2, q2, rfl, rfl, rfl, h2, r2⟩ := trodAll_cons r1
  obtain ⟨v3, vs3, d3, ds3, p3, q3, rfl, rfl, rfl, h3, r3⟩ := trodAll_cons r2
  obtain ⟨v4, vs4, d4, ds4, p4, q4, rfl, rfl, rfl, h4, r4⟩ := trodAll_cons r3
  obtain ⟨rfl, rfl, rfl⟩ := trodAll_nil r4
  obtain rfl : args = #[v0, v1, v2, v3, v4] := by cases args; simp_all
  obtain ⟨rfl, rfl⟩ := trodVars_none hV
  have k0 := h0
  have k1 := h1
  have k2 := h2
  have k3 := h3
  have k4 := h4
  have lt0 : ∀ x ∈ p0, x.block < W.heap.size := by obtain ⟨m, hm⟩ := k0; exact DataW.trod_lt m _ _ _ hm
  have lt1 : ∀ x ∈ p1, x.block < W.heap.size := by obtain ⟨m, hm⟩ := k1; exact DataW.trod_lt m _ _ _ hm
  have lt2 : ∀ x ∈ p2, x.block < W.heap.size := by obtain ⟨m, hm⟩ := k2; exact DataW.trod_lt m _ _ _ hm
  have lt3 : ∀ x ∈ p3, x.block < W.heap.size := by obtain ⟨m, hm⟩ := k3; exact DataW.trod_lt m _ _ _ hm
  have lt4 : ∀ x ∈ p4, x.block < W.heap.size := by obtain ⟨m, hm⟩ := k4; exact DataW.trod_lt m _ _ _ hm
  obtain ⟨a0, rfl, ha0⟩ := open_inert (hval 0 36 v0 rfl rfl) h0
  obtain ⟨a1, rfl, ha1⟩ := open_inert (hval 1 36 v1 rfl rfl) h1
  obtain ⟨a2, rfl, ha2⟩ := open_vec (hval 2 24 v2 rfl rfl) h2
  obtain ⟨a3, rfl, ha3⟩ := open_vec (hval 3 24 v3 rfl rfl) h3
  obtain ⟨a4, rfl, ha4⟩ := open_vec (hval 4 24 v4 rfl rfl) h4
  clear hA0 hval0
  refine (resist_law a0 ha0 a1 ha1 a2 ha2 a3 ha3 a4 ha4 W).mono fun e W' ⟨he, hk⟩ => ?_
  subst he
  have bel := hk.below
  exact ⟨_, rfl, _, _, _, [], _, [], hW', trodAll_mk1 (shut_bool Tryz.underlying4 _), (trodAll_cons_mk (Below.trod laidOut (by kernel_rfl) (of_decide_eq_true (by kernel_rfl)) k0 bel lt0) (trodAll_cons_mk (Below.trod laidOut (by kernel_rfl) (of_decide_eq_true (by kernel_rfl)) k1 bel lt1) (trodAll_cons_mk (Below.trod laidOut (by kernel_rfl) (of_decide_eq_true (by kernel_rfl)) k2 bel lt2) (trodAll_cons_mk (Below.trod laidOut (by kernel_rfl) (of_decide_eq_true (by kernel_rfl)) k3 bel lt3) (trodAll_cons_mk (Below.trod laidOut (by kernel_rfl) (of_decide_eq_true (by kernel_rfl)) k4 bel lt4) trodAll_mk0))))), rfl, bel.frame _, fun h => by cases h⟩
theorem rowsResist_named : Tryz.pinned.checked.prog.funcNamed Rows.rowsResistRow.func = some 4 := by kernel_rfl
theorem rowsResist_inst : (Tryz.f4).isInstance Tryz.pinned.checked.prog Rows.rowsResistRow.origin Rows.rowsResistRow.targs := of_decide_eq_true (by kernel_rfl)
theorem rowsResist_wrap : (Tryz.f4).isWrapper Tryz.pinned.checked.prog Rows.rowsResistRow.wrapper Rows.rowsResistRow.mainSum := by unfold Func.isWrapper; rw [if_neg (of_decide_eq_false (by kernel_rfl))]; exact ⟨rfl, rfl⟩
theorem rowsResist_over : Rows.rowsResistRow.holds Tryz.pinned (OpenSpec.ofChange Rows.rowsResistSpec) :=
  OpenClaim.holds_of_wide 4 Tryz.f4 rfl rfl rfl rfl rfl rfl rfl ⟨rfl, rfl, rfl, rfl, rfl⟩ rfl rfl rfl rfl rfl rowsResist_named Tryz.func4 rowsResist_closed
    rowsResist_inst rowsResist_wrap
    (fun os started H enc _ => rowsResist_lifted os started H enc)
/-- The statement. -/
theorem rowsResist_proved : Rows.RowsResistSaid := rowsResist_over
end Go.Proofs.YtboiepagonlnkaaGreat
