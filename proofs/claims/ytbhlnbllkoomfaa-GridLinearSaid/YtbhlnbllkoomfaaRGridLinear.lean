/-
  Rows.GridLinearSaid: products of a sum are the sums of the products (numbers up to 2^60).
-/
import Derived.Test.YtbhlnbllkoomfaaFo
import Derived.Test.YtbhlnbllkoomfaaLc
import Derived.Test.YtbhlnbllkoomfaaRows
set_option linter.unusedVariables false
namespace Go.Proofs.Ytbhlnbllkoomfaa
open Go Go.ChangeShapes Go.WideShapes Go.ChangeAt Go.RowKit

set_option maxRecDepth 100000
theorem gridLinear_c0 : (Rows.gridLinearRow.wf (OpenSpec.ofChange Rows.gridLinearSpec)) = true := by kernel_rfl
theorem gridLinear_c1 : (laidOutB Try.pinned.checked.prog) = true := by kernel_rfl
theorem gridLinear_c2 : (mapsRowed Try.pinned.checked.prog) = true := by kernel_rfl
theorem gridLinear_c3 : (Try.f9.params.all (Try.pinned.checked.prog.readableRec ·)) = true := by kernel_rfl
theorem gridLinear_c4 : (namedTie Try.pinned.checked.prog Rows.gridLinearRow.named Rows.gridLinearSpec.vars) = true := by kernel_rfl
theorem gridLinear_c5 : ((Rows.gridLinearRow.stops == [])) = true := by kernel_rfl
theorem gridLinear_c6 : ((Try.pinned.checked.prog.stops == [])) = true := by kernel_rfl
theorem gridLinear_c7 : ((Rows.gridLinearRow.knobs == [])) = true := by kernel_rfl
theorem gridLinear_c8 : ((Try.pinned.checked.prog.stopKnobs == [])) = true := by kernel_rfl
theorem gridLinear_c9 : ((Rows.gridLinearRow.inPlace == Try.pinned.checked.prog.inPlace 9)) = true := by kernel_rfl
theorem gridLinear_c10 : ((Rows.gridLinearRow.unfollowed == Try.pinned.checked.prog.unfollowed 9)) = true := by kernel_rfl
theorem gridLinear_c11 : ((Rows.gridLinearRow.recurses == Try.pinned.checked.prog.recurses 9)) = true := by kernel_rfl
theorem gridLinear_c12 : ((Rows.gridLinearRow.named == Try.pinned.checked.prog.varsNamed 9)) = true := by kernel_rfl
theorem gridLinear_c13 : ((Rows.gridLinearRow.maps == (Try.f9.params.toList ++ Rows.gridLinearSpec.plain.varTypes Try.pinned.checked.prog).any (Try.pinned.checked.prog.mapsRec ·))) = true := by kernel_rfl
theorem gridLinear_c14 : ((Rows.gridLinearRow.ifaces == (Try.f9.params.toList ++ Rows.gridLinearSpec.plain.varTypes Try.pinned.checked.prog).any (Try.pinned.checked.prog.ifacesRec ·))) = true := by kernel_rfl
theorem gridLinear_c15 : ((Rows.gridLinearRow.mapsOut == Try.pinned.checked.prog.mapsAmong Try.f9.resultTypes.toList)) = true := by kernel_rfl
theorem gridLinear_c16 : ((Rows.gridLinearRow.loops == (Try.f9.params.toList ++ Rows.gridLinearSpec.plain.varTypes Try.pinned.checked.prog).any (Try.pinned.checked.prog.loopsFrom ·))) = true := by kernel_rfl
theorem gridLinear_c17 : ((Rows.gridLinearRow.wideKeys == (Try.f9.params.toList ++ Rows.gridLinearSpec.plain.varTypes Try.pinned.checked.prog ++ Try.f9.resultTypes.toList).any (Try.pinned.checked.prog.wideKeysFrom ·))) = true := by kernel_rfl
theorem gridLinear_c18 : (Rows.gridLinearSpec.vars.all (Try.pinned.checked.prog.varReadable ·)) = true := by kernel_rfl
theorem gridLinear_c19 : (Try.f9.resultTypes.all (fun t => Try.pinned.checked.prog.readableRec t && decide (t < Try.pinned.checked.prog.types.size))) = true := by kernel_rfl
theorem gridLinear_c20 : ((Rows.gridLinearRow.ifacesOut == Try.f9.resultTypes.toList.any (Try.pinned.checked.prog.ifacesRec ·))) = true := by kernel_rfl
theorem gridLinear_c21 : ((Rows.gridLinearRow.loopsOut == Try.f9.resultTypes.toList.any (Try.pinned.checked.prog.loopsFrom ·))) = true := by kernel_rfl
theorem gridLinear_c22 : ((Rows.gridLinearRow.plainKeys == Try.pinned.checked.prog.plainKeys)) = true := by kernel_rfl
theorem gridLinear_c23 : (Rows.gridLinearRow.shortTexts.isNone) = true := by kernel_rfl
theorem gridLinear_c24 : (Try.pinned.checked.prog.stopsHeard) = true := by kernel_rfl
theorem gridLinear_c25 : (Try.pinned.checked.prog.mayEnter) = true := by kernel_rfl
theorem gridLinear_c26 : ((Rows.gridLinearRow.lifted == Try.pinned.checked.prog.liftsFinal)) = true := by kernel_rfl
theorem gridLinear_c27 : ((Try.pinned.checked.prog.make == some Rows.gridLinearRow.make)) = true := by kernel_rfl
theorem gridLinear_c28 : ((Rows.gridLinearRow.kinds == (if Rows.gridLinearRow.domain.isEmpty then [] else Try.f9.params.toList.map fun t => match Try.pinned.checked.prog.underlying t with | some (.int k) => some k | _ => none))) = true := by kernel_rfl
theorem gridLinear_c29 : ((Rows.gridLinearRow.pinned == Rows.gridLinearRow.pinnedBy)) = true := by kernel_rfl
theorem gridLinear_c30 : ((Rows.gridLinearRow.veiled == (Try.f9.params.toList ++ Rows.gridLinearSpec.plain.varTypes Try.pinned.checked.prog ++ Try.f9.resultTypes.toList).any (Try.pinned.checked.prog.veiledRec ·))) = true := by kernel_rfl
theorem gridLinear_c31 : (Rows.gridLinearRow.veiledFits Try.pinned.checked.prog Try.f9.params.toList (Try.f9.params.toList ++ Rows.gridLinearSpec.plain.varTypes Try.pinned.checked.prog ++ Try.f9.resultTypes.toList)) = true := by kernel_rfl
theorem gridLinear_closed : joinedFacts Try.pinned.checked.prog 9 Try.f9 Rows.gridLinearSpec Rows.gridLinearRow = true := by
  unfold joinedFacts
  simp only [Bool.and_eq_true]
  exact ⟨⟨⟨⟨⟨⟨⟨⟨⟨⟨⟨⟨⟨⟨⟨⟨⟨⟨⟨⟨⟨⟨⟨⟨⟨⟨⟨⟨⟨⟨⟨gridLinear_c0, gridLinear_c1⟩, gridLinear_c2⟩, gridLinear_c3⟩, gridLinear_c4⟩, gridLinear_c5⟩, gridLinear_c6⟩, gridLinear_c7⟩, gridLinear_c8⟩, gridLinear_c9⟩, gridLinear_c10⟩, gridLinear_c11⟩, gridLinear_c12⟩, gridLinear_c13⟩, gridLinear_c14⟩, gridLinear_c15⟩, gridLinear_c16⟩, gridLinear_c17⟩, gridLinear_c18⟩, gridLinear_c19⟩, gridLinear_c20⟩, gridLinear_c21⟩, gridLinear_c22⟩, gridLinear_c23⟩, gridLinear_c24⟩, gridLinear_c25⟩, gridLinear_c26⟩, gridLinear_c27⟩, gridLinear_c28⟩, gridLinear_c29⟩, gridLinear_c30⟩, gridLinear_c31⟩
theorem gridLinear_lifted (os : Os) (started : os.Started) (H : Type) (enc : TypeId × Value → H) :
    ReturnsInHanded {} Try.checked os 9 .any (Rows.gridLinearSpec.pre6 enc Try.prog Try.f9 Rows.gridLinearRow.domain false) (Rows.gridLinearSpec.post enc Try.prog Try.f9 false true false false) := by
  refine returnsInHanded_of_change (C := Try.checked) own started (by kernel_rfl) Try.func9
    (ChangeSpec.witness6 (enc := enc) (C := Try.checked) false ⟨#[], #[.agg #[.int .i64 0, .int .i64 0, .int .i64 0], .agg #[.int .i64 0, .int .i64 0, .int .i64 0], .agg #[.int .i64 0, .int .i64 0, .int .i64 0], .agg #[.int .i64 0, .int .i64 0, .int .i64 0]], []⟩ 8 (by kernel_rfl) (by kernel_rfl) (by kernel_rfl) (by kernel_rfl)) ?_
  intro W base args ds gs before hval0 hW hcnd _
  have hval : ∀ (j : Nat) t v, Try.f9.params[j]? = some t → args[j]? = some v → Value.okWide Try.prog W .any base t v := hval0
  have hW' := hW
  obtain ⟨p, q, hA0, hV, rfl, hfz, hnd⟩ := hW
  have hA : DataW.TrodAll enc Try.prog W 0 (fun _ => true) true Try.f9.params.toList args.toList ds p := hA0
  rw [Try.params9] at hA hval
  obtain ⟨v0, vs0, d0, ds0, p0, q0, hargs, rfl, rfl, h0, r0⟩ := trodAll_cons hA
  obtain ⟨v1, vs1, d1, ds1, p1, q1, rfl, rfl, rfl, h1, r1⟩ := trodAll_cons r0
  obtain ⟨v2, vs2, d2, ds2, p2, q2, rfl, rfl, rfl, h2, r2⟩ := trodAll_cons r1
  obtain ⟨v3, vs3, d3, ds3, p3, q3, rfl, rfl, rfl, h3, r3⟩ := trodAll_cons r2
  obtain ⟨rfl, rfl, rfl⟩ := trodAll_nil r3
  obtain rfl : args = #[v0, v1, v2, v3] := by cases args; simp_all
  obtain ⟨rfl, rfl⟩ := trodVars_none hV
  have k0 := h0
  have k1 := h1
  have k2 := h2
  have k3 := h3
  have lt0 : ∀ x ∈ p0, x.block < W.heap.size := by obtain ⟨m, hm⟩ := k0; exact DataW.trod_lt m _ _ _ hm
  have lt1 : ∀ x ∈ p1, x.block < W.heap.size := by obtain ⟨m, hm⟩ := k1; exact DataW.trod_lt m _ _ _ hm
  have lt2 : ∀ x ∈ p2, x.block < W.heap.size := by obtain ⟨m, hm⟩ := k2; exact DataW.trod_lt m _ _ _ hm
  have lt3 : ∀ x ∈ p3, x.block < W.heap.size := by obtain ⟨m, hm⟩ := k3; exact DataW.trod_lt m _ _ _ hm
  obtain ⟨a0, rfl, ha0⟩ := open_point (hval 0 29 v0 rfl rfl) h0
  obtain ⟨a1, rfl, ha1⟩ := open_point (hval 1 29 v1 rfl rfl) h1
  obtain ⟨a2, rfl, ha2⟩ := open_point (hval 2 29 v2 rfl rfl) h2
  obtain ⟨a3, rfl, ha3⟩ := open_point (hval 3 29 v3 rfl rfl) h3
  clear hA0 hval0
  refine (linear_law a0 ha0 a1 ha1 a2 ha2 a3 ha3 W).mono fun e W' ⟨he, hk⟩ => ?_
  subst he
  have bel := hk.below
  exact ⟨_, rfl, _, _, _, [], _, [], hW', trodAll_mk1 (shut_bool Try.underlying4 _), (trodAll_cons_mk (Below.trod laidOut (by kernel_rfl) (of_decide_eq_true (by kernel_rfl)) k0 bel lt0) (trodAll_cons_mk (Below.trod laidOut (by kernel_rfl) (of_decide_eq_true (by kernel_rfl)) k1 bel lt1) (trodAll_cons_mk (Below.trod laidOut (by kernel_rfl) (of_decide_eq_true (by kernel_rfl)) k2 bel lt2) (trodAll_cons_mk (Below.trod laidOut (by kernel_rfl) (of_decide_eq_true (by kernel_rfl)) k3 bel lt3) trodAll_mk0)))), rfl, bel.frame _, fun h => by cases h⟩
theorem gridLinear_named : Try.pinned.checked.prog.funcNamed Rows.gridLinearRow.func = some 9 := by kernel_rfl
theorem gridLinear_inst : (Try.f9).isInstance Try.pinned.checked.prog Rows.gridLinearRow.origin Rows.gridLinearRow.targs := of_decide_eq_true (by kernel_rfl)
theorem gridLinear_wrap : (Try.f9).isWrapper Try.pinned.checked.prog Rows.gridLinearRow.wrapper Rows.gridLinearRow.mainSum := by unfold Func.isWrapper; rw [if_neg (of_decide_eq_false (by kernel_rfl))]; exact ⟨rfl, rfl⟩
theorem gridLinear_over : Rows.gridLinearRow.holds Try.pinned (OpenSpec.ofChange Rows.gridLinearSpec) :=
  OpenClaim.holds_of_wide 9 Try.f9 rfl rfl rfl rfl rfl rfl rfl ⟨rfl, rfl, rfl, rfl, rfl⟩ rfl rfl rfl rfl rfl gridLinear_named Try.func9 gridLinear_closed
    gridLinear_inst gridLinear_wrap
    (fun os started H enc _ => gridLinear_lifted os started H enc)
/-- The statement. -/
theorem gridLinear_proved : Rows.GridLinearSaid := gridLinear_over
end Go.Proofs.Ytbhlnbllkoomfaa
