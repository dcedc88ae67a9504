/-
  Rows.GridOrderSaid: Cmp is an order of points, and Less and adding again is the point.
-/
import Derived.Test.YtbhlnbllkoomfaaFh
import Derived.Test.YtbhlnbllkoomfaaLc
import Derived.Test.YtbhlnbllkoomfaaRows
set_option linter.unusedVariables false
namespace Go.Proofs.Ytbhlnbllkoomfaa
open Go Go.ChangeShapes Go.WideShapes Go.ChangeAt Go.RowKit

set_option maxRecDepth 100000
theorem gridOrder_c0 : (Rows.gridOrderRow.wf (OpenSpec.ofChange Rows.gridOrderSpec)) = true := by kernel_rfl
theorem gridOrder_c1 : (laidOutB Try.pinned.checked.prog) = true := by kernel_rfl
theorem gridOrder_c2 : (mapsRowed Try.pinned.checked.prog) = true := by kernel_rfl
theorem gridOrder_c3 : (Try.f11.params.all (Try.pinned.checked.prog.readableRec ·)) = true := by kernel_rfl
theorem gridOrder_c4 : (namedTie Try.pinned.checked.prog Rows.gridOrderRow.named Rows.gridOrderSpec.vars) = true := by kernel_rfl
theorem gridOrder_c5 : ((Rows.gridOrderRow.stops == [])) = true := by kernel_rfl
theorem gridOrder_c6 : ((Try.pinned.checked.prog.stops == [])) = true := by kernel_rfl
theorem gridOrder_c7 : ((Rows.gridOrderRow.knobs == [])) = true := by kernel_rfl
theorem gridOrder_c8 : ((Try.pinned.checked.prog.stopKnobs == [])) = true := by kernel_rfl
theorem gridOrder_c9 : ((Rows.gridOrderRow.inPlace == Try.pinned.checked.prog.inPlace 11)) = true := by kernel_rfl
theorem gridOrder_c10 : ((Rows.gridOrderRow.unfollowed == Try.pinned.checked.prog.unfollowed 11)) = true := by kernel_rfl
theorem gridOrder_c11 : ((Rows.gridOrderRow.recurses == Try.pinned.checked.prog.recurses 11)) = true := by kernel_rfl
theorem gridOrder_c12 : ((Rows.gridOrderRow.named == Try.pinned.checked.prog.varsNamed 11)) = true := by kernel_rfl
theorem gridOrder_c13 : ((Rows.gridOrderRow.maps == (Try.f11.params.toList ++ Rows.gridOrderSpec.plain.varTypes Try.pinned.checked.prog).any (Try.pinned.checked.prog.mapsRec ·))) = true := by kernel_rfl
theorem gridOrder_c14 : ((Rows.gridOrderRow.ifaces == (Try.f11.params.toList ++ Rows.gridOrderSpec.plain.varTypes Try.pinned.checked.prog).any (Try.pinned.checked.prog.ifacesRec ·))) = true := by kernel_rfl
theorem gridOrder_c15 : ((Rows.gridOrderRow.mapsOut == Try.pinned.checked.prog.mapsAmong Try.f11.resultTypes.toList)) = true := by kernel_rfl
theorem gridOrder_c16 : ((Rows.gridOrderRow.loops == (Try.f11.params.toList ++ Rows.gridOrderSpec.plain.varTypes Try.pinned.checked.prog).any (Try.pinned.checked.prog.loopsFrom ·))) = true := by kernel_rfl
theorem gridOrder_c17 : ((Rows.gridOrderRow.wideKeys == (Try.f11.params.toList ++ Rows.gridOrderSpec.plain.varTypes Try.pinned.checked.prog ++ Try.f11.resultTypes.toList).any (Try.pinned.checked.prog.wideKeysFrom ·))) = true := by kernel_rfl
theorem gridOrder_c18 : (Rows.gridOrderSpec.vars.all (Try.pinned.checked.prog.varReadable ·)) = true := by kernel_rfl
theorem gridOrder_c19 : (Try.f11.resultTypes.all (fun t => Try.pinned.checked.prog.readableRec t && decide (t < Try.pinned.checked.prog.types.size))) = true := by kernel_rfl
theorem gridOrder_c20 : ((Rows.gridOrderRow.ifacesOut == Try.f11.resultTypes.toList.any (Try.pinned.checked.prog.ifacesRec ·))) = true := by kernel_rfl
theorem gridOrder_c21 : ((Rows.gridOrderRow.loopsOut == Try.f11.resultTypes.toList.any (Try.pinned.checked.prog.loopsFrom ·))) = true := by kernel_rfl
theorem gridOrder_c22 : ((Rows.gridOrderRow.plainKeys == Try.pinned.checked.prog.plainKeys)) = true := by kernel_rfl
theorem gridOrder_c23 : (Rows.gridOrderRow.shortTexts.isNone) = true := by kernel_rfl
theorem gridOrder_c24 : (Try.pinned.checked.prog.stopsHeard) = true := by kernel_rfl
theorem gridOrder_c25 : (Try.pinned.checked.prog.mayEnter) = true := by kernel_rfl
theorem gridOrder_c26 : ((Rows.gridOrderRow.lifted == Try.pinned.checked.prog.liftsFinal)) = true := by kernel_rfl
theorem gridOrder_c27 : ((Try.pinned.checked.prog.make == some Rows.gridOrderRow.make)) = true := by kernel_rfl
theorem gridOrder_c28 : ((Rows.gridOrderRow.kinds == (if Rows.gridOrderRow.domain.isEmpty then [] else Try.f11.params.toList.map fun t => match Try.pinned.checked.prog.underlying t with | some (.int k) => some k | _ => none))) = true := by kernel_rfl
theorem gridOrder_c29 : ((Rows.gridOrderRow.pinned == Rows.gridOrderRow.pinnedBy)) = true := by kernel_rfl
theorem gridOrder_c30 : ((Rows.gridOrderRow.veiled == (Try.f11.params.toList ++ Rows.gridOrderSpec.plain.varTypes Try.pinned.checked.prog ++ Try.f11.resultTypes.toList).any (Try.pinned.checked.prog.veiledRec ·))) = true := by kernel_rfl
theorem gridOrder_c31 : (Rows.gridOrderRow.veiledFits Try.pinned.checked.prog Try.f11.params.toList (Try.f11.params.toList ++ Rows.gridOrderSpec.plain.varTypes Try.pinned.checked.prog ++ Try.f11.resultTypes.toList)) = true := by kernel_rfl
theorem gridOrder_closed : joinedFacts Try.pinned.checked.prog 11 Try.f11 Rows.gridOrderSpec Rows.gridOrderRow = true := by
  unfold joinedFacts
  simp only [Bool.and_eq_true]
  exact ⟨⟨⟨⟨⟨⟨⟨⟨⟨⟨⟨⟨⟨⟨⟨⟨⟨⟨⟨⟨⟨⟨⟨⟨⟨⟨⟨⟨⟨⟨⟨gridOrder_c0, gridOrder_c1⟩, gridOrder_c2⟩, gridOrder_c3⟩, gridOrder_c4⟩, gridOrder_c5⟩, gridOrder_c6⟩, gridOrder_c7⟩, gridOrder_c8⟩, gridOrder_c9⟩, gridOrder_c10⟩, gridOrder_c11⟩, gridOrder_c12⟩, gridOrder_c13⟩, gridOrder_c14⟩, gridOrder_c15⟩, gridOrder_c16⟩, gridOrder_c17⟩, gridOrder_c18⟩, gridOrder_c19⟩, gridOrder_c20⟩, gridOrder_c21⟩, gridOrder_c22⟩, gridOrder_c23⟩, gridOrder_c24⟩, gridOrder_c25⟩, gridOrder_c26⟩, gridOrder_c27⟩, gridOrder_c28⟩, gridOrder_c29⟩, gridOrder_c30⟩, gridOrder_c31⟩
theorem gridOrder_lifted (os : Os) (started : os.Started) (H : Type) (enc : TypeId × Value → H) :
    ReturnsInHanded {} Try.checked os 11 .any (Rows.gridOrderSpec.pre6 enc Try.prog Try.f11 Rows.gridOrderRow.domain false) (Rows.gridOrderSpec.post enc Try.prog Try.f11 false true false false) := by
  refine returnsInHanded_of_change (C := Try.checked) own started (by kernel_rfl) Try.func11
    (ChangeSpec.witness6 (enc := enc) (C := Try.checked) false ⟨#[], #[.agg #[.int .i64 0, .int .i64 0, .int .i64 0], .agg #[.int .i64 0, .int .i64 0, .int .i64 0], .agg #[.int .i64 0, .int .i64 0, .int .i64 0]], []⟩ 8 (by kernel_rfl) (by kernel_rfl) (by kernel_rfl) (by kernel_rfl)) ?_
  intro W base args ds gs before hval0 hW hcnd _
  have hval : ∀ (j : Nat) t v, Try.f11.params[j]? = some t → args[j]? = some v → Value.okWide Try.prog W .any base t v := hval0
  have hW' := hW
  obtain ⟨p, q, hA0, hV, rfl, hfz, hnd⟩ := hW
  have hA : DataW.TrodAll enc Try.prog W 0 (fun _ => true) true Try.f11.params.toList args.toList ds p := hA0
  rw [Try.params11] at hA hval
  obtain ⟨v0, vs0, d0, ds0, p0, q0, hargs, rfl, rfl, h0, r0⟩ := trodAll_cons hA
  obtain ⟨v1, vs1, d1, ds1, p1, q1, rfl, rfl, rfl, h1, r1⟩ := trodAll_cons r0
  obtain ⟨v2, vs2, d2, ds2, p2, q2, rfl, rfl, rfl, h2, r2⟩ := trodAll_cons r1
  obtain ⟨rfl, rfl, rfl⟩ := trodAll_nil r2
  obtain rfl : args = #[v0, v1, v2] := by cases args; simp_all
  obtain ⟨rfl, rfl⟩ := trodVars_none hV
  have k0 := h0
  have k1 := h1
  have k2 := h2
  have lt0 : ∀ x ∈ p0, x.block < W.heap.size := by obtain ⟨m, hm⟩ := k0; exact DataW.trod_lt m _ _ _ hm
  have lt1 : ∀ x ∈ p1, x.block < W.heap.size := by obtain ⟨m, hm⟩ := k1; exact DataW.trod_lt m _ _ _ hm
  have lt2 : ∀ x ∈ p2, x.block < W.heap.size := by obtain ⟨m, hm⟩ := k2; exact DataW.trod_lt m _ _ _ hm
  obtain ⟨a0, rfl, ha0⟩ := open_point (hval 0 29 v0 rfl rfl) h0
  obtain ⟨a1, rfl, ha1⟩ := open_point (hval 1 29 v1 rfl rfl) h1
  obtain ⟨a2, rfl, ha2⟩ := open_point (hval 2 29 v2 rfl rfl) h2
  clear hA0 hval0
  refine (order_law a0 ha0 a1 ha1 a2 ha2 W).mono fun e W' ⟨he, hk⟩ => ?_
  subst he
  have bel := hk.below
  exact ⟨_, rfl, _, _, _, [], _, [], hW', trodAll_mk1 (shut_bool Try.underlying4 _), (trodAll_cons_mk (Below.trod laidOut (by kernel_rfl) (of_decide_eq_true (by kernel_rfl)) k0 bel lt0) (trodAll_cons_mk (Below.trod laidOut (by kernel_rfl) (of_decide_eq_true (by kernel_rfl)) k1 bel lt1) (trodAll_cons_mk (Below.trod laidOut (by kernel_rfl) (of_decide_eq_true (by kernel_rfl)) k2 bel lt2) trodAll_mk0))), rfl, bel.frame _, fun h => by cases h⟩
theorem gridOrder_named : Try.pinned.checked.prog.funcNamed Rows.gridOrderRow.func = some 11 := by kernel_rfl
theorem gridOrder_inst : (Try.f11).isInstance Try.pinned.checked.prog Rows.gridOrderRow.origin Rows.gridOrderRow.targs := of_decide_eq_true (by kernel_rfl)
theorem gridOrder_wrap : (Try.f11).isWrapper Try.pinned.checked.prog Rows.gridOrderRow.wrapper Rows.gridOrderRow.mainSum := by unfold Func.isWrapper; rw [if_neg (of_decide_eq_false (by kernel_rfl))]; exact ⟨rfl, rfl⟩
theorem gridOrder_over : Rows.gridOrderRow.holds Try.pinned (OpenSpec.ofChange Rows.gridOrderSpec) :=
  OpenClaim.holds_of_wide 11 Try.f11 rfl rfl rfl rfl rfl rfl rfl ⟨rfl, rfl, rfl, rfl, rfl⟩ rfl rfl rfl rfl rfl gridOrder_named Try.func11 gridOrder_closed
    gridOrder_inst gridOrder_wrap
    (fun os started H enc _ => gridOrder_lifted os started H enc)
/-- The statement. -/
theorem gridOrder_proved : Rows.GridOrderSaid := gridOrder_over
end Go.Proofs.Ytbhlnbllkoomfaa
