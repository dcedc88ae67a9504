/-
  Rows.GridDetSaid: the determinant is how far each is along the cross product of the others, turns its sign when two are exchanged, and is 0 when two are the same.
-/
import Derived.Test.YtbhlnbllkoomfaaFb
import Derived.Test.YtbhlnbllkoomfaaLc
import Derived.Test.YtbhlnbllkoomfaaRows
set_option linter.unusedVariables false
namespace Go.Proofs.Ytbhlnbllkoomfaa
open Go Go.ChangeShapes Go.WideShapes Go.ChangeAt Go.RowKit

set_option maxRecDepth 100000
theorem gridDet_c0 : (Rows.gridDetRow.wf (OpenSpec.ofChange Rows.gridDetSpec)) = true := by kernel_rfl
theorem gridDet_c1 : (laidOutB Try.pinned.checked.prog) = true := by kernel_rfl
theorem gridDet_c2 : (mapsRowed Try.pinned.checked.prog) = true := by kernel_rfl
theorem gridDet_c3 : (Try.f5.params.all (Try.pinned.checked.prog.readableRec ·)) = true := by kernel_rfl
theorem gridDet_c4 : (namedTie Try.pinned.checked.prog Rows.gridDetRow.named Rows.gridDetSpec.vars) = true := by kernel_rfl
theorem gridDet_c5 : ((Rows.gridDetRow.stops == [])) = true := by kernel_rfl
theorem gridDet_c6 : ((Try.pinned.checked.prog.stops == [])) = true := by kernel_rfl
theorem gridDet_c7 : ((Rows.gridDetRow.knobs == [])) = true := by kernel_rfl
theorem gridDet_c8 : ((Try.pinned.checked.prog.stopKnobs == [])) = true := by kernel_rfl
theorem gridDet_c9 : ((Rows.gridDetRow.inPlace == Try.pinned.checked.prog.inPlace 5)) = true := by kernel_rfl
theorem gridDet_c10 : ((Rows.gridDetRow.unfollowed == Try.pinned.checked.prog.unfollowed 5)) = true := by kernel_rfl
theorem gridDet_c11 : ((Rows.gridDetRow.recurses == Try.pinned.checked.prog.recurses 5)) = true := by kernel_rfl
theorem gridDet_c12 : ((Rows.gridDetRow.named == Try.pinned.checked.prog.varsNamed 5)) = true := by kernel_rfl
theorem gridDet_c13 : ((Rows.gridDetRow.maps == (Try.f5.params.toList ++ Rows.gridDetSpec.plain.varTypes Try.pinned.checked.prog).any (Try.pinned.checked.prog.mapsRec ·))) = true := by kernel_rfl
theorem gridDet_c14 : ((Rows.gridDetRow.ifaces == (Try.f5.params.toList ++ Rows.gridDetSpec.plain.varTypes Try.pinned.checked.prog).any (Try.pinned.checked.prog.ifacesRec ·))) = true := by kernel_rfl
theorem gridDet_c15 : ((Rows.gridDetRow.mapsOut == Try.pinned.checked.prog.mapsAmong Try.f5.resultTypes.toList)) = true := by kernel_rfl
theorem gridDet_c16 : ((Rows.gridDetRow.loops == (Try.f5.params.toList ++ Rows.gridDetSpec.plain.varTypes Try.pinned.checked.prog).any (Try.pinned.checked.prog.loopsFrom ·))) = true := by kernel_rfl
theorem gridDet_c17 : ((Rows.gridDetRow.wideKeys == (Try.f5.params.toList ++ Rows.gridDetSpec.plain.varTypes Try.pinned.checked.prog ++ Try.f5.resultTypes.toList).any (Try.pinned.checked.prog.wideKeysFrom ·))) = true := by kernel_rfl
theorem gridDet_c18 : (Rows.gridDetSpec.vars.all (Try.pinned.checked.prog.varReadable ·)) = true := by kernel_rfl
theorem gridDet_c19 : (Try.f5.resultTypes.all (fun t => Try.pinned.checked.prog.readableRec t && decide (t < Try.pinned.checked.prog.types.size))) = true := by kernel_rfl
theorem gridDet_c20 : ((Rows.gridDetRow.ifacesOut == Try.f5.resultTypes.toList.any (Try.pinned.checked.prog.ifacesRec ·))) = true := by kernel_rfl
theorem gridDet_c21 : ((Rows.gridDetRow.loopsOut == Try.f5.resultTypes.toList.any (Try.pinned.checked.prog.loopsFrom ·))) = true := by kernel_rfl
theorem gridDet_c22 : ((Rows.gridDetRow.plainKeys == Try.pinned.checked.prog.plainKeys)) = true := by kernel_rfl
theorem gridDet_c23 : (Rows.gridDetRow.shortTexts.isNone) = true := by kernel_rfl
theorem gridDet_c24 : (Try.pinned.checked.prog.stopsHeard) = true := by kernel_rfl
theorem gridDet_c25 : (Try.pinned.checked.prog.mayEnter) = true := by kernel_rfl
theorem gridDet_c26 : ((Rows.gridDetRow.lifted == Try.pinned.checked.prog.liftsFinal)) = true := by kernel_rfl
theorem gridDet_c27 : ((Try.pinned.checked.prog.make == some Rows.gridDetRow.make)) = true := by kernel_rfl
theorem gridDet_c28 : ((Rows.gridDetRow.kinds == (if Rows.gridDetRow.domain.isEmpty then [] else Try.f5.params.toList.map fun t => match Try.pinned.checked.prog.underlying t with | some (.int k) => some k | _ => none))) = true := by kernel_rfl
theorem gridDet_c29 : ((Rows.gridDetRow.pinned == Rows.gridDetRow.pinnedBy)) = true := by kernel_rfl
theorem gridDet_c30 : ((Rows.gridDetRow.veiled == (Try.f5.params.toList ++ Rows.gridDetSpec.plain.varTypes Try.pinned.checked.prog ++ Try.f5.resultTypes.toList).any (Try.pinned.checked.prog.veiledRec ·))) = true := by kernel_rfl
theorem gridDet_c31 : (Rows.gridDetRow.veiledFits Try.pinned.checked.prog Try.f5.params.toList (Try.f5.params.toList ++ Rows.gridDetSpec.plain.varTypes Try.pinned.checked.prog ++ Try.f5.resultTypes.toList)) = true := by kernel_rfl
theorem gridDet_closed : joinedFacts Try.pinned.checked.prog 5 Try.f5 Rows.gridDetSpec Rows.gridDetRow = true := by
  unfold joinedFacts
  simp only [Bool.and_eq_true]
  exact ⟨⟨⟨⟨⟨⟨⟨⟨⟨⟨⟨⟨⟨⟨⟨⟨⟨⟨⟨⟨⟨⟨⟨⟨⟨⟨⟨⟨⟨⟨⟨gridDet_c0, gridDet_c1⟩, gridDet_c2⟩, gridDet_c3⟩, gridDet_c4⟩, gridDet_c5⟩, gridDet_c6⟩, gridDet_c7⟩, gridDet_c8⟩, gridDet_c9⟩, gridDet_c10⟩, gridDet_c11⟩, gridDet_c12⟩, gridDet_c13⟩, gridDet_c14⟩, gridDet_c15⟩, gridDet_c16⟩, gridDet_c17⟩, gridDet_c18⟩, gridDet_c19⟩, gridDet_c20⟩, gridDet_c21⟩, gridDet_c22⟩, gridDet_c23⟩, gridDet_c24⟩, gridDet_c25⟩, gridDet_c26⟩, gridDet_c27⟩, gridDet_c28⟩, gridDet_c29⟩, gridDet_c30⟩, gridDet_c31⟩
theorem gridDet_lifted (os : Os) (started : os.Started) (H : Type) (enc : TypeId × Value → H) :
    ReturnsInHanded {} Try.checked os 5 .any (Rows.gridDetSpec.pre6 enc Try.prog Try.f5 Rows.gridDetRow.domain false) (Rows.gridDetSpec.post enc Try.prog Try.f5 false true false false) := by
  refine returnsInHanded_of_change (C := Try.checked) own started (by kernel_rfl) Try.func5
    (ChangeSpec.witness6 (enc := enc) (C := Try.checked) false ⟨#[], #[.agg #[.int .i64 0, .int .i64 0, .int .i64 0], .agg #[.int .i64 0, .int .i64 0, .int .i64 0], .agg #[.int .i64 0, .int .i64 0, .int .i64 0]], []⟩ 8 (by kernel_rfl) (by kernel_rfl) (by kernel_rfl) (by kernel_rfl)) ?_
  intro W base args ds gs before hval0 hW hcnd _
  have hval : ∀ (j : Nat) t v, Try.f5.params[j]? = some t → args[j]? = some v → Value.okWide Try.prog W .any base t v := hval0
  have hW' := hW
  obtain ⟨p, q, hA0, hV, rfl, hfz, hnd⟩ := hW
  have hA : DataW.TrodAll enc Try.prog W 0 (fun _ => true) true Try.f5.params.toList args.toList ds p := hA0
  rw [Try.params5] at hA hval
  obtain ⟨v0, vs0, d0, ds0, p0, q0, hargs, rfl, rfl, h0, r0⟩ := trodAll_cons hA
  obtain ⟨v1, vs1, d1, ds1, p1, q1, rfl, rfl, rfl, h1, r1⟩ := trodAll_cons r0
  obtain ⟨v2, vs2, d2, ds2, p2, q2, rfl, rfl, rfl, h2, r2⟩ := trodAll_cons r1
  obtain ⟨rfl, rfl, rfl⟩ := trodAll_nil r2
  obtain rfl : args = #[v0, v1, v2] := by cases args; simp_all
  obtain ⟨rfl, rfl⟩ := trodVars_none hV
  have k0 := h0
  have k1 := h1
  have k2 := h2
  have lt0 : ∀ x ∈ p0, x.block < W.heap.size := by obtain ⟨m, hm⟩ := k0; exact DataW.trod_lt m _ _ _ hm
  have lt1 : ∀ x ∈ p1, x.block < W.heap.size := by obtain ⟨m, hm⟩ := k1; exact DataW.trod_lt m _ _ _ hm
  have lt2 : ∀ x ∈ p2, x.block < W.heap.size := by obtain ⟨m, hm⟩ := k2; exact DataW.trod_lt m _ _ _ hm
  obtain ⟨a0, rfl, ha0⟩ := open_point (hval 0 29 v0 rfl rfl) h0
  obtain ⟨a1, rfl, ha1⟩ := open_point (hval 1 29 v1 rfl rfl) h1
  obtain ⟨a2, rfl, ha2⟩ := open_point (hval 2 29 v2 rfl rfl) h2
  clear hA0 hval0
  refine (det_law a0 ha0 a1 ha1 a2 ha2 W).mono fun e W' ⟨he, hk⟩ => ?_
  subst he
  have bel := hk.below
  exact ⟨_, rfl, _, _, _, [], _, [], hW', trodAll_mk1 (shut_bool Try.underlying4 _), (trodAll_cons_mk (Below.trod laidOut (by kernel_rfl) (of_decide_eq_true (by kernel_rfl)) k0 bel lt0) (trodAll_cons_mk (Below.trod laidOut (by kernel_rfl) (of_decide_eq_true (by kernel_rfl)) k1 bel lt1) (trodAll_cons_mk (Below.trod laidOut (by kernel_rfl) (of_decide_eq_true (by kernel_rfl)) k2 bel lt2) trodAll_mk0))), rfl, bel.frame _, fun h => by cases h⟩
theorem gridDet_named : Try.pinned.checked.prog.funcNamed Rows.gridDetRow.func = some 5 := by kernel_rfl
theorem gridDet_inst : (Try.f5).isInstance Try.pinned.checked.prog Rows.gridDetRow.origin Rows.gridDetRow.targs := of_decide_eq_true (by kernel_rfl)
theorem gridDet_wrap : (Try.f5).isWrapper Try.pinned.checked.prog Rows.gridDetRow.wrapper Rows.gridDetRow.mainSum := by unfold Func.isWrapper; rw [if_neg (of_decide_eq_false (by kernel_rfl))]; exact ⟨rfl, rfl⟩
theorem gridDet_over : Rows.gridDetRow.holds Try.pinned (OpenSpec.ofChange Rows.gridDetSpec) :=
  OpenClaim.holds_of_wide 5 Try.f5 rfl rfl rfl rfl rfl rfl rfl ⟨rfl, rfl, rfl, rfl, rfl⟩ rfl rfl rfl rfl rfl gridDet_named Try.func5 gridDet_closed
    gridDet_inst gridDet_wrap
    (fun os started H enc _ => gridDet_lifted os started H enc)
/-- The statement. -/
theorem gridDet_proved : Rows.GridDetSaid := gridDet_over
end Go.Proofs.Ytbhlnbllkoomfaa
