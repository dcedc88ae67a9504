/-
  Rows.GridProductsSaid: the products of any points are the document's, exactly.
-/
import Derived.Test.YtbhlnbllkoomfaaFa
import Derived.Test.YtbhlnbllkoomfaaLc
import Derived.Test.YtbhlnbllkoomfaaRows
set_option linter.unusedVariables false
namespace Go.Proofs.Ytbhlnbllkoomfaa
open Go Go.ChangeShapes Go.WideShapes Go.ChangeAt Go.RowKit

set_option maxRecDepth 100000
theorem gridProducts_c0 : (Rows.gridProductsRow.wf (OpenSpec.ofChange Rows.gridProductsSpec)) = true := by kernel_rfl
theorem gridProducts_c1 : (laidOutB Try.pinned.checked.prog) = true := by kernel_rfl
theorem gridProducts_c2 : (mapsRowed Try.pinned.checked.prog) = true := by kernel_rfl
theorem gridProducts_c3 : (Try.f7.params.all (Try.pinned.checked.prog.readableRec ·)) = true := by kernel_rfl
theorem gridProducts_c4 : (namedTie Try.pinned.checked.prog Rows.gridProductsRow.named Rows.gridProductsSpec.vars) = true := by kernel_rfl
theorem gridProducts_c5 : ((Rows.gridProductsRow.stops == [])) = true := by kernel_rfl
theorem gridProducts_c6 : ((Try.pinned.checked.prog.stops == [])) = true := by kernel_rfl
theorem gridProducts_c7 : ((Rows.gridProductsRow.knobs == [])) = true := by kernel_rfl
theorem gridProducts_c8 : ((Try.pinned.checked.prog.stopKnobs == [])) = true := by kernel_rfl
theorem gridProducts_c9 : ((Rows.gridProductsRow.inPlace == Try.pinned.checked.prog.inPlace 7)) = true := by kernel_rfl
theorem gridProducts_c10 : ((Rows.gridProductsRow.unfollowed == Try.pinned.checked.prog.unfollowed 7)) = true := by kernel_rfl
theorem gridProducts_c11 : ((Rows.gridProductsRow.recurses == Try.pinned.checked.prog.recurses 7)) = true := by kernel_rfl
theorem gridProducts_c12 : ((Rows.gridProductsRow.named == Try.pinned.checked.prog.varsNamed 7)) = true := by kernel_rfl
theorem gridProducts_c13 : ((Rows.gridProductsRow.maps == (Try.f7.params.toList ++ Rows.gridProductsSpec.plain.varTypes Try.pinned.checked.prog).any (Try.pinned.checked.prog.mapsRec ·))) = true := by kernel_rfl
theorem gridProducts_c14 : ((Rows.gridProductsRow.ifaces == (Try.f7.params.toList ++ Rows.gridProductsSpec.plain.varTypes Try.pinned.checked.prog).any (Try.pinned.checked.prog.ifacesRec ·))) = true := by kernel_rfl
theorem gridProducts_c15 : ((Rows.gridProductsRow.mapsOut == Try.pinned.checked.prog.mapsAmong Try.f7.resultTypes.toList)) = true := by kernel_rfl
theorem gridProducts_c16 : ((Rows.gridProductsRow.loops == (Try.f7.params.toList ++ Rows.gridProductsSpec.plain.varTypes Try.pinned.checked.prog).any (Try.pinned.checked.prog.loopsFrom ·))) = true := by kernel_rfl
theorem gridProducts_c17 : ((Rows.gridProductsRow.wideKeys == (Try.f7.params.toList ++ Rows.gridProductsSpec.plain.varTypes Try.pinned.checked.prog ++ Try.f7.resultTypes.toList).any (Try.pinned.checked.prog.wideKeysFrom ·))) = true := by kernel_rfl
theorem gridProducts_c18 : (Rows.gridProductsSpec.vars.all (Try.pinned.checked.prog.varReadable ·)) = true := by kernel_rfl
theorem gridProducts_c19 : (Try.f7.resultTypes.all (fun t => Try.pinned.checked.prog.readableRec t && decide (t < Try.pinned.checked.prog.types.size))) = true := by kernel_rfl
theorem gridProducts_c20 : ((Rows.gridProductsRow.ifacesOut == Try.f7.resultTypes.toList.any (Try.pinned.checked.prog.ifacesRec ·))) = true := by kernel_rfl
theorem gridProducts_c21 : ((Rows.gridProductsRow.loopsOut == Try.f7.resultTypes.toList.any (Try.pinned.checked.prog.loopsFrom ·))) = true := by kernel_rfl
theorem gridProducts_c22 : ((Rows.gridProductsRow.plainKeys == Try.pinned.checked.prog.plainKeys)) = true := by kernel_rfl
theorem gridProducts_c23 : (Rows.gridProductsRow.shortTexts.isNone) = true := by kernel_rfl
theorem gridProducts_c24 : (Try.pinned.checked.prog.stopsHeard) = true := by kernel_rfl
theorem gridProducts_c25 : (Try.pinned.checked.prog.mayEnter) = true := by kernel_rfl
theorem gridProducts_c26 : ((Rows.gridProductsRow.lifted == Try.pinned.checked.prog.liftsFinal)) = true := by kernel_rfl
theorem gridProducts_c27 : ((Try.pinned.checked.prog.make == some Rows.gridProductsRow.make)) = true := by kernel_rfl
theorem gridProducts_c28 : ((Rows.gridProductsRow.kinds == (if Rows.gridProductsRow.domain.isEmpty then [] else Try.f7.params.toList.map fun t => match Try.pinned.checked.prog.underlying t with | some (.int k) => some k | _ => none))) = true := by kernel_rfl
theorem gridProducts_c29 : ((Rows.gridProductsRow.pinned == Rows.gridProductsRow.pinnedBy)) = true := by kernel_rfl
theorem gridProducts_c30 : ((Rows.gridProductsRow.veiled == (Try.f7.params.toList ++ Rows.gridProductsSpec.plain.varTypes Try.pinned.checked.prog ++ Try.f7.resultTypes.toList).any (Try.pinned.checked.prog.veiledRec ·))) = true := by kernel_rfl
theorem gridProducts_c31 : (Rows.gridProductsRow.veiledFits Try.pinned.checked.prog Try.f7.params.toList (Try.f7.params.toList ++ Rows.gridProductsSpec.plain.varTypes Try.pinned.checked.prog ++ Try.f7.resultTypes.toList)) = true := by kernel_rfl
theorem gridProducts_closed : joinedFacts Try.pinned.checked.prog 7 Try.f7 Rows.gridProductsSpec Rows.gridProductsRow = true := by
  unfold joinedFacts
  simp only [Bool.and_eq_true]
  exact ⟨⟨⟨⟨⟨⟨⟨⟨⟨⟨⟨⟨⟨⟨⟨⟨⟨⟨⟨⟨⟨⟨⟨⟨⟨⟨⟨⟨⟨⟨⟨gridProducts_c0, gridProducts_c1⟩, gridProducts_c2⟩, gridProducts_c3⟩, gridProducts_c4⟩, gridProducts_c5⟩, gridProducts_c6⟩, gridProducts_c7⟩, gridProducts_c8⟩, gridProducts_c9⟩, gridProducts_c10⟩, gridProducts_c11⟩, gridProducts_c12⟩, gridProducts_c13⟩, gridProducts_c14⟩, gridProducts_c15⟩, gridProducts_c16⟩, gridProducts_c17⟩, gridProducts_c18⟩, gridProducts_c19⟩, gridProducts_c20⟩, gridProducts_c21⟩, gridProducts_c22⟩, gridProducts_c23⟩, gridProducts_c24⟩, gridProducts_c25⟩, gridProducts_c26⟩, gridProducts_c27⟩, gridProducts_c28⟩, gridProducts_c29⟩, gridProducts_c30⟩, gridProducts_c31⟩
theorem gridProducts_lifted (os : Os) (started : os.Started) (H : Type) (enc : TypeId × Value → H) :
    ReturnsInHanded {} Try.checked os 7 .any (Rows.gridProductsSpec.pre6 enc Try.prog Try.f7 Rows.gridProductsRow.domain false) (Rows.gridProductsSpec.post enc Try.prog Try.f7 false true false false) := by
  refine returnsInHanded_of_change (C := Try.checked) own started (by kernel_rfl) Try.func7
    (ChangeSpec.witness6 (enc := enc) (C := Try.checked) false ⟨#[], #[.agg #[.int .i64 0, .int .i64 0, .int .i64 0], .agg #[.int .i64 0, .int .i64 0, .int .i64 0], .agg #[.int .i64 0, .int .i64 0, .int .i64 0]], []⟩ 8 (by kernel_rfl) (by kernel_rfl) (by kernel_rfl) (by kernel_rfl)) ?_
  intro W base args ds gs before hval0 hW hcnd _
  have hval : ∀ (j : Nat) t v, Try.f7.params[j]? = some t → args[j]? = some v → Value.okWide Try.prog W .any base t v := hval0
  have hW' := hW
  obtain ⟨p, q, hA0, hV, rfl, hfz, hnd⟩ := hW
  have hA : DataW.TrodAll enc Try.prog W 0 (fun _ => true) true Try.f7.params.toList args.toList ds p := hA0
  rw [Try.params7] at hA hval
  obtain ⟨v0, vs0, d0, ds0, p0, q0, hargs, rfl, rfl, h0, r0⟩ := trodAll_cons hA
  obtain ⟨v1, vs1, d1, ds1, p1, q1, rfl, rfl, rfl, h1, r1⟩ := trodAll_cons r0
  obtain ⟨v2, vs2, d2, ds2, p2, q2, rfl, rfl, rfl, h2, r2⟩ := trodAll_cons r1
  obtain ⟨rfl, rfl, rfl⟩ := trodAll_nil r2
  obtain rfl : args = #[v0, v1, v2] := by cases args; simp_all
  obtain ⟨rfl, rfl⟩ := trodVars_none hV
  have k0 := h0
  have k1 := h1
  have k2 := h2
  have lt0 : ∀ x ∈ p0, x.block < W.heap.size := by obtain ⟨m, hm⟩ := k0; exact DataW.trod_lt m _ _ _ hm
  have lt1 : ∀ x ∈ p1, x.block < W.heap.size := by obtain ⟨m, hm⟩ := k1; exact DataW.trod_lt m _ _ _ hm
  have lt2 : ∀ x ∈ p2, x.block < W.heap.size := by obtain ⟨m, hm⟩ := k2; exact DataW.trod_lt m _ _ _ hm
  obtain ⟨a0, rfl, ha0⟩ := open_point (hval 0 29 v0 rfl rfl) h0
  obtain ⟨a1, rfl, ha1⟩ := open_point (hval 1 29 v1 rfl rfl) h1
  obtain ⟨a2, rfl, ha2⟩ := open_point (hval 2 29 v2 rfl rfl) h2
  clear hA0 hval0
  refine (products_law a0 ha0 a1 ha1 a2 ha2 W).mono fun e W' ⟨he, hk⟩ => ?_
  subst he
  have bel := hk.below
  exact ⟨_, rfl, _, _, _, [], _, [], hW', trodAll_mk1 (shut_bool Try.underlying4 _), (trodAll_cons_mk (Below.trod laidOut (by kernel_rfl) (of_decide_eq_true (by kernel_rfl)) k0 bel lt0) (trodAll_cons_mk (Below.trod laidOut (by kernel_rfl) (of_decide_eq_true (by kernel_rfl)) k1 bel lt1) (trodAll_cons_mk (Below.trod laidOut (by kernel_rfl) (of_decide_eq_true (by kernel_rfl)) k2 bel lt2) trodAll_mk0))), rfl, bel.frame _, fun h => by cases h⟩
theorem gridProducts_named : Try.pinned.checked.prog.funcNamed Rows.gridProductsRow.func = some 7 := by kernel_rfl
theorem gridProducts_inst : (Try.f7).isInstance Try.pinned.checked.prog Rows.gridProductsRow.origin Rows.gridProductsRow.targs := of_decide_eq_true (by kernel_rfl)
theorem gridProducts_wrap : (Try.f7).isWrapper Try.pinned.checked.prog Rows.gridProductsRow.wrapper Rows.gridProductsRow.mainSum := by unfold Func.isWrapper; rw [if_neg (of_decide_eq_false (by kernel_rfl))]; exact ⟨rfl, rfl⟩
theorem gridProducts_over : Rows.gridProductsRow.holds Try.pinned (OpenSpec.ofChange Rows.gridProductsSpec) :=
  OpenClaim.holds_of_wide 7 Try.f7 rfl rfl rfl rfl rfl rfl rfl ⟨rfl, rfl, rfl, rfl, rfl⟩ rfl rfl rfl rfl rfl gridProducts_named Try.func7 gridProducts_closed
    gridProducts_inst gridProducts_wrap
    (fun os started H enc _ => gridProducts_lifted os started H enc)
/-- The statement. -/
theorem gridProducts_proved : Rows.GridProductsSaid := gridProducts_over
end Go.Proofs.Ytbhlnbllkoomfaa
