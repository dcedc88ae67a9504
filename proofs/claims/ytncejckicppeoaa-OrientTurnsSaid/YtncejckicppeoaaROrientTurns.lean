/-
  Rows.OrientTurnsSaid: the law answers true at every input, and leaves its arguments as they were.
-/
import Derived.Test.YtncejckicppeoaaLb
import Derived.Test.YtncejckicppeoaaLc
import Derived.Test.YtncejckicppeoaaRows
set_option linter.unusedVariables false
namespace Go.Proofs.Ytncejckicppeoaa
open Go Go.ChangeShapes Go.WideShapes Go.ChangeAt Go.RowKit

set_option maxRecDepth 100000
theorem orientTurns_c0 : (Rows.orientTurnsRow.wf (OpenSpec.ofChange Rows.orientTurnsSpec)) = true := by kernel_rfl
theorem orientTurns_c1 : (laidOutB Try.pinned.checked.prog) = true := by kernel_rfl
theorem orientTurns_c2 : (mapsRowed Try.pinned.checked.prog) = true := by kernel_rfl
theorem orientTurns_c3 : (Try.f3.params.all (Try.pinned.checked.prog.readableRec ·)) = true := by kernel_rfl
theorem orientTurns_c4 : (namedTie Try.pinned.checked.prog Rows.orientTurnsRow.named Rows.orientTurnsSpec.vars) = true := by kernel_rfl
theorem orientTurns_c5 : ((Rows.orientTurnsRow.stops == [])) = true := by kernel_rfl
theorem orientTurns_c6 : ((Try.pinned.checked.prog.stops == [])) = true := by kernel_rfl
theorem orientTurns_c7 : ((Rows.orientTurnsRow.knobs == [])) = true := by kernel_rfl
theorem orientTurns_c8 : ((Try.pinned.checked.prog.stopKnobs == [])) = true := by kernel_rfl
theorem orientTurns_c9 : ((Rows.orientTurnsRow.inPlace == Try.pinned.checked.prog.inPlace 3)) = true := by kernel_rfl
theorem orientTurns_c10 : ((Rows.orientTurnsRow.unfollowed == Try.pinned.checked.prog.unfollowed 3)) = true := by kernel_rfl
theorem orientTurns_c11 : ((Rows.orientTurnsRow.recurses == Try.pinned.checked.prog.recurses 3)) = true := by kernel_rfl
theorem orientTurns_c12 : ((Rows.orientTurnsRow.named == Try.pinned.checked.prog.varsNamed 3)) = true := by kernel_rfl
theorem orientTurns_c13 : ((Rows.orientTurnsRow.maps == (Try.f3.params.toList ++ Rows.orientTurnsSpec.plain.varTypes Try.pinned.checked.prog).any (Try.pinned.checked.prog.mapsRec ·))) = true := by kernel_rfl
theorem orientTurns_c14 : ((Rows.orientTurnsRow.ifaces == (Try.f3.params.toList ++ Rows.orientTurnsSpec.plain.varTypes Try.pinned.checked.prog).any (Try.pinned.checked.prog.ifacesRec ·))) = true := by kernel_rfl
theorem orientTurns_c15 : ((Rows.orientTurnsRow.mapsOut == Try.pinned.checked.prog.mapsAmong Try.f3.resultTypes.toList)) = true := by kernel_rfl
theorem orientTurns_c16 : ((Rows.orientTurnsRow.loops == (Try.f3.params.toList ++ Rows.orientTurnsSpec.plain.varTypes Try.pinned.checked.prog).any (Try.pinned.checked.prog.loopsFrom ·))) = true := by kernel_rfl
theorem orientTurns_c17 : ((Rows.orientTurnsRow.wideKeys == (Try.f3.params.toList ++ Rows.orientTurnsSpec.plain.varTypes Try.pinned.checked.prog ++ Try.f3.resultTypes.toList).any (Try.pinned.checked.prog.wideKeysFrom ·))) = true := by kernel_rfl
theorem orientTurns_c18 : (Rows.orientTurnsSpec.vars.all (Try.pinned.checked.prog.varReadable ·)) = true := by kernel_rfl
theorem orientTurns_c19 : (Try.f3.resultTypes.all (fun t => Try.pinned.checked.prog.readableRec t && decide (t < Try.pinned.checked.prog.types.size))) = true := by kernel_rfl
theorem orientTurns_c20 : ((Rows.orientTurnsRow.ifacesOut == Try.f3.resultTypes.toList.any (Try.pinned.checked.prog.ifacesRec ·))) = true := by kernel_rfl
theorem orientTurns_c21 : ((Rows.orientTurnsRow.loopsOut == Try.f3.resultTypes.toList.any (Try.pinned.checked.prog.loopsFrom ·))) = true := by kernel_rfl
theorem orientTurns_c22 : ((Rows.orientTurnsRow.plainKeys == Try.pinned.checked.prog.plainKeys)) = true := by kernel_rfl
theorem orientTurns_c23 : (Rows.orientTurnsRow.shortTexts.isNone) = true := by kernel_rfl
theorem orientTurns_c24 : (Try.pinned.checked.prog.stopsHeard) = true := by kernel_rfl
theorem orientTurns_c25 : (Try.pinned.checked.prog.mayEnter) = true := by kernel_rfl
theorem orientTurns_c26 : ((Rows.orientTurnsRow.lifted == Try.pinned.checked.prog.liftsFinal)) = true := by kernel_rfl
theorem orientTurns_c27 : ((Try.pinned.checked.prog.make == some Rows.orientTurnsRow.make)) = true := by kernel_rfl
theorem orientTurns_c28 : ((Rows.orientTurnsRow.kinds == (if Rows.orientTurnsRow.domain.isEmpty then [] else Try.f3.params.toList.map fun t => match Try.pinned.checked.prog.underlying t with | some (.int k) => some k | _ => none))) = true := by kernel_rfl
theorem orientTurns_c29 : ((Rows.orientTurnsRow.pinned == Rows.orientTurnsRow.pinnedBy)) = true := by kernel_rfl
theorem orientTurns_c30 : ((Rows.orientTurnsRow.veiled == (Try.f3.params.toList ++ Rows.orientTurnsSpec.plain.varTypes Try.pinned.checked.prog ++ Try.f3.resultTypes.toList).any (Try.pinned.checked.prog.veiledRec ·))) = true := by kernel_rfl
theorem orientTurns_c31 : (Rows.orientTurnsRow.veiledFits Try.pinned.checked.prog Try.f3.params.toList (Try.f3.params.toList ++ Rows.orientTurnsSpec.plain.varTypes Try.pinned.checked.prog ++ Try.f3.resultTypes.toList)) = true := by kernel_rfl
theorem orientTurns_closed : joinedFacts Try.pinned.checked.prog 3 Try.f3 Rows.orientTurnsSpec Rows.orientTurnsRow = true := by
  unfold joinedFacts
  simp only [Bool.and_eq_true]
  exact ⟨⟨⟨⟨⟨⟨⟨⟨⟨⟨⟨⟨⟨⟨⟨⟨⟨⟨⟨⟨⟨⟨⟨⟨⟨⟨⟨⟨⟨⟨⟨orientTurns_c0, orientTurns_c1⟩, orientTurns_c2⟩, orientTurns_c3⟩, orientTurns_c4⟩, orientTurns_c5⟩, orientTurns_c6⟩, orientTurns_c7⟩, orientTurns_c8⟩, orientTurns_c9⟩, orientTurns_c10⟩, orientTurns_c11⟩, orientTurns_c12⟩, orientTurns_c13⟩, orientTurns_c14⟩, orientTurns_c15⟩, orientTurns_c16⟩, orientTurns_c17⟩, orientTurns_c18⟩, orientTurns_c19⟩, orientTurns_c20⟩, orientTurns_c21⟩, orientTurns_c22⟩, orientTurns_c23⟩, orientTurns_c24⟩, orientTurns_c25⟩, orientTurns_c26⟩, orientTurns_c27⟩, orientTurns_c28⟩, orientTurns_c29⟩, orientTurns_c30⟩, orientTurns_c31⟩
theorem orientTurns_lifted (os : Os) (started : os.Started) (H : Type) (enc : TypeId × Value → H) :
    ReturnsInHanded {} Try.checked os 3 .any (Rows.orientTurnsSpec.pre6 enc Try.prog Try.f3 Rows.orientTurnsRow.domain false) (Rows.orientTurnsSpec.post enc Try.prog Try.f3 false true false false) := by
  refine returnsInHanded_of_change (C := Try.checked) own started (by kernel_rfl) Try.func3
    (ChangeSpec.witness6 (enc := enc) (C := Try.checked) false ⟨#[], #[.agg #[.int .i64 0, .int .i64 0, .int .i64 0], .agg #[.int .i64 0, .int .i64 0, .int .i64 0], .agg #[.int .i64 0, .int .i64 0, .int .i64 0], .agg #[.int .i64 0, .int .i64 0, .int .i64 0]], []⟩ 8 (by kernel_rfl) (by kernel_rfl) (by kernel_rfl) (by kernel_rfl)) ?_
  intro W base args ds gs before hval0 hW hcnd _
  have hval : ∀ (j : Nat) t v, Try.f3.params[j]? = some t → args[j]? = some v → Value.okWide Try.prog W .any base t v := hval0
  have hW' := hW
  obtain ⟨p, q, hA0, hV, rfl, hfz, hnd⟩ := hW
  have hA : DataW.TrodAll enc Try.prog W 0 (fun _ => true) true Try.f3.params.toList args.toList ds p := hA0
  rw [Try.params3] at hA hval
  obtain ⟨v0, vs0, d0, ds0, p0, q0, hargs, rfl, rfl, h0, r0⟩ := trodAll_cons hA
  obtain ⟨v1, vs1, d1, ds1, p1, q1, rfl, rfl, rfl, h1, r1⟩ := trodAll_cons r0
  obtain ⟨v2, vs2, d2, ds2, p2, q2, rfl, rfl, rfl, h2, r2⟩ := trodAll_cons r1
  obtain ⟨v3, vs3, d3, ds3, p3, q3, rfl, rfl, rfl, h3, r3⟩ := trodAll_cons r2
  obtain ⟨rfl, rfl, rfl⟩ := trodAll_nil r3
  obtain rfl : args = #[v0, v1, v2, v3] := by cases args; simp_all
  obtain ⟨rfl, rfl⟩ := trodVars_none hV
  have k0 := h0
  have k1 := h1
  have k2 := h2
  have k3 := h3
  have lt0 : ∀ x ∈ p0, x.block < W.heap.size := by obtain ⟨m, hm⟩ := k0; exact DataW.trod_lt m _ _ _ hm
  have lt1 : ∀ x ∈ p1, x.block < W.heap.size := by obtain ⟨m, hm⟩ := k1; exact DataW.trod_lt m _ _ _ hm
  have lt2 : ∀ x ∈ p2, x.block < W.heap.size := by obtain ⟨m, hm⟩ := k2; exact DataW.trod_lt m _ _ _ hm
  have lt3 : ∀ x ∈ p3, x.block < W.heap.size := by obtain ⟨m, hm⟩ := k3; exact DataW.trod_lt m _ _ _ hm
  obtain ⟨a0, rfl, ha0⟩ := open_point (hval 0 23 v0 rfl rfl) h0
  obtain ⟨a1, rfl, ha1⟩ := open_point (hval 1 23 v1 rfl rfl) h1
  obtain ⟨a2, rfl, ha2⟩ := open_point (hval 2 23 v2 rfl rfl) h2
  obtain ⟨a3, rfl, ha3⟩ := open_point (hval 3 23 v3 rfl rfl) h3
  clear hA0 hval0
  refine (turns_law a0 ha0 a1 ha1 a2 ha2 a3 ha3 W).mono fun e W' ⟨he, hk⟩ => ?_
  subst he
  have bel := hk.below
  exact ⟨_, rfl, _, _, _, [], _, [], hW', trodAll_mk1 (shut_bool Try.underlying4 _), (trodAll_cons_mk (Below.trod laidOut (by kernel_rfl) (of_decide_eq_true (by kernel_rfl)) k0 bel lt0) (trodAll_cons_mk (Below.trod laidOut (by kernel_rfl) (of_decide_eq_true (by kernel_rfl)) k1 bel lt1) (trodAll_cons_mk (Below.trod laidOut (by kernel_rfl) (of_decide_eq_true (by kernel_rfl)) k2 bel lt2) (trodAll_cons_mk (Below.trod laidOut (by kernel_rfl) (of_decide_eq_true (by kernel_rfl)) k3 bel lt3) trodAll_mk0)))), rfl, bel.frame _, fun h => by cases h⟩
theorem orientTurns_named : Try.pinned.checked.prog.funcNamed Rows.orientTurnsRow.func = some 3 := by kernel_rfl
theorem orientTurns_inst : (Try.f3).isInstance Try.pinned.checked.prog Rows.orientTurnsRow.origin Rows.orientTurnsRow.targs := of_decide_eq_true (by kernel_rfl)
theorem orientTurns_wrap : (Try.f3).isWrapper Try.pinned.checked.prog Rows.orientTurnsRow.wrapper Rows.orientTurnsRow.mainSum := by unfold Func.isWrapper; rw [if_neg (of_decide_eq_false (by kernel_rfl))]; exact ⟨rfl, rfl⟩
theorem orientTurns_over : Rows.orientTurnsRow.holds Try.pinned (OpenSpec.ofChange Rows.orientTurnsSpec) :=
  OpenClaim.holds_of_wide 3 Try.f3 rfl rfl rfl rfl rfl rfl rfl ⟨rfl, rfl, rfl, rfl, rfl⟩ rfl rfl rfl rfl rfl orientTurns_named Try.func3 orientTurns_closed
    orientTurns_inst orientTurns_wrap
    (fun os started H enc _ => orientTurns_lifted os started H enc)
/-- The statement. -/
theorem orientTurns_proved : Rows.OrientTurnsSaid := orientTurns_over
end Go.Proofs.Ytncejckicppeoaa
