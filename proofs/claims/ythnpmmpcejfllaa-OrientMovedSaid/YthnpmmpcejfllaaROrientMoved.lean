/-
  Rows.OrientMovedSaid: moving all points alike changes nothing of any answer (at most 100 points, of numbers up to 2^26).
-/
import Derived.Test.YthnpmmpcejfllaaLv
import Derived.Test.YthnpmmpcejfllaaLc
import Derived.Test.YthnpmmpcejfllaaRows
set_option linter.unusedVariables false
namespace Go.Proofs.Ythnpmmpcejfllaa
open Go Go.ChangeShapes Go.WideShapes Go.ChangeAt Go.RowKit

set_option maxRecDepth 100000
theorem orientMoved_c0 : (Rows.orientMovedRow.wf (OpenSpec.ofChange Rows.orientMovedSpec)) = true := by kernel_rfl
theorem orientMoved_c1 : (laidOutB Try.pinned.checked.prog) = true := by kernel_rfl
theorem orientMoved_c2 : (mapsRowed Try.pinned.checked.prog) = true := by kernel_rfl
theorem orientMoved_c3 : (Try.f9.params.all (Try.pinned.checked.prog.readableRec ·)) = true := by kernel_rfl
theorem orientMoved_c4 : (namedTie Try.pinned.checked.prog Rows.orientMovedRow.named Rows.orientMovedSpec.vars) = true := by kernel_rfl
theorem orientMoved_c5 : ((Rows.orientMovedRow.stops == [])) = true := by kernel_rfl
theorem orientMoved_c6 : ((Try.pinned.checked.prog.stops == [])) = true := by kernel_rfl
theorem orientMoved_c7 : ((Rows.orientMovedRow.knobs == [])) = true := by kernel_rfl
theorem orientMoved_c8 : ((Try.pinned.checked.prog.stopKnobs == [])) = true := by kernel_rfl
theorem orientMoved_c9 : ((Rows.orientMovedRow.inPlace == Try.pinned.checked.prog.inPlace 9)) = true := by kernel_rfl
theorem orientMoved_c10 : ((Rows.orientMovedRow.unfollowed == Try.pinned.checked.prog.unfollowed 9)) = true := by kernel_rfl
theorem orientMoved_c11 : ((Rows.orientMovedRow.recurses == Try.pinned.checked.prog.recurses 9)) = true := by kernel_rfl
theorem orientMoved_c12 : ((Rows.orientMovedRow.named == Try.pinned.checked.prog.varsNamed 9)) = true := by kernel_rfl
theorem orientMoved_c13 : ((Rows.orientMovedRow.maps == (Try.f9.params.toList ++ Rows.orientMovedSpec.plain.varTypes Try.pinned.checked.prog).any (Try.pinned.checked.prog.mapsRec ·))) = true := by kernel_rfl
theorem orientMoved_c14 : ((Rows.orientMovedRow.ifaces == (Try.f9.params.toList ++ Rows.orientMovedSpec.plain.varTypes Try.pinned.checked.prog).any (Try.pinned.checked.prog.ifacesRec ·))) = true := by kernel_rfl
theorem orientMoved_c15 : ((Rows.orientMovedRow.mapsOut == Try.pinned.checked.prog.mapsAmong Try.f9.resultTypes.toList)) = true := by kernel_rfl
theorem orientMoved_c16 : ((Rows.orientMovedRow.loops == (Try.f9.params.toList ++ Rows.orientMovedSpec.plain.varTypes Try.pinned.checked.prog).any (Try.pinned.checked.prog.loopsFrom ·))) = true := by kernel_rfl
theorem orientMoved_c17 : ((Rows.orientMovedRow.wideKeys == (Try.f9.params.toList ++ Rows.orientMovedSpec.plain.varTypes Try.pinned.checked.prog ++ Try.f9.resultTypes.toList).any (Try.pinned.checked.prog.wideKeysFrom ·))) = true := by kernel_rfl
theorem orientMoved_c18 : (Rows.orientMovedSpec.vars.all (Try.pinned.checked.prog.varReadable ·)) = true := by kernel_rfl
theorem orientMoved_c19 : (Try.f9.resultTypes.all (fun t => Try.pinned.checked.prog.readableRec t && decide (t < Try.pinned.checked.prog.types.size))) = true := by kernel_rfl
theorem orientMoved_c20 : ((Rows.orientMovedRow.ifacesOut == Try.f9.resultTypes.toList.any (Try.pinned.checked.prog.ifacesRec ·))) = true := by kernel_rfl
theorem orientMoved_c21 : ((Rows.orientMovedRow.loopsOut == Try.f9.resultTypes.toList.any (Try.pinned.checked.prog.loopsFrom ·))) = true := by kernel_rfl
theorem orientMoved_c22 : ((Rows.orientMovedRow.plainKeys == Try.pinned.checked.prog.plainKeys)) = true := by kernel_rfl
theorem orientMoved_c23 : (Rows.orientMovedRow.shortTexts.isNone) = true := by kernel_rfl
theorem orientMoved_c24 : (Try.pinned.checked.prog.stopsHeard) = true := by kernel_rfl
theorem orientMoved_c25 : (Try.pinned.checked.prog.mayEnter) = true := by kernel_rfl
theorem orientMoved_c26 : ((Rows.orientMovedRow.lifted == Try.pinned.checked.prog.liftsFinal)) = true := by kernel_rfl
theorem orientMoved_c27 : ((Try.pinned.checked.prog.make == some Rows.orientMovedRow.make)) = true := by kernel_rfl
theorem orientMoved_c28 : ((Rows.orientMovedRow.kinds == (if Rows.orientMovedRow.domain.isEmpty then [] else Try.f9.params.toList.map fun t => match Try.pinned.checked.prog.underlying t with | some (.int k) => some k | _ => none))) = true := by kernel_rfl
theorem orientMoved_c29 : ((Rows.orientMovedRow.pinned == Rows.orientMovedRow.pinnedBy)) = true := by kernel_rfl
theorem orientMoved_c30 : ((Rows.orientMovedRow.veiled == (Try.f9.params.toList ++ Rows.orientMovedSpec.plain.varTypes Try.pinned.checked.prog ++ Try.f9.resultTypes.toList).any (Try.pinned.checked.prog.veiledRec ·))) = true := by kernel_rfl
theorem orientMoved_c31 : (Rows.orientMovedRow.veiledFits Try.pinned.checked.prog Try.f9.params.toList (Try.f9.params.toList ++ Rows.orientMovedSpec.plain.varTypes Try.pinned.checked.prog ++ Try.f9.resultTypes.toList)) = true := by kernel_rfl
theorem orientMoved_closed : joinedFacts Try.pinned.checked.prog 9 Try.f9 Rows.orientMovedSpec Rows.orientMovedRow = true := by
  unfold joinedFacts
  simp only [Bool.and_eq_true]
  exact ⟨⟨⟨⟨⟨⟨⟨⟨⟨⟨⟨⟨⟨⟨⟨⟨⟨⟨⟨⟨⟨⟨⟨⟨⟨⟨⟨⟨⟨⟨⟨orientMoved_c0, orientMoved_c1⟩, orientMoved_c2⟩, orientMoved_c3⟩, orientMoved_c4⟩, orientMoved_c5⟩, orientMoved_c6⟩, orientMoved_c7⟩, orientMoved_c8⟩, orientMoved_c9⟩, orientMoved_c10⟩, orientMoved_c11⟩, orientMoved_c12⟩, orientMoved_c13⟩, orientMoved_c14⟩, orientMoved_c15⟩, orientMoved_c16⟩, orientMoved_c17⟩, orientMoved_c18⟩, orientMoved_c19⟩, orientMoved_c20⟩, orientMoved_c21⟩, orientMoved_c22⟩, orientMoved_c23⟩, orientMoved_c24⟩, orientMoved_c25⟩, orientMoved_c26⟩, orientMoved_c27⟩, orientMoved_c28⟩, orientMoved_c29⟩, orientMoved_c30⟩, orientMoved_c31⟩
theorem orientMoved_lifted (os : Os) (started : os.Started) (H : Type) (enc : TypeId × Value → H) :
    ReturnsInHanded {} Try.checked os 9 .any (Rows.orientMovedSpec.pre6 enc Try.prog Try.f9 Rows.orientMovedRow.domain false) (Rows.orientMovedSpec.post enc Try.prog Try.f9 false true false false) := by
  refine returnsInHanded_of_change (C := Try.checked) own started (by kernel_rfl) Try.func9
    (ChangeSpec.witness6 (enc := enc) (C := Try.checked) false ⟨#[], #[.slice none 0 0, .agg #[.int .i64 0, .int .i64 0, .int .i64 0], .agg #[.int .i64 0, .int .i64 0, .int .i64 0]], []⟩ 8 (by kernel_rfl) (by kernel_rfl) (by kernel_rfl) (by kernel_rfl)) ?_
  intro W base args ds gs before hval0 hW hcnd _
  have hval : ∀ (j : Nat) t v, Try.f9.params[j]? = some t → args[j]? = some v → Value.okWide Try.prog W .any base t v := hval0
  have hW' := hW
  obtain ⟨p, q, hA0, hV, rfl, hfz, hnd⟩ := hW
  have hA : DataW.TrodAll enc Try.prog W 0 (fun _ => true) true Try.f9.params.toList args.toList ds p := hA0
  rw [Try.params9] at hA hval
  obtain ⟨v0, vs0, d0, ds0, p0, q0, hargs, rfl, rfl, h0, r0⟩ := trodAll_cons hA
  obtain ⟨v1, vs1, d1, ds1, p1, q1, rfl, rfl, rfl, h1, r1⟩ := trodAll_cons r0
  obtain ⟨v2, vs2, d2, ds2, p2, q2, rfl, rfl, rfl, h2, r2⟩ := trodAll_cons r1
  obtain ⟨rfl, rfl, rfl⟩ := trodAll_nil r2
  obtain rfl : args = #[v0, v1, v2] := by cases args; simp_all
  obtain ⟨rfl, rfl⟩ := trodVars_none hV
  have k0 := h0
  have k1 := h1
  have k2 := h2
  have lt0 : ∀ x ∈ p0, x.block < W.heap.size := by obtain ⟨m, hm⟩ := k0; exact DataW.trod_lt m _ _ _ hm
  have lt1 : ∀ x ∈ p1, x.block < W.heap.size := by obtain ⟨m, hm⟩ := k1; exact DataW.trod_lt m _ _ _ hm
  have lt2 : ∀ x ∈ p2, x.block < W.heap.size := by obtain ⟨m, hm⟩ := k2; exact DataW.trod_lt m _ _ _ hm
  obtain ⟨l0, s0, n0, i0⟩ := open_points (hval 0 22 v0 rfl rfl) h0
  obtain ⟨a1, rfl, ha1⟩ := open_point (hval 1 33 v1 rfl rfl) h1
  obtain ⟨a2, rfl, ha2⟩ := open_point (hval 2 33 v2 rfl rfl) h2
  clear hA0 hval0
  refine (moved_law l0 n0 i0 s0 a1 ha1 a2 ha2).mono fun e W' ⟨he, hk⟩ => ?_
  subst he
  have bel := hk.below
  exact ⟨_, rfl, _, _, _, [], _, [], hW', trodAll_mk1 (shut_bool Try.underlying4 _), (trodAll_cons_mk (Below.trod laidOut (by kernel_rfl) (of_decide_eq_true (by kernel_rfl)) k0 bel lt0) (trodAll_cons_mk (Below.trod laidOut (by kernel_rfl) (of_decide_eq_true (by kernel_rfl)) k1 bel lt1) (trodAll_cons_mk (Below.trod laidOut (by kernel_rfl) (of_decide_eq_true (by kernel_rfl)) k2 bel lt2) trodAll_mk0))), rfl, bel.frame _, fun h => by cases h⟩
theorem orientMoved_named : Try.pinned.checked.prog.funcNamed Rows.orientMovedRow.func = some 9 := by kernel_rfl
theorem orientMoved_inst : (Try.f9).isInstance Try.pinned.checked.prog Rows.orientMovedRow.origin Rows.orientMovedRow.targs := of_decide_eq_true (by kernel_rfl)
theorem orientMoved_wrap : (Try.f9).isWrapper Try.pinned.checked.prog Rows.orientMovedRow.wrapper Rows.orientMovedRow.mainSum := by unfold Func.isWrapper; rw [if_neg (of_decide_eq_false (by kernel_rfl))]; exact ⟨rfl, rfl⟩
theorem orientMoved_over : Rows.orientMovedRow.holds Try.pinned (OpenSpec.ofChange Rows.orientMovedSpec) :=
  OpenClaim.holds_of_wide 9 Try.f9 rfl rfl rfl rfl rfl rfl rfl ⟨rfl, rfl, rfl, rfl, rfl⟩ rfl rfl rfl rfl rfl orientMoved_named Try.func9 orientMoved_closed
    orientMoved_inst orientMoved_wrap
    (fun os started H enc _ => orientMoved_lifted os started H enc)
/-- The statement. -/
theorem orientMoved_proved : Rows.OrientMovedSaid := orientMoved_over
end Go.Proofs.Ythnpmmpcejfllaa
