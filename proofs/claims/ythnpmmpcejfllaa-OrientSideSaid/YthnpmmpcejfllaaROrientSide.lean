/-
  Rows.OrientSideSaid: the side of any point by any three, and the volume of any points, are the document's, or refused (at most 300 points).
-/
import Derived.Test.YthnpmmpcejfllaaLw
import Derived.Test.YthnpmmpcejfllaaLc
import Derived.Test.YthnpmmpcejfllaaRows
set_option linter.unusedVariables false
namespace Go.Proofs.Ythnpmmpcejfllaa
open Go Go.ChangeShapes Go.WideShapes Go.ChangeAt Go.RowKit

set_option maxRecDepth 100000
theorem orientSide_c0 : (Rows.orientSideRow.wf (OpenSpec.ofChange Rows.orientSideSpec)) = true := by kernel_rfl
theorem orientSide_c1 : (laidOutB Try.pinned.checked.prog) = true := by kernel_rfl
theorem orientSide_c2 : (mapsRowed Try.pinned.checked.prog) = true := by kernel_rfl
theorem orientSide_c3 : (Try.f8.params.all (Try.pinned.checked.prog.readableRec ·)) = true := by kernel_rfl
theorem orientSide_c4 : (namedTie Try.pinned.checked.prog Rows.orientSideRow.named Rows.orientSideSpec.vars) = true := by kernel_rfl
theorem orientSide_c5 : ((Rows.orientSideRow.stops == [])) = true := by kernel_rfl
theorem orientSide_c6 : ((Try.pinned.checked.prog.stops == [])) = true := by kernel_rfl
theorem orientSide_c7 : ((Rows.orientSideRow.knobs == [])) = true := by kernel_rfl
theorem orientSide_c8 : ((Try.pinned.checked.prog.stopKnobs == [])) = true := by kernel_rfl
theorem orientSide_c9 : ((Rows.orientSideRow.inPlace == Try.pinned.checked.prog.inPlace 8)) = true := by kernel_rfl
theorem orientSide_c10 : ((Rows.orientSideRow.unfollowed == Try.pinned.checked.prog.unfollowed 8)) = true := by kernel_rfl
theorem orientSide_c11 : ((Rows.orientSideRow.recurses == Try.pinned.checked.prog.recurses 8)) = true := by kernel_rfl
theorem orientSide_c12 : ((Rows.orientSideRow.named == Try.pinned.checked.prog.varsNamed 8)) = true := by kernel_rfl
theorem orientSide_c13 : ((Rows.orientSideRow.maps == (Try.f8.params.toList ++ Rows.orientSideSpec.plain.varTypes Try.pinned.checked.prog).any (Try.pinned.checked.prog.mapsRec ·))) = true := by kernel_rfl
theorem orientSide_c14 : ((Rows.orientSideRow.ifaces == (Try.f8.params.toList ++ Rows.orientSideSpec.plain.varTypes Try.pinned.checked.prog).any (Try.pinned.checked.prog.ifacesRec ·))) = true := by kernel_rfl
theorem orientSide_c15 : ((Rows.orientSideRow.mapsOut == Try.pinned.checked.prog.mapsAmong Try.f8.resultTypes.toList)) = true := by kernel_rfl
theorem orientSide_c16 : ((Rows.orientSideRow.loops == (Try.f8.params.toList ++ Rows.orientSideSpec.plain.varTypes Try.pinned.checked.prog).any (Try.pinned.checked.prog.loopsFrom ·))) = true := by kernel_rfl
theorem orientSide_c17 : ((Rows.orientSideRow.wideKeys == (Try.f8.params.toList ++ Rows.orientSideSpec.plain.varTypes Try.pinned.checked.prog ++ Try.f8.resultTypes.toList).any (Try.pinned.checked.prog.wideKeysFrom ·))) = true := by kernel_rfl
theorem orientSide_c18 : (Rows.orientSideSpec.vars.all (Try.pinned.checked.prog.varReadable ·)) = true := by kernel_rfl
theorem orientSide_c19 : (Try.f8.resultTypes.all (fun t => Try.pinned.checked.prog.readableRec t && decide (t < Try.pinned.checked.prog.types.size))) = true := by kernel_rfl
theorem orientSide_c20 : ((Rows.orientSideRow.ifacesOut == Try.f8.resultTypes.toList.any (Try.pinned.checked.prog.ifacesRec ·))) = true := by kernel_rfl
theorem orientSide_c21 : ((Rows.orientSideRow.loopsOut == Try.f8.resultTypes.toList.any (Try.pinned.checked.prog.loopsFrom ·))) = true := by kernel_rfl
theorem orientSide_c22 : ((Rows.orientSideRow.plainKeys == Try.pinned.checked.prog.plainKeys)) = true := by kernel_rfl
theorem orientSide_c23 : (Rows.orientSideRow.shortTexts.isNone) = true := by kernel_rfl
theorem orientSide_c24 : (Try.pinned.checked.prog.stopsHeard) = true := by kernel_rfl
theorem orientSide_c25 : (Try.pinned.checked.prog.mayEnter) = true := by kernel_rfl
theorem orientSide_c26 : ((Rows.orientSideRow.lifted == Try.pinned.checked.prog.liftsFinal)) = true := by kernel_rfl
theorem orientSide_c27 : ((Try.pinned.checked.prog.make == some Rows.orientSideRow.make)) = true := by kernel_rfl
theorem orientSide_c28 : ((Rows.orientSideRow.kinds == (if Rows.orientSideRow.domain.isEmpty then [] else Try.f8.params.toList.map fun t => match Try.pinned.checked.prog.underlying t with | some (.int k) => some k | _ => none))) = true := by kernel_rfl
theorem orientSide_c29 : ((Rows.orientSideRow.pinned == Rows.orientSideRow.pinnedBy)) = true := by kernel_rfl
theorem orientSide_c30 : ((Rows.orientSideRow.veiled == (Try.f8.params.toList ++ Rows.orientSideSpec.plain.varTypes Try.pinned.checked.prog ++ Try.f8.resultTypes.toList).any (Try.pinned.checked.prog.veiledRec ·))) = true := by kernel_rfl
theorem orientSide_c31 : (Rows.orientSideRow.veiledFits Try.pinned.checked.prog Try.f8.params.toList (Try.f8.params.toList ++ Rows.orientSideSpec.plain.varTypes Try.pinned.checked.prog ++ Try.f8.resultTypes.toList)) = true := by kernel_rfl
theorem orientSide_closed : joinedFacts Try.pinned.checked.prog 8 Try.f8 Rows.orientSideSpec Rows.orientSideRow = true := by
  unfold joinedFacts
  simp only [Bool.and_eq_true]
  exact ⟨⟨⟨⟨⟨⟨⟨⟨⟨⟨⟨⟨⟨⟨⟨⟨⟨⟨⟨⟨⟨⟨⟨⟨⟨⟨⟨⟨⟨⟨⟨orientSide_c0, orientSide_c1⟩, orientSide_c2⟩, orientSide_c3⟩, orientSide_c4⟩, orientSide_c5⟩, orientSide_c6⟩, orientSide_c7⟩, orientSide_c8⟩, orientSide_c9⟩, orientSide_c10⟩, orientSide_c11⟩, orientSide_c12⟩, orientSide_c13⟩, orientSide_c14⟩, orientSide_c15⟩, orientSide_c16⟩, orientSide_c17⟩, orientSide_c18⟩, orientSide_c19⟩, orientSide_c20⟩, orientSide_c21⟩, orientSide_c22⟩, orientSide_c23⟩, orientSide_c24⟩, orientSide_c25⟩, orientSide_c26⟩, orientSide_c27⟩, orientSide_c28⟩, orientSide_c29⟩, orientSide_c30⟩, orientSide_c31⟩
theorem orientSide_lifted (os : Os) (started : os.Started) (H : Type) (enc : TypeId × Value → H) :
    ReturnsInHanded {} Try.checked os 8 .any (Rows.orientSideSpec.pre6 enc Try.prog Try.f8 Rows.orientSideRow.domain false) (Rows.orientSideSpec.post enc Try.prog Try.f8 false true false false) := by
  refine returnsInHanded_of_change (C := Try.checked) own started (by kernel_rfl) Try.func8
    (ChangeSpec.witness6 (enc := enc) (C := Try.checked) false ⟨#[], #[.agg #[.int .i64 0, .int .i64 0, .int .i64 0], .agg #[.int .i64 0, .int .i64 0, .int .i64 0], .agg #[.int .i64 0, .int .i64 0, .int .i64 0], .agg #[.int .i64 0, .int .i64 0, .int .i64 0], .slice none 0 0], []⟩ 8 (by kernel_rfl) (by kernel_rfl) (by kernel_rfl) (by kernel_rfl)) ?_
  intro W base args ds gs before hval0 hW hcnd _
  have hval : ∀ (j : Nat) t v, Try.f8.params[j]? = some t → args[j]? = some v → Value.okWide Try.prog W .any base t v := hval0
  have hW' := hW
  obtain ⟨p, q, hA0, hV, rfl, hfz, hnd⟩ := hW
  have hA : DataW.TrodAll enc Try.prog W 0 (fun _ => true) true Try.f8.params.toList args.toList ds p := hA0
  rw [Try.params8] at hA hval
  obtain ⟨v0, vs0, d0, ds0, p0, q0, hargs, rfl, rfl, h0, r0⟩ := trodAll_cons hA
  obtain ⟨v1, vs1, d1, ds1, p1, q1, rfl, rfl, rfl, h1, r1⟩ := trodAll_cons r0
  obtain ⟨v2, vs2, d2, ds2, p2, q2, rfl, rfl, rfl, h2, r2⟩ := trodAll_cons r1
  obtain ⟨v3, vs3, d3, ds3, p3, q3, rfl, rfl, rfl, h3, r3⟩ := trodAll_cons r2
  obtain ⟨v4, vs4, d4, ds4, p4, q4, rfl, rfl, rfl, h4, r4⟩ := trodAll_cons r3
  obtain ⟨rfl, rfl, rfl⟩ := trodAll_nil r4
  obtain rfl : args = #[v0, v1, v2, v3, v4] := by cases args; simp_all
  obtain ⟨rfl, rfl⟩ := trodVars_none hV
  have k0 := h0
  have k1 := h1
  have k2 := h2
  have k3 := h3
  have k4 := h4
  have lt0 : ∀ x ∈ p0, x.block < W.heap.size := by obtain ⟨m, hm⟩ := k0; exact DataW.trod_lt m _ _ _ hm
  have lt1 : ∀ x ∈ p1, x.block < W.heap.size := by obtain ⟨m, hm⟩ := k1; exact DataW.trod_lt m _ _ _ hm
  have lt2 : ∀ x ∈ p2, x.block < W.heap.size := by obtain ⟨m, hm⟩ := k2; exact DataW.trod_lt m _ _ _ hm
  have lt3 : ∀ x ∈ p3, x.block < W.heap.size := by obtain ⟨m, hm⟩ := k3; exact DataW.trod_lt m _ _ _ hm
  have lt4 : ∀ x ∈ p4, x.block < W.heap.size := by obtain ⟨m, hm⟩ := k4; exact DataW.trod_lt m _ _ _ hm
  obtain ⟨a0, rfl, ha0⟩ := open_point (hval 0 33 v0 rfl rfl) h0
  obtain ⟨a1, rfl, ha1⟩ := open_point (hval 1 33 v1 rfl rfl) h1
  obtain ⟨a2, rfl, ha2⟩ := open_point (hval 2 33 v2 rfl rfl) h2
  obtain ⟨a3, rfl, ha3⟩ := open_point (hval 3 33 v3 rfl rfl) h3
  obtain ⟨l4, s4, n4, i4⟩ := open_points (hval 4 22 v4 rfl rfl) h4
  clear hA0 hval0
  refine (sides_law a0 ha0 a1 ha1 a2 ha2 a3 ha3 l4 n4 i4 s4).mono fun e W' ⟨he, hk⟩ => ?_
  subst he
  have bel := hk.below
  exact ⟨_, rfl, _, _, _, [], _, [], hW', trodAll_mk1 (shut_bool Try.underlying4 _), (trodAll_cons_mk (Below.trod laidOut (by kernel_rfl) (of_decide_eq_true (by kernel_rfl)) k0 bel lt0) (trodAll_cons_mk (Below.trod laidOut (by kernel_rfl) (of_decide_eq_true (by kernel_rfl)) k1 bel lt1) (trodAll_cons_mk (Below.trod laidOut (by kernel_rfl) (of_decide_eq_true (by kernel_rfl)) k2 bel lt2) (trodAll_cons_mk (Below.trod laidOut (by kernel_rfl) (of_decide_eq_true (by kernel_rfl)) k3 bel lt3) (trodAll_cons_mk (Below.trod laidOut (by kernel_rfl) (of_decide_eq_true (by kernel_rfl)) k4 bel lt4) trodAll_mk0))))), rfl, bel.frame _, fun h => by cases h⟩
theorem orientSide_named : Try.pinned.checked.prog.funcNamed Rows.orientSideRow.func = some 8 := by kernel_rfl
theorem orientSide_inst : (Try.f8).isInstance Try.pinned.checked.prog Rows.orientSideRow.origin Rows.orientSideRow.targs := of_decide_eq_true (by kernel_rfl)
theorem orientSide_wrap : (Try.f8).isWrapper Try.pinned.checked.prog Rows.orientSideRow.wrapper Rows.orientSideRow.mainSum := by unfold Func.isWrapper; rw [if_neg (of_decide_eq_false (by kernel_rfl))]; exact ⟨rfl, rfl⟩
theorem orientSide_over : Rows.orientSideRow.holds Try.pinned (OpenSpec.ofChange Rows.orientSideSpec) :=
  OpenClaim.holds_of_wide 8 Try.f8 rfl rfl rfl rfl rfl rfl rfl ⟨rfl, rfl, rfl, rfl, rfl⟩ rfl rfl rfl rfl rfl orientSide_named Try.func8 orientSide_closed
    orientSide_inst orientSide_wrap
    (fun os started H enc _ => orientSide_lifted os started H enc)
/-- The statement. -/
theorem orientSide_proved : Rows.OrientSideSaid := orientSide_over
end Go.Proofs.Ythnpmmpcejfllaa
