/-
  Rows.FixMulCardSaid: products, rounded either way, are those of the document.
-/
import Derived.Test.YtbdkbmhejoakiaaGreatDoorLo
import Derived.Test.YtbdkbmhejoakiaaGreatDoorTj
import Derived.Test.YtbdkbmhejoakiaaGreatDoorRows
import Derived.Test.YtbdkbmhejoakiaaGreatDoorCards
import Derived.Test.YtbdkbmhejoakiaaGreatDoorTie
import Derived.ProofKit
import Derived.LaidMore
import Derived.Stop.Joined
import Derived.SevenTiedAt
set_option linter.unusedVariables false
namespace Go.Proofs.YtbdkbmhejoakiaaGreatDoor
open Go Go.ChangeShapes Go.WideShapes Go.ChangeAt Go.RowKit

set_option maxRecDepth 100000
theorem fixMul_c0 : (Rows.fixMulRow.wf (OpenSpec.ofChange Rows.fixMulSpec)) = true := by kernel_rfl
theorem fixMul_c1 : (laidOutB Tryz.pinned.checked.prog) = true := by kernel_rfl
theorem fixMul_c2 : (mapsRowed Tryz.pinned.checked.prog) = true := by kernel_rfl
theorem fixMul_c3 : (Tryz.f3.params.all (Tryz.pinned.checked.prog.readableRec ·)) = true := by kernel_rfl
theorem fixMul_c4 : (namedTie Tryz.pinned.checked.prog Rows.fixMulRow.named Rows.fixMulSpec.vars) = true := by kernel_rfl
theorem fixMul_c5 : ((Rows.fixMulRow.stops == [])) = true := by kernel_rfl
theorem fixMul_c6 : ((Tryz.pinned.checked.prog.stops == [])) = true := by kernel_rfl
theorem fixMul_c7 : ((Rows.fixMulRow.knobs == [])) = true := by kernel_rfl
theorem fixMul_c8 : ((Tryz.pinned.checked.prog.stopKnobs == [])) = true := by kernel_rfl
theorem fixMul_c9 : ((Rows.fixMulRow.inPlace == Tryz.pinned.checked.prog.inPlace 3)) = true := by kernel_rfl
theorem fixMul_c10 : ((Rows.fixMulRow.unfollowed == Tryz.pinned.checked.prog.unfollowed 3)) = true := by kernel_rfl
theorem fixMul_c11 : ((Rows.fixMulRow.recurses == Tryz.pinned.checked.prog.recurses 3)) = true := by kernel_rfl
theorem fixMul_c12 : ((Rows.fixMulRow.named == Tryz.pinned.checked.prog.varsNamed 3)) = true := by kernel_rfl
theorem fixMul_c13 : ((Rows.fixMulRow.maps == (Tryz.f3.params.toList ++ Rows.fixMulSpec.plain.varTypes Tryz.pinned.checked.prog).any (Tryz.pinned.checked.prog.mapsRec ·))) = true := by kernel_rfl
theorem fixMul_c14 : ((Rows.fixMulRow.ifaces == (Tryz.f3.params.toList ++ Rows.fixMulSpec.plain.varTypes Tryz.pinned.checked.prog).any (Tryz.pinned.checked.prog.ifacesRec ·))) = true := by kernel_rfl
theorem fixMul_c15 : ((Rows.fixMulRow.mapsOut == Tryz.pinned.checked.prog.mapsAmong Tryz.f3.resultTypes.toList)) = true := by kernel_rfl
theorem fixMul_c16 : ((Rows.fixMulRow.loops == (Tryz.f3.params.toList ++ Rows.fixMulSpec.plain.varTypes Tryz.pinned.checked.prog).any (Tryz.pinned.checked.prog.loopsFrom ·))) = true := by kernel_rfl
theorem fixMul_c17 : ((Rows.fixMulRow.wideKeys == (Tryz.f3.params.toList ++ Rows.fixMulSpec.plain.varTypes Tryz.pinned.checked.prog ++ Tryz.f3.resultTypes.toList).any (Tryz.pinned.checked.prog.wideKeysFrom ·))) = true := by kernel_rfl
theorem fixMul_c18 : (Rows.fixMulSpec.vars.all (Tryz.pinned.checked.prog.varReadable ·)) = true := by kernel_rfl
theorem fixMul_c19 : (Tryz.f3.resultTypes.all (fun t => Tryz.pinned.checked.prog.readableRec t && decide (t < Tryz.pinned.checked.prog.types.size))) = true := by kernel_rfl
theorem fixMul_c20 : ((Rows.fixMulRow.ifacesOut == Tryz.f3.resultTypes.toList.any (Tryz.pinned.checked.prog.ifacesRec ·))) = true := by kernel_rfl
theorem fixMul_c21 : ((Rows.fixMulRow.loopsOut == Tryz.f3.resultTypes.toList.any (Tryz.pinned.checked.prog.loopsFrom ·))) = true := by kernel_rfl
theorem fixMul_c22 : ((Rows.fixMulRow.plainKeys == Tryz.pinned.checked.prog.plainKeys)) = true := by kernel_rfl
theorem fixMul_c23 : (Rows.fixMulRow.shortTexts.isNone) = true := by kernel_rfl
theorem fixMul_c24 : (Tryz.pinned.checked.prog.stopsHeard) = true := by kernel_rfl
theorem fixMul_c25 : (Tryz.pinned.checked.prog.mayEnter) = true := by kernel_rfl
theorem fixMul_c26 : ((Rows.fixMulRow.lifted == Tryz.pinned.checked.prog.liftsFinal)) = true := by kernel_rfl
theorem fixMul_c27 : ((Tryz.pinned.checked.prog.make == some Rows.fixMulRow.make)) = true := by kernel_rfl
theorem fixMul_c28 : ((Rows.fixMulRow.kinds == (if Rows.fixMulRow.domain.isEmpty then [] else Tryz.f3.params.toList.map fun t => match Tryz.pinned.checked.prog.underlying t with | some (.int k) => some k | _ => none))) = true := by kernel_rfl
theorem fixMul_c29 : ((Rows.fixMulRow.pinned == Rows.fixMulRow.pinnedBy)) = true := by kernel_rfl
theorem fixMul_c30 : ((Rows.fixMulRow.veiled == (Tryz.f3.params.toList ++ Rows.fixMulSpec.plain.varTypes Tryz.pinned.checked.prog ++ Tryz.f3.resultTypes.toList).any (Tryz.pinned.checked.prog.veiledRec ·))) = true := by kernel_rfl
theorem fixMul_c31 : (Rows.fixMulRow.veiledFits Tryz.pinned.checked.prog Tryz.f3.params.toList (Tryz.f3.params.toList ++ Rows.fixMulSpec.plain.varTypes Tryz.pinned.checked.prog ++ Tryz.f3.resultTypes.toList)) = true := by kernel_rfl
theorem fixMul_closed : joinedFacts Tryz.pinned.checked.prog 3 Tryz.f3 Rows.fixMulSpec Rows.fixMulRow = true := by
  unfold joinedFacts
  simp only [Bool.and_eq_true]
  exact ⟨⟨⟨⟨⟨⟨⟨⟨⟨⟨⟨⟨⟨⟨⟨⟨⟨⟨⟨⟨⟨⟨⟨⟨⟨⟨⟨⟨⟨⟨⟨fixMul_c0, fixMul_c1⟩, fixMul_c2⟩, fixMul_c3⟩, fixMul_c4⟩, fixMul_c5⟩, fixMul_c6⟩, fixMul_c7⟩, fixMul_c8⟩, fixMul_c9⟩, fixMul_c10⟩, fixMul_c11⟩, fixMul_c12⟩, fixMul_c13⟩, fixMul_c14⟩, fixMul_c15⟩, fixMul_c16⟩, fixMul_c17⟩, fixMul_c18⟩, fixMul_c19⟩, fixMul_c20⟩, fixMul_c21⟩, fixMul_c22⟩, fixMul_c23⟩, fixMul_c24⟩, fixMul_c25⟩, fixMul_c26⟩, fixMul_c27⟩, fixMul_c28⟩, fixMul_c29⟩, fixMul_c30⟩, fixMul_c31⟩
theorem fixMul_met (os : Os) (args : Array Value) : laidMetH Tryz.prog Rows.fixMulRow.laid ((World.doorLaid Tryz.prog 62 os).forCall (fun _ _ => 0) ⟨#[], args, []⟩).memory :=
  laidMetH_of_parts3 (fuel := 8) (laidMet_of_run' 8 (by kernel_rfl) (by kernel_rfl)) (by kernel_rfl) (by kernel_rfl)
theorem fixMul_lifted (os : Os) (started : os.Started) (H : Type) (enc : TypeId × Value → H) :
    ReturnsInHanded {} Tryz.checked os 3 .any (fun w args => (Rows.fixMulSpec.pre enc Tryz.prog Tryz.f3 [] false w args ∧ laidMetH Tryz.prog Rows.fixMulRow.laid w) ∧ sizedMet enc Tryz.prog Tryz.f3 (OpenSpec.ofChange Rows.fixMulSpec) false w args) (Rows.fixMulSpec.post enc Tryz.prog Tryz.f3 false true false false) := by
  refine returnsInHanded_of_change_and (C := Tryz.checked) (X := fun w _ => laidMetH Tryz.prog Rows.fixMulRow.laid w) (fun _ _ _ hh h => h.of_heap hh) own started (by kernel_rfl) Tryz.func3
    (ChangeSpec.witness_shaped (enc := enc) (C := Tryz.checked) (os := os) (X := fun w _ => laidMetH Tryz.prog Rows.fixMulRow.laid w) false (World.doorLaid Tryz.prog 62 os) #[.int .i64 0, .int .i64 0] 8 rfl (World.shaped_of_RefB (by kernel_rfl) (by kernel_rfl)) (by kernel_rfl) (by kernel_rfl) (by kernel_rfl) (fixMul_met os _)) ?_
  intro W base args ds gs before hval0 hW _ _ hL _
  have hval : ∀ (j : Nat) t v, Tryz.f3.params[j]? = some t → args[j]? = some v → Value.okWide Tryz.prog W .any base t v := hval0
  have hW' := hW
  obtain ⟨p, q, hA0, hV, rfl, hfz, hnd⟩ := hW
  have hA : DataW.TrodAll enc Tryz.prog W 0 (fun _ => true) true Tryz.f3.params.toList args.toList ds p := hA0
  rw [Tryz.params3] at hA hval
  obtain ⟨v0, vs0, d0, ds0, p0, q0, hargs, rfl, rfl, h0, r0⟩ := trodAll_cons hA
  obtain ⟨v1, vs1, d1, ds1, p1, q1, rfl, rfl, rfl, h1, r1⟩ := trodAll_cons r0
  obtain ⟨rfl, rfl, rfl⟩ := trodAll_nil r1
  obtain rfl : args = #[v0, v1] := by cases args; simp_all
  obtain ⟨rfl, rfl⟩ := trodVars_none hV
  have k0 := h0
  have k1 := h1
  have lt0 : ∀ x ∈ p0, x.block < W.heap.size := by obtain ⟨m, hm⟩ := k0; exact DataW.trod_lt m _ _ _ hm
  have lt1 : ∀ x ∈ p1, x.block < W.heap.size := by obtain ⟨m, hm⟩ := k1; exact DataW.trod_lt m _ _ _ hm
  obtain ⟨a0, rfl, ha0⟩ := open_fix (hval 0 22 v0 rfl rfl) h0
  obtain ⟨a1, rfl, ha1⟩ := open_fix (hval 1 22 v1 rfl rfl) h1
  clear hA0 hval0
  refine (mul_law a0 ha0 a1 ha1 W).mono fun e W' ⟨he, hk⟩ => ?_
  subst he
  have bel := hk.below
  exact ⟨_, rfl, _, _, _, [], _, [], hW', trodAll_mk1 (shut_bool Tryz.underlying4 _), (trodAll_cons_mk (Below.trod laidOut (by kernel_rfl) (of_decide_eq_true (by kernel_rfl)) k0 bel lt0) (trodAll_cons_mk (Below.trod laidOut (by kernel_rfl) (of_decide_eq_true (by kernel_rfl)) k1 bel lt1) trodAll_mk0)), rfl, bel.frame _, fun h => by cases h⟩
theorem fixMul_named : Tryz.pinned.checked.prog.funcNamed Rows.fixMulRow.func = some 3 := by kernel_rfl
theorem fixMul_inst : (Tryz.f3).isInstance Tryz.pinned.checked.prog Rows.fixMulRow.origin Rows.fixMulRow.targs := of_decide_eq_true (by kernel_rfl)
theorem fixMul_wrap : (Tryz.f3).isWrapper Tryz.pinned.checked.prog Rows.fixMulRow.wrapper Rows.fixMulRow.mainSum := by unfold Func.isWrapper; rw [if_neg (of_decide_eq_false (by kernel_rfl))]; exact ⟨rfl, rfl⟩
theorem fixMul_over : Rows.fixMulRow.holds Tryz.pinned (OpenSpec.ofChange Rows.fixMulSpec) :=
  OpenClaim.holds_of_wide 3 Tryz.f3 rfl rfl rfl rfl rfl rfl rfl ⟨rfl, rfl, rfl, rfl, rfl⟩ rfl rfl rfl rfl rfl fixMul_named Tryz.func3 fixMul_closed
    fixMul_inst fixMul_wrap
    (fun os started H enc _ => fixMul_lifted os started H enc)
theorem fixMul_params : (Tryz.f3.params.toList.all fun u => !Tryz.prog.wantsStandIn u) = true := by kernel_rfl
/-- The statement: the tied card. -/
theorem fixMulCard_proved : Rows.FixMulCardSaid :=
  Claim7.holds_tied_plain_at .later [] [.data, .data, .data, .sentinel, .sentinel] true (true, "ea552127e9a18c403c8dd4ea3126ccfbdf9e72e412a1615461594ab1ddb69430") true
    fixMul_over (fun _ h => by cases h) (by kernel_rfl) (fun _ h => by cases h) fixMul_row_tie rfl ⟨rfl, rfl⟩ (by kernel_rfl) rfl
    (fun f fn hf hfn => by
      obtain rfl : f = 3 := Option.some.inj ((show Tryz.prog.funcNamed "ninepin/ninepinlaw02.FixMul" = some 3 by kernel_rfl).symm.trans hf) |>.symm
      obtain rfl : fn = Tryz.f3 := (Option.some.inj (Tryz.func3.symm.trans hfn)).symm
      exact ⟨by kernel_rfl, fun j t ht => by
        have hm : t ∈ Tryz.f3.params.toList := by simpa using Array.mem_of_getElem? ht
        exact (show Tryz.prog.wantsStandIn t = false by simpa using List.all_eq_true.1 fixMul_params t hm)⟩)
    (by kernel_rfl)
end Go.Proofs.YtbdkbmhejoakiaaGreatDoor
