/-
  Rows.FixOrderCardSaid: sums, products by a number from 0 on, quotients by one above 0, and roots keep the order of numbers.
-/
import Derived.Test.YtbdkbmhejoakiaaDoorLo
import Derived.Test.YtbdkbmhejoakiaaDoorTg
import Derived.Test.YtbdkbmhejoakiaaDoorRows
import Derived.Test.YtbdkbmhejoakiaaDoorCards
import Derived.Test.YtbdkbmhejoakiaaDoorTie
import Derived.ProofKit
import Derived.LaidMore
import Derived.Stop.Joined
import Derived.SevenTiedAt
set_option linter.unusedVariables false
namespace Go.Proofs.YtbdkbmhejoakiaaDoor
open Go Go.ChangeShapes Go.WideShapes Go.ChangeAt Go.RowKit

set_option maxRecDepth 100000
theorem fixOrder_c0 : (Rows.fixOrderRow.wf (OpenSpec.ofChange Rows.fixOrderSpec)) = true := by kernel_rfl
theorem fixOrder_c1 : (laidOutB Tryd.pinned.checked.prog) = true := by kernel_rfl
theorem fixOrder_c2 : (mapsRowed Tryd.pinned.checked.prog) = true := by kernel_rfl
theorem fixOrder_c3 : (Tryd.f9.params.all (Tryd.pinned.checked.prog.readableRec ·)) = true := by kernel_rfl
theorem fixOrder_c4 : (namedTie Tryd.pinned.checked.prog Rows.fixOrderRow.named Rows.fixOrderSpec.vars) = true := by kernel_rfl
theorem fixOrder_c5 : ((Rows.fixOrderRow.stops == [])) = true := by kernel_rfl
theorem fixOrder_c6 : ((Tryd.pinned.checked.prog.stops == [])) = true := by kernel_rfl
theorem fixOrder_c7 : ((Rows.fixOrderRow.knobs == [])) = true := by kernel_rfl
theorem fixOrder_c8 : ((Tryd.pinned.checked.prog.stopKnobs == [])) = true := by kernel_rfl
theorem fixOrder_c9 : ((Rows.fixOrderRow.inPlace == Tryd.pinned.checked.prog.inPlace 9)) = true := by kernel_rfl
theorem fixOrder_c10 : ((Rows.fixOrderRow.unfollowed == Tryd.pinned.checked.prog.unfollowed 9)) = true := by kernel_rfl
theorem fixOrder_c11 : ((Rows.fixOrderRow.recurses == Tryd.pinned.checked.prog.recurses 9)) = true := by kernel_rfl
theorem fixOrder_c12 : ((Rows.fixOrderRow.named == Tryd.pinned.checked.prog.varsNamed 9)) = true := by kernel_rfl
theorem fixOrder_c13 : ((Rows.fixOrderRow.maps == (Tryd.f9.params.toList ++ Rows.fixOrderSpec.plain.varTypes Tryd.pinned.checked.prog).any (Tryd.pinned.checked.prog.mapsRec ·))) = true := by kernel_rfl
theorem fixOrder_c14 : ((Rows.fixOrderRow.ifaces == (Tryd.f9.params.toList ++ Rows.fixOrderSpec.plain.varTypes Tryd.pinned.checked.prog).any (Tryd.pinned.checked.prog.ifacesRec ·))) = true := by kernel_rfl
theorem fixOrder_c15 : ((Rows.fixOrderRow.mapsOut == Tryd.pinned.checked.prog.mapsAmong Tryd.f9.resultTypes.toList)) = true := by kernel_rfl
theorem fixOrder_c16 : ((Rows.fixOrderRow.loops == (Tryd.f9.params.toList ++ Rows.fixOrderSpec.plain.varTypes Tryd.pinned.checked.prog).any (Tryd.pinned.checked.prog.loopsFrom ·))) = true := by kernel_rfl
theorem fixOrder_c17 : ((Rows.fixOrderRow.wideKeys == (Tryd.f9.params.toList ++ Rows.fixOrderSpec.plain.varTypes Tryd.pinned.checked.prog ++ Tryd.f9.resultTypes.toList).any (Tryd.pinned.checked.prog.wideKeysFrom ·))) = true := by kernel_rfl
theorem fixOrder_c18 : (Rows.fixOrderSpec.vars.all (Tryd.pinned.checked.prog.varReadable ·)) = true := by kernel_rfl
theorem fixOrder_c19 : (Tryd.f9.resultTypes.all (fun t => Tryd.pinned.checked.prog.readableRec t && decide (t < Tryd.pinned.checked.prog.types.size))) = true := by kernel_rfl
theorem fixOrder_c20 : ((Rows.fixOrderRow.ifacesOut == Tryd.f9.resultTypes.toList.any (Tryd.pinned.checked.prog.ifacesRec ·))) = true := by kernel_rfl
theorem fixOrder_c21 : ((Rows.fixOrderRow.loopsOut == Tryd.f9.resultTypes.toList.any (Tryd.pinned.checked.prog.loopsFrom ·))) = true := by kernel_rfl
theorem fixOrder_c22 : ((Rows.fixOrderRow.plainKeys == Tryd.pinned.checked.prog.plainKeys)) = true := by kernel_rfl
theorem fixOrder_c23 : (Rows.fixOrderRow.shortTexts.isNone) = true := by kernel_rfl
theorem fixOrder_c24 : (Tryd.pinned.checked.prog.stopsHeard) = true := by kernel_rfl
theorem fixOrder_c25 : (Tryd.pinned.checked.prog.mayEnter) = true := by kernel_rfl
theorem fixOrder_c26 : ((Rows.fixOrderRow.lifted == Tryd.pinned.checked.prog.liftsFinal)) = true := by kernel_rfl
theorem fixOrder_c27 : ((Tryd.pinned.checked.prog.make == some Rows.fixOrderRow.make)) = true := by kernel_rfl
theorem fixOrder_c28 : ((Rows.fixOrderRow.kinds == (if Rows.fixOrderRow.domain.isEmpty then [] else Tryd.f9.params.toList.map fun t => match Tryd.pinned.checked.prog.underlying t with | some (.int k) => some k | _ => none))) = true := by kernel_rfl
theorem fixOrder_c29 : ((Rows.fixOrderRow.pinned == Rows.fixOrderRow.pinnedBy)) = true := by kernel_rfl
theorem fixOrder_c30 : ((Rows.fixOrderRow.veiled == (Tryd.f9.params.toList ++ Rows.fixOrderSpec.plain.varTypes Tryd.pinned.checked.prog ++ Tryd.f9.resultTypes.toList).any (Tryd.pinned.checked.prog.veiledRec ·))) = true := by kernel_rfl
theorem fixOrder_c31 : (Rows.fixOrderRow.veiledFits Tryd.pinned.checked.prog Tryd.f9.params.toList (Tryd.f9.params.toList ++ Rows.fixOrderSpec.plain.varTypes Tryd.pinned.checked.prog ++ Tryd.f9.resultTypes.toList)) = true := by kernel_rfl
theorem fixOrder_closed : joinedFacts Tryd.pinned.checked.prog 9 Tryd.f9 Rows.fixOrderSpec Rows.fixOrderRow = true := by
  unfold joinedFacts
  simp only [Bool.and_eq_true]
  exact ⟨⟨⟨⟨⟨⟨⟨⟨⟨⟨⟨⟨⟨⟨⟨⟨⟨⟨⟨⟨⟨⟨⟨⟨⟨⟨⟨⟨⟨⟨⟨fixOrder_c0, fixOrder_c1⟩, fixOrder_c2⟩, fixOrder_c3⟩, fixOrder_c4⟩, fixOrder_c5⟩, fixOrder_c6⟩, fixOrder_c7⟩, fixOrder_c8⟩, fixOrder_c9⟩, fixOrder_c10⟩, fixOrder_c11⟩, fixOrder_c12⟩, fixOrder_c13⟩, fixOrder_c14⟩, fixOrder_c15⟩, fixOrder_c16⟩, fixOrder_c17⟩, fixOrder_c18⟩, fixOrder_c19⟩, fixOrder_c20⟩, fixOrder_c21⟩, fixOrder_c22⟩, fixOrder_c23⟩, fixOrder_c24⟩, fixOrder_c25⟩, fixOrder_c26⟩, fixOrder_c27⟩, fixOrder_c28⟩, fixOrder_c29⟩, fixOrder_c30⟩, fixOrder_c31⟩
theorem fixOrder_met (os : Os) (args : Array Value) : laidMetH Tryd.prog Rows.fixOrderRow.laid ((World.doorLaid Tryd.prog 62 os).forCall (fun _ _ => 0) ⟨#[], args, []⟩).memory :=
  laidMetH_of_parts3 (fuel := 8) (laidMet_of_run' 8 (by kernel_rfl) (by kernel_rfl)) (by kernel_rfl) (by kernel_rfl)
theorem fixOrder_lifted (os : Os) (started : os.Started) (H : Type) (enc : TypeId × Value → H) :
    ReturnsInHanded {} Tryd.checked os 9 .any (fun w args => (Rows.fixOrderSpec.pre enc Tryd.prog Tryd.f9 [] false w args ∧ laidMetH Tryd.prog Rows.fixOrderRow.laid w) ∧ sizedMet enc Tryd.prog Tryd.f9 (OpenSpec.ofChange Rows.fixOrderSpec) false w args) (Rows.fixOrderSpec.post enc Tryd.prog Tryd.f9 false true false false) := by
  refine returnsInHanded_of_change_and (C := Tryd.checked) (X := fun w _ => laidMetH Tryd.prog Rows.fixOrderRow.laid w) (fun _ _ _ hh h => h.of_heap hh) own started (by kernel_rfl) Tryd.func9
    (ChangeSpec.witness_shaped (enc := enc) (C := Tryd.checked) (os := os) (X := fun w _ => laidMetH Tryd.prog Rows.fixOrderRow.laid w) false (World.doorLaid Tryd.prog 62 os) #[.int .i64 0, .int .i64 0, .int .i64 0] 8 rfl (World.shaped_of_RefB (by kernel_rfl) (by kernel_rfl)) (by kernel_rfl) (by kernel_rfl) (by kernel_rfl) (fixOrder_met os _)) ?_
  intro W base args ds gs before hval0 hW _ _ hL _
  have hval : ∀ (j : Nat) t v, Tryd.f9.params[j]? = some t → args[j]? = some v → Value.okWide Tryd.prog W .any base t v := hval0
  have hW' := hW
  obtain ⟨p, q, hA0, hV, rfl, hfz, hnd⟩ := hW
  have hA : DataW.TrodAll enc Tryd.prog W 0 (fun _ => true) true Tryd.f9.params.toList args.toList ds p := hA0
  rw [Tryd.params9] at hA hval
  obtain ⟨v0, vs0, d0, ds0, p0, q0, hargs, rfl, rfl, h0, r0⟩ := trodAll_cons hA
  obtain ⟨v1, vs1, d1, ds1, p1, q1, rfl, rfl, rfl, h1, r1⟩ := trodAll_cons r0
  obtain ⟨v2, vs2, d2, ds2, p2, q2, rfl, rfl, rfl, h2, r2⟩ := trodAll_cons r1
  obtain ⟨rfl, rfl, rfl⟩ := trodAll_nil r2
  obtain rfl : args = #[v0, v1, v2] := by cases args; simp_all
  obtain ⟨rfl, rfl⟩ := trodVars_none hV
  have k0 := h0
  have k1 := h1
  have k2 := h2
  have lt0 : ∀ x ∈ p0, x.block < W.heap.size := by obtain ⟨m, hm⟩ := k0; exact DataW.trod_lt m _ _ _ hm
  have lt1 : ∀ x ∈ p1, x.block < W.heap.size := by obtain ⟨m, hm⟩ := k1; exact DataW.trod_lt m _ _ _ hm
  have lt2 : ∀ x ∈ p2, x.block < W.heap.size := by obtain ⟨m, hm⟩ := k2; exact DataW.trod_lt m _ _ _ hm
  obtain ⟨a0, rfl, ha0⟩ := open_fix (hval 0 22 v0 rfl rfl) h0
  obtain ⟨a1, rfl, ha1⟩ := open_fix (hval 1 22 v1 rfl rfl) h1
  obtain ⟨a2, rfl, ha2⟩ := open_fix (hval 2 22 v2 rfl rfl) h2
  clear hA0 hval0
  refine (order_law a0 ha0 a1 ha1 a2 ha2 W).mono fun e W' ⟨he, hk⟩ => ?_
  subst he
  have bel := hk.below
  exact ⟨_, rfl, _, _, _, [], _, [], hW', trodAll_mk1 (shut_bool Tryd.underlying4 _), (trodAll_cons_mk (Below.trod laidOut (by kernel_rfl) (of_decide_eq_true (by kernel_rfl)) k0 bel lt0) (trodAll_cons_mk (Below.trod laidOut (by kernel_rfl) (of_decide_eq_true (by kernel_rfl)) k1 bel lt1) (trodAll_cons_mk (Below.trod laidOut (by kernel_rfl) (of_decide_eq_true (by kernel_rfl)) k2 bel lt2) trodAll_mk0))), rfl, bel.frame _, fun h => by cases h⟩
theorem fixOrder_named : Tryd.pinned.checked.prog.funcNamed Rows.fixOrderRow.func = some 9 := by kernel_rfl
theorem fixOrder_inst : (Tryd.f9).isInstance Tryd.pinned.checked.prog Rows.fixOrderRow.origin Rows.fixOrderRow.targs := of_decide_eq_true (by kernel_rfl)
theorem fixOrder_wrap : (Tryd.f9).isWrapper Tryd.pinned.checked.prog Rows.fixOrderRow.wrapper Rows.fixOrderRow.mainSum := by unfold Func.isWrapper; rw [if_neg (of_decide_eq_false (by kernel_rfl))]; exact ⟨rfl, rfl⟩
theorem fixOrder_over : Rows.fixOrderRow.holds Tryd.pinned (OpenSpec.ofChange Rows.fixOrderSpec) :=
  OpenClaim.holds_of_wide 9 Tryd.f9 rfl rfl rfl rfl rfl rfl rfl ⟨rfl, rfl, rfl, rfl, rfl⟩ rfl rfl rfl rfl rfl fixOrder_named Tryd.func9 fixOrder_closed
    fixOrder_inst fixOrder_wrap
    (fun os started H enc _ => fixOrder_lifted os started H enc)
theorem fixOrder_params : (Tryd.f9.params.toList.all fun u => !Tryd.prog.wantsStandIn u) = true := by kernel_rfl
/-- The statement: the tied card. -/
theorem fixOrderCard_proved : Rows.FixOrderCardSaid :=
  Claim7.holds_tied_plain_at .later [] [.data, .data, .data, .sentinel, .sentinel] true (true, "e387b1f95d599843f134eb38dedea8c5894183c3d27468da72f9ff57c95afa22") true
    fixOrder_over (fun _ h => by cases h) (by kernel_rfl) (fun _ h => by cases h) fixOrder_row_tie rfl ⟨rfl, rfl⟩ (by kernel_rfl) rfl
    (fun f fn hf hfn => by
      obtain rfl : f = 9 := Option.some.inj ((show Tryd.prog.funcNamed "ninepin/ninepinlaw02.FixOrder" = some 9 by kernel_rfl).symm.trans hf) |>.symm
      obtain rfl : fn = Tryd.f9 := (Option.some.inj (Tryd.func9.symm.trans hfn)).symm
      exact ⟨by kernel_rfl, fun j t ht => by
        have hm : t ∈ Tryd.f9.params.toList := by simpa using Array.mem_of_getElem? ht
        exact (show Tryd.prog.wantsStandIn t = false by simpa using List.all_eq_true.1 fixOrder_params t hm)⟩)
    (by kernel_rfl)
end Go.Proofs.YtbdkbmhejoakiaaDoor
