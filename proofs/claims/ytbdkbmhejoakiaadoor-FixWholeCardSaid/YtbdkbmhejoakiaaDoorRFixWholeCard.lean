/-
  Rows.FixWholeCardSaid: a whole number, where it fits, comes back from Floor, a number is from its Floor on, and below the next whole one; products and quotients by One are the number.
-/
import Derived.Test.YtbdkbmhejoakiaaDoorLo
import Derived.Test.YtbdkbmhejoakiaaDoorTf
import Derived.Test.YtbdkbmhejoakiaaDoorRows
import Derived.Test.YtbdkbmhejoakiaaDoorCards
import Derived.Test.YtbdkbmhejoakiaaDoorTie
import Derived.ProofKit
import Derived.LaidMore
import Derived.Stop.Joined
import Derived.SevenTiedAt
set_option linter.unusedVariables false
namespace Go.Proofs.YtbdkbmhejoakiaaDoor
open Go Go.ChangeShapes Go.WideShapes Go.ChangeAt Go.RowKit

set_option maxRecDepth 100000
theorem fixWhole_c0 : (Rows.fixWholeRow.wf (OpenSpec.ofChange Rows.fixWholeSpec)) = true := by kernel_rfl
theorem fixWhole_c1 : (laidOutB Tryd.pinned.checked.prog) = true := by kernel_rfl
theorem fixWhole_c2 : (mapsRowed Tryd.pinned.checked.prog) = true := by kernel_rfl
theorem fixWhole_c3 : (Tryd.f5.params.all (Tryd.pinned.checked.prog.readableRec ·)) = true := by kernel_rfl
theorem fixWhole_c4 : (namedTie Tryd.pinned.checked.prog Rows.fixWholeRow.named Rows.fixWholeSpec.vars) = true := by kernel_rfl
theorem fixWhole_c5 : ((Rows.fixWholeRow.stops == [])) = true := by kernel_rfl
theorem fixWhole_c6 : ((Tryd.pinned.checked.prog.stops == [])) = true := by kernel_rfl
theorem fixWhole_c7 : ((Rows.fixWholeRow.knobs == [])) = true := by kernel_rfl
theorem fixWhole_c8 : ((Tryd.pinned.checked.prog.stopKnobs == [])) = true := by kernel_rfl
theorem fixWhole_c9 : ((Rows.fixWholeRow.inPlace == Tryd.pinned.checked.prog.inPlace 5)) = true := by kernel_rfl
theorem fixWhole_c10 : ((Rows.fixWholeRow.unfollowed == Tryd.pinned.checked.prog.unfollowed 5)) = true := by kernel_rfl
theorem fixWhole_c11 : ((Rows.fixWholeRow.recurses == Tryd.pinned.checked.prog.recurses 5)) = true := by kernel_rfl
theorem fixWhole_c12 : ((Rows.fixWholeRow.named == Tryd.pinned.checked.prog.varsNamed 5)) = true := by kernel_rfl
theorem fixWhole_c13 : ((Rows.fixWholeRow.maps == (Tryd.f5.params.toList ++ Rows.fixWholeSpec.plain.varTypes Tryd.pinned.checked.prog).any (Tryd.pinned.checked.prog.mapsRec ·))) = true := by kernel_rfl
theorem fixWhole_c14 : ((Rows.fixWholeRow.ifaces == (Tryd.f5.params.toList ++ Rows.fixWholeSpec.plain.varTypes Tryd.pinned.checked.prog).any (Tryd.pinned.checked.prog.ifacesRec ·))) = true := by kernel_rfl
theorem fixWhole_c15 : ((Rows.fixWholeRow.mapsOut == Tryd.pinned.checked.prog.mapsAmong Tryd.f5.resultTypes.toList)) = true := by kernel_rfl
theorem fixWhole_c16 : ((Rows.fixWholeRow.loops == (Tryd.f5.params.toList ++ Rows.fixWholeSpec.plain.varTypes Tryd.pinned.checked.prog).any (Tryd.pinned.checked.prog.loopsFrom ·))) = true := by kernel_rfl
theorem fixWhole_c17 : ((Rows.fixWholeRow.wideKeys == (Tryd.f5.params.toList ++ Rows.fixWholeSpec.plain.varTypes Tryd.pinned.checked.prog ++ Tryd.f5.resultTypes.toList).any (Tryd.pinned.checked.prog.wideKeysFrom ·))) = true := by kernel_rfl
theorem fixWhole_c18 : (Rows.fixWholeSpec.vars.all (Tryd.pinned.checked.prog.varReadable ·)) = true := by kernel_rfl
theorem fixWhole_c19 : (Tryd.f5.resultTypes.all (fun t => Tryd.pinned.checked.prog.readableRec t && decide (t < Tryd.pinned.checked.prog.types.size))) = true := by kernel_rfl
theorem fixWhole_c20 : ((Rows.fixWholeRow.ifacesOut == Tryd.f5.resultTypes.toList.any (Tryd.pinned.checked.prog.ifacesRec ·))) = true := by kernel_rfl
theorem fixWhole_c21 : ((Rows.fixWholeRow.loopsOut == Tryd.f5.resultTypes.toList.any (Tryd.pinned.checked.prog.loopsFrom ·))) = true := by kernel_rfl
theorem fixWhole_c22 : ((Rows.fixWholeRow.plainKeys == Tryd.pinned.checked.prog.plainKeys)) = true := by kernel_rfl
theorem fixWhole_c23 : (Rows.fixWholeRow.shortTexts.isNone) = true := by kernel_rfl
theorem fixWhole_c24 : (Tryd.pinned.checked.prog.stopsHeard) = true := by kernel_rfl
theorem fixWhole_c25 : (Tryd.pinned.checked.prog.mayEnter) = true := by kernel_rfl
theorem fixWhole_c26 : ((Rows.fixWholeRow.lifted == Tryd.pinned.checked.prog.liftsFinal)) = true := by kernel_rfl
theorem fixWhole_c27 : ((Tryd.pinned.checked.prog.make == some Rows.fixWholeRow.make)) = true := by kernel_rfl
theorem fixWhole_c28 : ((Rows.fixWholeRow.kinds == (if Rows.fixWholeRow.domain.isEmpty then [] else Tryd.f5.params.toList.map fun t => match Tryd.pinned.checked.prog.underlying t with | some (.int k) => some k | _ => none))) = true := by kernel_rfl
theorem fixWhole_c29 : ((Rows.fixWholeRow.pinned == Rows.fixWholeRow.pinnedBy)) = true := by kernel_rfl
theorem fixWhole_c30 : ((Rows.fixWholeRow.veiled == (Tryd.f5.params.toList ++ Rows.fixWholeSpec.plain.varTypes Tryd.pinned.checked.prog ++ Tryd.f5.resultTypes.toList).any (Tryd.pinned.checked.prog.veiledRec ·))) = true := by kernel_rfl
theorem fixWhole_c31 : (Rows.fixWholeRow.veiledFits Tryd.pinned.checked.prog Tryd.f5.params.toList (Tryd.f5.params.toList ++ Rows.fixWholeSpec.plain.varTypes Tryd.pinned.checked.prog ++ Tryd.f5.resultTypes.toList)) = true := by kernel_rfl
theorem fixWhole_closed : joinedFacts Tryd.pinned.checked.prog 5 Tryd.f5 Rows.fixWholeSpec Rows.fixWholeRow = true := by
  unfold joinedFacts
  simp only [Bool.and_eq_true]
  exact ⟨⟨⟨⟨⟨⟨⟨⟨⟨⟨⟨⟨⟨⟨⟨⟨⟨⟨⟨⟨⟨⟨⟨⟨⟨⟨⟨⟨⟨⟨⟨fixWhole_c0, fixWhole_c1⟩, fixWhole_c2⟩, fixWhole_c3⟩, fixWhole_c4⟩, fixWhole_c5⟩, fixWhole_c6⟩, fixWhole_c7⟩, fixWhole_c8⟩, fixWhole_c9⟩, fixWhole_c10⟩, fixWhole_c11⟩, fixWhole_c12⟩, fixWhole_c13⟩, fixWhole_c14⟩, fixWhole_c15⟩, fixWhole_c16⟩, fixWhole_c17⟩, fixWhole_c18⟩, fixWhole_c19⟩, fixWhole_c20⟩, fixWhole_c21⟩, fixWhole_c22⟩, fixWhole_c23⟩, fixWhole_c24⟩, fixWhole_c25⟩, fixWhole_c26⟩, fixWhole_c27⟩, fixWhole_c28⟩, fixWhole_c29⟩, fixWhole_c30⟩, fixWhole_c31⟩
theorem fixWhole_met (os : Os) (args : Array Value) : laidMetH Tryd.prog Rows.fixWholeRow.laid ((World.doorLaid Tryd.prog 62 os).forCall (fun _ _ => 0) ⟨#[], args, []⟩).memory :=
  laidMetH_of_parts3 (fuel := 8) (laidMet_of_run' 8 (by kernel_rfl) (by kernel_rfl)) (by kernel_rfl) (by kernel_rfl)
theorem fixWhole_lifted (os : Os) (started : os.Started) (H : Type) (enc : TypeId × Value → H) :
    ReturnsInHanded {} Tryd.checked os 5 .any (fun w args => (Rows.fixWholeSpec.pre enc Tryd.prog Tryd.f5 [] false w args ∧ laidMetH Tryd.prog Rows.fixWholeRow.laid w) ∧ sizedMet enc Tryd.prog Tryd.f5 (OpenSpec.ofChange Rows.fixWholeSpec) false w args) (Rows.fixWholeSpec.post enc Tryd.prog Tryd.f5 false true false false) := by
  refine returnsInHanded_of_change_and (C := Tryd.checked) (X := fun w _ => laidMetH Tryd.prog Rows.fixWholeRow.laid w) (fun _ _ _ hh h => h.of_heap hh) own started (by kernel_rfl) Tryd.func5
    (ChangeSpec.witness_shaped (enc := enc) (C := Tryd.checked) (os := os) (X := fun w _ => laidMetH Tryd.prog Rows.fixWholeRow.laid w) false (World.doorLaid Tryd.prog 62 os) #[.int .i64 0, .int .i64 0] 8 rfl (World.shaped_of_RefB (by kernel_rfl) (by kernel_rfl)) (by kernel_rfl) (by kernel_rfl) (by kernel_rfl) (fixWhole_met os _)) ?_
  intro W base args ds gs before hval0 hW _ _ hL _
  have hval : ∀ (j : Nat) t v, Tryd.f5.params[j]? = some t → args[j]? = some v → Value.okWide Tryd.prog W .any base t v := hval0
  have hW' := hW
  obtain ⟨p, q, hA0, hV, rfl, hfz, hnd⟩ := hW
  have hA : DataW.TrodAll enc Tryd.prog W 0 (fun _ => true) true Tryd.f5.params.toList args.toList ds p := hA0
  rw [Tryd.params5] at hA hval
  obtain ⟨v0, vs0, d0, ds0, p0, q0, hargs, rfl, rfl, h0, r0⟩ := trodAll_cons hA
  obtain ⟨v1, vs1, d1, ds1, p1, q1, rfl, rfl, rfl, h1, r1⟩ := trodAll_cons r0
  obtain ⟨rfl, rfl, rfl⟩ := trodAll_nil r1
  obtain rfl : args = #[v0, v1] := by cases args; simp_all
  obtain ⟨rfl, rfl⟩ := trodVars_none hV
  have k0 := h0
  have k1 := h1
  have lt0 : ∀ x ∈ p0, x.block < W.heap.size := by obtain ⟨m, hm⟩ := k0; exact DataW.trod_lt m _ _ _ hm
  have lt1 : ∀ x ∈ p1, x.block < W.heap.size := by obtain ⟨m, hm⟩ := k1; exact DataW.trod_lt m _ _ _ hm
  obtain ⟨a0, rfl, ha0⟩ := open_i64 (hval 0 2 v0 rfl rfl) h0
  obtain ⟨a1, rfl, ha1⟩ := open_fix (hval 1 22 v1 rfl rfl) h1
  clear hA0 hval0
  refine (whole_law a0 ha0 a1 ha1 W).mono fun e W' ⟨he, hk⟩ => ?_
  subst he
  have bel := hk.below
  exact ⟨_, rfl, _, _, _, [], _, [], hW', trodAll_mk1 (shut_bool Tryd.underlying4 _), (trodAll_cons_mk (Below.trod laidOut (by kernel_rfl) (of_decide_eq_true (by kernel_rfl)) k0 bel lt0) (trodAll_cons_mk (Below.trod laidOut (by kernel_rfl) (of_decide_eq_true (by kernel_rfl)) k1 bel lt1) trodAll_mk0)), rfl, bel.frame _, fun h => by cases h⟩
theorem fixWhole_named : Tryd.pinned.checked.prog.funcNamed Rows.fixWholeRow.func = some 5 := by kernel_rfl
theorem fixWhole_inst : (Tryd.f5).isInstance Tryd.pinned.checked.prog Rows.fixWholeRow.origin Rows.fixWholeRow.targs := of_decide_eq_true (by kernel_rfl)
theorem fixWhole_wrap : (Tryd.f5).isWrapper Tryd.pinned.checked.prog Rows.fixWholeRow.wrapper Rows.fixWholeRow.mainSum := by unfold Func.isWrapper; rw [if_neg (of_decide_eq_false (by kernel_rfl))]; exact ⟨rfl, rfl⟩
theorem fixWhole_over : Rows.fixWholeRow.holds Tryd.pinned (OpenSpec.ofChange Rows.fixWholeSpec) :=
  OpenClaim.holds_of_wide 5 Tryd.f5 rfl rfl rfl rfl rfl rfl rfl ⟨rfl, rfl, rfl, rfl, rfl⟩ rfl rfl rfl rfl rfl fixWhole_named Tryd.func5 fixWhole_closed
    fixWhole_inst fixWhole_wrap
    (fun os started H enc _ => fixWhole_lifted os started H enc)
theorem fixWhole_params : (Tryd.f5.params.toList.all fun u => !Tryd.prog.wantsStandIn u) = true := by kernel_rfl
/-- The statement: the tied card. -/
theorem fixWholeCard_proved : Rows.FixWholeCardSaid :=
  Claim7.holds_tied_plain_at .later [] [.data, .data, .data, .sentinel, .sentinel] true (true, "e387b1f95d599843f134eb38dedea8c5894183c3d27468da72f9ff57c95afa22") true
    fixWhole_over (fun _ h => by cases h) (by kernel_rfl) (fun _ h => by cases h) fixWhole_row_tie rfl ⟨rfl, rfl⟩ (by kernel_rfl) rfl
    (fun f fn hf hfn => by
      obtain rfl : f = 5 := Option.some.inj ((show Tryd.prog.funcNamed "ninepin/ninepinlaw02.FixWhole" = some 5 by kernel_rfl).symm.trans hf) |>.symm
      obtain rfl : fn = Tryd.f5 := (Option.some.inj (Tryd.func5.symm.trans hfn)).symm
      exact ⟨by kernel_rfl, fun j t ht => by
        have hm : t ∈ Tryd.f5.params.toList := by simpa using Array.mem_of_getElem? ht
        exact (show Tryd.prog.wantsStandIn t = false by simpa using List.all_eq_true.1 fixWhole_params t hm)⟩)
    (by kernel_rfl)
end Go.Proofs.YtbdkbmhejoakiaaDoor
