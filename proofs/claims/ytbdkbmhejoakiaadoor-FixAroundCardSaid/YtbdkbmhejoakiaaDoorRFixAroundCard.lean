/-
  Rows.FixAroundCardSaid: what is rounded down is not above, and what is rounded up not below, the exact product and quotient; both differ by 1 at most, and not at all where that is a number.
-/
import Derived.Test.YtbdkbmhejoakiaaDoorLo
import Derived.Test.YtbdkbmhejoakiaaDoorTi
import Derived.Test.YtbdkbmhejoakiaaDoorRows
import Derived.Test.YtbdkbmhejoakiaaDoorCards
import Derived.Test.YtbdkbmhejoakiaaDoorTie
import Derived.ProofKit
import Derived.LaidMore
import Derived.Stop.Joined
import Derived.SevenTiedAt
set_option linter.unusedVariables false
namespace Go.Proofs.YtbdkbmhejoakiaaDoor
open Go Go.ChangeShapes Go.WideShapes Go.ChangeAt Go.RowKit

set_option maxRecDepth 100000
theorem fixAround_c0 : (Rows.fixAroundRow.wf (OpenSpec.ofChange Rows.fixAroundSpec)) = true := by kernel_rfl
theorem fixAround_c1 : (laidOutB Tryd.pinned.checked.prog) = true := by kernel_rfl
theorem fixAround_c2 : (mapsRowed Tryd.pinned.checked.prog) = true := by kernel_rfl
theorem fixAround_c3 : (Tryd.f7.params.all (Tryd.pinned.checked.prog.readableRec ·)) = true := by kernel_rfl
theorem fixAround_c4 : (namedTie Tryd.pinned.checked.prog Rows.fixAroundRow.named Rows.fixAroundSpec.vars) = true := by kernel_rfl
theorem fixAround_c5 : ((Rows.fixAroundRow.stops == [])) = true := by kernel_rfl
theorem fixAround_c6 : ((Tryd.pinned.checked.prog.stops == [])) = true := by kernel_rfl
theorem fixAround_c7 : ((Rows.fixAroundRow.knobs == [])) = true := by kernel_rfl
theorem fixAround_c8 : ((Tryd.pinned.checked.prog.stopKnobs == [])) = true := by kernel_rfl
theorem fixAround_c9 : ((Rows.fixAroundRow.inPlace == Tryd.pinned.checked.prog.inPlace 7)) = true := by kernel_rfl
theorem fixAround_c10 : ((Rows.fixAroundRow.unfollowed == Tryd.pinned.checked.prog.unfollowed 7)) = true := by kernel_rfl
theorem fixAround_c11 : ((Rows.fixAroundRow.recurses == Tryd.pinned.checked.prog.recurses 7)) = true := by kernel_rfl
theorem fixAround_c12 : ((Rows.fixAroundRow.named == Tryd.pinned.checked.prog.varsNamed 7)) = true := by kernel_rfl
theorem fixAround_c13 : ((Rows.fixAroundRow.maps == (Tryd.f7.params.toList ++ Rows.fixAroundSpec.plain.varTypes Tryd.pinned.checked.prog).any (Tryd.pinned.checked.prog.mapsRec ·))) = true := by kernel_rfl
theorem fixAround_c14 : ((Rows.fixAroundRow.ifaces == (Tryd.f7.params.toList ++ Rows.fixAroundSpec.plain.varTypes Tryd.pinned.checked.prog).any (Tryd.pinned.checked.prog.ifacesRec ·))) = true := by kernel_rfl
theorem fixAround_c15 : ((Rows.fixAroundRow.mapsOut == Tryd.pinned.checked.prog.mapsAmong Tryd.f7.resultTypes.toList)) = true := by kernel_rfl
theorem fixAround_c16 : ((Rows.fixAroundRow.loops == (Tryd.f7.params.toList ++ Rows.fixAroundSpec.plain.varTypes Tryd.pinned.checked.prog).any (Tryd.pinned.checked.prog.loopsFrom ·))) = true := by kernel_rfl
theorem fixAround_c17 : ((Rows.fixAroundRow.wideKeys == (Tryd.f7.params.toList ++ Rows.fixAroundSpec.plain.varTypes Tryd.pinned.checked.prog ++ Tryd.f7.resultTypes.toList).any (Tryd.pinned.checked.prog.wideKeysFrom ·))) = true := by kernel_rfl
theorem fixAround_c18 : (Rows.fixAroundSpec.vars.all (Tryd.pinned.checked.prog.varReadable ·)) = true := by kernel_rfl
theorem fixAround_c19 : (Tryd.f7.resultTypes.all (fun t => Tryd.pinned.checked.prog.readableRec t && decide (t < Tryd.pinned.checked.prog.types.size))) = true := by kernel_rfl
theorem fixAround_c20 : ((Rows.fixAroundRow.ifacesOut == Tryd.f7.resultTypes.toList.any (Tryd.pinned.checked.prog.ifacesRec ·))) = true := by kernel_rfl
theorem fixAround_c21 : ((Rows.fixAroundRow.loopsOut == Tryd.f7.resultTypes.toList.any (Tryd.pinned.checked.prog.loopsFrom ·))) = true := by kernel_rfl
theorem fixAround_c22 : ((Rows.fixAroundRow.plainKeys == Tryd.pinned.checked.prog.plainKeys)) = true := by kernel_rfl
theorem fixAround_c23 : (Rows.fixAroundRow.shortTexts.isNone) = true := by kernel_rfl
theorem fixAround_c24 : (Tryd.pinned.checked.prog.stopsHeard) = true := by kernel_rfl
theorem fixAround_c25 : (Tryd.pinned.checked.prog.mayEnter) = true := by kernel_rfl
theorem fixAround_c26 : ((Rows.fixAroundRow.lifted == Tryd.pinned.checked.prog.liftsFinal)) = true := by kernel_rfl
theorem fixAround_c27 : ((Tryd.pinned.checked.prog.make == some Rows.fixAroundRow.make)) = true := by kernel_rfl
theorem fixAround_c28 : ((Rows.fixAroundRow.kinds == (if Rows.fixAroundRow.domain.isEmpty then [] else Tryd.f7.params.toList.map fun t => match Tryd.pinned.checked.prog.underlying t with | some (.int k) => some k | _ => none))) = true := by kernel_rfl
theorem fixAround_c29 : ((Rows.fixAroundRow.pinned == Rows.fixAroundRow.pinnedBy)) = true := by kernel_rfl
theorem fixAround_c30 : ((Rows.fixAroundRow.veiled == (Tryd.f7.params.toList ++ Rows.fixAroundSpec.plain.varTypes Tryd.pinned.checked.prog ++ Tryd.f7.resultTypes.toList).any (Tryd.pinned.checked.prog.veiledRec ·))) = true := by kernel_rfl
theorem fixAround_c31 : (Rows.fixAroundRow.veiledFits Tryd.pinned.checked.prog Tryd.f7.params.toList (Tryd.f7.params.toList ++ Rows.fixAroundSpec.plain.varTypes Tryd.pinned.checked.prog ++ Tryd.f7.resultTypes.toList)) = true := by kernel_rfl
theorem fixAround_closed : joinedFacts Tryd.pinned.checked.prog 7 Tryd.f7 Rows.fixAroundSpec Rows.fixAroundRow = true := by
  unfold joinedFacts
  simp only [Bool.and_eq_true]
  exact ⟨⟨⟨⟨⟨⟨⟨⟨⟨⟨⟨⟨⟨⟨⟨⟨⟨⟨⟨⟨⟨⟨⟨⟨⟨⟨⟨⟨⟨⟨⟨fixAround_c0, fixAround_c1⟩, fixAround_c2⟩, fixAround_c3⟩, fixAround_c4⟩, fixAround_c5⟩, fixAround_c6⟩, fixAround_c7⟩, fixAround_c8⟩, fixAround_c9⟩, fixAround_c10⟩, fixAround_c11⟩, fixAround_c12⟩, fixAround_c13⟩, fixAround_c14⟩, fixAround_c15⟩, fixAround_c16⟩, fixAround_c17⟩, fixAround_c18⟩, fixAround_c19⟩, fixAround_c20⟩, fixAround_c21⟩, fixAround_c22⟩, fixAround_c23⟩, fixAround_c24⟩, fixAround_c25⟩, fixAround_c26⟩, fixAround_c27⟩, fixAround_c28⟩, fixAround_c29⟩, fixAround_c30⟩, fixAround_c31⟩
theorem fixAround_met (os : Os) (args : Array Value) : laidMetH Tryd.prog Rows.fixAroundRow.laid ((World.doorLaid Tryd.prog 62 os).forCall (fun _ _ => 0) ⟨#[], args, []⟩).memory :=
  laidMetH_of_parts3 (fuel := 8) (laidMet_of_run' 8 (by kernel_rfl) (by kernel_rfl)) (by kernel_rfl) (by kernel_rfl)
theorem fixAround_lifted (os : Os) (started : os.Started) (H : Type) (enc : TypeId × Value → H) :
    ReturnsInHanded {} Tryd.checked os 7 .any (fun w args => (Rows.fixAroundSpec.pre enc Tryd.prog Tryd.f7 [] false w args ∧ laidMetH Tryd.prog Rows.fixAroundRow.laid w) ∧ sizedMet enc Tryd.prog Tryd.f7 (OpenSpec.ofChange Rows.fixAroundSpec) false w args) (Rows.fixAroundSpec.post enc Tryd.prog Tryd.f7 false true false false) := by
  refine returnsInHanded_of_change_and (C := Tryd.checked) (X := fun w _ => laidMetH Tryd.prog Rows.fixAroundRow.laid w) (fun _ _ _ hh h => h.of_heap hh) own started (by kernel_rfl) Tryd.func7
    (ChangeSpec.witness_shaped (enc := enc) (C := Tryd.checked) (os := os) (X := fun w _ => laidMetH Tryd.prog Rows.fixAroundRow.laid w) false (World.doorLaid Tryd.prog 62 os) #[.int .i64 0, .int .i64 0] 8 rfl (World.shaped_of_RefB (by kernel_rfl) (by kernel_rfl)) (by kernel_rfl) (by kernel_rfl) (by kernel_rfl) (fixAround_met os _)) ?_
  intro W base args ds gs before hval0 hW _ _ hL _
  have hval : ∀ (j : Nat) t v, Tryd.f7.params[j]? = some t → args[j]? = some v → Value.okWide Tryd.prog W .any base t v := hval0
  have hW' := hW
  obtain ⟨p, q, hA0, hV, rfl, hfz, hnd⟩ := hW
  have hA : DataW.TrodAll enc Tryd.prog W 0 (fun _ => true) true Tryd.f7.params.toList args.toList ds p := hA0
  rw [Tryd.params7] at hA hval
  obtain ⟨v0, vs0, d0, ds0, p0, q0, hargs, rfl, rfl, h0, r0⟩ := trodAll_cons hA
  obtain ⟨v1, vs1, d1, ds1, p1, q1, rfl, rfl, rfl, h1, r1⟩ := trodAll_cons r0
  obtain ⟨rfl, rfl, rfl⟩ := trodAll_nil r1
  obtain rfl : args = #[v0, v1] := by cases args; simp_all
  obtain ⟨rfl, rfl⟩ := trodVars_none hV
  have k0 := h0
  have k1 := h1
  have lt0 : ∀ x ∈ p0, x.block < W.heap.size := by obtain ⟨m, hm⟩ := k0; exact DataW.trod_lt m _ _ _ hm
  have lt1 : ∀ x ∈ p1, x.block < W.heap.size := by obtain ⟨m, hm⟩ := k1; exact DataW.trod_lt m _ _ _ hm
  obtain ⟨a0, rfl, ha0⟩ := open_fix (hval 0 22 v0 rfl rfl) h0
  obtain ⟨a1, rfl, ha1⟩ := open_fix (hval 1 22 v1 rfl rfl) h1
  clear hA0 hval0
  refine (faround_law a0 ha0 a1 ha1 W).mono fun e W' ⟨he, hk⟩ => ?_
  subst he
  have bel := hk.below
  exact ⟨_, rfl, _, _, _, [], _, [], hW', trodAll_mk1 (shut_bool Tryd.underlying4 _), (trodAll_cons_mk (Below.trod laidOut (by kernel_rfl) (of_decide_eq_true (by kernel_rfl)) k0 bel lt0) (trodAll_cons_mk (Below.trod laidOut (by kernel_rfl) (of_decide_eq_true (by kernel_rfl)) k1 bel lt1) trodAll_mk0)), rfl, bel.frame _, fun h => by cases h⟩
theorem fixAround_named : Tryd.pinned.checked.prog.funcNamed Rows.fixAroundRow.func = some 7 := by kernel_rfl
theorem fixAround_inst : (Tryd.f7).isInstance Tryd.pinned.checked.prog Rows.fixAroundRow.origin Rows.fixAroundRow.targs := of_decide_eq_true (by kernel_rfl)
theorem fixAround_wrap : (Tryd.f7).isWrapper Tryd.pinned.checked.prog Rows.fixAroundRow.wrapper Rows.fixAroundRow.mainSum := by unfold Func.isWrapper; rw [if_neg (of_decide_eq_false (by kernel_rfl))]; exact ⟨rfl, rfl⟩
theorem fixAround_over : Rows.fixAroundRow.holds Tryd.pinned (OpenSpec.ofChange Rows.fixAroundSpec) :=
  OpenClaim.holds_of_wide 7 Tryd.f7 rfl rfl rfl rfl rfl rfl rfl ⟨rfl, rfl, rfl, rfl, rfl⟩ rfl rfl rfl rfl rfl fixAround_named Tryd.func7 fixAround_closed
    fixAround_inst fixAround_wrap
    (fun os started H enc _ => fixAround_lifted os started H enc)
theorem fixAround_params : (Tryd.f7.params.toList.all fun u => !Tryd.prog.wantsStandIn u) = true := by kernel_rfl
/-- The statement: the tied card. -/
theorem fixAroundCard_proved : Rows.FixAroundCardSaid :=
  Claim7.holds_tied_plain_at .later [] [.data, .data, .data, .sentinel, .sentinel] true (true, "e387b1f95d599843f134eb38dedea8c5894183c3d27468da72f9ff57c95afa22") true
    fixAround_over (fun _ h => by cases h) (by kernel_rfl) (fun _ h => by cases h) fixAround_row_tie rfl ⟨rfl, rfl⟩ (by kernel_rfl) rfl
    (fun f fn hf hfn => by
      obtain rfl : f = 7 := Option.some.inj ((show Tryd.prog.funcNamed "ninepin/ninepinlaw02.FixAround" = some 7 by kernel_rfl).symm.trans hf) |>.symm
      obtain rfl : fn = Tryd.f7 := (Option.some.inj (Tryd.func7.symm.trans hfn)).symm
      exact ⟨by kernel_rfl, fun j t ht => by
        have hm : t ∈ Tryd.f7.params.toList := by simpa using Array.mem_of_getElem? ht
        exact (show Tryd.prog.wantsStandIn t = false by simpa using List.all_eq_true.1 fixAround_params t hm)⟩)
    (by kernel_rfl)
end Go.Proofs.YtbdkbmhejoakiaaDoor
