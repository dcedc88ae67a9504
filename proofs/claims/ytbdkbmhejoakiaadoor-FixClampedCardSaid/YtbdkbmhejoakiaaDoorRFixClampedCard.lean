/-
  Rows.FixClampedCardSaid: a clamped number is between both, is itself, if it was, and clamped again the same.
-/
import Derived.Test.YtbdkbmhejoakiaaDoorLo
import Derived.Test.YtbdkbmhejoakiaaDoorTd
import Derived.Test.YtbdkbmhejoakiaaDoorRows
import Derived.Test.YtbdkbmhejoakiaaDoorCards
import Derived.Test.YtbdkbmhejoakiaaDoorTie
import Derived.ProofKit
import Derived.LaidMore
import Derived.Stop.Joined
import Derived.SevenTiedAt
set_option linter.unusedVariables false
namespace Go.Proofs.YtbdkbmhejoakiaaDoor
open Go Go.ChangeShapes Go.WideShapes Go.ChangeAt Go.RowKit

set_option maxRecDepth 100000
theorem fixClamped_c0 : (Rows.fixClampedRow.wf (OpenSpec.ofChange Rows.fixClampedSpec)) = true := by kernel_rfl
theorem fixClamped_c1 : (laidOutB Tryd.pinned.checked.prog) = true := by kernel_rfl
theorem fixClamped_c2 : (mapsRowed Tryd.pinned.checked.prog) = true := by kernel_rfl
theorem fixClamped_c3 : (Tryd.f6.params.all (Tryd.pinned.checked.prog.readableRec ·)) = true := by kernel_rfl
theorem fixClamped_c4 : (namedTie Tryd.pinned.checked.prog Rows.fixClampedRow.named Rows.fixClampedSpec.vars) = true := by kernel_rfl
theorem fixClamped_c5 : ((Rows.fixClampedRow.stops == [])) = true := by kernel_rfl
theorem fixClamped_c6 : ((Tryd.pinned.checked.prog.stops == [])) = true := by kernel_rfl
theorem fixClamped_c7 : ((Rows.fixClampedRow.knobs == [])) = true := by kernel_rfl
theorem fixClamped_c8 : ((Tryd.pinned.checked.prog.stopKnobs == [])) = true := by kernel_rfl
theorem fixClamped_c9 : ((Rows.fixClampedRow.inPlace == Tryd.pinned.checked.prog.inPlace 6)) = true := by kernel_rfl
theorem fixClamped_c10 : ((Rows.fixClampedRow.unfollowed == Tryd.pinned.checked.prog.unfollowed 6)) = true := by kernel_rfl
theorem fixClamped_c11 : ((Rows.fixClampedRow.recurses == Tryd.pinned.checked.prog.recurses 6)) = true := by kernel_rfl
theorem fixClamped_c12 : ((Rows.fixClampedRow.named == Tryd.pinned.checked.prog.varsNamed 6)) = true := by kernel_rfl
theorem fixClamped_c13 : ((Rows.fixClampedRow.maps == (Tryd.f6.params.toList ++ Rows.fixClampedSpec.plain.varTypes Tryd.pinned.checked.prog).any (Tryd.pinned.checked.prog.mapsRec ·))) = true := by kernel_rfl
theorem fixClamped_c14 : ((Rows.fixClampedRow.ifaces == (Tryd.f6.params.toList ++ Rows.fixClampedSpec.plain.varTypes Tryd.pinned.checked.prog).any (Tryd.pinned.checked.prog.ifacesRec ·))) = true := by kernel_rfl
theorem fixClamped_c15 : ((Rows.fixClampedRow.mapsOut == Tryd.pinned.checked.prog.mapsAmong Tryd.f6.resultTypes.toList)) = true := by kernel_rfl
theorem fixClamped_c16 : ((Rows.fixClampedRow.loops == (Tryd.f6.params.toList ++ Rows.fixClampedSpec.plain.varTypes Tryd.pinned.checked.prog).any (Tryd.pinned.checked.prog.loopsFrom ·))) = true := by kernel_rfl
theorem fixClamped_c17 : ((Rows.fixClampedRow.wideKeys == (Tryd.f6.params.toList ++ Rows.fixClampedSpec.plain.varTypes Tryd.pinned.checked.prog ++ Tryd.f6.resultTypes.toList).any (Tryd.pinned.checked.prog.wideKeysFrom ·))) = true := by kernel_rfl
theorem fixClamped_c18 : (Rows.fixClampedSpec.vars.all (Tryd.pinned.checked.prog.varReadable ·)) = true := by kernel_rfl
theorem fixClamped_c19 : (Tryd.f6.resultTypes.all (fun t => Tryd.pinned.checked.prog.readableRec t && decide (t < Tryd.pinned.checked.prog.types.size))) = true := by kernel_rfl
theorem fixClamped_c20 : ((Rows.fixClampedRow.ifacesOut == Tryd.f6.resultTypes.toList.any (Tryd.pinned.checked.prog.ifacesRec ·))) = true := by kernel_rfl
theorem fixClamped_c21 : ((Rows.fixClampedRow.loopsOut == Tryd.f6.resultTypes.toList.any (Tryd.pinned.checked.prog.loopsFrom ·))) = true := by kernel_rfl
theorem fixClamped_c22 : ((Rows.fixClampedRow.plainKeys == Tryd.pinned.checked.prog.plainKeys)) = true := by kernel_rfl
theorem fixClamped_c23 : (Rows.fixClampedRow.shortTexts.isNone) = true := by kernel_rfl
theorem fixClamped_c24 : (Tryd.pinned.checked.prog.stopsHeard) = true := by kernel_rfl
theorem fixClamped_c25 : (Tryd.pinned.checked.prog.mayEnter) = true := by kernel_rfl
theorem fixClamped_c26 : ((Rows.fixClampedRow.lifted == Tryd.pinned.checked.prog.liftsFinal)) = true := by kernel_rfl
theorem fixClamped_c27 : ((Tryd.pinned.checked.prog.make == some Rows.fixClampedRow.make)) = true := by kernel_rfl
theorem fixClamped_c28 : ((Rows.fixClampedRow.kinds == (if Rows.fixClampedRow.domain.isEmpty then [] else Tryd.f6.params.toList.map fun t => match Tryd.pinned.checked.prog.underlying t with | some (.int k) => some k | _ => none))) = true := by kernel_rfl
theorem fixClamped_c29 : ((Rows.fixClampedRow.pinned == Rows.fixClampedRow.pinnedBy)) = true := by kernel_rfl
theorem fixClamped_c30 : ((Rows.fixClampedRow.veiled == (Tryd.f6.params.toList ++ Rows.fixClampedSpec.plain.varTypes Tryd.pinned.checked.prog ++ Tryd.f6.resultTypes.toList).any (Tryd.pinned.checked.prog.veiledRec ·))) = true := by kernel_rfl
theorem fixClamped_c31 : (Rows.fixClampedRow.veiledFits Tryd.pinned.checked.prog Tryd.f6.params.toList (Tryd.f6.params.toList ++ Rows.fixClampedSpec.plain.varTypes Tryd.pinned.checked.prog ++ Tryd.f6.resultTypes.toList)) = true := by kernel_rfl
theorem fixClamped_closed : joinedFacts Tryd.pinned.checked.prog 6 Tryd.f6 Rows.fixClampedSpec Rows.fixClampedRow = true := by
  unfold joinedFacts
  simp only [Bool.and_eq_true]
  exact ⟨⟨⟨⟨⟨⟨⟨⟨⟨⟨⟨⟨⟨⟨⟨⟨⟨⟨⟨⟨⟨⟨⟨⟨⟨⟨⟨⟨⟨⟨⟨fixClamped_c0, fixClamped_c1⟩, fixClamped_c2⟩, fixClamped_c3⟩, fixClamped_c4⟩, fixClamped_c5⟩, fixClamped_c6⟩, fixClamped_c7⟩, fixClamped_c8⟩, fixClamped_c9⟩, fixClamped_c10⟩, fixClamped_c11⟩, fixClamped_c12⟩, fixClamped_c13⟩, fixClamped_c14⟩, fixClamped_c15⟩, fixClamped_c16⟩, fixClamped_c17⟩, fixClamped_c18⟩, fixClamped_c19⟩, fixClamped_c20⟩, fixClamped_c21⟩, fixClamped_c22⟩, fixClamped_c23⟩, fixClamped_c24⟩, fixClamped_c25⟩, fixClamped_c26⟩, fixClamped_c27⟩, fixClamped_c28⟩, fixClamped_c29⟩, fixClamped_c30⟩, fixClamped_c31⟩
theorem fixClamped_met (os : Os) (args : Array Value) : laidMetH Tryd.prog Rows.fixClampedRow.laid ((World.doorLaid Tryd.prog 62 os).forCall (fun _ _ => 0) ⟨#[], args, []⟩).memory :=
  laidMetH_of_parts3 (fuel := 8) (laidMet_of_run' 8 (by kernel_rfl) (by kernel_rfl)) (by kernel_rfl) (by kernel_rfl)
theorem fixClamped_lifted (os : Os) (started : os.Started) (H : Type) (enc : TypeId × Value → H) :
    ReturnsInHanded {} Tryd.checked os 6 .any (fun w args => (Rows.fixClampedSpec.pre enc Tryd.prog Tryd.f6 [] false w args ∧ laidMetH Tryd.prog Rows.fixClampedRow.laid w) ∧ sizedMet enc Tryd.prog Tryd.f6 (OpenSpec.ofChange Rows.fixClampedSpec) false w args) (Rows.fixClampedSpec.post enc Tryd.prog Tryd.f6 false true false false) := by
  refine returnsInHanded_of_change_and (C := Tryd.checked) (X := fun w _ => laidMetH Tryd.prog Rows.fixClampedRow.laid w) (fun _ _ _ hh h => h.of_heap hh) own started (by kernel_rfl) Tryd.func6
    (ChangeSpec.witness_shaped (enc := enc) (C := Tryd.checked) (os := os) (X := fun w _ => laidMetH Tryd.prog Rows.fixClampedRow.laid w) false (World.doorLaid Tryd.prog 62 os) #[.int .i64 0, .int .i64 0, .int .i64 0] 8 rfl (World.shaped_of_RefB (by kernel_rfl) (by kernel_rfl)) (by kernel_rfl) (by kernel_rfl) (by kernel_rfl) (fixClamped_met os _)) ?_
  intro W base args ds gs before hval0 hW _ _ hL _
  have hval : ∀ (j : Nat) t v, Tryd.f6.params[j]? = some t → args[j]? = some v → Value.okWide Tryd.prog W .any base t v := hval0
  have hW' := hW
  obtain ⟨p, q, hA0, hV, rfl, hfz, hnd⟩ := hW
  have hA : DataW.TrodAll enc Tryd.prog W 0 (fun _ => true) true Tryd.f6.params.toList args.toList ds p := hA0
  rw [Tryd.params6] at hA hval
  obtain ⟨v0, vs0, d0, ds0, p0, q0, hargs, rfl, rfl, h0, r0⟩ := trodAll_cons hA
  obtain ⟨v1, vs1, d1, ds1, p1, q1, rfl, rfl, rfl, h1, r1⟩ := trodAll_cons r0
  obtain ⟨v2, vs2, d2, ds2, p2, q2, rfl, rfl, rfl, h2, r2⟩ := trodAll_cons r1
  obtain ⟨rfl, rfl, rfl⟩ := trodAll_nil r2
  obtain rfl : args = #[v0, v1, v2] := by cases args; simp_all
  obtain ⟨rfl, rfl⟩ := trodVars_none hV
  have k0 := h0
  have k1 := h1
  have k2 := h2
  have lt0 : ∀ x ∈ p0, x.block < W.heap.size := by obtain ⟨m, hm⟩ := k0; exact DataW.trod_lt m _ _ _ hm
  have lt1 : ∀ x ∈ p1, x.block < W.heap.size := by obtain ⟨m, hm⟩ := k1; exact DataW.trod_lt m _ _ _ hm
  have lt2 : ∀ x ∈ p2, x.block < W.heap.size := by obtain ⟨m, hm⟩ := k2; exact DataW.trod_lt m _ _ _ hm
  obtain ⟨a0, rfl, ha0⟩ := open_fix (hval 0 22 v0 rfl rfl) h0
  obtain ⟨a1, rfl, ha1⟩ := open_fix (hval 1 22 v1 rfl rfl) h1
  obtain ⟨a2, rfl, ha2⟩ := open_fix (hval 2 22 v2 rfl rfl) h2
  clear hA0 hval0
  refine (clamped_law a0 ha0 a1 ha1 a2 ha2 W).mono fun e W' ⟨he, hk⟩ => ?_
  subst he
  have bel := hk.below
  exact ⟨_, rfl, _, _, _, [], _, [], hW', trodAll_mk1 (shut_bool Tryd.underlying4 _), (trodAll_cons_mk (Below.trod laidOut (by kernel_rfl) (of_decide_eq_true (by kernel_rfl)) k0 bel lt0) (trodAll_cons_mk (Below.trod laidOut (by kernel_rfl) (of_decide_eq_true (by kernel_rfl)) k1 bel lt1) (trodAll_cons_mk (Below.trod laidOut (by kernel_rfl) (of_decide_eq_true (by kernel_rfl)) k2 bel lt2) trodAll_mk0))), rfl, bel.frame _, fun h => by cases h⟩
theorem fixClamped_named : Tryd.pinned.checked.prog.funcNamed Rows.fixClampedRow.func = some 6 := by kernel_rfl
theorem fixClamped_inst : (Tryd.f6).isInstance Tryd.pinned.checked.prog Rows.fixClampedRow.origin Rows.fixClampedRow.targs := of_decide_eq_true (by kernel_rfl)
theorem fixClamped_wrap : (Tryd.f6).isWrapper Tryd.pinned.checked.prog Rows.fixClampedRow.wrapper Rows.fixClampedRow.mainSum := by unfold Func.isWrapper; rw [if_neg (of_decide_eq_false (by kernel_rfl))]; exact ⟨rfl, rfl⟩
theorem fixClamped_over : Rows.fixClampedRow.holds Tryd.pinned (OpenSpec.ofChange Rows.fixClampedSpec) :=
  OpenClaim.holds_of_wide 6 Tryd.f6 rfl rfl rfl rfl rfl rfl rfl ⟨rfl, rfl, rfl, rfl, rfl⟩ rfl rfl rfl rfl rfl fixClamped_named Tryd.func6 fixClamped_closed
    fixClamped_inst fixClamped_wrap
    (fun os started H enc _ => fixClamped_lifted os started H enc)
theorem fixClamped_params : (Tryd.f6.params.toList.all fun u => !Tryd.prog.wantsStandIn u) = true := by kernel_rfl
/-- The statement: the tied card. -/
theorem fixClampedCard_proved : Rows.FixClampedCardSaid :=
  Claim7.holds_tied_plain_at .later [] [.data, .data, .data, .sentinel, .sentinel] true (true, "e387b1f95d599843f134eb38dedea8c5894183c3d27468da72f9ff57c95afa22") true
    fixClamped_over (fun _ h => by cases h) (by kernel_rfl) (fun _ h => by cases h) fixClamped_row_tie rfl ⟨rfl, rfl⟩ (by kernel_rfl) rfl
    (fun f fn hf hfn => by
      obtain rfl : f = 6 := Option.some.inj ((show Tryd.prog.funcNamed "ninepin/ninepinlaw02.FixClamped" = some 6 by kernel_rfl).symm.trans hf) |>.symm
      obtain rfl : fn = Tryd.f6 := (Option.some.inj (Tryd.func6.symm.trans hfn)).symm
      exact ⟨by kernel_rfl, fun j t ht => by
        have hm : t ∈ Tryd.f6.params.toList := by simpa using Array.mem_of_getElem? ht
        exact (show Tryd.prog.wantsStandIn t = false by simpa using List.all_eq_true.1 fixClamped_params t hm)⟩)
    (by kernel_rfl)
end Go.Proofs.YtbdkbmhejoakiaaDoor
