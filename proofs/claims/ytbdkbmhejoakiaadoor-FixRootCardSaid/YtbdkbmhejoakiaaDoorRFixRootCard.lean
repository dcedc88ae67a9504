/-
  Rows.FixRootCardSaid: the square of the root is not above the number, and that of the next one is; SqrtUp is the root, or the next one, if it is not whole.
-/
import Derived.Test.YtbdkbmhejoakiaaDoorLo
import Derived.Test.YtbdkbmhejoakiaaDoorTh
import Derived.Test.YtbdkbmhejoakiaaDoorRows
import Derived.Test.YtbdkbmhejoakiaaDoorCards
import Derived.Test.YtbdkbmhejoakiaaDoorTie
import Derived.ProofKit
import Derived.LaidMore
import Derived.Stop.Joined
import Derived.SevenTiedAt
set_option linter.unusedVariables false
namespace Go.Proofs.YtbdkbmhejoakiaaDoor
open Go Go.ChangeShapes Go.WideShapes Go.ChangeAt Go.RowKit

set_option maxRecDepth 100000
theorem fixRoot_c0 : (Rows.fixRootRow.wf (OpenSpec.ofChange Rows.fixRootSpec)) = true := by kernel_rfl
theorem fixRoot_c1 : (laidOutB Tryd.pinned.checked.prog) = true := by kernel_rfl
theorem fixRoot_c2 : (mapsRowed Tryd.pinned.checked.prog) = true := by kernel_rfl
theorem fixRoot_c3 : (Tryd.f8.params.all (Tryd.pinned.checked.prog.readableRec ·)) = true := by kernel_rfl
theorem fixRoot_c4 : (namedTie Tryd.pinned.checked.prog Rows.fixRootRow.named Rows.fixRootSpec.vars) = true := by kernel_rfl
theorem fixRoot_c5 : ((Rows.fixRootRow.stops == [])) = true := by kernel_rfl
theorem fixRoot_c6 : ((Tryd.pinned.checked.prog.stops == [])) = true := by kernel_rfl
theorem fixRoot_c7 : ((Rows.fixRootRow.knobs == [])) = true := by kernel_rfl
theorem fixRoot_c8 : ((Tryd.pinned.checked.prog.stopKnobs == [])) = true := by kernel_rfl
theorem fixRoot_c9 : ((Rows.fixRootRow.inPlace == Tryd.pinned.checked.prog.inPlace 8)) = true := by kernel_rfl
theorem fixRoot_c10 : ((Rows.fixRootRow.unfollowed == Tryd.pinned.checked.prog.unfollowed 8)) = true := by kernel_rfl
theorem fixRoot_c11 : ((Rows.fixRootRow.recurses == Tryd.pinned.checked.prog.recurses 8)) = true := by kernel_rfl
theorem fixRoot_c12 : ((Rows.fixRootRow.named == Tryd.pinned.checked.prog.varsNamed 8)) = true := by kernel_rfl
theorem fixRoot_c13 : ((Rows.fixRootRow.maps == (Tryd.f8.params.toList ++ Rows.fixRootSpec.plain.varTypes Tryd.pinned.checked.prog).any (Tryd.pinned.checked.prog.mapsRec ·))) = true := by kernel_rfl
theorem fixRoot_c14 : ((Rows.fixRootRow.ifaces == (Tryd.f8.params.toList ++ Rows.fixRootSpec.plain.varTypes Tryd.pinned.checked.prog).any (Tryd.pinned.checked.prog.ifacesRec ·))) = true := by kernel_rfl
theorem fixRoot_c15 : ((Rows.fixRootRow.mapsOut == Tryd.pinned.checked.prog.mapsAmong Tryd.f8.resultTypes.toList)) = true := by kernel_rfl
theorem fixRoot_c16 : ((Rows.fixRootRow.loops == (Tryd.f8.params.toList ++ Rows.fixRootSpec.plain.varTypes Tryd.pinned.checked.prog).any (Tryd.pinned.checked.prog.loopsFrom ·))) = true := by kernel_rfl
theorem fixRoot_c17 : ((Rows.fixRootRow.wideKeys == (Tryd.f8.params.toList ++ Rows.fixRootSpec.plain.varTypes Tryd.pinned.checked.prog ++ Tryd.f8.resultTypes.toList).any (Tryd.pinned.checked.prog.wideKeysFrom ·))) = true := by kernel_rfl
theorem fixRoot_c18 : (Rows.fixRootSpec.vars.all (Tryd.pinned.checked.prog.varReadable ·)) = true := by kernel_rfl
theorem fixRoot_c19 : (Tryd.f8.resultTypes.all (fun t => Tryd.pinned.checked.prog.readableRec t && decide (t < Tryd.pinned.checked.prog.types.size))) = true := by kernel_rfl
theorem fixRoot_c20 : ((Rows.fixRootRow.ifacesOut == Tryd.f8.resultTypes.toList.any (Tryd.pinned.checked.prog.ifacesRec ·))) = true := by kernel_rfl
theorem fixRoot_c21 : ((Rows.fixRootRow.loopsOut == Tryd.f8.resultTypes.toList.any (Tryd.pinned.checked.prog.loopsFrom ·))) = true := by kernel_rfl
theorem fixRoot_c22 : ((Rows.fixRootRow.plainKeys == Tryd.pinned.checked.prog.plainKeys)) = true := by kernel_rfl
theorem fixRoot_c23 : (Rows.fixRootRow.shortTexts.isNone) = true := by kernel_rfl
theorem fixRoot_c24 : (Tryd.pinned.checked.prog.stopsHeard) = true := by kernel_rfl
theorem fixRoot_c25 : (Tryd.pinned.checked.prog.mayEnter) = true := by kernel_rfl
theorem fixRoot_c26 : ((Rows.fixRootRow.lifted == Tryd.pinned.checked.prog.liftsFinal)) = true := by kernel_rfl
theorem fixRoot_c27 : ((Tryd.pinned.checked.prog.make == some Rows.fixRootRow.make)) = true := by kernel_rfl
theorem fixRoot_c28 : ((Rows.fixRootRow.kinds == (if Rows.fixRootRow.domain.isEmpty then [] else Tryd.f8.params.toList.map fun t => match Tryd.pinned.checked.prog.underlying t with | some (.int k) => some k | _ => none))) = true := by kernel_rfl
theorem fixRoot_c29 : ((Rows.fixRootRow.pinned == Rows.fixRootRow.pinnedBy)) = true := by kernel_rfl
theorem fixRoot_c30 : ((Rows.fixRootRow.veiled == (Tryd.f8.params.toList ++ Rows.fixRootSpec.plain.varTypes Tryd.pinned.checked.prog ++ Tryd.f8.resultTypes.toList).any (Tryd.pinned.checked.prog.veiledRec ·))) = true := by kernel_rfl
theorem fixRoot_c31 : (Rows.fixRootRow.veiledFits Tryd.pinned.checked.prog Tryd.f8.params.toList (Tryd.f8.params.toList ++ Rows.fixRootSpec.plain.varTypes Tryd.pinned.checked.prog ++ Tryd.f8.resultTypes.toList)) = true := by kernel_rfl
theorem fixRoot_closed : joinedFacts Tryd.pinned.checked.prog 8 Tryd.f8 Rows.fixRootSpec Rows.fixRootRow = true := by
  unfold joinedFacts
  simp only [Bool.and_eq_true]
  exact ⟨⟨⟨⟨⟨⟨⟨⟨⟨⟨⟨⟨⟨⟨⟨⟨⟨⟨⟨⟨⟨⟨⟨⟨⟨⟨⟨⟨⟨⟨⟨fixRoot_c0, fixRoot_c1⟩, fixRoot_c2⟩, fixRoot_c3⟩, fixRoot_c4⟩, fixRoot_c5⟩, fixRoot_c6⟩, fixRoot_c7⟩, fixRoot_c8⟩, fixRoot_c9⟩, fixRoot_c10⟩, fixRoot_c11⟩, fixRoot_c12⟩, fixRoot_c13⟩, fixRoot_c14⟩, fixRoot_c15⟩, fixRoot_c16⟩, fixRoot_c17⟩, fixRoot_c18⟩, fixRoot_c19⟩, fixRoot_c20⟩, fixRoot_c21⟩, fixRoot_c22⟩, fixRoot_c23⟩, fixRoot_c24⟩, fixRoot_c25⟩, fixRoot_c26⟩, fixRoot_c27⟩, fixRoot_c28⟩, fixRoot_c29⟩, fixRoot_c30⟩, fixRoot_c31⟩
theorem fixRoot_met (os : Os) (args : Array Value) : laidMetH Tryd.prog Rows.fixRootRow.laid ((World.doorLaid Tryd.prog 62 os).forCall (fun _ _ => 0) ⟨#[], args, []⟩).memory :=
  laidMetH_of_parts3 (fuel := 8) (laidMet_of_run' 8 (by kernel_rfl) (by kernel_rfl)) (by kernel_rfl) (by kernel_rfl)
theorem fixRoot_lifted (os : Os) (started : os.Started) (H : Type) (enc : TypeId × Value → H) :
    ReturnsInHanded {} Tryd.checked os 8 .any (fun w args => (Rows.fixRootSpec.pre enc Tryd.prog Tryd.f8 [] false w args ∧ laidMetH Tryd.prog Rows.fixRootRow.laid w) ∧ sizedMet enc Tryd.prog Tryd.f8 (OpenSpec.ofChange Rows.fixRootSpec) false w args) (Rows.fixRootSpec.post enc Tryd.prog Tryd.f8 false true false false) := by
  refine returnsInHanded_of_change_and (C := Tryd.checked) (X := fun w _ => laidMetH Tryd.prog Rows.fixRootRow.laid w) (fun _ _ _ hh h => h.of_heap hh) own started (by kernel_rfl) Tryd.func8
    (ChangeSpec.witness_shaped (enc := enc) (C := Tryd.checked) (os := os) (X := fun w _ => laidMetH Tryd.prog Rows.fixRootRow.laid w) false (World.doorLaid Tryd.prog 62 os) #[.int .i64 0] 8 rfl (World.shaped_of_RefB (by kernel_rfl) (by kernel_rfl)) (by kernel_rfl) (by kernel_rfl) (by kernel_rfl) (fixRoot_met os _)) ?_
  intro W base args ds gs before hval0 hW _ _ hL _
  have hval : ∀ (j : Nat) t v, Tryd.f8.params[j]? = some t → args[j]? = some v → Value.okWide Tryd.prog W .any base t v := hval0
  have hW' := hW
  obtain ⟨p, q, hA0, hV, rfl, hfz, hnd⟩ := hW
  have hA : DataW.TrodAll enc Tryd.prog W 0 (fun _ => true) true Tryd.f8.params.toList args.toList ds p := hA0
  rw [Tryd.params8] at hA hval
  obtain ⟨v0, vs0, d0, ds0, p0, q0, hargs, rfl, rfl, h0, r0⟩ := trodAll_cons hA
  obtain ⟨rfl, rfl, rfl⟩ := trodAll_nil r0
  obtain rfl : args = #[v0] := by cases args; simp_all
  obtain ⟨rfl, rfl⟩ := trodVars_none hV
  have k0 := h0
  have lt0 : ∀ x ∈ p0, x.block < W.heap.size := by obtain ⟨m, hm⟩ := k0; exact DataW.trod_lt m _ _ _ hm
  obtain ⟨a0, rfl, ha0⟩ := open_fix (hval 0 22 v0 rfl rfl) h0
  clear hA0 hval0
  refine (root_law a0 ha0 W).mono fun e W' ⟨he, hk⟩ => ?_
  subst he
  have bel := hk.below
  exact ⟨_, rfl, _, _, _, [], _, [], hW', trodAll_mk1 (shut_bool Tryd.underlying4 _), (trodAll_cons_mk (Below.trod laidOut (by kernel_rfl) (of_decide_eq_true (by kernel_rfl)) k0 bel lt0) trodAll_mk0), rfl, bel.frame _, fun h => by cases h⟩
theorem fixRoot_named : Tryd.pinned.checked.prog.funcNamed Rows.fixRootRow.func = some 8 := by kernel_rfl
theorem fixRoot_inst : (Tryd.f8).isInstance Tryd.pinned.checked.prog Rows.fixRootRow.origin Rows.fixRootRow.targs := of_decide_eq_true (by kernel_rfl)
theorem fixRoot_wrap : (Tryd.f8).isWrapper Tryd.pinned.checked.prog Rows.fixRootRow.wrapper Rows.fixRootRow.mainSum := by unfold Func.isWrapper; rw [if_neg (of_decide_eq_false (by kernel_rfl))]; exact ⟨rfl, rfl⟩
theorem fixRoot_over : Rows.fixRootRow.holds Tryd.pinned (OpenSpec.ofChange Rows.fixRootSpec) :=
  OpenClaim.holds_of_wide 8 Tryd.f8 rfl rfl rfl rfl rfl rfl rfl ⟨rfl, rfl, rfl, rfl, rfl⟩ rfl rfl rfl rfl rfl fixRoot_named Tryd.func8 fixRoot_closed
    fixRoot_inst fixRoot_wrap
    (fun os started H enc _ => fixRoot_lifted os started H enc)
theorem fixRoot_params : (Tryd.f8.params.toList.all fun u => !Tryd.prog.wantsStandIn u) = true := by kernel_rfl
/-- The statement: the tied card. -/
theorem fixRootCard_proved : Rows.FixRootCardSaid :=
  Claim7.holds_tied_plain_at .later [] [.data, .data, .data, .sentinel, .sentinel] true (true, "e387b1f95d599843f134eb38dedea8c5894183c3d27468da72f9ff57c95afa22") true
    fixRoot_over (fun _ h => by cases h) (by kernel_rfl) (fun _ h => by cases h) fixRoot_row_tie rfl ⟨rfl, rfl⟩ (by kernel_rfl) rfl
    (fun f fn hf hfn => by
      obtain rfl : f = 8 := Option.some.inj ((show Tryd.prog.funcNamed "ninepin/ninepinlaw02.FixRoot" = some 8 by kernel_rfl).symm.trans hf) |>.symm
      obtain rfl : fn = Tryd.f8 := (Option.some.inj (Tryd.func8.symm.trans hfn)).symm
      exact ⟨by kernel_rfl, fun j t ht => by
        have hm : t ∈ Tryd.f8.params.toList := by simpa using Array.mem_of_getElem? ht
        exact (show Tryd.prog.wantsStandIn t = false by simpa using List.all_eq_true.1 fixRoot_params t hm)⟩)
    (by kernel_rfl)
end Go.Proofs.YtbdkbmhejoakiaaDoor
