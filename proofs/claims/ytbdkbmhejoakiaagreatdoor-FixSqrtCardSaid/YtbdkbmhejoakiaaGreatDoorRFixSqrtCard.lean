/-
  Rows.FixSqrtCardSaid: roots, rounded either way, are those of the document.
-/
import Derived.Test.YtbdkbmhejoakiaaGreatDoorLo
import Derived.Test.YtbdkbmhejoakiaaGreatDoorTj
import Derived.Test.YtbdkbmhejoakiaaGreatDoorRows
import Derived.Test.YtbdkbmhejoakiaaGreatDoorCards
import Derived.Test.YtbdkbmhejoakiaaGreatDoorTie
import Derived.ProofKit
import Derived.LaidMore
import Derived.Stop.Joined
import Derived.SevenTiedAt
set_option linter.unusedVariables false
namespace Go.Proofs.YtbdkbmhejoakiaaGreatDoor
open Go Go.ChangeShapes Go.WideShapes Go.ChangeAt Go.RowKit

set_option maxRecDepth 100000
theorem fixSqrt_c0 : (Rows.fixSqrtRow.wf (OpenSpec.ofChange Rows.fixSqrtSpec)) = true := by kernel_rfl
theorem fixSqrt_c1 : (laidOutB Tryz.pinned.checked.prog) = true := by kernel_rfl
theorem fixSqrt_c2 : (mapsRowed Tryz.pinned.checked.prog) = true := by kernel_rfl
theorem fixSqrt_c3 : (Tryz.f7.params.all (Tryz.pinned.checked.prog.readableRec ·)) = true := by kernel_rfl
theorem fixSqrt_c4 : (namedTie Tryz.pinned.checked.prog Rows.fixSqrtRow.named Rows.fixSqrtSpec.vars) = true := by kernel_rfl
theorem fixSqrt_c5 : ((Rows.fixSqrtRow.stops == [])) = true := by kernel_rfl
theorem fixSqrt_c6 : ((Tryz.pinned.checked.prog.stops == [])) = true := by kernel_rfl
theorem fixSqrt_c7 : ((Rows.fixSqrtRow.knobs == [])) = true := by kernel_rfl
theorem fixSqrt_c8 : ((Tryz.pinned.checked.prog.stopKnobs == [])) = true := by kernel_rfl
theorem fixSqrt_c9 : ((Rows.fixSqrtRow.inPlace == Tryz.pinned.checked.prog.inPlace 7)) = true := by kernel_rfl
theorem fixSqrt_c10 : ((Rows.fixSqrtRow.unfollowed == Tryz.pinned.checked.prog.unfollowed 7)) = true := by kernel_rfl
theorem fixSqrt_c11 : ((Rows.fixSqrtRow.recurses == Tryz.pinned.checked.prog.recurses 7)) = true := by kernel_rfl
theorem fixSqrt_c12 : ((Rows.fixSqrtRow.named == Tryz.pinned.checked.prog.varsNamed 7)) = true := by kernel_rfl
theorem fixSqrt_c13 : ((Rows.fixSqrtRow.maps == (Tryz.f7.params.toList ++ Rows.fixSqrtSpec.plain.varTypes Tryz.pinned.checked.prog).any (Tryz.pinned.checked.prog.mapsRec ·))) = true := by kernel_rfl
theorem fixSqrt_c14 : ((Rows.fixSqrtRow.ifaces == (Tryz.f7.params.toList ++ Rows.fixSqrtSpec.plain.varTypes Tryz.pinned.checked.prog).any (Tryz.pinned.checked.prog.ifacesRec ·))) = true := by kernel_rfl
theorem fixSqrt_c15 : ((Rows.fixSqrtRow.mapsOut == Tryz.pinned.checked.prog.mapsAmong Tryz.f7.resultTypes.toList)) = true := by kernel_rfl
theorem fixSqrt_c16 : ((Rows.fixSqrtRow.loops == (Tryz.f7.params.toList ++ Rows.fixSqrtSpec.plain.varTypes Tryz.pinned.checked.prog).any (Tryz.pinned.checked.prog.loopsFrom ·))) = true := by kernel_rfl
theorem fixSqrt_c17 : ((Rows.fixSqrtRow.wideKeys == (Tryz.f7.params.toList ++ Rows.fixSqrtSpec.plain.varTypes Tryz.pinned.checked.prog ++ Tryz.f7.resultTypes.toList).any (Tryz.pinned.checked.prog.wideKeysFrom ·))) = true := by kernel_rfl
theorem fixSqrt_c18 : (Rows.fixSqrtSpec.vars.all (Tryz.pinned.checked.prog.varReadable ·)) = true := by kernel_rfl
theorem fixSqrt_c19 : (Tryz.f7.resultTypes.all (fun t => Tryz.pinned.checked.prog.readableRec t && decide (t < Tryz.pinned.checked.prog.types.size))) = true := by kernel_rfl
theorem fixSqrt_c20 : ((Rows.fixSqrtRow.ifacesOut == Tryz.f7.resultTypes.toList.any (Tryz.pinned.checked.prog.ifacesRec ·))) = true := by kernel_rfl
theorem fixSqrt_c21 : ((Rows.fixSqrtRow.loopsOut == Tryz.f7.resultTypes.toList.any (Tryz.pinned.checked.prog.loopsFrom ·))) = true := by kernel_rfl
theorem fixSqrt_c22 : ((Rows.fixSqrtRow.plainKeys == Tryz.pinned.checked.prog.plainKeys)) = true := by kernel_rfl
theorem fixSqrt_c23 : (Rows.fixSqrtRow.shortTexts.isNone) = true := by kernel_rfl
theorem fixSqrt_c24 : (Tryz.pinned.checked.prog.stopsHeard) = true := by kernel_rfl
theorem fixSqrt_c25 : (Tryz.pinned.checked.prog.mayEnter) = true := by kernel_rfl
theorem fixSqrt_c26 : ((Rows.fixSqrtRow.lifted == Tryz.pinned.checked.prog.liftsFinal)) = true := by kernel_rfl
theorem fixSqrt_c27 : ((Tryz.pinned.checked.prog.make == some Rows.fixSqrtRow.make)) = true := by kernel_rfl
theorem fixSqrt_c28 : ((Rows.fixSqrtRow.kinds == (if Rows.fixSqrtRow.domain.isEmpty then [] else Tryz.f7.params.toList.map fun t => match Tryz.pinned.checked.prog.underlying t with | some (.int k) => some k | _ => none))) = true := by kernel_rfl
theorem fixSqrt_c29 : ((Rows.fixSqrtRow.pinned == Rows.fixSqrtRow.pinnedBy)) = true := by kernel_rfl
theorem fixSqrt_c30 : ((Rows.fixSqrtRow.veiled == (Tryz.f7.params.toList ++ Rows.fixSqrtSpec.plain.varTypes Tryz.pinned.checked.prog ++ Tryz.f7.resultTypes.toList).any (Tryz.pinned.checked.prog.veiledRec ·))) = true := by kernel_rfl
theorem fixSqrt_c31 : (Rows.fixSqrtRow.veiledFits Tryz.pinned.checked.prog Tryz.f7.params.toList (Tryz.f7.params.toList ++ Rows.fixSqrtSpec.plain.varTypes Tryz.pinned.checked.prog ++ Tryz.f7.resultTypes.toList)) = true := by kernel_rfl
theorem fixSqrt_closed : joinedFacts Tryz.pinned.checked.prog 7 Tryz.f7 Rows.fixSqrtSpec Rows.fixSqrtRow = true := by
  unfold joinedFacts
  simp only [Bool.and_eq_true]
  exact ⟨⟨⟨⟨⟨⟨⟨⟨⟨⟨⟨⟨⟨⟨⟨⟨⟨⟨⟨⟨⟨⟨⟨⟨⟨⟨⟨⟨⟨⟨⟨fixSqrt_c0, fixSqrt_c1⟩, fixSqrt_c2⟩, fixSqrt_c3⟩, fixSqrt_c4⟩, fixSqrt_c5⟩, fixSqrt_c6⟩, fixSqrt_c7⟩, fixSqrt_c8⟩, fixSqrt_c9⟩, fixSqrt_c10⟩, fixSqrt_c11⟩, fixSqrt_c12⟩, fixSqrt_c13⟩, fixSqrt_c14⟩, fixSqrt_c15⟩, fixSqrt_c16⟩, fixSqrt_c17⟩, fixSqrt_c18⟩, fixSqrt_c19⟩, fixSqrt_c20⟩, fixSqrt_c21⟩, fixSqrt_c22⟩, fixSqrt_c23⟩, fixSqrt_c24⟩, fixSqrt_c25⟩, fixSqrt_c26⟩, fixSqrt_c27⟩, fixSqrt_c28⟩, fixSqrt_c29⟩, fixSqrt_c30⟩, fixSqrt_c31⟩
theorem fixSqrt_met (os : Os) (args : Array Value) : laidMetH Tryz.prog Rows.fixSqrtRow.laid ((World.doorLaid Tryz.prog 62 os).forCall (fun _ _ => 0) ⟨#[], args, []⟩).memory :=
  laidMetH_of_parts3 (fuel := 8) (laidMet_of_run' 8 (by kernel_rfl) (by kernel_rfl)) (by kernel_rfl) (by kernel_rfl)
theorem fixSqrt_lifted (os : Os) (started : os.Started) (H : Type) (enc : TypeId × Value → H) :
    ReturnsInHanded {} Tryz.checked os 7 .any (fun w args => (Rows.fixSqrtSpec.pre enc Tryz.prog Tryz.f7 [] false w args ∧ laidMetH Tryz.prog Rows.fixSqrtRow.laid w) ∧ sizedMet enc Tryz.prog Tryz.f7 (OpenSpec.ofChange Rows.fixSqrtSpec) false w args) (Rows.fixSqrtSpec.post enc Tryz.prog Tryz.f7 false true false false) := by
  refine returnsInHanded_of_change_and (C := Tryz.checked) (X := fun w _ => laidMetH Tryz.prog Rows.fixSqrtRow.laid w) (fun _ _ _ hh h => h.of_heap hh) own started (by kernel_rfl) Tryz.func7
    (ChangeSpec.witness_shaped (enc := enc) (C := Tryz.checked) (os := os) (X := fun w _ => laidMetH Tryz.prog Rows.fixSqrtRow.laid w) false (World.doorLaid Tryz.prog 62 os) #[.int .i64 0] 8 rfl (World.shaped_of_RefB (by kernel_rfl) (by kernel_rfl)) (by kernel_rfl) (by kernel_rfl) (by kernel_rfl) (fixSqrt_met os _)) ?_
  intro W base args ds gs before hval0 hW _ _ hL _
  have hval : ∀ (j : Nat) t v, Tryz.f7.params[j]? = some t → args[j]? = some v → Value.okWide Tryz.prog W .any base t v := hval0
  have hW' := hW
  obtain ⟨p, q, hA0, hV, rfl, hfz, hnd⟩ := hW
  have hA : DataW.TrodAll enc Tryz.prog W 0 (fun _ => true) true Tryz.f7.params.toList args.toList ds p := hA0
  rw [Tryz.params7] at hA hval
  obtain ⟨v0, vs0, d0, ds0, p0, q0, hargs, rfl, rfl, h0, r0⟩ := trodAll_cons hA
  obtain ⟨rfl, rfl, rfl⟩ := trodAll_nil r0
  obtain rfl : args = #[v0] := by cases args; simp_all
  obtain ⟨rfl, rfl⟩ := trodVars_none hV
  have k0 := h0
  have lt0 : ∀ x ∈ p0, x.block < W.heap.size := by obtain ⟨m, hm⟩ := k0; exact DataW.trod_lt m _ _ _ hm
  obtain ⟨a0, rfl, ha0⟩ := open_fix (hval 0 22 v0 rfl rfl) h0
  clear hA0 hval0
  refine (sqrt_law a0 ha0 W).mono fun e W' ⟨he, hk⟩ => ?_
  subst he
  have bel := hk.below
  exact ⟨_, rfl, _, _, _, [], _, [], hW', trodAll_mk1 (shut_bool Tryz.underlying4 _), (trodAll_cons_mk (Below.trod laidOut (by kernel_rfl) (of_decide_eq_true (by kernel_rfl)) k0 bel lt0) trodAll_mk0), rfl, bel.frame _, fun h => by cases h⟩
theorem fixSqrt_named : Tryz.pinned.checked.prog.funcNamed Rows.fixSqrtRow.func = some 7 := by kernel_rfl
theorem fixSqrt_inst : (Tryz.f7).isInstance Tryz.pinned.checked.prog Rows.fixSqrtRow.origin Rows.fixSqrtRow.targs := of_decide_eq_true (by kernel_rfl)
theorem fixSqrt_wrap : (Tryz.f7).isWrapper Tryz.pinned.checked.prog Rows.fixSqrtRow.wrapper Rows.fixSqrtRow.mainSum := by unfold Func.isWrapper; rw [if_neg (of_decide_eq_false (by kernel_rfl))]; exact ⟨rfl, rfl⟩
theorem fixSqrt_over : Rows.fixSqrtRow.holds Tryz.pinned (OpenSpec.ofChange Rows.fixSqrtSpec) :=
  OpenClaim.holds_of_wide 7 Tryz.f7 rfl rfl rfl rfl rfl rfl rfl ⟨rfl, rfl, rfl, rfl, rfl⟩ rfl rfl rfl rfl rfl fixSqrt_named Tryz.func7 fixSqrt_closed
    fixSqrt_inst fixSqrt_wrap
    (fun os started H enc _ => fixSqrt_lifted os started H enc)
theorem fixSqrt_params : (Tryz.f7.params.toList.all fun u => !Tryz.prog.wantsStandIn u) = true := by kernel_rfl
/-- The statement: the tied card. -/
theorem fixSqrtCard_proved : Rows.FixSqrtCardSaid :=
  Claim7.holds_tied_plain_at .later [] [.data, .data, .data, .sentinel, .sentinel] true (true, "ea552127e9a18c403c8dd4ea3126ccfbdf9e72e412a1615461594ab1ddb69430") true
    fixSqrt_over (fun _ h => by cases h) (by kernel_rfl) (fun _ h => by cases h) fixSqrt_row_tie rfl ⟨rfl, rfl⟩ (by kernel_rfl) rfl
    (fun f fn hf hfn => by
      obtain rfl : f = 7 := Option.some.inj ((show Tryz.prog.funcNamed "ninepin/ninepinlaw02.FixSqrt" = some 7 by kernel_rfl).symm.trans hf) |>.symm
      obtain rfl : fn = Tryz.f7 := (Option.some.inj (Tryz.func7.symm.trans hfn)).symm
      exact ⟨by kernel_rfl, fun j t ht => by
        have hm : t ∈ Tryz.f7.params.toList := by simpa using Array.mem_of_getElem? ht
        exact (show Tryz.prog.wantsStandIn t = false by simpa using List.all_eq_true.1 fixSqrt_params t hm)⟩)
    (by kernel_rfl)
end Go.Proofs.YtbdkbmhejoakiaaGreatDoor
