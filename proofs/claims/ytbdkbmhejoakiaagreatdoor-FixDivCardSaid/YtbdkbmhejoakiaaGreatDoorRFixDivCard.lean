/-
  Rows.FixDivCardSaid: quotients, rounded either way, are those of the document.
-/
import Derived.Test.YtbdkbmhejoakiaaGreatDoorLo
import Derived.Test.YtbdkbmhejoakiaaGreatDoorTj
import Derived.Test.YtbdkbmhejoakiaaGreatDoorRows
import Derived.Test.YtbdkbmhejoakiaaGreatDoorCards
import Derived.Test.YtbdkbmhejoakiaaGreatDoorTie
import Derived.ProofKit
import Derived.LaidMore
import Derived.Stop.Joined
import Derived.SevenTiedAt
set_option linter.unusedVariables false
namespace Go.Proofs.YtbdkbmhejoakiaaGreatDoor
open Go Go.ChangeShapes Go.WideShapes Go.ChangeAt Go.RowKit

set_option maxRecDepth 100000
theorem fixDiv_c0 : (Rows.fixDivRow.wf (OpenSpec.ofChange Rows.fixDivSpec)) = true := by kernel_rfl
theorem fixDiv_c1 : (laidOutB Tryz.pinned.checked.prog) = true := by kernel_rfl
theorem fixDiv_c2 : (mapsRowed Tryz.pinned.checked.prog) = true := by kernel_rfl
theorem fixDiv_c3 : (Tryz.f4.params.all (Tryz.pinned.checked.prog.readableRec ·)) = true := by kernel_rfl
theorem fixDiv_c4 : (namedTie Tryz.pinned.checked.prog Rows.fixDivRow.named Rows.fixDivSpec.vars) = true := by kernel_rfl
theorem fixDiv_c5 : ((Rows.fixDivRow.stops == [])) = true := by kernel_rfl
theorem fixDiv_c6 : ((Tryz.pinned.checked.prog.stops == [])) = true := by kernel_rfl
theorem fixDiv_c7 : ((Rows.fixDivRow.knobs == [])) = true := by kernel_rfl
theorem fixDiv_c8 : ((Tryz.pinned.checked.prog.stopKnobs == [])) = true := by kernel_rfl
theorem fixDiv_c9 : ((Rows.fixDivRow.inPlace == Tryz.pinned.checked.prog.inPlace 4)) = true := by kernel_rfl
theorem fixDiv_c10 : ((Rows.fixDivRow.unfollowed == Tryz.pinned.checked.prog.unfollowed 4)) = true := by kernel_rfl
theorem fixDiv_c11 : ((Rows.fixDivRow.recurses == Tryz.pinned.checked.prog.recurses 4)) = true := by kernel_rfl
theorem fixDiv_c12 : ((Rows.fixDivRow.named == Tryz.pinned.checked.prog.varsNamed 4)) = true := by kernel_rfl
theorem fixDiv_c13 : ((Rows.fixDivRow.maps == (Tryz.f4.params.toList ++ Rows.fixDivSpec.plain.varTypes Tryz.pinned.checked.prog).any (Tryz.pinned.checked.prog.mapsRec ·))) = true := by kernel_rfl
theorem fixDiv_c14 : ((Rows.fixDivRow.ifaces == (Tryz.f4.params.toList ++ Rows.fixDivSpec.plain.varTypes Tryz.pinned.checked.prog).any (Tryz.pinned.checked.prog.ifacesRec ·))) = true := by kernel_rfl
theorem fixDiv_c15 : ((Rows.fixDivRow.mapsOut == Tryz.pinned.checked.prog.mapsAmong Tryz.f4.resultTypes.toList)) = true := by kernel_rfl
theorem fixDiv_c16 : ((Rows.fixDivRow.loops == (Tryz.f4.params.toList ++ Rows.fixDivSpec.plain.varTypes Tryz.pinned.checked.prog).any (Tryz.pinned.checked.prog.loopsFrom ·))) = true := by kernel_rfl
theorem fixDiv_c17 : ((Rows.fixDivRow.wideKeys == (Tryz.f4.params.toList ++ Rows.fixDivSpec.plain.varTypes Tryz.pinned.checked.prog ++ Tryz.f4.resultTypes.toList).any (Tryz.pinned.checked.prog.wideKeysFrom ·))) = true := by kernel_rfl
theorem fixDiv_c18 : (Rows.fixDivSpec.vars.all (Tryz.pinned.checked.prog.varReadable ·)) = true := by kernel_rfl
theorem fixDiv_c19 : (Tryz.f4.resultTypes.all (fun t => Tryz.pinned.checked.prog.readableRec t && decide (t < Tryz.pinned.checked.prog.types.size))) = true := by kernel_rfl
theorem fixDiv_c20 : ((Rows.fixDivRow.ifacesOut == Tryz.f4.resultTypes.toList.any (Tryz.pinned.checked.prog.ifacesRec ·))) = true := by kernel_rfl
theorem fixDiv_c21 : ((Rows.fixDivRow.loopsOut == Tryz.f4.resultTypes.toList.any (Tryz.pinned.checked.prog.loopsFrom ·))) = true := by kernel_rfl
theorem fixDiv_c22 : ((Rows.fixDivRow.plainKeys == Tryz.pinned.checked.prog.plainKeys)) = true := by kernel_rfl
theorem fixDiv_c23 : (Rows.fixDivRow.shortTexts.isNone) = true := by kernel_rfl
theorem fixDiv_c24 : (Tryz.pinned.checked.prog.stopsHeard) = true := by kernel_rfl
theorem fixDiv_c25 : (Tryz.pinned.checked.prog.mayEnter) = true := by kernel_rfl
theorem fixDiv_c26 : ((Rows.fixDivRow.lifted == Tryz.pinned.checked.prog.liftsFinal)) = true := by kernel_rfl
theorem fixDiv_c27 : ((Tryz.pinned.checked.prog.make == some Rows.fixDivRow.make)) = true := by kernel_rfl
theorem fixDiv_c28 : ((Rows.fixDivRow.kinds == (if Rows.fixDivRow.domain.isEmpty then [] else Tryz.f4.params.toList.map fun t => match Tryz.pinned.checked.prog.underlying t with | some (.int k) => some k | _ => none))) = true := by kernel_rfl
theorem fixDiv_c29 : ((Rows.fixDivRow.pinned == Rows.fixDivRow.pinnedBy)) = true := by kernel_rfl
theorem fixDiv_c30 : ((Rows.fixDivRow.veiled == (Tryz.f4.params.toList ++ Rows.fixDivSpec.plain.varTypes Tryz.pinned.checked.prog ++ Tryz.f4.resultTypes.toList).any (Tryz.pinned.checked.prog.veiledRec ·))) = true := by kernel_rfl
theorem fixDiv_c31 : (Rows.fixDivRow.veiledFits Tryz.pinned.checked.prog Tryz.f4.params.toList (Tryz.f4.params.toList ++ Rows.fixDivSpec.plain.varTypes Tryz.pinned.checked.prog ++ Tryz.f4.resultTypes.toList)) = true := by kernel_rfl
theorem fixDiv_closed : joinedFacts Tryz.pinned.checked.prog 4 Tryz.f4 Rows.fixDivSpec Rows.fixDivRow = true := by
  unfold joinedFacts
  simp only [Bool.and_eq_true]
  exact ⟨⟨⟨⟨⟨⟨⟨⟨⟨⟨⟨⟨⟨⟨⟨⟨⟨⟨⟨⟨⟨⟨⟨⟨⟨⟨⟨⟨⟨⟨⟨fixDiv_c0, fixDiv_c1⟩, fixDiv_c2⟩, fixDiv_c3⟩, fixDiv_c4⟩, fixDiv_c5⟩, fixDiv_c6⟩, fixDiv_c7⟩, fixDiv_c8⟩, fixDiv_c9⟩, fixDiv_c10⟩, fixDiv_c11⟩, fixDiv_c12⟩, fixDiv_c13⟩, fixDiv_c14⟩, fixDiv_c15⟩, fixDiv_c16⟩, fixDiv_c17⟩, fixDiv_c18⟩, fixDiv_c19⟩, fixDiv_c20⟩, fixDiv_c21⟩, fixDiv_c22⟩, fixDiv_c23⟩, fixDiv_c24⟩, fixDiv_c25⟩, fixDiv_c26⟩, fixDiv_c27⟩, fixDiv_c28⟩, fixDiv_c29⟩, fixDiv_c30⟩, fixDiv_c31⟩
theorem fixDiv_met (os : Os) (args : Array Value) : laidMetH Tryz.prog Rows.fixDivRow.laid ((World.doorLaid Tryz.prog 62 os).forCall (fun _ _ => 0) ⟨#[], args, []⟩).memory :=
  laidMetH_of_parts3 (fuel := 8) (laidMet_of_run' 8 (by kernel_rfl) (by kernel_rfl)) (by kernel_rfl) (by kernel_rfl)
theorem fixDiv_lifted (os : Os) (started : os.Started) (H : Type) (enc : TypeId × Value → H) :
    ReturnsInHanded {} Tryz.checked os 4 .any (fun w args => (Rows.fixDivSpec.pre enc Tryz.prog Tryz.f4 [] false w args ∧ laidMetH Tryz.prog Rows.fixDivRow.laid w) ∧ sizedMet enc Tryz.prog Tryz.f4 (OpenSpec.ofChange Rows.fixDivSpec) false w args) (Rows.fixDivSpec.post enc Tryz.prog Tryz.f4 false true false false) := by
  refine returnsInHanded_of_change_and (C := Tryz.checked) (X := fun w _ => laidMetH Tryz.prog Rows.fixDivRow.laid w) (fun _ _ _ hh h => h.of_heap hh) own started (by kernel_rfl) Tryz.func4
    (ChangeSpec.witness_shaped (enc := enc) (C := Tryz.checked) (os := os) (X := fun w _ => laidMetH Tryz.prog Rows.fixDivRow.laid w) false (World.doorLaid Tryz.prog 62 os) #[.int .i64 0, .int .i64 0] 8 rfl (World.shaped_of_RefB (by kernel_rfl) (by kernel_rfl)) (by kernel_rfl) (by kernel_rfl) (by kernel_rfl) (fixDiv_met os _)) ?_
  intro W base args ds gs before hval0 hW _ _ hL _
  have hval : ∀ (j : Nat) t v, Tryz.f4.params[j]? = some t → args[j]? = some v → Value.okWide Tryz.prog W .any base t v := hval0
  have hW' := hW
  obtain ⟨p, q, hA0, hV, rfl, hfz, hnd⟩ := hW
  have hA : DataW.TrodAll enc Tryz.prog W 0 (fun _ => true) true Tryz.f4.params.toList args.toList ds p := hA0
  rw [Tryz.params4] at hA hval
  obtain ⟨v0, vs0, d0, ds0, p0, q0, hargs, rfl, rfl, h0, r0⟩ := trodAll_cons hA
  obtain ⟨v1, vs1, d1, ds1, p1, q1, rfl, rfl, rfl, h1, r1⟩ := trodAll_cons r0
  obtain ⟨rfl, rfl, rfl⟩ := trodAll_nil r1
  obtain rfl : args = #[v0, v1] := by cases args; simp_all
  obtain ⟨rfl, rfl⟩ := trodVars_none hV
  have k0 := h0
  have k1 := h1
  have lt0 : ∀ x ∈ p0, x.block < W.heap.size := by obtain ⟨m, hm⟩ := k0; exact DataW.trod_lt m _ _ _ hm
  have lt1 : ∀ x ∈ p1, x.block < W.heap.size := by obtain ⟨m, hm⟩ := k1; exact DataW.trod_lt m _ _ _ hm
  obtain ⟨a0, rfl, ha0⟩ := open_fix (hval 0 22 v0 rfl rfl) h0
  obtain ⟨a1, rfl, ha1⟩ := open_fix (hval 1 22 v1 rfl rfl) h1
  clear hA0 hval0
  refine (div_law a0 ha0 a1 ha1 W).mono fun e W' ⟨he, hk⟩ => ?_
  subst he
  have bel := hk.below
  exact ⟨_, rfl, _, _, _, [], _, [], hW', trodAll_mk1 (shut_bool Tryz.underlying4 _), (trodAll_cons_mk (Below.trod laidOut (by kernel_rfl) (of_decide_eq_true (by kernel_rfl)) k0 bel lt0) (trodAll_cons_mk (Below.trod laidOut (by kernel_rfl) (of_decide_eq_true (by kernel_rfl)) k1 bel lt1) trodAll_mk0)), rfl, bel.frame _, fun h => by cases h⟩
theorem fixDiv_named : Tryz.pinned.checked.prog.funcNamed Rows.fixDivRow.func = some 4 := by kernel_rfl
theorem fixDiv_inst : (Tryz.f4).isInstance Tryz.pinned.checked.prog Rows.fixDivRow.origin Rows.fixDivRow.targs := of_decide_eq_true (by kernel_rfl)
theorem fixDiv_wrap : (Tryz.f4).isWrapper Tryz.pinned.checked.prog Rows.fixDivRow.wrapper Rows.fixDivRow.mainSum := by unfold Func.isWrapper; rw [if_neg (of_decide_eq_false (by kernel_rfl))]; exact ⟨rfl, rfl⟩
theorem fixDiv_over : Rows.fixDivRow.holds Tryz.pinned (OpenSpec.ofChange Rows.fixDivSpec) :=
  OpenClaim.holds_of_wide 4 Tryz.f4 rfl rfl rfl rfl rfl rfl rfl ⟨rfl, rfl, rfl, rfl, rfl⟩ rfl rfl rfl rfl rfl fixDiv_named Tryz.func4 fixDiv_closed
    fixDiv_inst fixDiv_wrap
    (fun os started H enc _ => fixDiv_lifted os started H enc)
theorem fixDiv_params : (Tryz.f4.params.toList.all fun u => !Tryz.prog.wantsStandIn u) = true := by kernel_rfl
/-- The statement: the tied card. -/
theorem fixDivCard_proved : Rows.FixDivCardSaid :=
  Claim7.holds_tied_plain_at .later [] [.data, .data, .data, .sentinel, .sentinel] true (true, "ea552127e9a18c403c8dd4ea3126ccfbdf9e72e412a1615461594ab1ddb69430") true
    fixDiv_over (fun _ h => by cases h) (by kernel_rfl) (fun _ h => by cases h) fixDiv_row_tie rfl ⟨rfl, rfl⟩ (by kernel_rfl) rfl
    (fun f fn hf hfn => by
      obtain rfl : f = 4 := Option.some.inj ((show Tryz.prog.funcNamed "ninepin/ninepinlaw02.FixDiv" = some 4 by kernel_rfl).symm.trans hf) |>.symm
      obtain rfl : fn = Tryz.f4 := (Option.some.inj (Tryz.func4.symm.trans hfn)).symm
      exact ⟨by kernel_rfl, fun j t ht => by
        have hm : t ∈ Tryz.f4.params.toList := by simpa using Array.mem_of_getElem? ht
        exact (show Tryz.prog.wantsStandIn t = false by simpa using List.all_eq_true.1 fixDiv_params t hm)⟩)
    (by kernel_rfl)
end Go.Proofs.YtbdkbmhejoakiaaGreatDoor
