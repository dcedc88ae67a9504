/-
  Rows.FixInCardSaid: any wide number by any power of two is brought in, and numbers are clamped and cut, as the document says.
-/
import Derived.Test.YtbdkbmhejoakiaaGreatDoorLo
import Derived.Test.YtbdkbmhejoakiaaGreatDoorLk
import Derived.Test.YtbdkbmhejoakiaaGreatDoorTj
import Derived.Test.YtbdkbmhejoakiaaGreatDoorRows
import Derived.Test.YtbdkbmhejoakiaaGreatDoorCards
import Derived.Test.YtbdkbmhejoakiaaGreatDoorTie
import Derived.ProofKit
import Derived.LaidMore
import Derived.Stop.Joined
import Derived.SevenTiedAt
set_option linter.unusedVariables false
namespace Go.Proofs.YtbdkbmhejoakiaaGreatDoor
open Go Go.ChangeShapes Go.WideShapes Go.ChangeAt Go.RowKit

set_option maxRecDepth 100000
theorem fixIn_c0 : (Rows.fixInRow.wf (OpenSpec.ofChange Rows.fixInSpec)) = true := by kernel_rfl
theorem fixIn_c1 : (laidOutB Tryz.pinned.checked.prog) = true := by kernel_rfl
theorem fixIn_c2 : (mapsRowed Tryz.pinned.checked.prog) = true := by kernel_rfl
theorem fixIn_c3 : (Tryz.f5.params.all (Tryz.pinned.checked.prog.readableRec ·)) = true := by kernel_rfl
theorem fixIn_c4 : (namedTie Tryz.pinned.checked.prog Rows.fixInRow.named Rows.fixInSpec.vars) = true := by kernel_rfl
theorem fixIn_c5 : ((Rows.fixInRow.stops == [])) = true := by kernel_rfl
theorem fixIn_c6 : ((Tryz.pinned.checked.prog.stops == [])) = true := by kernel_rfl
theorem fixIn_c7 : ((Rows.fixInRow.knobs == [])) = true := by kernel_rfl
theorem fixIn_c8 : ((Tryz.pinned.checked.prog.stopKnobs == [])) = true := by kernel_rfl
theorem fixIn_c9 : ((Rows.fixInRow.inPlace == Tryz.pinned.checked.prog.inPlace 5)) = true := by kernel_rfl
theorem fixIn_c10 : ((Rows.fixInRow.unfollowed == Tryz.pinned.checked.prog.unfollowed 5)) = true := by kernel_rfl
theorem fixIn_c11 : ((Rows.fixInRow.recurses == Tryz.pinned.checked.prog.recurses 5)) = true := by kernel_rfl
theorem fixIn_c12 : ((Rows.fixInRow.named == Tryz.pinned.checked.prog.varsNamed 5)) = true := by kernel_rfl
theorem fixIn_c13 : ((Rows.fixInRow.maps == (Tryz.f5.params.toList ++ Rows.fixInSpec.plain.varTypes Tryz.pinned.checked.prog).any (Tryz.pinned.checked.prog.mapsRec ·))) = true := by kernel_rfl
theorem fixIn_c14 : ((Rows.fixInRow.ifaces == (Tryz.f5.params.toList ++ Rows.fixInSpec.plain.varTypes Tryz.pinned.checked.prog).any (Tryz.pinned.checked.prog.ifacesRec ·))) = true := by kernel_rfl
theorem fixIn_c15 : ((Rows.fixInRow.mapsOut == Tryz.pinned.checked.prog.mapsAmong Tryz.f5.resultTypes.toList)) = true := by kernel_rfl
theorem fixIn_c16 : ((Rows.fixInRow.loops == (Tryz.f5.params.toList ++ Rows.fixInSpec.plain.varTypes Tryz.pinned.checked.prog).any (Tryz.pinned.checked.prog.loopsFrom ·))) = true := by kernel_rfl
theorem fixIn_c17 : ((Rows.fixInRow.wideKeys == (Tryz.f5.params.toList ++ Rows.fixInSpec.plain.varTypes Tryz.pinned.checked.prog ++ Tryz.f5.resultTypes.toList).any (Tryz.pinned.checked.prog.wideKeysFrom ·))) = true := by kernel_rfl
theorem fixIn_c18 : (Rows.fixInSpec.vars.all (Tryz.pinned.checked.prog.varReadable ·)) = true := by kernel_rfl
theorem fixIn_c19 : (Tryz.f5.resultTypes.all (fun t => Tryz.pinned.checked.prog.readableRec t && decide (t < Tryz.pinned.checked.prog.types.size))) = true := by kernel_rfl
theorem fixIn_c20 : ((Rows.fixInRow.ifacesOut == Tryz.f5.resultTypes.toList.any (Tryz.pinned.checked.prog.ifacesRec ·))) = true := by kernel_rfl
theorem fixIn_c21 : ((Rows.fixInRow.loopsOut == Tryz.f5.resultTypes.toList.any (Tryz.pinned.checked.prog.loopsFrom ·))) = true := by kernel_rfl
theorem fixIn_c22 : ((Rows.fixInRow.plainKeys == Tryz.pinned.checked.prog.plainKeys)) = true := by kernel_rfl
theorem fixIn_c23 : (Rows.fixInRow.shortTexts.isNone) = true := by kernel_rfl
theorem fixIn_c24 : (Tryz.pinned.checked.prog.stopsHeard) = true := by kernel_rfl
theorem fixIn_c25 : (Tryz.pinned.checked.prog.mayEnter) = true := by kernel_rfl
theorem fixIn_c26 : ((Rows.fixInRow.lifted == Tryz.pinned.checked.prog.liftsFinal)) = true := by kernel_rfl
theorem fixIn_c27 : ((Tryz.pinned.checked.prog.make == some Rows.fixInRow.make)) = true := by kernel_rfl
theorem fixIn_c28 : ((Rows.fixInRow.kinds == (if Rows.fixInRow.domain.isEmpty then [] else Tryz.f5.params.toList.map fun t => match Tryz.pinned.checked.prog.underlying t with | some (.int k) => some k | _ => none))) = true := by kernel_rfl
theorem fixIn_c29 : ((Rows.fixInRow.pinned == Rows.fixInRow.pinnedBy)) = true := by kernel_rfl
theorem fixIn_c30 : ((Rows.fixInRow.veiled == (Tryz.f5.params.toList ++ Rows.fixInSpec.plain.varTypes Tryz.pinned.checked.prog ++ Tryz.f5.resultTypes.toList).any (Tryz.pinned.checked.prog.veiledRec ·))) = true := by kernel_rfl
theorem fixIn_c31 : (Rows.fixInRow.veiledFits Tryz.pinned.checked.prog Tryz.f5.params.toList (Tryz.f5.params.toList ++ Rows.fixInSpec.plain.varTypes Tryz.pinned.checked.prog ++ Tryz.f5.resultTypes.toList)) = true := by kernel_rfl
theorem fixIn_closed : joinedFacts Tryz.pinned.checked.prog 5 Tryz.f5 Rows.fixInSpec Rows.fixInRow = true := by
  unfold joinedFacts
  simp only [Bool.and_eq_true]
  exact ⟨⟨⟨⟨⟨⟨⟨⟨⟨⟨⟨⟨⟨⟨⟨⟨⟨⟨⟨⟨⟨⟨⟨⟨⟨⟨⟨⟨⟨⟨⟨fixIn_c0, fixIn_c1⟩, fixIn_c2⟩, fixIn_c3⟩, fixIn_c4⟩, fixIn_c5⟩, fixIn_c6⟩, fixIn_c7⟩, fixIn_c8⟩, fixIn_c9⟩, fixIn_c10⟩, fixIn_c11⟩, fixIn_c12⟩, fixIn_c13⟩, fixIn_c14⟩, fixIn_c15⟩, fixIn_c16⟩, fixIn_c17⟩, fixIn_c18⟩, fixIn_c19⟩, fixIn_c20⟩, fixIn_c21⟩, fixIn_c22⟩, fixIn_c23⟩, fixIn_c24⟩, fixIn_c25⟩, fixIn_c26⟩, fixIn_c27⟩, fixIn_c28⟩, fixIn_c29⟩, fixIn_c30⟩, fixIn_c31⟩
theorem fixIn_met (os : Os) (args : Array Value) : laidMetH Tryz.prog Rows.fixInRow.laid ((World.doorLaid Tryz.prog 62 os).forCall (fun _ _ => 0) ⟨#[], args, []⟩).memory :=
  laidMetH_of_parts3 (fuel := 8) (laidMet_of_run' 8 (by kernel_rfl) (by kernel_rfl)) (by kernel_rfl) (by kernel_rfl)
theorem fixIn_lifted (os : Os) (started : os.Started) (H : Type) (enc : TypeId × Value → H) :
    ReturnsInHanded {} Tryz.checked os 5 .any (fun w args => (Rows.fixInSpec.pre enc Tryz.prog Tryz.f5 [] false w args ∧ laidMetH Tryz.prog Rows.fixInRow.laid w) ∧ sizedMet enc Tryz.prog Tryz.f5 (OpenSpec.ofChange Rows.fixInSpec) false w args) (Rows.fixInSpec.post enc Tryz.prog Tryz.f5 false true false false) := by
  refine returnsInHanded_of_change_and (C := Tryz.checked) (X := fun w _ => laidMetH Tryz.prog Rows.fixInRow.laid w) (fun _ _ _ hh h => h.of_heap hh) own started (by kernel_rfl) Tryz.func5
    (ChangeSpec.witness_shaped (enc := enc) (C := Tryz.checked) (os := os) (X := fun w _ => laidMetH Tryz.prog Rows.fixInRow.laid w) false (World.doorLaid Tryz.prog 62 os) #[.agg #[.int .u64 0, .int .u64 0, .int .u64 0, .int .u64 0, .int .u64 0, .int .u64 0, .int .u64 0, .int .u64 0], .int .i64 0, .int .i64 0, .int .i64 0, .int .i64 0] 8 rfl (World.shaped_of_RefB (by kernel_rfl) (by kernel_rfl)) (by kernel_rfl) (by kernel_rfl) (by kernel_rfl) (fixIn_met os _)) ?_
  intro W base args ds gs before hval0 hW _ _ hL _
  have hval : ∀ (j : Nat) t v, Tryz.f5.params[j]? = some t → args[j]? = some v → Value.okWide Tryz.prog W .any base t v := hval0
  have hW' := hW
  obtain ⟨p, q, hA0, hV, rfl, hfz, hnd⟩ := hW
  have hA : DataW.TrodAll enc Tryz.prog W 0 (fun _ => true) true Tryz.f5.params.toList args.toList ds p := hA0
  rw [Tryz.params5] at hA hval
  obtain ⟨v0, vs0, d0, ds0, p0, q0, hargs, rfl, rfl, h0, r0⟩ := trodAll_cons hA
  obtain ⟨v1, vs1, d1, ds1, p1, q1, rfl, rfl, rfl, h1, r1⟩ := trodAll_cons r0
  obtain ⟨v2, vs2, d2, ds2, p2, q2, rfl, rfl, rfl, h2, r2⟩ := trodAll_cons r1
  obtain ⟨v3, vs3, d3, ds3, p3, q3, rfl, rfl, rfl, h3, r3⟩ := trodAll_cons r2
  obtain ⟨v4, vs4, d4, ds4, p4, q4, rfl, rfl, rfl, h4, r4⟩ := trodAll_cons r3
  obtain ⟨rfl, rfl, rfl⟩ := trodAll_nil r4
  obtain rfl : args = #[v0, v1, v2, v3, v4] := by cases args; simp_all
  obtain ⟨rfl, rfl⟩ := trodVars_none hV
  have k0 := h0
  have k1 := h1
  have k2 := h2
  have k3 := h3
  have k4 := h4
  have lt0 : ∀ x ∈ p0, x.block < W.heap.size := by obtain ⟨m, hm⟩ := k0; exact DataW.trod_lt m _ _ _ hm
  have lt1 : ∀ x ∈ p1, x.block < W.heap.size := by obtain ⟨m, hm⟩ := k1; exact DataW.trod_lt m _ _ _ hm
  have lt2 : ∀ x ∈ p2, x.block < W.heap.size := by obtain ⟨m, hm⟩ := k2; exact DataW.trod_lt m _ _ _ hm
  have lt3 : ∀ x ∈ p3, x.block < W.heap.size := by obtain ⟨m, hm⟩ := k3; exact DataW.trod_lt m _ _ _ hm
  have lt4 : ∀ x ∈ p4, x.block < W.heap.size := by obtain ⟨m, hm⟩ := k4; exact DataW.trod_lt m _ _ _ hm
  obtain ⟨a0, rfl, ha0⟩ := open_wide (hval 0 30 v0 rfl rfl) h0
  obtain ⟨a1, rfl, ha1⟩ := open_idx (hval 1 3 v1 rfl rfl) h1
  obtain ⟨a2, rfl, ha2⟩ := open_fix (hval 2 22 v2 rfl rfl) h2
  obtain ⟨a3, rfl, ha3⟩ := open_fix (hval 3 22 v3 rfl rfl) h3
  obtain ⟨a4, rfl, ha4⟩ := open_fix (hval 4 22 v4 rfl rfl) h4
  clear hA0 hval0
  refine (in_law a0 ha0 a1 ha1 a2 ha2 a3 ha3 a4 ha4 W).mono fun e W' ⟨he, hk⟩ => ?_
  subst he
  have bel := hk.below
  exact ⟨_, rfl, _, _, _, [], _, [], hW', trodAll_mk1 (shut_bool Tryz.underlying4 _), (trodAll_cons_mk (Below.trod laidOut (by kernel_rfl) (of_decide_eq_true (by kernel_rfl)) k0 bel lt0) (trodAll_cons_mk (Below.trod laidOut (by kernel_rfl) (of_decide_eq_true (by kernel_rfl)) k1 bel lt1) (trodAll_cons_mk (Below.trod laidOut (by kernel_rfl) (of_decide_eq_true (by kernel_rfl)) k2 bel lt2) (trodAll_cons_mk (Below.trod laidOut (by kernel_rfl) (of_decide_eq_true (by kernel_rfl)) k3 bel lt3) (trodAll_cons_mk (Below.trod laidOut (by kernel_rfl) (of_decide_eq_true (by kernel_rfl)) k4 bel lt4) trodAll_mk0))))), rfl, bel.frame _, fun h => by cases h⟩
theorem fixIn_named : Tryz.pinned.checked.prog.funcNamed Rows.fixInRow.func = some 5 := by kernel_rfl
theorem fixIn_inst : (Tryz.f5).isInstance Tryz.pinned.checked.prog Rows.fixInRow.origin Rows.fixInRow.targs := of_decide_eq_true (by kernel_rfl)
theorem fixIn_wrap : (Tryz.f5).isWrapper Tryz.pinned.checked.prog Rows.fixInRow.wrapper Rows.fixInRow.mainSum := by unfold Func.isWrapper; rw [if_neg (of_decide_eq_false (by kernel_rfl))]; exact ⟨rfl, rfl⟩
theorem fixIn_over : Rows.fixInRow.holds Tryz.pinned (OpenSpec.ofChange Rows.fixInSpec) :=
  OpenClaim.holds_of_wide 5 Tryz.f5 rfl rfl rfl rfl rfl rfl rfl ⟨rfl, rfl, rfl, rfl, rfl⟩ rfl rfl rfl rfl rfl fixIn_named Tryz.func5 fixIn_closed
    fixIn_inst fixIn_wrap
    (fun os started H enc _ => fixIn_lifted os started H enc)
theorem fixIn_params : (Tryz.f5.params.toList.all fun u => !Tryz.prog.wantsStandIn u) = true := by kernel_rfl
/-- The statement: the tied card. -/
theorem fixInCard_proved : Rows.FixInCardSaid :=
  Claim7.holds_tied_plain_at .later [] [.data, .data, .data, .sentinel, .sentinel] true (true, "ea552127e9a18c403c8dd4ea3126ccfbdf9e72e412a1615461594ab1ddb69430") true
    fixIn_over (fun _ h => by cases h) (by kernel_rfl) (fun _ h => by cases h) fixIn_row_tie rfl ⟨rfl, rfl⟩ (by kernel_rfl) rfl
    (fun f fn hf hfn => by
      obtain rfl : f = 5 := Option.some.inj ((show Tryz.prog.funcNamed "ninepin/ninepinlaw02.FixIn" = some 5 by kernel_rfl).symm.trans hf) |>.symm
      obtain rfl : fn = Tryz.f5 := (Option.some.inj (Tryz.func5.symm.trans hfn)).symm
      exact ⟨by kernel_rfl, fun j t ht => by
        have hm : t ∈ Tryz.f5.params.toList := by simpa using Array.mem_of_getElem? ht
        exact (show Tryz.prog.wantsStandIn t = false by simpa using List.all_eq_true.1 fixIn_params t hm)⟩)
    (by kernel_rfl)
end Go.Proofs.YtbdkbmhejoakiaaGreatDoor
