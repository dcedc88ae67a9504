/-
  Rows.FixSumsCardSaid: whole numbers, sums and differences are those of the document.
-/
import Derived.Test.YtbdkbmhejoakiaaGreatDoorLo
import Derived.Test.YtbdkbmhejoakiaaGreatDoorTj
import Derived.Test.YtbdkbmhejoakiaaGreatDoorRows
import Derived.Test.YtbdkbmhejoakiaaGreatDoorCards
import Derived.Test.YtbdkbmhejoakiaaGreatDoorTie
import Derived.ProofKit
import Derived.LaidMore
import Derived.Stop.Joined
import Derived.SevenTiedAt
set_option linter.unusedVariables false
namespace Go.Proofs.YtbdkbmhejoakiaaGreatDoor
open Go Go.ChangeShapes Go.WideShapes Go.ChangeAt Go.RowKit

set_option maxRecDepth 100000
theorem fixSums_c0 : (Rows.fixSumsRow.wf (OpenSpec.ofChange Rows.fixSumsSpec)) = true := by kernel_rfl
theorem fixSums_c1 : (laidOutB Tryz.pinned.checked.prog) = true := by kernel_rfl
theorem fixSums_c2 : (mapsRowed Tryz.pinned.checked.prog) = true := by kernel_rfl
theorem fixSums_c3 : (Tryz.f6.params.all (Tryz.pinned.checked.prog.readableRec ·)) = true := by kernel_rfl
theorem fixSums_c4 : (namedTie Tryz.pinned.checked.prog Rows.fixSumsRow.named Rows.fixSumsSpec.vars) = true := by kernel_rfl
theorem fixSums_c5 : ((Rows.fixSumsRow.stops == [])) = true := by kernel_rfl
theorem fixSums_c6 : ((Tryz.pinned.checked.prog.stops == [])) = true := by kernel_rfl
theorem fixSums_c7 : ((Rows.fixSumsRow.knobs == [])) = true := by kernel_rfl
theorem fixSums_c8 : ((Tryz.pinned.checked.prog.stopKnobs == [])) = true := by kernel_rfl
theorem fixSums_c9 : ((Rows.fixSumsRow.inPlace == Tryz.pinned.checked.prog.inPlace 6)) = true := by kernel_rfl
theorem fixSums_c10 : ((Rows.fixSumsRow.unfollowed == Tryz.pinned.checked.prog.unfollowed 6)) = true := by kernel_rfl
theorem fixSums_c11 : ((Rows.fixSumsRow.recurses == Tryz.pinned.checked.prog.recurses 6)) = true := by kernel_rfl
theorem fixSums_c12 : ((Rows.fixSumsRow.named == Tryz.pinned.checked.prog.varsNamed 6)) = true := by kernel_rfl
theorem fixSums_c13 : ((Rows.fixSumsRow.maps == (Tryz.f6.params.toList ++ Rows.fixSumsSpec.plain.varTypes Tryz.pinned.checked.prog).any (Tryz.pinned.checked.prog.mapsRec ·))) = true := by kernel_rfl
theorem fixSums_c14 : ((Rows.fixSumsRow.ifaces == (Tryz.f6.params.toList ++ Rows.fixSumsSpec.plain.varTypes Tryz.pinned.checked.prog).any (Tryz.pinned.checked.prog.ifacesRec ·))) = true := by kernel_rfl
theorem fixSums_c15 : ((Rows.fixSumsRow.mapsOut == Tryz.pinned.checked.prog.mapsAmong Tryz.f6.resultTypes.toList)) = true := by kernel_rfl
theorem fixSums_c16 : ((Rows.fixSumsRow.loops == (Tryz.f6.params.toList ++ Rows.fixSumsSpec.plain.varTypes Tryz.pinned.checked.prog).any (Tryz.pinned.checked.prog.loopsFrom ·))) = true := by kernel_rfl
theorem fixSums_c17 : ((Rows.fixSumsRow.wideKeys == (Tryz.f6.params.toList ++ Rows.fixSumsSpec.plain.varTypes Tryz.pinned.checked.prog ++ Tryz.f6.resultTypes.toList).any (Tryz.pinned.checked.prog.wideKeysFrom ·))) = true := by kernel_rfl
theorem fixSums_c18 : (Rows.fixSumsSpec.vars.all (Tryz.pinned.checked.prog.varReadable ·)) = true := by kernel_rfl
theorem fixSums_c19 : (Tryz.f6.resultTypes.all (fun t => Tryz.pinned.checked.prog.readableRec t && decide (t < Tryz.pinned.checked.prog.types.size))) = true := by kernel_rfl
theorem fixSums_c20 : ((Rows.fixSumsRow.ifacesOut == Tryz.f6.resultTypes.toList.any (Tryz.pinned.checked.prog.ifacesRec ·))) = true := by kernel_rfl
theorem fixSums_c21 : ((Rows.fixSumsRow.loopsOut == Tryz.f6.resultTypes.toList.any (Tryz.pinned.checked.prog.loopsFrom ·))) = true := by kernel_rfl
theorem fixSums_c22 : ((Rows.fixSumsRow.plainKeys == Tryz.pinned.checked.prog.plainKeys)) = true := by kernel_rfl
theorem fixSums_c23 : (Rows.fixSumsRow.shortTexts.isNone) = true := by kernel_rfl
theorem fixSums_c24 : (Tryz.pinned.checked.prog.stopsHeard) = true := by kernel_rfl
theorem fixSums_c25 : (Tryz.pinned.checked.prog.mayEnter) = true := by kernel_rfl
theorem fixSums_c26 : ((Rows.fixSumsRow.lifted == Tryz.pinned.checked.prog.liftsFinal)) = true := by kernel_rfl
theorem fixSums_c27 : ((Tryz.pinned.checked.prog.make == some Rows.fixSumsRow.make)) = true := by kernel_rfl
theorem fixSums_c28 : ((Rows.fixSumsRow.kinds == (if Rows.fixSumsRow.domain.isEmpty then [] else Tryz.f6.params.toList.map fun t => match Tryz.pinned.checked.prog.underlying t with | some (.int k) => some k | _ => none))) = true := by kernel_rfl
theorem fixSums_c29 : ((Rows.fixSumsRow.pinned == Rows.fixSumsRow.pinnedBy)) = true := by kernel_rfl
theorem fixSums_c30 : ((Rows.fixSumsRow.veiled == (Tryz.f6.params.toList ++ Rows.fixSumsSpec.plain.varTypes Tryz.pinned.checked.prog ++ Tryz.f6.resultTypes.toList).any (Tryz.pinned.checked.prog.veiledRec ·))) = true := by kernel_rfl
theorem fixSums_c31 : (Rows.fixSumsRow.veiledFits Tryz.pinned.checked.prog Tryz.f6.params.toList (Tryz.f6.params.toList ++ Rows.fixSumsSpec.plain.varTypes Tryz.pinned.checked.prog ++ Tryz.f6.resultTypes.toList)) = true := by kernel_rfl
theorem fixSums_closed : joinedFacts Tryz.pinned.checked.prog 6 Tryz.f6 Rows.fixSumsSpec Rows.fixSumsRow = true := by
  unfold joinedFacts
  simp only [Bool.and_eq_true]
  exact ⟨⟨⟨⟨⟨⟨⟨⟨⟨⟨⟨⟨⟨⟨⟨⟨⟨⟨⟨⟨⟨⟨⟨⟨⟨⟨⟨⟨⟨⟨⟨fixSums_c0, fixSums_c1⟩, fixSums_c2⟩, fixSums_c3⟩, fixSums_c4⟩, fixSums_c5⟩, fixSums_c6⟩, fixSums_c7⟩, fixSums_c8⟩, fixSums_c9⟩, fixSums_c10⟩, fixSums_c11⟩, fixSums_c12⟩, fixSums_c13⟩, fixSums_c14⟩, fixSums_c15⟩, fixSums_c16⟩, fixSums_c17⟩, fixSums_c18⟩, fixSums_c19⟩, fixSums_c20⟩, fixSums_c21⟩, fixSums_c22⟩, fixSums_c23⟩, fixSums_c24⟩, fixSums_c25⟩, fixSums_c26⟩, fixSums_c27⟩, fixSums_c28⟩, fixSums_c29⟩, fixSums_c30⟩, fixSums_c31⟩
theorem fixSums_met (os : Os) (args : Array Value) : laidMetH Tryz.prog Rows.fixSumsRow.laid ((World.doorLaid Tryz.prog 62 os).forCall (fun _ _ => 0) ⟨#[], args, []⟩).memory :=
  laidMetH_of_parts3 (fuel := 8) (laidMet_of_run' 8 (by kernel_rfl) (by kernel_rfl)) (by kernel_rfl) (by kernel_rfl)
theorem fixSums_lifted (os : Os) (started : os.Started) (H : Type) (enc : TypeId × Value → H) :
    ReturnsInHanded {} Tryz.checked os 6 .any (fun w args => (Rows.fixSumsSpec.pre enc Tryz.prog Tryz.f6 [] false w args ∧ laidMetH Tryz.prog Rows.fixSumsRow.laid w) ∧ sizedMet enc Tryz.prog Tryz.f6 (OpenSpec.ofChange Rows.fixSumsSpec) false w args) (Rows.fixSumsSpec.post enc Tryz.prog Tryz.f6 false true false false) := by
  refine returnsInHanded_of_change_and (C := Tryz.checked) (X := fun w _ => laidMetH Tryz.prog Rows.fixSumsRow.laid w) (fun _ _ _ hh h => h.of_heap hh) own started (by kernel_rfl) Tryz.func6
    (ChangeSpec.witness_shaped (enc := enc) (C := Tryz.checked) (os := os) (X := fun w _ => laidMetH Tryz.prog Rows.fixSumsRow.laid w) false (World.doorLaid Tryz.prog 62 os) #[.int .i64 0, .int .i64 0, .int .i64 0] 8 rfl (World.shaped_of_RefB (by kernel_rfl) (by kernel_rfl)) (by kernel_rfl) (by kernel_rfl) (by kernel_rfl) (fixSums_met os _)) ?_
  intro W base args ds gs before hval0 hW _ _ hL _
  have hval : ∀ (j : Nat) t v, Tryz.f6.params[j]? = some t → args[j]? = some v → Value.okWide Tryz.prog W .any base t v := hval0
  have hW' := hW
  obtain ⟨p, q, hA0, hV, rfl, hfz, hnd⟩ := hW
  have hA : DataW.TrodAll enc Tryz.prog W 0 (fun _ => true) true Tryz.f6.params.toList args.toList ds p := hA0
  rw [Tryz.params6] at hA hval
  obtain ⟨v0, vs0, d0, ds0, p0, q0, hargs, rfl, rfl, h0, r0⟩ := trodAll_cons hA
  obtain ⟨v1, vs1, d1, ds1, p1, q1, rfl, rfl, rfl, h1, r1⟩ := trodAll_cons r0
  obtain ⟨v2, vs2, d2, ds2, p2, q2, rfl, rfl, rfl, h2, r2⟩ := trodAll_cons r1
  obtain ⟨rfl, rfl, rfl⟩ := trodAll_nil r2
  obtain rfl : args = #[v0, v1, v2] := by cases args; simp_all
  obtain ⟨rfl, rfl⟩ := trodVars_none hV
  have k0 := h0
  have k1 := h1
  have k2 := h2
  have lt0 : ∀ x ∈ p0, x.block < W.heap.size := by obtain ⟨m, hm⟩ := k0; exact DataW.trod_lt m _ _ _ hm
  have lt1 : ∀ x ∈ p1, x.block < W.heap.size := by obtain ⟨m, hm⟩ := k1; exact DataW.trod_lt m _ _ _ hm
  have lt2 : ∀ x ∈ p2, x.block < W.heap.size := by obtain ⟨m, hm⟩ := k2; exact DataW.trod_lt m _ _ _ hm
  obtain ⟨a0, rfl, ha0⟩ := open_i64 (hval 0 2 v0 rfl rfl) h0
  obtain ⟨a1, rfl, ha1⟩ := open_fix (hval 1 22 v1 rfl rfl) h1
  obtain ⟨a2, rfl, ha2⟩ := open_fix (hval 2 22 v2 rfl rfl) h2
  clear hA0 hval0
  refine (sums_law a0 ha0 a1 ha1 a2 ha2 W).mono fun e W' ⟨he, hk⟩ => ?_
  subst he
  have bel := hk.below
  exact ⟨_, rfl, _, _, _, [], _, [], hW', trodAll_mk1 (shut_bool Tryz.underlying4 _), (trodAll_cons_mk (Below.trod laidOut (by kernel_rfl) (of_decide_eq_true (by kernel_rfl)) k0 bel lt0) (trodAll_cons_mk (Below.trod laidOut (by kernel_rfl) (of_decide_eq_true (by kernel_rfl)) k1 bel lt1) (trodAll_cons_mk (Below.trod laidOut (by kernel_rfl) (of_decide_eq_true (by kernel_rfl)) k2 bel lt2) trodAll_mk0))), rfl, bel.frame _, fun h => by cases h⟩
theorem fixSums_named : Tryz.pinned.checked.prog.funcNamed Rows.fixSumsRow.func = some 6 := by kernel_rfl
theorem fixSums_inst : (Tryz.f6).isInstance Tryz.pinned.checked.prog Rows.fixSumsRow.origin Rows.fixSumsRow.targs := of_decide_eq_true (by kernel_rfl)
theorem fixSums_wrap : (Tryz.f6).isWrapper Tryz.pinned.checked.prog Rows.fixSumsRow.wrapper Rows.fixSumsRow.mainSum := by unfold Func.isWrapper; rw [if_neg (of_decide_eq_false (by kernel_rfl))]; exact ⟨rfl, rfl⟩
theorem fixSums_over : Rows.fixSumsRow.holds Tryz.pinned (OpenSpec.ofChange Rows.fixSumsSpec) :=
  OpenClaim.holds_of_wide 6 Tryz.f6 rfl rfl rfl rfl rfl rfl rfl ⟨rfl, rfl, rfl, rfl, rfl⟩ rfl rfl rfl rfl rfl fixSums_named Tryz.func6 fixSums_closed
    fixSums_inst fixSums_wrap
    (fun os started H enc _ => fixSums_lifted os started H enc)
theorem fixSums_params : (Tryz.f6.params.toList.all fun u => !Tryz.prog.wantsStandIn u) = true := by kernel_rfl
/-- The statement: the tied card. -/
theorem fixSumsCard_proved : Rows.FixSumsCardSaid :=
  Claim7.holds_tied_plain_at .later [] [.data, .data, .data, .sentinel, .sentinel] true (true, "ea552127e9a18c403c8dd4ea3126ccfbdf9e72e412a1615461594ab1ddb69430") true
    fixSums_over (fun _ h => by cases h) (by kernel_rfl) (fun _ h => by cases h) fixSums_row_tie rfl ⟨rfl, rfl⟩ (by kernel_rfl) rfl
    (fun f fn hf hfn => by
      obtain rfl : f = 6 := Option.some.inj ((show Tryz.prog.funcNamed "ninepin/ninepinlaw02.FixSums" = some 6 by kernel_rfl).symm.trans hf) |>.symm
      obtain rfl : fn = Tryz.f6 := (Option.some.inj (Tryz.func6.symm.trans hfn)).symm
      exact ⟨by kernel_rfl, fun j t ht => by
        have hm : t ∈ Tryz.f6.params.toList := by simpa using Array.mem_of_getElem? ht
        exact (show Tryz.prog.wantsStandIn t = false by simpa using List.all_eq_true.1 fixSums_params t hm)⟩)
    (by kernel_rfl)
end Go.Proofs.YtbdkbmhejoakiaaGreatDoor
