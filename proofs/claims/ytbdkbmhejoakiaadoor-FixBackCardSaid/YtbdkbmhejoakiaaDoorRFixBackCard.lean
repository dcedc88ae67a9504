/-
  Rows.FixBackCardSaid: the law answers true at every input, and leaves its arguments as they were.
-/
import Derived.Test.YtbdkbmhejoakiaaDoorLo
import Derived.Test.YtbdkbmhejoakiaaDoorTy
import Derived.Test.YtbdkbmhejoakiaaDoorTz
import Derived.Test.YtbdkbmhejoakiaaDoorRows
import Derived.Test.YtbdkbmhejoakiaaDoorCards
import Derived.Test.YtbdkbmhejoakiaaDoorTie
import Derived.ProofKit
import Derived.LaidMore
import Derived.Stop.Joined
import Derived.SevenTiedAt
import Derived.ChangeMaps5
set_option linter.unusedVariables false
namespace Go.Proofs.YtbdkbmhejoakiaaDoor
open Go Go.ChangeShapes Go.WideShapes Go.ChangeAt Go.RowKit

set_option maxRecDepth 100000
theorem fixBack_c0 : (Rows.fixBackRow.wf (OpenSpec.ofChange Rows.fixBackSpec)) = true := by kernel_rfl
theorem fixBack_c1 : (laidOutB Tryd.pinned.checked.prog) = true := by kernel_rfl
theorem fixBack_c2 : (mapsRowed Tryd.pinned.checked.prog) = true := by kernel_rfl
theorem fixBack_c3 : (Tryd.f4.params.all (Tryd.pinned.checked.prog.readableRec ·)) = true := by kernel_rfl
theorem fixBack_c4 : (namedTie Tryd.pinned.checked.prog Rows.fixBackRow.named Rows.fixBackSpec.vars) = true := by kernel_rfl
theorem fixBack_c5 : ((Rows.fixBackRow.stops == [])) = true := by kernel_rfl
theorem fixBack_c6 : ((Tryd.pinned.checked.prog.stops == [])) = true := by kernel_rfl
theorem fixBack_c7 : ((Rows.fixBackRow.knobs == [])) = true := by kernel_rfl
theorem fixBack_c8 : ((Tryd.pinned.checked.prog.stopKnobs == [])) = true := by kernel_rfl
theorem fixBack_c9 : ((Rows.fixBackRow.inPlace == Tryd.pinned.checked.prog.inPlace 4)) = true := by kernel_rfl
theorem fixBack_c10 : ((Rows.fixBackRow.unfollowed == Tryd.pinned.checked.prog.unfollowed 4)) = true := by kernel_rfl
theorem fixBack_c11 : ((Rows.fixBackRow.recurses == Tryd.pinned.checked.prog.recurses 4)) = true := by kernel_rfl
theorem fixBack_c12 : ((Rows.fixBackRow.named == Tryd.pinned.checked.prog.varsNamed 4)) = true := by kernel_rfl
theorem fixBack_c13 : ((Rows.fixBackRow.maps == (Tryd.f4.params.toList ++ Rows.fixBackSpec.plain.varTypes Tryd.pinned.checked.prog).any (Tryd.pinned.checked.prog.mapsRec ·))) = true := by kernel_rfl
theorem fixBack_c14 : ((Rows.fixBackRow.ifaces == (Tryd.f4.params.toList ++ Rows.fixBackSpec.plain.varTypes Tryd.pinned.checked.prog).any (Tryd.pinned.checked.prog.ifacesRec ·))) = true := by kernel_rfl
theorem fixBack_c15 : ((Rows.fixBackRow.mapsOut == Tryd.pinned.checked.prog.mapsAmong Tryd.f4.resultTypes.toList)) = true := by kernel_rfl
theorem fixBack_c16 : ((Rows.fixBackRow.loops == (Tryd.f4.params.toList ++ Rows.fixBackSpec.plain.varTypes Tryd.pinned.checked.prog).any (Tryd.pinned.checked.prog.loopsFrom ·))) = true := by kernel_rfl
theorem fixBack_c17 : ((Rows.fixBackRow.wideKeys == (Tryd.f4.params.toList ++ Rows.fixBackSpec.plain.varTypes Tryd.pinned.checked.prog ++ Tryd.f4.resultTypes.toList).any (Tryd.pinned.checked.prog.wideKeysFrom ·))) = true := by kernel_rfl
theorem fixBack_c18 : (Rows.fixBackSpec.vars.all (Tryd.pinned.checked.prog.varReadable ·)) = true := by kernel_rfl
theorem fixBack_c19 : (Tryd.f4.resultTypes.all (fun t => Tryd.pinned.checked.prog.readableRec t && decide (t < Tryd.pinned.checked.prog.types.size))) = true := by kernel_rfl
theorem fixBack_c20 : ((Rows.fixBackRow.ifacesOut == Tryd.f4.resultTypes.toList.any (Tryd.pinned.checked.prog.ifacesRec ·))) = true := by kernel_rfl
theorem fixBack_c21 : ((Rows.fixBackRow.loopsOut == Tryd.f4.resultTypes.toList.any (Tryd.pinned.checked.prog.loopsFrom ·))) = true := by kernel_rfl
theorem fixBack_c22 : ((Rows.fixBackRow.plainKeys == Tryd.pinned.checked.prog.plainKeys)) = true := by kernel_rfl
theorem fixBack_c23 : (Rows.fixBackRow.shortTexts.isNone) = true := by kernel_rfl
theorem fixBack_c24 : (Tryd.pinned.checked.prog.stopsHeard) = true := by kernel_rfl
theorem fixBack_c25 : (Tryd.pinned.checked.prog.mayEnter) = true := by kernel_rfl
theorem fixBack_c26 : ((Rows.fixBackRow.lifted == Tryd.pinned.checked.prog.liftsFinal)) = true := by kernel_rfl
theorem fixBack_c27 : ((Tryd.pinned.checked.prog.make == some Rows.fixBackRow.make)) = true := by kernel_rfl
theorem fixBack_c28 : ((Rows.fixBackRow.kinds == (if Rows.fixBackRow.domain.isEmpty then [] else Tryd.f4.params.toList.map fun t => match Tryd.pinned.checked.prog.underlying t with | some (.int k) => some k | _ => none))) = true := by kernel_rfl
theorem fixBack_c29 : ((Rows.fixBackRow.pinned == Rows.fixBackRow.pinnedBy)) = true := by kernel_rfl
theorem fixBack_c30 : ((Rows.fixBackRow.veiled == (Tryd.f4.params.toList ++ Rows.fixBackSpec.plain.varTypes Tryd.pinned.checked.prog ++ Tryd.f4.resultTypes.toList).any (Tryd.pinned.checked.prog.veiledRec ·))) = true := by kernel_rfl
theorem fixBack_c31 : (Rows.fixBackRow.veiledFits Tryd.pinned.checked.prog Tryd.f4.params.toList (Tryd.f4.params.toList ++ Rows.fixBackSpec.plain.varTypes Tryd.pinned.checked.prog ++ Tryd.f4.resultTypes.toList)) = true := by kernel_rfl
theorem fixBack_closed : joinedFacts Tryd.pinned.checked.prog 4 Tryd.f4 Rows.fixBackSpec Rows.fixBackRow = true := by
  unfold joinedFacts
  simp only [Bool.and_eq_true]
  exact ⟨⟨⟨⟨⟨⟨⟨⟨⟨⟨⟨⟨⟨⟨⟨⟨⟨⟨⟨⟨⟨⟨⟨⟨⟨⟨⟨⟨⟨⟨⟨fixBack_c0, fixBack_c1⟩, fixBack_c2⟩, fixBack_c3⟩, fixBack_c4⟩, fixBack_c5⟩, fixBack_c6⟩, fixBack_c7⟩, fixBack_c8⟩, fixBack_c9⟩, fixBack_c10⟩, fixBack_c11⟩, fixBack_c12⟩, fixBack_c13⟩, fixBack_c14⟩, fixBack_c15⟩, fixBack_c16⟩, fixBack_c17⟩, fixBack_c18⟩, fixBack_c19⟩, fixBack_c20⟩, fixBack_c21⟩, fixBack_c22⟩, fixBack_c23⟩, fixBack_c24⟩, fixBack_c25⟩, fixBack_c26⟩, fixBack_c27⟩, fixBack_c28⟩, fixBack_c29⟩, fixBack_c30⟩, fixBack_c31⟩
theorem fixBack_met (os : Os) (args : Array Value) : laidMetH Tryd.prog Rows.fixBackRow.laid ((World.doorLaid Tryd.prog 62 os).forCall (fun _ _ => 0) ⟨#[], args, []⟩).memory :=
  laidMetH_of_parts3 (fuel := 8) (laidMet_of_run' 8 (by kernel_rfl) (by kernel_rfl)) (by kernel_rfl) (by kernel_rfl)
theorem fixBack_lifted (os : Os) (started : os.Started) (H : Type) (enc : TypeId × Value → H) :
    ReturnsInHanded {} Tryd.checked os 4 .any (fun w args => (Rows.fixBackSpec.pre enc Tryd.prog Tryd.f4 [] false w args ∧ laidMetH Tryd.prog Rows.fixBackRow.laid w) ∧ sizedMet enc Tryd.prog Tryd.f4 (OpenSpec.ofChange Rows.fixBackSpec) false w args) (Rows.fixBackSpec.post enc Tryd.prog Tryd.f4 false true false false) := by
  refine returnsInHanded_of_change_and (C := Tryd.checked) (X := fun w _ => laidMetH Tryd.prog Rows.fixBackRow.laid w) (fun _ _ _ hh h => h.of_heap hh) own started (by kernel_rfl) Tryd.func4
    (ChangeSpec.witness_shaped (enc := enc) (C := Tryd.checked) (os := os) (X := fun w _ => laidMetH Tryd.prog Rows.fixBackRow.laid w) false (World.doorLaid Tryd.prog 62 os) #[.int .i64 0, .string { data := #[] }] 8 rfl (World.shaped_of_RefB (by kernel_rfl) (by kernel_rfl)) (by kernel_rfl) (by kernel_rfl) (by kernel_rfl) (fixBack_met os _)) ?_
  intro W base args ds gs before hval0 hW _ hWt hL hSz
  have hval : ∀ (j : Nat) t v, Tryd.f4.params[j]? = some t → args[j]? = some v → Value.okWide Tryd.prog W .any base t v := hval0
  have hW' := hW
  obtain ⟨p, q, hA0, hV, rfl, hfz, hnd⟩ := hW
  have hA : DataW.TrodAll enc Tryd.prog W 0 (fun _ => true) true Tryd.f4.params.toList args.toList ds p := hA0
  rw [Tryd.params4] at hA hval
  obtain ⟨v0, vs0, d0, ds0, p0, q0, hargs, rfl, rfl, h0, r0⟩ := trodAll_cons hA
  obtain ⟨v1, vs1, d1, ds1, p1, q1, rfl, rfl, rfl, h1, r1⟩ := trodAll_cons r0
  obtain ⟨rfl, rfl, rfl⟩ := trodAll_nil r1
  obtain rfl : args = #[v0, v1] := by cases args; simp_all
  obtain ⟨rfl, rfl⟩ := trodVars_none hV
  have k0 := h0
  have k1 := h1
  have lt0 : ∀ x ∈ p0, x.block < W.heap.size := by obtain ⟨m, hm⟩ := k0; exact DataW.trod_lt m _ _ _ hm
  have lt1 : ∀ x ∈ p1, x.block < W.heap.size := by obtain ⟨m, hm⟩ := k1; exact DataW.trod_lt m _ _ _ hm
  obtain ⟨a0, rfl, ha0⟩ := open_fix (hval 0 22 v0 rfl rfl) h0
  obtain ⟨a1, rfl, hd1, hp1, hm1⟩ := Go.ChangeMaps.open_string Tryd.underlying9 (hval 1 9 v1 rfl rfl) h1
  have sz1 : a1.size ≤ 140737488355328 := by
    have h8 := hWt
    rw [Tryd.params4, hd1] at h8
    have h9 := bnd_of_weight Tryd.prog h8
    have h10 : a1.data.toList.length = a1.size := rfl
    omega
  clear hA0 hval0
  refine (back_law a0 ha0 a1 sz1 W (env_of_laid hL)).mono fun e W' ⟨he, hk⟩ => ?_
  subst he
  have bel := hk.below
  exact ⟨_, rfl, _, _, _, [], _, [], hW', trodAll_mk1 (shut_bool Tryd.underlying4 _), (trodAll_cons_mk (Below.trod laidOut (by kernel_rfl) (of_decide_eq_true (by kernel_rfl)) k0 bel lt0) (trodAll_cons_mk (Below.trod laidOut (by kernel_rfl) (of_decide_eq_true (by kernel_rfl)) k1 bel lt1) trodAll_mk0)), rfl, bel.frame _, fun h => by cases h⟩
theorem fixBack_named : Tryd.pinned.checked.prog.funcNamed Rows.fixBackRow.func = some 4 := by kernel_rfl
theorem fixBack_inst : (Tryd.f4).isInstance Tryd.pinned.checked.prog Rows.fixBackRow.origin Rows.fixBackRow.targs := of_decide_eq_true (by kernel_rfl)
theorem fixBack_wrap : (Tryd.f4).isWrapper Tryd.pinned.checked.prog Rows.fixBackRow.wrapper Rows.fixBackRow.mainSum := by unfold Func.isWrapper; rw [if_neg (of_decide_eq_false (by kernel_rfl))]; exact ⟨rfl, rfl⟩
theorem fixBack_over : Rows.fixBackRow.holds Tryd.pinned (OpenSpec.ofChange Rows.fixBackSpec) :=
  OpenClaim.holds_of_wide 4 Tryd.f4 rfl rfl rfl rfl rfl rfl rfl ⟨rfl, rfl, rfl, rfl, rfl⟩ rfl rfl rfl rfl rfl fixBack_named Tryd.func4 fixBack_closed
    fixBack_inst fixBack_wrap
    (fun os started H enc _ => fixBack_lifted os started H enc)
theorem fixBack_params : (Tryd.f4.params.toList.all fun u => !Tryd.prog.wantsStandIn u) = true := by kernel_rfl
/-- The statement: the tied card. -/
theorem fixBackCard_proved : Rows.FixBackCardSaid :=
  Claim7.holds_tied_plain_at .later [] [.data, .data, .data, .sentinel, .sentinel] true (true, "e387b1f95d599843f134eb38dedea8c5894183c3d27468da72f9ff57c95afa22") true
    fixBack_over (fun _ h => by cases h) (by kernel_rfl) (fun _ h => by cases h) fixBack_row_tie rfl ⟨rfl, rfl⟩ (by kernel_rfl) rfl
    (fun f fn hf hfn => by
      obtain rfl : f = 4 := Option.some.inj ((show Tryd.prog.funcNamed "ninepin/ninepinlaw02.FixBack" = some 4 by kernel_rfl).symm.trans hf) |>.symm
      obtain rfl : fn = Tryd.f4 := (Option.some.inj (Tryd.func4.symm.trans hfn)).symm
      exact ⟨by kernel_rfl, fun j t ht => by
        have hm : t ∈ Tryd.f4.params.toList := by simpa using Array.mem_of_getElem? ht
        exact (show Tryd.prog.wantsStandIn t = false by simpa using List.all_eq_true.1 fixBack_params t hm)⟩)
    (by kernel_rfl)
end Go.Proofs.YtbdkbmhejoakiaaDoor
