/-
  Rows.FixTextCardSaid: the law answers true at every input, and leaves its arguments as they were.
-/
import Derived.Test.YtbdkbmhejoakiaaDoorLo
import Derived.Test.YtbdkbmhejoakiaaDoorTr
import Derived.Test.YtbdkbmhejoakiaaDoorTz
import Derived.Test.YtbdkbmhejoakiaaDoorRows
import Derived.Test.YtbdkbmhejoakiaaDoorCards
import Derived.Test.YtbdkbmhejoakiaaDoorTie
import Derived.ProofKit
import Derived.LaidMore
import Derived.Stop.Joined
import Derived.SevenTiedAt
import Derived.ChangeMaps5
set_option linter.unusedVariables false
namespace Go.Proofs.YtbdkbmhejoakiaaDoor
open Go Go.ChangeShapes Go.WideShapes Go.ChangeAt Go.RowKit

set_option maxRecDepth 100000
theorem fixText_c0 : (Rows.fixTextRow.wf (OpenSpec.ofChange Rows.fixTextSpec)) = true := by kernel_rfl
theorem fixText_c1 : (laidOutB Tryd.pinned.checked.prog) = true := by kernel_rfl
theorem fixText_c2 : (mapsRowed Tryd.pinned.checked.prog) = true := by kernel_rfl
theorem fixText_c3 : (Tryd.f3.params.all (Tryd.pinned.checked.prog.readableRec ·)) = true := by kernel_rfl
theorem fixText_c4 : (namedTie Tryd.pinned.checked.prog Rows.fixTextRow.named Rows.fixTextSpec.vars) = true := by kernel_rfl
theorem fixText_c5 : ((Rows.fixTextRow.stops == [])) = true := by kernel_rfl
theorem fixText_c6 : ((Tryd.pinned.checked.prog.stops == [])) = true := by kernel_rfl
theorem fixText_c7 : ((Rows.fixTextRow.knobs == [])) = true := by kernel_rfl
theorem fixText_c8 : ((Tryd.pinned.checked.prog.stopKnobs == [])) = true := by kernel_rfl
theorem fixText_c9 : ((Rows.fixTextRow.inPlace == Tryd.pinned.checked.prog.inPlace 3)) = true := by kernel_rfl
theorem fixText_c10 : ((Rows.fixTextRow.unfollowed == Tryd.pinned.checked.prog.unfollowed 3)) = true := by kernel_rfl
theorem fixText_c11 : ((Rows.fixTextRow.recurses == Tryd.pinned.checked.prog.recurses 3)) = true := by kernel_rfl
theorem fixText_c12 : ((Rows.fixTextRow.named == Tryd.pinned.checked.prog.varsNamed 3)) = true := by kernel_rfl
theorem fixText_c13 : ((Rows.fixTextRow.maps == (Tryd.f3.params.toList ++ Rows.fixTextSpec.plain.varTypes Tryd.pinned.checked.prog).any (Tryd.pinned.checked.prog.mapsRec ·))) = true := by kernel_rfl
theorem fixText_c14 : ((Rows.fixTextRow.ifaces == (Tryd.f3.params.toList ++ Rows.fixTextSpec.plain.varTypes Tryd.pinned.checked.prog).any (Tryd.pinned.checked.prog.ifacesRec ·))) = true := by kernel_rfl
theorem fixText_c15 : ((Rows.fixTextRow.mapsOut == Tryd.pinned.checked.prog.mapsAmong Tryd.f3.resultTypes.toList)) = true := by kernel_rfl
theorem fixText_c16 : ((Rows.fixTextRow.loops == (Tryd.f3.params.toList ++ Rows.fixTextSpec.plain.varTypes Tryd.pinned.checked.prog).any (Tryd.pinned.checked.prog.loopsFrom ·))) = true := by kernel_rfl
theorem fixText_c17 : ((Rows.fixTextRow.wideKeys == (Tryd.f3.params.toList ++ Rows.fixTextSpec.plain.varTypes Tryd.pinned.checked.prog ++ Tryd.f3.resultTypes.toList).any (Tryd.pinned.checked.prog.wideKeysFrom ·))) = true := by kernel_rfl
theorem fixText_c18 : (Rows.fixTextSpec.vars.all (Tryd.pinned.checked.prog.varReadable ·)) = true := by kernel_rfl
theorem fixText_c19 : (Tryd.f3.resultTypes.all (fun t => Tryd.pinned.checked.prog.readableRec t && decide (t < Tryd.pinned.checked.prog.types.size))) = true := by kernel_rfl
theorem fixText_c20 : ((Rows.fixTextRow.ifacesOut == Tryd.f3.resultTypes.toList.any (Tryd.pinned.checked.prog.ifacesRec ·))) = true := by kernel_rfl
theorem fixText_c21 : ((Rows.fixTextRow.loopsOut == Tryd.f3.resultTypes.toList.any (Tryd.pinned.checked.prog.loopsFrom ·))) = true := by kernel_rfl
theorem fixText_c22 : ((Rows.fixTextRow.plainKeys == Tryd.pinned.checked.prog.plainKeys)) = true := by kernel_rfl
theorem fixText_c23 : (Rows.fixTextRow.shortTexts.isNone) = true := by kernel_rfl
theorem fixText_c24 : (Tryd.pinned.checked.prog.stopsHeard) = true := by kernel_rfl
theorem fixText_c25 : (Tryd.pinned.checked.prog.mayEnter) = true := by kernel_rfl
theorem fixText_c26 : ((Rows.fixTextRow.lifted == Tryd.pinned.checked.prog.liftsFinal)) = true := by kernel_rfl
theorem fixText_c27 : ((Tryd.pinned.checked.prog.make == some Rows.fixTextRow.make)) = true := by kernel_rfl
theorem fixText_c28 : ((Rows.fixTextRow.kinds == (if Rows.fixTextRow.domain.isEmpty then [] else Tryd.f3.params.toList.map fun t => match Tryd.pinned.checked.prog.underlying t with | some (.int k) => some k | _ => none))) = true := by kernel_rfl
theorem fixText_c29 : ((Rows.fixTextRow.pinned == Rows.fixTextRow.pinnedBy)) = true := by kernel_rfl
theorem fixText_c30 : ((Rows.fixTextRow.veiled == (Tryd.f3.params.toList ++ Rows.fixTextSpec.plain.varTypes Tryd.pinned.checked.prog ++ Tryd.f3.resultTypes.toList).any (Tryd.pinned.checked.prog.veiledRec ·))) = true := by kernel_rfl
theorem fixText_c31 : (Rows.fixTextRow.veiledFits Tryd.pinned.checked.prog Tryd.f3.params.toList (Tryd.f3.params.toList ++ Rows.fixTextSpec.plain.varTypes Tryd.pinned.checked.prog ++ Tryd.f3.resultTypes.toList)) = true := by kernel_rfl
theorem fixText_closed : joinedFacts Tryd.pinned.checked.prog 3 Tryd.f3 Rows.fixTextSpec Rows.fixTextRow = true := by
  unfold joinedFacts
  simp only [Bool.and_eq_true]
  exact ⟨⟨⟨⟨⟨⟨⟨⟨⟨⟨⟨⟨⟨⟨⟨⟨⟨⟨⟨⟨⟨⟨⟨⟨⟨⟨⟨⟨⟨⟨⟨fixText_c0, fixText_c1⟩, fixText_c2⟩, fixText_c3⟩, fixText_c4⟩, fixText_c5⟩, fixText_c6⟩, fixText_c7⟩, fixText_c8⟩, fixText_c9⟩, fixText_c10⟩, fixText_c11⟩, fixText_c12⟩, fixText_c13⟩, fixText_c14⟩, fixText_c15⟩, fixText_c16⟩, fixText_c17⟩, fixText_c18⟩, fixText_c19⟩, fixText_c20⟩, fixText_c21⟩, fixText_c22⟩, fixText_c23⟩, fixText_c24⟩, fixText_c25⟩, fixText_c26⟩, fixText_c27⟩, fixText_c28⟩, fixText_c29⟩, fixText_c30⟩, fixText_c31⟩
theorem fixText_met (os : Os) (args : Array Value) : laidMetH Tryd.prog Rows.fixTextRow.laid ((World.doorLaid Tryd.prog 62 os).forCall (fun _ _ => 0) ⟨#[], args, []⟩).memory :=
  laidMetH_of_parts3 (fuel := 8) (laidMet_of_run' 8 (by kernel_rfl) (by kernel_rfl)) (by kernel_rfl) (by kernel_rfl)
theorem fixText_lifted (os : Os) (started : os.Started) (H : Type) (enc : TypeId × Value → H) :
    ReturnsInHanded {} Tryd.checked os 3 .any (fun w args => (Rows.fixTextSpec.pre enc Tryd.prog Tryd.f3 [] false w args ∧ laidMetH Tryd.prog Rows.fixTextRow.laid w) ∧ sizedMet enc Tryd.prog Tryd.f3 (OpenSpec.ofChange Rows.fixTextSpec) false w args) (Rows.fixTextSpec.post enc Tryd.prog Tryd.f3 false true false false) := by
  refine returnsInHanded_of_change_and (C := Tryd.checked) (X := fun w _ => laidMetH Tryd.prog Rows.fixTextRow.laid w) (fun _ _ _ hh h => h.of_heap hh) own started (by kernel_rfl) Tryd.func3
    (ChangeSpec.witness_shaped (enc := enc) (C := Tryd.checked) (os := os) (X := fun w _ => laidMetH Tryd.prog Rows.fixTextRow.laid w) false (World.doorLaid Tryd.prog 62 os) #[.int .i64 0, .string { data := #[] }] 8 rfl (World.shaped_of_RefB (by kernel_rfl) (by kernel_rfl)) (by kernel_rfl) (by kernel_rfl) (by kernel_rfl) (fixText_met os _)) ?_
  intro W base args ds gs before hval0 hW _ hWt hL hSz
  have hval : ∀ (j : Nat) t v, Tryd.f3.params[j]? = some t → args[j]? = some v → Value.okWide Tryd.prog W .any base t v := hval0
  have hW' := hW
  obtain ⟨p, q, hA0, hV, rfl, hfz, hnd⟩ := hW
  have hA : DataW.TrodAll enc Tryd.prog W 0 (fun _ => true) true Tryd.f3.params.toList args.toList ds p := hA0
  rw [Tryd.params3] at hA hval
  obtain ⟨v0, vs0, d0, ds0, p0, q0, hargs, rfl, rfl, h0, r0⟩ := trodAll_cons hA
  obtain ⟨v1, vs1, d1, ds1, p1, q1, rfl, rfl, rfl, h1, r1⟩ := trodAll_cons r0
  obtain ⟨rfl, rfl, rfl⟩ := trodAll_nil r1
  obtain rfl : args = #[v0, v1] := by cases args; simp_all
  obtain ⟨rfl, rfl⟩ := trodVars_none hV
  have k0 := h0
  have k1 := h1
  have lt0 : ∀ x ∈ p0, x.block < W.heap.size := by obtain ⟨m, hm⟩ := k0; exact DataW.trod_lt m _ _ _ hm
  have lt1 : ∀ x ∈ p1, x.block < W.heap.size := by obtain ⟨m, hm⟩ := k1; exact DataW.trod_lt m _ _ _ hm
  obtain ⟨a0, rfl, ha0⟩ := open_fix (hval 0 22 v0 rfl rfl) h0
  obtain ⟨a1, rfl, hd1, hp1, hm1⟩ := Go.ChangeMaps.open_string Tryd.underlying9 (hval 1 9 v1 rfl rfl) h1
  have sz1 : a1.size ≤ 140737488355328 := by
    have h8 := hWt
    rw [Tryd.params3, hd1] at h8
    have h9 := bnd_of_weight Tryd.prog h8
    have h10 : a1.data.toList.length = a1.size := rfl
    omega
  clear hA0 hval0
  refine (ftext_law a0 ha0 a1 sz1 W (env_of_laid hL)).mono fun e W' ⟨he, hk⟩ => ?_
  subst he
  have bel := hk.below
  exact ⟨_, rfl, _, _, _, [], _, [], hW', trodAll_mk1 (shut_bool Tryd.underlying4 _), (trodAll_cons_mk (Below.trod laidOut (by kernel_rfl) (of_decide_eq_true (by kernel_rfl)) k0 bel lt0) (trodAll_cons_mk (Below.trod laidOut (by kernel_rfl) (of_decide_eq_true (by kernel_rfl)) k1 bel lt1) trodAll_mk0)), rfl, bel.frame _, fun h => by cases h⟩
theorem fixText_named : Tryd.pinned.checked.prog.funcNamed Rows.fixTextRow.func = some 3 := by kernel_rfl
theorem fixText_inst : (Tryd.f3).isInstance Tryd.pinned.checked.prog Rows.fixTextRow.origin Rows.fixTextRow.targs := of_decide_eq_true (by kernel_rfl)
theorem fixText_wrap : (Tryd.f3).isWrapper Tryd.pinned.checked.prog Rows.fixTextRow.wrapper Rows.fixTextRow.mainSum := by unfold Func.isWrapper; rw [if_neg (of_decide_eq_false (by kernel_rfl))]; exact ⟨rfl, rfl⟩
theorem fixText_over : Rows.fixTextRow.holds Tryd.pinned (OpenSpec.ofChange Rows.fixTextSpec) :=
  OpenClaim.holds_of_wide 3 Tryd.f3 rfl rfl rfl rfl rfl rfl rfl ⟨rfl, rfl, rfl, rfl, rfl⟩ rfl rfl rfl rfl rfl fixText_named Tryd.func3 fixText_closed
    fixText_inst fixText_wrap
    (fun os started H enc _ => fixText_lifted os started H enc)
theorem fixText_params : (Tryd.f3.params.toList.all fun u => !Tryd.prog.wantsStandIn u) = true := by kernel_rfl
/-- The statement: the tied card. -/
theorem fixTextCard_proved : Rows.FixTextCardSaid :=
  Claim7.holds_tied_plain_at .later [] [.data, .data, .data, .sentinel, .sentinel] true (true, "e387b1f95d599843f134eb38dedea8c5894183c3d27468da72f9ff57c95afa22") true
    fixText_over (fun _ h => by cases h) (by kernel_rfl) (fun _ h => by cases h) fixText_row_tie rfl ⟨rfl, rfl⟩ (by kernel_rfl) rfl
    (fun f fn hf hfn => by
      obtain rfl : f = 3 := Option.some.inj ((show Tryd.prog.funcNamed "ninepin/ninepinlaw02.FixText" = some 3 by kernel_rfl).symm.trans hf) |>.symm
      obtain rfl : fn = Tryd.f3 := (Option.some.inj (Tryd.func3.symm.trans hfn)).symm
      exact ⟨by kernel_rfl, fun j t ht => by
        have hm : t ∈ Tryd.f3.params.toList := by simpa using Array.mem_of_getElem? ht
        exact (show Tryd.prog.wantsStandIn t = false by simpa using List.all_eq_true.1 fixText_params t hm)⟩)
    (by kernel_rfl)
end Go.Proofs.YtbdkbmhejoakiaaDoor
