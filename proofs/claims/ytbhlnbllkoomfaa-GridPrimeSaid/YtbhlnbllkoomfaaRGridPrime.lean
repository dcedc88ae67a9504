/-
  Rows.GridPrimeSaid: the primitive span of any one is the document's.
-/
import Derived.Test.YtbhlnbllkoomfaaFl
import Derived.Test.YtbhlnbllkoomfaaLk
import Derived.Test.YtbhlnbllkoomfaaRows
set_option linter.unusedVariables false
namespace Go.Proofs.Ytbhlnbllkoomfaa
open Go Go.ChangeShapes Go.WideShapes Go.ChangeAt Go.RowKit

set_option maxRecDepth 100000
theorem gridPrime_c0 : (Rows.gridPrimeRow.wf (OpenSpec.ofChange Rows.gridPrimeSpec)) = true := by kernel_rfl
theorem gridPrime_c1 : (laidOutB Try.pinned.checked.prog) = true := by kernel_rfl
theorem gridPrime_c2 : (mapsRowed Try.pinned.checked.prog) = true := by kernel_rfl
theorem gridPrime_c3 : (Try.f4.params.all (Try.pinned.checked.prog.readableRec ·)) = true := by kernel_rfl
theorem gridPrime_c4 : (namedTie Try.pinned.checked.prog Rows.gridPrimeRow.named Rows.gridPrimeSpec.vars) = true := by kernel_rfl
theorem gridPrime_c5 : ((Rows.gridPrimeRow.stops == [])) = true := by kernel_rfl
theorem gridPrime_c6 : ((Try.pinned.checked.prog.stops == [])) = true := by kernel_rfl
theorem gridPrime_c7 : ((Rows.gridPrimeRow.knobs == [])) = true := by kernel_rfl
theorem gridPrime_c8 : ((Try.pinned.checked.prog.stopKnobs == [])) = true := by kernel_rfl
theorem gridPrime_c9 : ((Rows.gridPrimeRow.inPlace == Try.pinned.checked.prog.inPlace 4)) = true := by kernel_rfl
theorem gridPrime_c10 : ((Rows.gridPrimeRow.unfollowed == Try.pinned.checked.prog.unfollowed 4)) = true := by kernel_rfl
theorem gridPrime_c11 : ((Rows.gridPrimeRow.recurses == Try.pinned.checked.prog.recurses 4)) = true := by kernel_rfl
theorem gridPrime_c12 : ((Rows.gridPrimeRow.named == Try.pinned.checked.prog.varsNamed 4)) = true := by kernel_rfl
theorem gridPrime_c13 : ((Rows.gridPrimeRow.maps == (Try.f4.params.toList ++ Rows.gridPrimeSpec.plain.varTypes Try.pinned.checked.prog).any (Try.pinned.checked.prog.mapsRec ·))) = true := by kernel_rfl
theorem gridPrime_c14 : ((Rows.gridPrimeRow.ifaces == (Try.f4.params.toList ++ Rows.gridPrimeSpec.plain.varTypes Try.pinned.checked.prog).any (Try.pinned.checked.prog.ifacesRec ·))) = true := by kernel_rfl
theorem gridPrime_c15 : ((Rows.gridPrimeRow.mapsOut == Try.pinned.checked.prog.mapsAmong Try.f4.resultTypes.toList)) = true := by kernel_rfl
theorem gridPrime_c16 : ((Rows.gridPrimeRow.loops == (Try.f4.params.toList ++ Rows.gridPrimeSpec.plain.varTypes Try.pinned.checked.prog).any (Try.pinned.checked.prog.loopsFrom ·))) = true := by kernel_rfl
theorem gridPrime_c17 : ((Rows.gridPrimeRow.wideKeys == (Try.f4.params.toList ++ Rows.gridPrimeSpec.plain.varTypes Try.pinned.checked.prog ++ Try.f4.resultTypes.toList).any (Try.pinned.checked.prog.wideKeysFrom ·))) = true := by kernel_rfl
theorem gridPrime_c18 : (Rows.gridPrimeSpec.vars.all (Try.pinned.checked.prog.varReadable ·)) = true := by kernel_rfl
theorem gridPrime_c19 : (Try.f4.resultTypes.all (fun t => Try.pinned.checked.prog.readableRec t && decide (t < Try.pinned.checked.prog.types.size))) = true := by kernel_rfl
theorem gridPrime_c20 : ((Rows.gridPrimeRow.ifacesOut == Try.f4.resultTypes.toList.any (Try.pinned.checked.prog.ifacesRec ·))) = true := by kernel_rfl
theorem gridPrime_c21 : ((Rows.gridPrimeRow.loopsOut == Try.f4.resultTypes.toList.any (Try.pinned.checked.prog.loopsFrom ·))) = true := by kernel_rfl
theorem gridPrime_c22 : ((Rows.gridPrimeRow.plainKeys == Try.pinned.checked.prog.plainKeys)) = true := by kernel_rfl
theorem gridPrime_c23 : (Rows.gridPrimeRow.shortTexts.isNone) = true := by kernel_rfl
theorem gridPrime_c24 : (Try.pinned.checked.prog.stopsHeard) = true := by kernel_rfl
theorem gridPrime_c25 : (Try.pinned.checked.prog.mayEnter) = true := by kernel_rfl
theorem gridPrime_c26 : ((Rows.gridPrimeRow.lifted == Try.pinned.checked.prog.liftsFinal)) = true := by kernel_rfl
theorem gridPrime_c27 : ((Try.pinned.checked.prog.make == some Rows.gridPrimeRow.make)) = true := by kernel_rfl
theorem gridPrime_c28 : ((Rows.gridPrimeRow.kinds == (if Rows.gridPrimeRow.domain.isEmpty then [] else Try.f4.params.toList.map fun t => match Try.pinned.checked.prog.underlying t with | some (.int k) => some k | _ => none))) = true := by kernel_rfl
theorem gridPrime_c29 : ((Rows.gridPrimeRow.pinned == Rows.gridPrimeRow.pinnedBy)) = true := by kernel_rfl
theorem gridPrime_c30 : ((Rows.gridPrimeRow.veiled == (Try.f4.params.toList ++ Rows.gridPrimeSpec.plain.varTypes Try.pinned.checked.prog ++ Try.f4.resultTypes.toList).any (Try.pinned.checked.prog.veiledRec ·))) = true := by kernel_rfl
theorem gridPrime_c31 : (Rows.gridPrimeRow.veiledFits Try.pinned.checked.prog Try.f4.params.toList (Try.f4.params.toList ++ Rows.gridPrimeSpec.plain.varTypes Try.pinned.checked.prog ++ Try.f4.resultTypes.toList)) = true := by kernel_rfl
theorem gridPrime_closed : joinedFacts Try.pinned.checked.prog 4 Try.f4 Rows.gridPrimeSpec Rows.gridPrimeRow = true := by
  unfold joinedFacts
  simp only [Bool.and_eq_true]
  exact ⟨⟨⟨⟨⟨⟨⟨⟨⟨⟨⟨⟨⟨⟨⟨⟨⟨⟨⟨⟨⟨⟨⟨⟨⟨⟨⟨⟨⟨⟨⟨gridPrime_c0, gridPrime_c1⟩, gridPrime_c2⟩, gridPrime_c3⟩, gridPrime_c4⟩, gridPrime_c5⟩, gridPrime_c6⟩, gridPrime_c7⟩, gridPrime_c8⟩, gridPrime_c9⟩, gridPrime_c10⟩, gridPrime_c11⟩, gridPrime_c12⟩, gridPrime_c13⟩, gridPrime_c14⟩, gridPrime_c15⟩, gridPrime_c16⟩, gridPrime_c17⟩, gridPrime_c18⟩, gridPrime_c19⟩, gridPrime_c20⟩, gridPrime_c21⟩, gridPrime_c22⟩, gridPrime_c23⟩, gridPrime_c24⟩, gridPrime_c25⟩, gridPrime_c26⟩, gridPrime_c27⟩, gridPrime_c28⟩, gridPrime_c29⟩, gridPrime_c30⟩, gridPrime_c31⟩
theorem gridPrime_lifted (os : Os) (started : os.Started) (H : Type) (enc : TypeId × Value → H) :
    ReturnsInHanded {} Try.checked os 4 .any (Rows.gridPrimeSpec.pre6 enc Try.prog Try.f4 Rows.gridPrimeRow.domain false) (Rows.gridPrimeSpec.post enc Try.prog Try.f4 false true false false) := by
  refine returnsInHanded_of_change (C := Try.checked) own started (by kernel_rfl) Try.func4
    (ChangeSpec.witness6 (enc := enc) (C := Try.checked) false ⟨#[], #[.agg #[.int .u64 0, .int .u64 0, .int .u64 0, .int .u64 0, .int .u64 0, .int .u64 0, .int .u64 0, .int .u64 0, .int .u64 0, .int .u64 0, .int .u64 0, .int .u64 0, .int .u64 0, .int .u64 0, .int .u64 0, .int .u64 0, .int .u64 0, .int .u64 0, .int .u64 0, .int .u64 0, .int .u64 0, .int .u64 0, .int .u64 0, .int .u64 0]], []⟩ 8 (by kernel_rfl) (by kernel_rfl) (by kernel_rfl) (by kernel_rfl)) ?_
  intro W base args ds gs before hval0 hW hcnd _
  have hval : ∀ (j : Nat) t v, Try.f4.params[j]? = some t → args[j]? = some v → Value.okWide Try.prog W .any base t v := hval0
  have hW' := hW
  obtain ⟨p, q, hA0, hV, rfl, hfz, hnd⟩ := hW
  have hA : DataW.TrodAll enc Try.prog W 0 (fun _ => true) true Try.f4.params.toList args.toList ds p := hA0
  rw [Try.params4] at hA hval
  obtain ⟨v0, vs0, d0, ds0, p0, q0, hargs, rfl, rfl, h0, r0⟩ := trodAll_cons hA
  obtain ⟨rfl, rfl, rfl⟩ := trodAll_nil r0
  obtain rfl : args = #[v0] := by cases args; simp_all
  obtain ⟨rfl, rfl⟩ := trodVars_none hV
  have k0 := h0
  have lt0 : ∀ x ∈ p0, x.block < W.heap.size := by obtain ⟨m, hm⟩ := k0; exact DataW.trod_lt m _ _ _ hm
  obtain ⟨a0, rfl, ha0⟩ := open_span (hval 0 27 v0 rfl rfl) h0
  clear hA0 hval0
  refine (prime_law a0 ha0 W).mono fun e W' ⟨he, hk⟩ => ?_
  subst he
  have bel := hk.below
  exact ⟨_, rfl, _, _, _, [], _, [], hW', trodAll_mk1 (shut_bool Try.underlying4 _), (trodAll_cons_mk (Below.trod laidOut (by kernel_rfl) (of_decide_eq_true (by kernel_rfl)) k0 bel lt0) trodAll_mk0), rfl, bel.frame _, fun h => by cases h⟩
theorem gridPrime_named : Try.pinned.checked.prog.funcNamed Rows.gridPrimeRow.func = some 4 := by kernel_rfl
theorem gridPrime_inst : (Try.f4).isInstance Try.pinned.checked.prog Rows.gridPrimeRow.origin Rows.gridPrimeRow.targs := of_decide_eq_true (by kernel_rfl)
theorem gridPrime_wrap : (Try.f4).isWrapper Try.pinned.checked.prog Rows.gridPrimeRow.wrapper Rows.gridPrimeRow.mainSum := by unfold Func.isWrapper; rw [if_neg (of_decide_eq_false (by kernel_rfl))]; exact ⟨rfl, rfl⟩
theorem gridPrime_over : Rows.gridPrimeRow.holds Try.pinned (OpenSpec.ofChange Rows.gridPrimeSpec) :=
  OpenClaim.holds_of_wide 4 Try.f4 rfl rfl rfl rfl rfl rfl rfl ⟨rfl, rfl, rfl, rfl, rfl⟩ rfl rfl rfl rfl rfl gridPrime_named Try.func4 gridPrime_closed
    gridPrime_inst gridPrime_wrap
    (fun os started H enc _ => gridPrime_lifted os started H enc)
/-- The statement. -/
theorem gridPrime_proved : Rows.GridPrimeSaid := gridPrime_over
end Go.Proofs.Ytbhlnbllkoomfaa
