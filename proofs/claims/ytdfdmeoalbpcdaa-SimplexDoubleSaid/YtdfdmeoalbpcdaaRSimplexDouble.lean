/-
  Rows.SimplexDoubleSaid: Of points that are twice as far the nearest one is twice as far, of the same places, and of points turned over it is turned over (points of numbers up to 2^26); the law answers true at every input, and leaves its arguments as they were.
-/
import Derived.Test.YtdfdmeoalbpcdaaNe
import Derived.Test.YtdfdmeoalbpcdaaLl
import Derived.Test.YtdfdmeoalbpcdaaRows
set_option linter.unusedVariables false
namespace Go.Proofs.Ytdfdmeoalbpcdaa
open Go Go.ChangeShapes Go.WideShapes Go.ChangeAt Go.RowKit
set_option maxRecDepth 100000
theorem Qit : (Rows.simplexDoubleRow.wf (OpenSpec.ofChange Rows.simplexDoubleSpec)) = true := by kernel_rfl
theorem Qiw : (laidOutB Try.pinned.checked.prog) = true := by kernel_rfl
theorem Qio : (mapsRowed Try.pinned.checked.prog) = true := by kernel_rfl
theorem Qis : (Try.f6.params.all (Try.pinned.checked.prog.readableRec ·)) = true := by kernel_rfl
theorem Qiv : (namedTie Try.pinned.checked.prog Rows.simplexDoubleRow.named Rows.simplexDoubleSpec.vars) = true := by kernel_rfl
theorem Qiu : ((Rows.simplexDoubleRow.stops == [])) = true := by kernel_rfl
theorem Qip : ((Try.pinned.checked.prog.stops == [])) = true := by kernel_rfl
theorem Qiq : ((Rows.simplexDoubleRow.knobs == [])) = true := by kernel_rfl
theorem Qiz : ((Try.pinned.checked.prog.stopKnobs == [])) = true := by kernel_rfl
theorem Qja : ((Rows.simplexDoubleRow.inPlace == Try.pinned.checked.prog.inPlace 6)) = true := by kernel_rfl
theorem Qhh : ((Rows.simplexDoubleRow.unfollowed == Try.pinned.checked.prog.unfollowed 6)) = true := by kernel_rfl
theorem Qif : ((Rows.simplexDoubleRow.recurses == Try.pinned.checked.prog.recurses 6)) = true := by kernel_rfl
theorem Qhs : ((Rows.simplexDoubleRow.named == Try.pinned.checked.prog.varsNamed 6)) = true := by kernel_rfl
theorem Qhe : ((Rows.simplexDoubleRow.maps == (Try.f6.params.toList ++ Rows.simplexDoubleSpec.plain.varTypes Try.pinned.checked.prog).any (Try.pinned.checked.prog.mapsRec ·))) = true := by kernel_rfl
theorem Qhu : ((Rows.simplexDoubleRow.ifaces == (Try.f6.params.toList ++ Rows.simplexDoubleSpec.plain.varTypes Try.pinned.checked.prog).any (Try.pinned.checked.prog.ifacesRec ·))) = true := by kernel_rfl
theorem Qhp : ((Rows.simplexDoubleRow.mapsOut == Try.pinned.checked.prog.mapsAmong Try.f6.resultTypes.toList)) = true := by kernel_rfl
theorem Qia : ((Rows.simplexDoubleRow.loops == (Try.f6.params.toList ++ Rows.simplexDoubleSpec.plain.varTypes Try.pinned.checked.prog).any (Try.pinned.checked.prog.loopsFrom ·))) = true := by kernel_rfl
theorem Qhx : ((Rows.simplexDoubleRow.wideKeys == (Try.f6.params.toList ++ Rows.simplexDoubleSpec.plain.varTypes Try.pinned.checked.prog ++ Try.f6.resultTypes.toList).any (Try.pinned.checked.prog.wideKeysFrom ·))) = true := by kernel_rfl
theorem Qhy : (Rows.simplexDoubleSpec.vars.all (Try.pinned.checked.prog.varReadable ·)) = true := by kernel_rfl
theorem Qhl : (Try.f6.resultTypes.all (fun t => Try.pinned.checked.prog.readableRec t && decide (t < Try.pinned.checked.prog.types.size))) = true := by kernel_rfl
theorem Qhv : ((Rows.simplexDoubleRow.ifacesOut == Try.f6.resultTypes.toList.any (Try.pinned.checked.prog.ifacesRec ·))) = true := by kernel_rfl
theorem Qih : ((Rows.simplexDoubleRow.loopsOut == Try.f6.resultTypes.toList.any (Try.pinned.checked.prog.loopsFrom ·))) = true := by kernel_rfl
theorem Qhj : ((Rows.simplexDoubleRow.plainKeys == Try.pinned.checked.prog.plainKeys)) = true := by kernel_rfl
theorem Qhc : (Rows.simplexDoubleRow.shortTexts.isNone) = true := by kernel_rfl
theorem Qii : (Try.pinned.checked.prog.stopsHeard) = true := by kernel_rfl
theorem Qhm : (Try.pinned.checked.prog.mayEnter) = true := by kernel_rfl
theorem Qhz : ((Rows.simplexDoubleRow.lifted == Try.pinned.checked.prog.liftsFinal)) = true := by kernel_rfl
theorem Qhi : ((Try.pinned.checked.prog.make == some Rows.simplexDoubleRow.make)) = true := by kernel_rfl
theorem Qib : ((Rows.simplexDoubleRow.kinds == (if Rows.simplexDoubleRow.domain.isEmpty then [] else Try.f6.params.toList.map fun t => match Try.pinned.checked.prog.underlying t with | some (.int k) => some k | _ => none))) = true := by kernel_rfl
theorem Qij : ((Rows.simplexDoubleRow.pinned == Rows.simplexDoubleRow.pinnedBy)) = true := by kernel_rfl
theorem Qhf : ((Rows.simplexDoubleRow.veiled == (Try.f6.params.toList ++ Rows.simplexDoubleSpec.plain.varTypes Try.pinned.checked.prog ++ Try.f6.resultTypes.toList).any (Try.pinned.checked.prog.veiledRec ·))) = true := by kernel_rfl
theorem Qhk : (Rows.simplexDoubleRow.veiledFits Try.pinned.checked.prog Try.f6.params.toList (Try.f6.params.toList ++ Rows.simplexDoubleSpec.plain.varTypes Try.pinned.checked.prog ++ Try.f6.resultTypes.toList)) = true := by kernel_rfl
theorem Qft : joinedFacts Try.pinned.checked.prog 6 Try.f6 Rows.simplexDoubleSpec Rows.simplexDoubleRow = true := by
  unfold joinedFacts
  simp only [Bool.and_eq_true]
  exact ⟨⟨⟨⟨⟨⟨⟨⟨⟨⟨⟨⟨⟨⟨⟨⟨⟨⟨⟨⟨⟨⟨⟨⟨⟨⟨⟨⟨⟨⟨⟨Qit,Qiw⟩,Qio⟩,Qis⟩,Qiv⟩,Qiu⟩,Qip⟩,Qiq⟩,Qiz⟩,Qja⟩,Qhh⟩,Qif⟩,Qhs⟩,Qhe⟩,Qhu⟩,Qhp⟩,Qia⟩,Qhx⟩,Qhy⟩,Qhl⟩,Qhv⟩,Qih⟩,Qhj⟩,Qhc⟩,Qii⟩,Qhm⟩,Qhz⟩,Qhi⟩,Qib⟩,Qij⟩,Qhf⟩,Qhk⟩
theorem Qfs (os : Os) (started : os.Started) (H : Type) (enc : TypeId × Value → H) :
    ReturnsInHanded {} Try.checked os 6 .any (Rows.simplexDoubleSpec.pre6 enc Try.prog Try.f6 Rows.simplexDoubleRow.domain false) (Rows.simplexDoubleSpec.post enc Try.prog Try.f6 false true false false) := by
  refine returnsInHanded_of_change (C := Try.checked) own started (by kernel_rfl) Try.func6
    (ChangeSpec.witness6 (enc := enc) (C := Try.checked) false ⟨#[],#[.slice none 0 0],[]⟩ 8 (by kernel_rfl) (by kernel_rfl) (by kernel_rfl) (by kernel_rfl)) ?_
  intro W base args ds gs before hval0 hW hcnd _
  have hval : ∀ (j : Nat) t v,Try.f6.params[j]? = some t → args[j]? = some v → Value.okWide Try.prog W .any base t v := hval0
  have hW' := hW
  obtain ⟨p,q,hA0,hV,rfl,hfz,hnd⟩ := hW
  have hA : DataW.TrodAll enc Try.prog W 0 (fun _ => true) true Try.f6.params.toList args.toList ds p := hA0
  rw [Try.params6] at hA hval
  obtain ⟨v0,vs0,d0,ds0,p0,q0,hargs,rfl,rfl,h0,r0⟩ := trodAll_cons hA
  obtain ⟨rfl,rfl,rfl⟩ := trodAll_nil r0
  obtain rfl : args = #[v0] := by cases args;simp_all
  obtain ⟨rfl,rfl⟩ := trodVars_none hV
  have k0 := h0
  have lt0 : ∀ x ∈ p0,x.block < W.heap.size := by obtain ⟨m,hm⟩ := k0;exact DataW.trod_lt m _ _ _ hm
  obtain ⟨l0,s0,n0,i0⟩ := Qkm (hval 0 22 v0 rfl rfl) h0
  clear hA0 hval0
  refine (double_law l0 n0 i0 s0).mono fun e W' ⟨he,hk⟩ => ?_
  subst he
  have bel := hk.below
  exact ⟨_,rfl,_,_,_,[],_,[],hW',trodAll_mk1 (shut_bool Try.underlying4 _),(trodAll_cons_mk (Below.trod laidOut (by kernel_rfl) (of_decide_eq_true (by kernel_rfl)) k0 bel lt0) trodAll_mk0),rfl,bel.frame _,fun h => by cases h⟩
theorem Qgc : Try.pinned.checked.prog.funcNamed Rows.simplexDoubleRow.func = some 6 := by kernel_rfl
theorem Qgt : (Try.f6).isInstance Try.pinned.checked.prog Rows.simplexDoubleRow.origin Rows.simplexDoubleRow.targs := of_decide_eq_true (by kernel_rfl)
theorem Qha : (Try.f6).isWrapper Try.pinned.checked.prog Rows.simplexDoubleRow.wrapper Rows.simplexDoubleRow.mainSum := by unfold Func.isWrapper;rw [if_neg (of_decide_eq_false (by kernel_rfl))];exact ⟨rfl,rfl⟩
theorem Qgj : Rows.simplexDoubleRow.holds Try.pinned (OpenSpec.ofChange Rows.simplexDoubleSpec) :=
  OpenClaim.holds_of_wide 6 Try.f6 rfl rfl rfl rfl rfl rfl rfl ⟨rfl,rfl,rfl,rfl,rfl⟩ rfl rfl rfl rfl rfl Qgc Try.func6 Qft
    Qgt Qha
    (fun os started H enc _ => Qfs os started H enc)
/-- The statement. -/
theorem simplexDouble_proved : Rows.SimplexDoubleSaid := Qgj
end Go.Proofs.Ytdfdmeoalbpcdaa
