/-
  Rows.SimplexMoreSaid: the law answers true at every input, and leaves its arguments as they were.
-/
import Derived.Test.YtdfdmeoalbpcdaaQw
import Derived.Test.YtdfdmeoalbpcdaaPa
import Derived.Test.YtdfdmeoalbpcdaaRows
set_option linter.unusedVariables false
namespace Go.Proofs.Ytdfdmeoalbpcdaa
open Go Go.ChangeShapes Go.WideShapes Go.ChangeAt Go.RowKit
set_option maxRecDepth 100000
theorem Qjf : (Rows.simplexMoreRow.wf (OpenSpec.ofChange Rows.simplexMoreSpec)) = true := by kernel_rfl
theorem Qja : (laidOutB Try.pinned.checked.prog) = true := by kernel_rfl
theorem Qiw : (mapsRowed Try.pinned.checked.prog) = true := by kernel_rfl
theorem Qje : (Try.f5.params.all (Try.pinned.checked.prog.readableRec ·)) = true := by kernel_rfl
theorem Qjb : (namedTie Try.pinned.checked.prog Rows.simplexMoreRow.named Rows.simplexMoreSpec.vars) = true := by kernel_rfl
theorem Qiz : ((Rows.simplexMoreRow.stops == [])) = true := by kernel_rfl
theorem Qit : ((Try.pinned.checked.prog.stops == [])) = true := by kernel_rfl
theorem Qjg : ((Rows.simplexMoreRow.knobs == [])) = true := by kernel_rfl
theorem Qjd : ((Try.pinned.checked.prog.stopKnobs == [])) = true := by kernel_rfl
theorem Qjc : ((Rows.simplexMoreRow.inPlace == Try.pinned.checked.prog.inPlace 5)) = true := by kernel_rfl
theorem Qif : ((Rows.simplexMoreRow.unfollowed == Try.pinned.checked.prog.unfollowed 5)) = true := by kernel_rfl
theorem Qhq : ((Rows.simplexMoreRow.recurses == Try.pinned.checked.prog.recurses 5)) = true := by kernel_rfl
theorem Qia : ((Rows.simplexMoreRow.named == Try.pinned.checked.prog.varsNamed 5)) = true := by kernel_rfl
theorem Qhs : ((Rows.simplexMoreRow.maps == (Try.f5.params.toList ++ Rows.simplexMoreSpec.plain.varTypes Try.pinned.checked.prog).any (Try.pinned.checked.prog.mapsRec ·))) = true := by kernel_rfl
theorem Qhd : ((Rows.simplexMoreRow.ifaces == (Try.f5.params.toList ++ Rows.simplexMoreSpec.plain.varTypes Try.pinned.checked.prog).any (Try.pinned.checked.prog.ifacesRec ·))) = true := by kernel_rfl
theorem Qib : ((Rows.simplexMoreRow.mapsOut == Try.pinned.checked.prog.mapsAmong Try.f5.resultTypes.toList)) = true := by kernel_rfl
theorem Qhg : ((Rows.simplexMoreRow.loops == (Try.f5.params.toList ++ Rows.simplexMoreSpec.plain.varTypes Try.pinned.checked.prog).any (Try.pinned.checked.prog.loopsFrom ·))) = true := by kernel_rfl
theorem Qhi : ((Rows.simplexMoreRow.wideKeys == (Try.f5.params.toList ++ Rows.simplexMoreSpec.plain.varTypes Try.pinned.checked.prog ++ Try.f5.resultTypes.toList).any (Try.pinned.checked.prog.wideKeysFrom ·))) = true := by kernel_rfl
theorem Qhl : (Rows.simplexMoreSpec.vars.all (Try.pinned.checked.prog.varReadable ·)) = true := by kernel_rfl
theorem Qiq : (Try.f5.resultTypes.all (fun t => Try.pinned.checked.prog.readableRec t && decide (t < Try.pinned.checked.prog.types.size))) = true := by kernel_rfl
theorem Qie : ((Rows.simplexMoreRow.ifacesOut == Try.f5.resultTypes.toList.any (Try.pinned.checked.prog.ifacesRec ·))) = true := by kernel_rfl
theorem Qid : ((Rows.simplexMoreRow.loopsOut == Try.f5.resultTypes.toList.any (Try.pinned.checked.prog.loopsFrom ·))) = true := by kernel_rfl
theorem Qhk : ((Rows.simplexMoreRow.plainKeys == Try.pinned.checked.prog.plainKeys)) = true := by kernel_rfl
theorem Qhm : (Rows.simplexMoreRow.shortTexts.isNone) = true := by kernel_rfl
theorem Qic : (Try.pinned.checked.prog.stopsHeard) = true := by kernel_rfl
theorem Qhh : (Try.pinned.checked.prog.mayEnter) = true := by kernel_rfl
theorem Qhc : ((Rows.simplexMoreRow.lifted == Try.pinned.checked.prog.liftsFinal)) = true := by kernel_rfl
theorem Qhf : ((Try.pinned.checked.prog.make == some Rows.simplexMoreRow.make)) = true := by kernel_rfl
theorem Qgz : ((Rows.simplexMoreRow.kinds == (if Rows.simplexMoreRow.domain.isEmpty then [] else Try.f5.params.toList.map fun t => match Try.pinned.checked.prog.underlying t with | some (.int k) => some k | _ => none))) = true := by kernel_rfl
theorem Qhu : ((Rows.simplexMoreRow.pinned == Rows.simplexMoreRow.pinnedBy)) = true := by kernel_rfl
theorem Qhv : ((Rows.simplexMoreRow.veiled == (Try.f5.params.toList ++ Rows.simplexMoreSpec.plain.varTypes Try.pinned.checked.prog ++ Try.f5.resultTypes.toList).any (Try.pinned.checked.prog.veiledRec ·))) = true := by kernel_rfl
theorem Qhz : (Rows.simplexMoreRow.veiledFits Try.pinned.checked.prog Try.f5.params.toList (Try.f5.params.toList ++ Rows.simplexMoreSpec.plain.varTypes Try.pinned.checked.prog ++ Try.f5.resultTypes.toList)) = true := by kernel_rfl
theorem Qfu : joinedFacts Try.pinned.checked.prog 5 Try.f5 Rows.simplexMoreSpec Rows.simplexMoreRow = true := by
  unfold joinedFacts
  simp only [Bool.and_eq_true]
  exact ⟨⟨⟨⟨⟨⟨⟨⟨⟨⟨⟨⟨⟨⟨⟨⟨⟨⟨⟨⟨⟨⟨⟨⟨⟨⟨⟨⟨⟨⟨⟨Qjf,Qja⟩,Qiw⟩,Qje⟩,Qjb⟩,Qiz⟩,Qit⟩,Qjg⟩,Qjd⟩,Qjc⟩,Qif⟩,Qhq⟩,Qia⟩,Qhs⟩,Qhd⟩,Qib⟩,Qhg⟩,Qhi⟩,Qhl⟩,Qiq⟩,Qie⟩,Qid⟩,Qhk⟩,Qhm⟩,Qic⟩,Qhh⟩,Qhc⟩,Qhf⟩,Qgz⟩,Qhu⟩,Qhv⟩,Qhz⟩
theorem Qgb (os : Os) (started : os.Started) (H : Type) (enc : TypeId × Value → H) :
    ReturnsInHanded {} Try.checked os 5 .any (Rows.simplexMoreSpec.pre6 enc Try.prog Try.f5 Rows.simplexMoreRow.domain false) (Rows.simplexMoreSpec.post enc Try.prog Try.f5 false true false false) := by
  refine returnsInHanded_of_change (C := Try.checked) own started (by kernel_rfl) Try.func5
    (ChangeSpec.witness6 (enc := enc) (C := Try.checked) false ⟨#[],#[.slice none 0 0,.agg #[.int .i64 0,.int .i64 0,.int .i64 0]],[]⟩ 8 (by kernel_rfl) (by kernel_rfl) (by kernel_rfl) (by kernel_rfl)) ?_
  intro W base args ds gs before hval0 hW hcnd _
  have hval : ∀ (j : Nat) t v,Try.f5.params[j]? = some t → args[j]? = some v → Value.okWide Try.prog W .any base t v := hval0
  have hW' := hW
  obtain ⟨p,q,hA0,hV,rfl,hfz,hnd⟩ := hW
  have hA : DataW.TrodAll enc Try.prog W 0 (fun _ => true) true Try.f5.params.toList args.toList ds p := hA0
  rw [Try.params5] at hA hval
  obtain ⟨v0,vs0,d0,ds0,p0,q0,hargs,rfl,rfl,h0,r0⟩ := trodAll_cons hA
  obtain ⟨v1,vs1,d1,ds1,p1,q1,rfl,rfl,rfl,h1,r1⟩ := trodAll_cons r0
  obtain ⟨rfl,rfl,rfl⟩ := trodAll_nil r1
  obtain rfl : args = #[v0,v1] := by cases args;simp_all
  obtain ⟨rfl,rfl⟩ := trodVars_none hV
  have k0 := h0
  have k1 := h1
  have lt0 : ∀ x ∈ p0,x.block < W.heap.size := by obtain ⟨m,hm⟩ := k0;exact DataW.trod_lt m _ _ _ hm
  have lt1 : ∀ x ∈ p1,x.block < W.heap.size := by obtain ⟨m,hm⟩ := k1;exact DataW.trod_lt m _ _ _ hm
  obtain ⟨l0,s0,n0,i0⟩ := Qnb (hval 0 22 v0 rfl rfl) h0
  obtain ⟨a1,rfl,ha1⟩ := Qok (hval 1 24 v1 rfl rfl) h1
  clear hA0 hval0
  refine (more_law l0 n0 i0 s0 a1 ha1).mono fun e W' ⟨he,hk⟩ => ?_
  subst he
  have bel := hk.below
  exact ⟨_,rfl,_,_,_,[],_,[],hW',trodAll_mk1 (shut_bool Try.underlying4 _),(trodAll_cons_mk (Below.trod laidOut (by kernel_rfl) (of_decide_eq_true (by kernel_rfl)) k0 bel lt0) (trodAll_cons_mk (Below.trod laidOut (by kernel_rfl) (of_decide_eq_true (by kernel_rfl)) k1 bel lt1) trodAll_mk0)),rfl,bel.frame _,fun h => by cases h⟩
theorem Qgl : Try.pinned.checked.prog.funcNamed Rows.simplexMoreRow.func = some 5 := by kernel_rfl
theorem Qgt : (Try.f5).isInstance Try.pinned.checked.prog Rows.simplexMoreRow.origin Rows.simplexMoreRow.targs := of_decide_eq_true (by kernel_rfl)
theorem Qgr : (Try.f5).isWrapper Try.pinned.checked.prog Rows.simplexMoreRow.wrapper Rows.simplexMoreRow.mainSum := by unfold Func.isWrapper;rw [if_neg (of_decide_eq_false (by kernel_rfl))];exact ⟨rfl,rfl⟩
theorem Qgu : Rows.simplexMoreRow.holds Try.pinned (OpenSpec.ofChange Rows.simplexMoreSpec) :=
  OpenClaim.holds_of_wide 5 Try.f5 rfl rfl rfl rfl rfl rfl rfl ⟨rfl,rfl,rfl,rfl,rfl⟩ rfl rfl rfl rfl rfl Qgl Try.func5 Qfu
    Qgt Qgr
    (fun os started H enc _ => Qgb os started H enc)
/-- The statement. -/
theorem simplexMore_proved : Rows.SimplexMoreSaid := Qgu
end Go.Proofs.Ytdfdmeoalbpcdaa
