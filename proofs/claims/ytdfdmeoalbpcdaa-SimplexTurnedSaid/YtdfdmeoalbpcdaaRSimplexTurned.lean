/-
  Rows.SimplexTurnedSaid: the law answers true at every input, and leaves its arguments as they were.
-/
import Derived.Test.YtdfdmeoalbpcdaaQy
import Derived.Test.YtdfdmeoalbpcdaaPa
import Derived.Test.YtdfdmeoalbpcdaaRows
set_option linter.unusedVariables false
namespace Go.Proofs.Ytdfdmeoalbpcdaa
open Go Go.ChangeShapes Go.WideShapes Go.ChangeAt Go.RowKit
set_option maxRecDepth 100000
theorem Qhw : (Rows.simplexTurnedRow.wf (OpenSpec.ofChange Rows.simplexTurnedSpec)) = true := by kernel_rfl
theorem Qht : (laidOutB Try.pinned.checked.prog) = true := by kernel_rfl
theorem Qhv : (mapsRowed Try.pinned.checked.prog) = true := by kernel_rfl
theorem Qhs : (Try.f4.params.all (Try.pinned.checked.prog.readableRec ·)) = true := by kernel_rfl
theorem Qhr : (namedTie Try.pinned.checked.prog Rows.simplexTurnedRow.named Rows.simplexTurnedSpec.vars) = true := by kernel_rfl
theorem Qhq : ((Rows.simplexTurnedRow.stops == [])) = true := by kernel_rfl
theorem Qhu : ((Try.pinned.checked.prog.stops == [])) = true := by kernel_rfl
theorem Qhn : ((Rows.simplexTurnedRow.knobs == [])) = true := by kernel_rfl
theorem Qhp : ((Try.pinned.checked.prog.stopKnobs == [])) = true := by kernel_rfl
theorem Qho : ((Rows.simplexTurnedRow.inPlace == Try.pinned.checked.prog.inPlace 4)) = true := by kernel_rfl
theorem Qgf : ((Rows.simplexTurnedRow.unfollowed == Try.pinned.checked.prog.unfollowed 4)) = true := by kernel_rfl
theorem Qgi : ((Rows.simplexTurnedRow.recurses == Try.pinned.checked.prog.recurses 4)) = true := by kernel_rfl
theorem Qgl : ((Rows.simplexTurnedRow.named == Try.pinned.checked.prog.varsNamed 4)) = true := by kernel_rfl
theorem Qgt : ((Rows.simplexTurnedRow.maps == (Try.f4.params.toList ++ Rows.simplexTurnedSpec.plain.varTypes Try.pinned.checked.prog).any (Try.pinned.checked.prog.mapsRec ·))) = true := by kernel_rfl
theorem Qhc : ((Rows.simplexTurnedRow.ifaces == (Try.f4.params.toList ++ Rows.simplexTurnedSpec.plain.varTypes Try.pinned.checked.prog).any (Try.pinned.checked.prog.ifacesRec ·))) = true := by kernel_rfl
theorem Qgg : ((Rows.simplexTurnedRow.mapsOut == Try.pinned.checked.prog.mapsAmong Try.f4.resultTypes.toList)) = true := by kernel_rfl
theorem Qgo : ((Rows.simplexTurnedRow.loops == (Try.f4.params.toList ++ Rows.simplexTurnedSpec.plain.varTypes Try.pinned.checked.prog).any (Try.pinned.checked.prog.loopsFrom ·))) = true := by kernel_rfl
theorem Qgx : ((Rows.simplexTurnedRow.wideKeys == (Try.f4.params.toList ++ Rows.simplexTurnedSpec.plain.varTypes Try.pinned.checked.prog ++ Try.f4.resultTypes.toList).any (Try.pinned.checked.prog.wideKeysFrom ·))) = true := by kernel_rfl
theorem Qgn : (Rows.simplexTurnedSpec.vars.all (Try.pinned.checked.prog.varReadable ·)) = true := by kernel_rfl
theorem Qhd : (Try.f4.resultTypes.all (fun t => Try.pinned.checked.prog.readableRec t && decide (t < Try.pinned.checked.prog.types.size))) = true := by kernel_rfl
theorem Qgj : ((Rows.simplexTurnedRow.ifacesOut == Try.f4.resultTypes.toList.any (Try.pinned.checked.prog.ifacesRec ·))) = true := by kernel_rfl
theorem Qhe : ((Rows.simplexTurnedRow.loopsOut == Try.f4.resultTypes.toList.any (Try.pinned.checked.prog.loopsFrom ·))) = true := by kernel_rfl
theorem Qgv : ((Rows.simplexTurnedRow.plainKeys == Try.pinned.checked.prog.plainKeys)) = true := by kernel_rfl
theorem Qgq : (Rows.simplexTurnedRow.shortTexts.isNone) = true := by kernel_rfl
theorem Qgr : (Try.pinned.checked.prog.stopsHeard) = true := by kernel_rfl
theorem Qgu : (Try.pinned.checked.prog.mayEnter) = true := by kernel_rfl
theorem Qgk : ((Rows.simplexTurnedRow.lifted == Try.pinned.checked.prog.liftsFinal)) = true := by kernel_rfl
theorem Qgm : ((Try.pinned.checked.prog.make == some Rows.simplexTurnedRow.make)) = true := by kernel_rfl
theorem Qgh : ((Rows.simplexTurnedRow.kinds == (if Rows.simplexTurnedRow.domain.isEmpty then [] else Try.f4.params.toList.map fun t => match Try.pinned.checked.prog.underlying t with | some (.int k) => some k | _ => none))) = true := by kernel_rfl
theorem Qgp : ((Rows.simplexTurnedRow.pinned == Rows.simplexTurnedRow.pinnedBy)) = true := by kernel_rfl
theorem Qgd : ((Rows.simplexTurnedRow.veiled == (Try.f4.params.toList ++ Rows.simplexTurnedSpec.plain.varTypes Try.pinned.checked.prog ++ Try.f4.resultTypes.toList).any (Try.pinned.checked.prog.veiledRec ·))) = true := by kernel_rfl
theorem Qgz : (Rows.simplexTurnedRow.veiledFits Try.pinned.checked.prog Try.f4.params.toList (Try.f4.params.toList ++ Rows.simplexTurnedSpec.plain.varTypes Try.pinned.checked.prog ++ Try.f4.resultTypes.toList)) = true := by kernel_rfl
theorem Qfd : joinedFacts Try.pinned.checked.prog 4 Try.f4 Rows.simplexTurnedSpec Rows.simplexTurnedRow = true := by
  unfold joinedFacts
  simp only [Bool.and_eq_true]
  exact ⟨⟨⟨⟨⟨⟨⟨⟨⟨⟨⟨⟨⟨⟨⟨⟨⟨⟨⟨⟨⟨⟨⟨⟨⟨⟨⟨⟨⟨⟨⟨Qhw,Qht⟩,Qhv⟩,Qhs⟩,Qhr⟩,Qhq⟩,Qhu⟩,Qhn⟩,Qhp⟩,Qho⟩,Qgf⟩,Qgi⟩,Qgl⟩,Qgt⟩,Qhc⟩,Qgg⟩,Qgo⟩,Qgx⟩,Qgn⟩,Qhd⟩,Qgj⟩,Qhe⟩,Qgv⟩,Qgq⟩,Qgr⟩,Qgu⟩,Qgk⟩,Qgm⟩,Qgh⟩,Qgp⟩,Qgd⟩,Qgz⟩
theorem Qfc (os : Os) (started : os.Started) (H : Type) (enc : TypeId × Value → H) :
    ReturnsInHanded {} Try.checked os 4 .any (Rows.simplexTurnedSpec.pre6 enc Try.prog Try.f4 Rows.simplexTurnedRow.domain false) (Rows.simplexTurnedSpec.post enc Try.prog Try.f4 false true false false) := by
  refine returnsInHanded_of_change (C := Try.checked) own started (by kernel_rfl) Try.func4
    (ChangeSpec.witness6 (enc := enc) (C := Try.checked) false ⟨#[],#[.slice none 0 0,.int .i64 0],[]⟩ 8 (by kernel_rfl) (by kernel_rfl) (by kernel_rfl) (by kernel_rfl)) ?_
  intro W base args ds gs before hval0 hW hcnd _
  have hval : ∀ (j : Nat) t v,Try.f4.params[j]? = some t → args[j]? = some v → Value.okWide Try.prog W .any base t v := hval0
  have hW' := hW
  obtain ⟨p,q,hA0,hV,rfl,hfz,hnd⟩ := hW
  have hA : DataW.TrodAll enc Try.prog W 0 (fun _ => true) true Try.f4.params.toList args.toList ds p := hA0
  rw [Try.params4] at hA hval
  obtain ⟨v0,vs0,d0,ds0,p0,q0,hargs,rfl,rfl,h0,r0⟩ := trodAll_cons hA
  obtain ⟨v1,vs1,d1,ds1,p1,q1,rfl,rfl,rfl,h1,r1⟩ := trodAll_cons r0
  obtain ⟨rfl,rfl,rfl⟩ := trodAll_nil r1
  obtain rfl : args = #[v0,v1] := by cases args;simp_all
  obtain ⟨rfl,rfl⟩ := trodVars_none hV
  have k0 := h0
  have k1 := h1
  have lt0 : ∀ x ∈ p0,x.block < W.heap.size := by obtain ⟨m,hm⟩ := k0;exact DataW.trod_lt m _ _ _ hm
  have lt1 : ∀ x ∈ p1,x.block < W.heap.size := by obtain ⟨m,hm⟩ := k1;exact DataW.trod_lt m _ _ _ hm
  have c0 := open_cap (hval 0 22 v0 rfl rfl) h0
  obtain ⟨l0,s0,n0,i0⟩ := Qmv (hval 0 22 v0 rfl rfl) h0
  obtain ⟨a1,rfl,ha1⟩ := open_idx (hval 1 3 v1 rfl rfl) h1
  clear hA0 hval0
  refine (Qpf l0 n0 i0 s0 c0 a1 ha1).mono fun e W' ⟨he,hk⟩ => ?_
  subst he
  have bel := hk.below
  exact ⟨_,rfl,_,_,_,[],_,[],hW',trodAll_mk1 (shut_bool Try.underlying4 _),(trodAll_cons_mk (Below.trod laidOut (by kernel_rfl) (of_decide_eq_true (by kernel_rfl)) k0 bel lt0) (trodAll_cons_mk (Below.trod laidOut (by kernel_rfl) (of_decide_eq_true (by kernel_rfl)) k1 bel lt1) trodAll_mk0)),rfl,bel.frame _,fun h => by cases h⟩
theorem Qfj : Try.pinned.checked.prog.funcNamed Rows.simplexTurnedRow.func = some 4 := by kernel_rfl
theorem Qfz : (Try.f4).isInstance Try.pinned.checked.prog Rows.simplexTurnedRow.origin Rows.simplexTurnedRow.targs := of_decide_eq_true (by kernel_rfl)
theorem Qfv : (Try.f4).isWrapper Try.pinned.checked.prog Rows.simplexTurnedRow.wrapper Rows.simplexTurnedRow.mainSum := by unfold Func.isWrapper;rw [if_neg (of_decide_eq_false (by kernel_rfl))];exact ⟨rfl,rfl⟩
theorem Qft : Rows.simplexTurnedRow.holds Try.pinned (OpenSpec.ofChange Rows.simplexTurnedSpec) :=
  OpenClaim.holds_of_wide 4 Try.f4 rfl rfl rfl rfl rfl rfl rfl ⟨rfl,rfl,rfl,rfl,rfl⟩ rfl rfl rfl rfl rfl Qfj Try.func4 Qfd
    Qfz Qfv
    (fun os started H enc _ => Qfc os started H enc)
/-- The statement. -/
theorem simplexTurned_proved : Rows.SimplexTurnedSaid := Qft
end Go.Proofs.Ytdfdmeoalbpcdaa
