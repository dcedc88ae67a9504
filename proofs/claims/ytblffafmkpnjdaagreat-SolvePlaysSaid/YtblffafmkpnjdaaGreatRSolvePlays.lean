/-
  Rows.SolvePlaysSaid: the law answers true at every input, and leaves its arguments as they were.
-/
import Derived.Test.YtblffafmkpnjdaaGreatLo
import Derived.Test.YtblffafmkpnjdaaGreatLt
import Derived.Test.YtblffafmkpnjdaaGreatUe
import Derived.Test.YtblffafmkpnjdaaGreatRows
set_option linter.unusedVariables false
namespace Go.Proofs.YtblffafmkpnjdaaGreat
open Go Go.ChangeShapes Go.WideShapes Go.ChangeAt Go.RowKit
set_option maxRecDepth 100000
theorem Qlt : (Rows.solvePlaysRow.wf (OpenSpec.ofChange Rows.solvePlaysSpec)) = true := by kernel_rfl
theorem Qmd : (laidOutB Tryz.pinned.checked.prog) = true := by kernel_rfl
theorem Qmq : (mapsRowed Tryz.pinned.checked.prog) = true := by kernel_rfl
theorem Qne : (Tryz.f4.params.all (Tryz.pinned.checked.prog.readableRec ·)) = true := by kernel_rfl
theorem Qlz : (namedTie Tryz.pinned.checked.prog Rows.solvePlaysRow.named Rows.solvePlaysSpec.vars) = true := by kernel_rfl
theorem Qmi : ((Rows.solvePlaysRow.stops == [])) = true := by kernel_rfl
theorem Qmm : ((Tryz.pinned.checked.prog.stops == [])) = true := by kernel_rfl
theorem Qnd : ((Rows.solvePlaysRow.knobs == [])) = true := by kernel_rfl
theorem Qlx : ((Tryz.pinned.checked.prog.stopKnobs == [])) = true := by kernel_rfl
theorem Qmz : ((Rows.solvePlaysRow.inPlace == Tryz.pinned.checked.prog.inPlace 4)) = true := by kernel_rfl
theorem Qkm : ((Rows.solvePlaysRow.unfollowed == Tryz.pinned.checked.prog.unfollowed 4)) = true := by kernel_rfl
theorem Qkl : ((Rows.solvePlaysRow.recurses == Tryz.pinned.checked.prog.recurses 4)) = true := by kernel_rfl
theorem Qkw : ((Rows.solvePlaysRow.named == Tryz.pinned.checked.prog.varsNamed 4)) = true := by kernel_rfl
theorem Qkq : ((Rows.solvePlaysRow.maps == (Tryz.f4.params.toList ++ Rows.solvePlaysSpec.plain.varTypes Tryz.pinned.checked.prog).any (Tryz.pinned.checked.prog.mapsRec ·))) = true := by kernel_rfl
theorem Qkt : ((Rows.solvePlaysRow.ifaces == (Tryz.f4.params.toList ++ Rows.solvePlaysSpec.plain.varTypes Tryz.pinned.checked.prog).any (Tryz.pinned.checked.prog.ifacesRec ·))) = true := by kernel_rfl
theorem Qla : ((Rows.solvePlaysRow.mapsOut == Tryz.pinned.checked.prog.mapsAmong Tryz.f4.resultTypes.toList)) = true := by kernel_rfl
theorem Qkv : ((Rows.solvePlaysRow.loops == (Tryz.f4.params.toList ++ Rows.solvePlaysSpec.plain.varTypes Tryz.pinned.checked.prog).any (Tryz.pinned.checked.prog.loopsFrom ·))) = true := by kernel_rfl
theorem Qkk : ((Rows.solvePlaysRow.wideKeys == (Tryz.f4.params.toList ++ Rows.solvePlaysSpec.plain.varTypes Tryz.pinned.checked.prog ++ Tryz.f4.resultTypes.toList).any (Tryz.pinned.checked.prog.wideKeysFrom ·))) = true := by kernel_rfl
theorem Qkx : (Rows.solvePlaysSpec.vars.all (Tryz.pinned.checked.prog.varReadable ·)) = true := by kernel_rfl
theorem Qkn : (Tryz.f4.resultTypes.all (fun t => Tryz.pinned.checked.prog.readableRec t && decide (t < Tryz.pinned.checked.prog.types.size))) = true := by kernel_rfl
theorem Qkp : ((Rows.solvePlaysRow.ifacesOut == Tryz.f4.resultTypes.toList.any (Tryz.pinned.checked.prog.ifacesRec ·))) = true := by kernel_rfl
theorem Qkj : ((Rows.solvePlaysRow.loopsOut == Tryz.f4.resultTypes.toList.any (Tryz.pinned.checked.prog.loopsFrom ·))) = true := by kernel_rfl
theorem Qki : ((Rows.solvePlaysRow.plainKeys == Tryz.pinned.checked.prog.plainKeys)) = true := by kernel_rfl
theorem Qkf : (Rows.solvePlaysRow.shortTexts.isNone) = true := by kernel_rfl
theorem Qkr : (Tryz.pinned.checked.prog.stopsHeard) = true := by kernel_rfl
theorem Qkg : (Tryz.pinned.checked.prog.mayEnter) = true := by kernel_rfl
theorem Qky : ((Rows.solvePlaysRow.lifted == Tryz.pinned.checked.prog.liftsFinal)) = true := by kernel_rfl
theorem Qks : ((Tryz.pinned.checked.prog.make == some Rows.solvePlaysRow.make)) = true := by kernel_rfl
theorem Qkh : ((Rows.solvePlaysRow.kinds == (if Rows.solvePlaysRow.domain.isEmpty then [] else Tryz.f4.params.toList.map fun t => match Tryz.pinned.checked.prog.underlying t with | some (.int k) => some k | _ => none))) = true := by kernel_rfl
theorem Qke : ((Rows.solvePlaysRow.pinned == Rows.solvePlaysRow.pinnedBy)) = true := by kernel_rfl
theorem Qko : ((Rows.solvePlaysRow.veiled == (Tryz.f4.params.toList ++ Rows.solvePlaysSpec.plain.varTypes Tryz.pinned.checked.prog ++ Tryz.f4.resultTypes.toList).any (Tryz.pinned.checked.prog.veiledRec ·))) = true := by kernel_rfl
theorem Qku : (Rows.solvePlaysRow.veiledFits Tryz.pinned.checked.prog Tryz.f4.params.toList (Tryz.f4.params.toList ++ Rows.solvePlaysSpec.plain.varTypes Tryz.pinned.checked.prog ++ Tryz.f4.resultTypes.toList)) = true := by kernel_rfl
theorem Qhw : joinedFacts Tryz.pinned.checked.prog 4 Tryz.f4 Rows.solvePlaysSpec Rows.solvePlaysRow = true := by
  unfold joinedFacts
  simp only [Bool.and_eq_true]
  exact ⟨⟨⟨⟨⟨⟨⟨⟨⟨⟨⟨⟨⟨⟨⟨⟨⟨⟨⟨⟨⟨⟨⟨⟨⟨⟨⟨⟨⟨⟨⟨Qlt,Qmd⟩,Qmq⟩,Qne⟩,Qlz⟩,Qmi⟩,Qmm⟩,Qnd⟩,Qlx⟩,Qmz⟩,Qkm⟩,Qkl⟩,Qkw⟩,Qkq⟩,Qkt⟩,Qla⟩,Qkv⟩,Qkk⟩,Qkx⟩,Qkn⟩,Qkp⟩,Qkj⟩,Qki⟩,Qkf⟩,Qkr⟩,Qkg⟩,Qky⟩,Qks⟩,Qkh⟩,Qke⟩,Qko⟩,Qku⟩
theorem Qid (os : Os) (started : os.Started) (H : Type) (enc : TypeId × Value → H) :
    ReturnsInHanded {} Tryz.checked os 4 .any (Rows.solvePlaysSpec.pre6 enc Tryz.prog Tryz.f4 Rows.solvePlaysRow.domain false) (Rows.solvePlaysSpec.post enc Tryz.prog Tryz.f4 false true false false) := by
  refine returnsInHanded_of_change (C := Tryz.checked) own started (by kernel_rfl) Tryz.func4
    (ChangeSpec.witness6 (enc := enc) (C := Tryz.checked) false ⟨#[],#[.slice none 0 0,.slice none 0 0,.int .i64 0],[]⟩ 8 (by kernel_rfl) (by kernel_rfl) (by kernel_rfl) (by kernel_rfl)) ?_
  intro W base args ds gs before hval0 hW hcnd _
  have hval : ∀ (j : Nat) t v,Tryz.f4.params[j]? = some t → args[j]? = some v → Value.okWide Tryz.prog W .any base t v := hval0
  have hW' := hW
  obtain ⟨p,q,hA0,hV,rfl,hfz,hnd⟩ := hW
  have hA : DataW.TrodAll enc Tryz.prog W 0 (fun _ => true) true Tryz.f4.params.toList args.toList ds p := hA0
  rw [Tryz.params4] at hA hval
  obtain ⟨v0,vs0,d0,ds0,p0,q0,hargs,rfl,rfl,h0,r0⟩ := trodAll_cons hA
  obtain ⟨v1,vs1,d1,ds1,p1,q1,rfl,rfl,rfl,h1,r1⟩ := trodAll_cons r0
  obtain ⟨v2,vs2,d2,ds2,p2,q2,rfl,rfl,rfl,h2,r2⟩ := trodAll_cons r1
  obtain ⟨rfl,rfl,rfl⟩ := trodAll_nil r2
  obtain rfl : args = #[v0,v1,v2] := by cases args;simp_all
  obtain ⟨rfl,rfl⟩ := trodVars_none hV
  have k0 := h0
  have k1 := h1
  have k2 := h2
  have lt0 : ∀ x ∈ p0,x.block < W.heap.size := by obtain ⟨m,hm⟩ := k0;exact DataW.trod_lt m _ _ _ hm
  have lt1 : ∀ x ∈ p1,x.block < W.heap.size := by obtain ⟨m,hm⟩ := k1;exact DataW.trod_lt m _ _ _ hm
  have lt2 : ∀ x ∈ p2,x.block < W.heap.size := by obtain ⟨m,hm⟩ := k2;exact DataW.trod_lt m _ _ _ hm
  obtain ⟨l0,s0,n0,i0⟩ := Qow (hval 0 35 v0 rfl rfl) h0
  obtain ⟨l1,s1,n1,i1⟩ := open_rows (hval 1 36 v1 rfl rfl) h1
  obtain ⟨a2,rfl,ha2⟩ := open_idx (hval 2 3 v2 rfl rfl) h2
  clear hA0 hval0
  refine (plays_law l0 n0 i0 s0 l1 n1 i1 s1 a2 ha2).mono fun e W' ⟨he,hk⟩ => ?_
  subst he
  have bel := hk.below
  exact ⟨_,rfl,_,_,_,[],_,[],hW',trodAll_mk1 (shut_bool Tryz.underlying4 _),(trodAll_cons_mk (Below.trod Qoy (by kernel_rfl) (of_decide_eq_true (by kernel_rfl)) k0 bel lt0) (trodAll_cons_mk (Below.trod Qoy (by kernel_rfl) (of_decide_eq_true (by kernel_rfl)) k1 bel lt1) (trodAll_cons_mk (Below.trod Qoy (by kernel_rfl) (of_decide_eq_true (by kernel_rfl)) k2 bel lt2) trodAll_mk0))),rfl,bel.frame _,fun h => by cases h⟩
theorem Qip : Tryz.pinned.checked.prog.funcNamed Rows.solvePlaysRow.func = some 4 := by kernel_rfl
theorem Qkc : (Tryz.f4).isInstance Tryz.pinned.checked.prog Rows.solvePlaysRow.origin Rows.solvePlaysRow.targs := of_decide_eq_true (by kernel_rfl)
theorem Qjk : (Tryz.f4).isWrapper Tryz.pinned.checked.prog Rows.solvePlaysRow.wrapper Rows.solvePlaysRow.mainSum := by unfold Func.isWrapper;rw [if_neg (of_decide_eq_false (by kernel_rfl))];exact ⟨rfl,rfl⟩
theorem Qju : Rows.solvePlaysRow.holds Tryz.pinned (OpenSpec.ofChange Rows.solvePlaysSpec) :=
  OpenClaim.holds_of_wide 4 Tryz.f4 rfl rfl rfl rfl rfl rfl rfl ⟨rfl,rfl,rfl,rfl,rfl⟩ rfl rfl rfl rfl rfl Qip Tryz.func4 Qhw
    Qkc Qjk
    (fun os started H enc _ => Qid os started H enc)
/-- The statement. -/
theorem solvePlays_proved : Rows.SolvePlaysSaid := Qju
end Go.Proofs.YtblffafmkpnjdaaGreat
