/-
  Rows.SimplexNearSaid: The nearest of any points is the document's, or refused (at most 300 points); the law answers true at every input, and leaves its arguments as they were.
-/
import Derived.Test.YtdfdmeoalbpcdaaGreatNs
import Derived.Test.YtdfdmeoalbpcdaaGreatQa
import Derived.Test.YtdfdmeoalbpcdaaGreatRows
set_option linter.unusedVariables false
namespace Go.Proofs.YtdfdmeoalbpcdaaGreat
open Go Go.ChangeShapes Go.WideShapes Go.ChangeAt Go.RowKit
set_option maxRecDepth 100000
theorem Qlg : (Rows.simplexNearRow.wf (OpenSpec.ofChange Rows.simplexNearSpec)) = true := by kernel_rfl
theorem Qlk : (laidOutB Tryz.pinned.checked.prog) = true := by kernel_rfl
theorem Qli : (mapsRowed Tryz.pinned.checked.prog) = true := by kernel_rfl
theorem Qlq : (Tryz.f3.params.all (Tryz.pinned.checked.prog.readableRec ·)) = true := by kernel_rfl
theorem Qld : (namedTie Tryz.pinned.checked.prog Rows.simplexNearRow.named Rows.simplexNearSpec.vars) = true := by kernel_rfl
theorem Qll : ((Rows.simplexNearRow.stops == [])) = true := by kernel_rfl
theorem Qlf : ((Tryz.pinned.checked.prog.stops == [])) = true := by kernel_rfl
theorem Qlp : ((Rows.simplexNearRow.knobs == [])) = true := by kernel_rfl
theorem Qlh : ((Tryz.pinned.checked.prog.stopKnobs == [])) = true := by kernel_rfl
theorem Qle : ((Rows.simplexNearRow.inPlace == Tryz.pinned.checked.prog.inPlace 3)) = true := by kernel_rfl
theorem Qks : ((Rows.simplexNearRow.unfollowed == Tryz.pinned.checked.prog.unfollowed 3)) = true := by kernel_rfl
theorem Qkw : ((Rows.simplexNearRow.recurses == Tryz.pinned.checked.prog.recurses 3)) = true := by kernel_rfl
theorem Qla : ((Rows.simplexNearRow.named == Tryz.pinned.checked.prog.varsNamed 3)) = true := by kernel_rfl
theorem Qkf : ((Rows.simplexNearRow.maps == (Tryz.f3.params.toList ++ Rows.simplexNearSpec.plain.varTypes Tryz.pinned.checked.prog).any (Tryz.pinned.checked.prog.mapsRec ·))) = true := by kernel_rfl
theorem Qkn : ((Rows.simplexNearRow.ifaces == (Tryz.f3.params.toList ++ Rows.simplexNearSpec.plain.varTypes Tryz.pinned.checked.prog).any (Tryz.pinned.checked.prog.ifacesRec ·))) = true := by kernel_rfl
theorem Qka : ((Rows.simplexNearRow.mapsOut == Tryz.pinned.checked.prog.mapsAmong Tryz.f3.resultTypes.toList)) = true := by kernel_rfl
theorem Qjx : ((Rows.simplexNearRow.loops == (Tryz.f3.params.toList ++ Rows.simplexNearSpec.plain.varTypes Tryz.pinned.checked.prog).any (Tryz.pinned.checked.prog.loopsFrom ·))) = true := by kernel_rfl
theorem Qjg : ((Rows.simplexNearRow.wideKeys == (Tryz.f3.params.toList ++ Rows.simplexNearSpec.plain.varTypes Tryz.pinned.checked.prog ++ Tryz.f3.resultTypes.toList).any (Tryz.pinned.checked.prog.wideKeysFrom ·))) = true := by kernel_rfl
theorem Qjc : (Rows.simplexNearSpec.vars.all (Tryz.pinned.checked.prog.varReadable ·)) = true := by kernel_rfl
theorem Qkh : (Tryz.f3.resultTypes.all (fun t => Tryz.pinned.checked.prog.readableRec t && decide (t < Tryz.pinned.checked.prog.types.size))) = true := by kernel_rfl
theorem Qkk : ((Rows.simplexNearRow.ifacesOut == Tryz.f3.resultTypes.toList.any (Tryz.pinned.checked.prog.ifacesRec ·))) = true := by kernel_rfl
theorem Qku : ((Rows.simplexNearRow.loopsOut == Tryz.f3.resultTypes.toList.any (Tryz.pinned.checked.prog.loopsFrom ·))) = true := by kernel_rfl
theorem Qjl : ((Rows.simplexNearRow.plainKeys == Tryz.pinned.checked.prog.plainKeys)) = true := by kernel_rfl
theorem Qkc : (Rows.simplexNearRow.shortTexts.isNone) = true := by kernel_rfl
theorem Qjs : (Tryz.pinned.checked.prog.stopsHeard) = true := by kernel_rfl
theorem Qjv : (Tryz.pinned.checked.prog.mayEnter) = true := by kernel_rfl
theorem Qkb : ((Rows.simplexNearRow.lifted == Tryz.pinned.checked.prog.liftsFinal)) = true := by kernel_rfl
theorem Qjz : ((Tryz.pinned.checked.prog.make == some Rows.simplexNearRow.make)) = true := by kernel_rfl
theorem Qji : ((Rows.simplexNearRow.kinds == (if Rows.simplexNearRow.domain.isEmpty then [] else Tryz.f3.params.toList.map fun t => match Tryz.pinned.checked.prog.underlying t with | some (.int k) => some k | _ => none))) = true := by kernel_rfl
theorem Qkx : ((Rows.simplexNearRow.pinned == Rows.simplexNearRow.pinnedBy)) = true := by kernel_rfl
theorem Qjy : ((Rows.simplexNearRow.veiled == (Tryz.f3.params.toList ++ Rows.simplexNearSpec.plain.varTypes Tryz.pinned.checked.prog ++ Tryz.f3.resultTypes.toList).any (Tryz.pinned.checked.prog.veiledRec ·))) = true := by kernel_rfl
theorem Qjf : (Rows.simplexNearRow.veiledFits Tryz.pinned.checked.prog Tryz.f3.params.toList (Tryz.f3.params.toList ++ Rows.simplexNearSpec.plain.varTypes Tryz.pinned.checked.prog ++ Tryz.f3.resultTypes.toList)) = true := by kernel_rfl
theorem Qhj : joinedFacts Tryz.pinned.checked.prog 3 Tryz.f3 Rows.simplexNearSpec Rows.simplexNearRow = true := by
  unfold joinedFacts
  simp only [Bool.and_eq_true]
  exact ⟨⟨⟨⟨⟨⟨⟨⟨⟨⟨⟨⟨⟨⟨⟨⟨⟨⟨⟨⟨⟨⟨⟨⟨⟨⟨⟨⟨⟨⟨⟨Qlg,Qlk⟩,Qli⟩,Qlq⟩,Qld⟩,Qll⟩,Qlf⟩,Qlp⟩,Qlh⟩,Qle⟩,Qks⟩,Qkw⟩,Qla⟩,Qkf⟩,Qkn⟩,Qka⟩,Qjx⟩,Qjg⟩,Qjc⟩,Qkh⟩,Qkk⟩,Qku⟩,Qjl⟩,Qkc⟩,Qjs⟩,Qjv⟩,Qkb⟩,Qjz⟩,Qji⟩,Qkx⟩,Qjy⟩,Qjf⟩
theorem Qho (os : Os) (started : os.Started) (H : Type) (enc : TypeId × Value → H) :
    ReturnsInHanded {} Tryz.checked os 3 .any (Rows.simplexNearSpec.pre6 enc Tryz.prog Tryz.f3 Rows.simplexNearRow.domain false) (Rows.simplexNearSpec.post enc Tryz.prog Tryz.f3 false true false false) := by
  refine returnsInHanded_of_change (C := Tryz.checked) own started (by kernel_rfl) Tryz.func3
    (ChangeSpec.witness6 (enc := enc) (C := Tryz.checked) false ⟨#[],#[.slice none 0 0],[]⟩ 8 (by kernel_rfl) (by kernel_rfl) (by kernel_rfl) (by kernel_rfl)) ?_
  intro W base args ds gs before hval0 hW hcnd _
  have hval : ∀ (j : Nat) t v,Tryz.f3.params[j]? = some t → args[j]? = some v → Value.okWide Tryz.prog W .any base t v := hval0
  have hW' := hW
  obtain ⟨p,q,hA0,hV,rfl,hfz,hnd⟩ := hW
  have hA : DataW.TrodAll enc Tryz.prog W 0 (fun _ => true) true Tryz.f3.params.toList args.toList ds p := hA0
  rw [Tryz.params3] at hA hval
  obtain ⟨v0,vs0,d0,ds0,p0,q0,hargs,rfl,rfl,h0,r0⟩ := trodAll_cons hA
  obtain ⟨rfl,rfl,rfl⟩ := trodAll_nil r0
  obtain rfl : args = #[v0] := by cases args;simp_all
  obtain ⟨rfl,rfl⟩ := trodVars_none hV
  have k0 := h0
  have lt0 : ∀ x ∈ p0,x.block < W.heap.size := by obtain ⟨m,hm⟩ := k0;exact DataW.trod_lt m _ _ _ hm
  obtain ⟨l0,s0,n0,i0⟩ := open_points (hval 0 22 v0 rfl rfl) h0
  clear hA0 hval0
  refine (near_law l0 n0 i0 s0).mono fun e W' ⟨he,hk⟩ => ?_
  subst he
  have bel := hk.below
  exact ⟨_,rfl,_,_,_,[],_,[],hW',trodAll_mk1 (shut_bool Tryz.underlying4 _),(trodAll_cons_mk (Below.trod laidOut (by kernel_rfl) (of_decide_eq_true (by kernel_rfl)) k0 bel lt0) trodAll_mk0),rfl,bel.frame _,fun h => by cases h⟩
theorem Qie : Tryz.pinned.checked.prog.funcNamed Rows.simplexNearRow.func = some 3 := by kernel_rfl
theorem Qip : (Tryz.f3).isInstance Tryz.pinned.checked.prog Rows.simplexNearRow.origin Rows.simplexNearRow.targs := of_decide_eq_true (by kernel_rfl)
theorem Qio : (Tryz.f3).isWrapper Tryz.pinned.checked.prog Rows.simplexNearRow.wrapper Rows.simplexNearRow.mainSum := by unfold Func.isWrapper;rw [if_neg (of_decide_eq_false (by kernel_rfl))];exact ⟨rfl,rfl⟩
theorem Qiq : Rows.simplexNearRow.holds Tryz.pinned (OpenSpec.ofChange Rows.simplexNearSpec) :=
  OpenClaim.holds_of_wide 3 Tryz.f3 rfl rfl rfl rfl rfl rfl rfl ⟨rfl,rfl,rfl,rfl,rfl⟩ rfl rfl rfl rfl rfl Qie Tryz.func3 Qhj
    Qip Qio
    (fun os started H enc _ => Qho os started H enc)
/-- The statement. -/
theorem simplexNear_proved : Rows.SimplexNearSaid := Qiq
end Go.Proofs.YtdfdmeoalbpcdaaGreat
