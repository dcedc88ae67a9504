/-
  Rows.SimplexBestSaid: None of the points is past the nearest one, it is in the body of its own points, which are a simplex, and it is as small as can be; the law answers true at every input, and leaves its arguments as they were.
-/
import Derived.Test.YtdfdmeoalbpcdaaNe
import Derived.Test.YtdfdmeoalbpcdaaLl
import Derived.Test.YtdfdmeoalbpcdaaRows
set_option linter.unusedVariables false
namespace Go.Proofs.Ytdfdmeoalbpcdaa
open Go Go.ChangeShapes Go.WideShapes Go.ChangeAt Go.RowKit
set_option maxRecDepth 100000
theorem Qln : (Rows.simplexBestRow.wf (OpenSpec.ofChange Rows.simplexBestSpec)) = true := by kernel_rfl
theorem Qlm : (laidOutB Try.pinned.checked.prog) = true := by kernel_rfl
theorem Qlx : (mapsRowed Try.pinned.checked.prog) = true := by kernel_rfl
theorem Qlw : (Try.f7.params.all (Try.pinned.checked.prog.readableRec ·)) = true := by kernel_rfl
theorem Qls : (namedTie Try.pinned.checked.prog Rows.simplexBestRow.named Rows.simplexBestSpec.vars) = true := by kernel_rfl
theorem Qlv : ((Rows.simplexBestRow.stops == [])) = true := by kernel_rfl
theorem Qlt : ((Try.pinned.checked.prog.stops == [])) = true := by kernel_rfl
theorem Qlu : ((Rows.simplexBestRow.knobs == [])) = true := by kernel_rfl
theorem Qlk : ((Try.pinned.checked.prog.stopKnobs == [])) = true := by kernel_rfl
theorem Qll : ((Rows.simplexBestRow.inPlace == Try.pinned.checked.prog.inPlace 7)) = true := by kernel_rfl
theorem Qkf : ((Rows.simplexBestRow.unfollowed == Try.pinned.checked.prog.unfollowed 7)) = true := by kernel_rfl
theorem Qli : ((Rows.simplexBestRow.recurses == Try.pinned.checked.prog.recurses 7)) = true := by kernel_rfl
theorem Qks : ((Rows.simplexBestRow.named == Try.pinned.checked.prog.varsNamed 7)) = true := by kernel_rfl
theorem Qkj : ((Rows.simplexBestRow.maps == (Try.f7.params.toList ++ Rows.simplexBestSpec.plain.varTypes Try.pinned.checked.prog).any (Try.pinned.checked.prog.mapsRec ·))) = true := by kernel_rfl
theorem Qjq : ((Rows.simplexBestRow.ifaces == (Try.f7.params.toList ++ Rows.simplexBestSpec.plain.varTypes Try.pinned.checked.prog).any (Try.pinned.checked.prog.ifacesRec ·))) = true := by kernel_rfl
theorem Qkz : ((Rows.simplexBestRow.mapsOut == Try.pinned.checked.prog.mapsAmong Try.f7.resultTypes.toList)) = true := by kernel_rfl
theorem Qjl : ((Rows.simplexBestRow.loops == (Try.f7.params.toList ++ Rows.simplexBestSpec.plain.varTypes Try.pinned.checked.prog).any (Try.pinned.checked.prog.loopsFrom ·))) = true := by kernel_rfl
theorem Qjn : ((Rows.simplexBestRow.wideKeys == (Try.f7.params.toList ++ Rows.simplexBestSpec.plain.varTypes Try.pinned.checked.prog ++ Try.f7.resultTypes.toList).any (Try.pinned.checked.prog.wideKeysFrom ·))) = true := by kernel_rfl
theorem Qko : (Rows.simplexBestSpec.vars.all (Try.pinned.checked.prog.varReadable ·)) = true := by kernel_rfl
theorem Qjz : (Try.f7.resultTypes.all (fun t => Try.pinned.checked.prog.readableRec t && decide (t < Try.pinned.checked.prog.types.size))) = true := by kernel_rfl
theorem Qla : ((Rows.simplexBestRow.ifacesOut == Try.f7.resultTypes.toList.any (Try.pinned.checked.prog.ifacesRec ·))) = true := by kernel_rfl
theorem Qle : ((Rows.simplexBestRow.loopsOut == Try.f7.resultTypes.toList.any (Try.pinned.checked.prog.loopsFrom ·))) = true := by kernel_rfl
theorem Qji : ((Rows.simplexBestRow.plainKeys == Try.pinned.checked.prog.plainKeys)) = true := by kernel_rfl
theorem Qkw : (Rows.simplexBestRow.shortTexts.isNone) = true := by kernel_rfl
theorem Qkx : (Try.pinned.checked.prog.stopsHeard) = true := by kernel_rfl
theorem Qjv : (Try.pinned.checked.prog.mayEnter) = true := by kernel_rfl
theorem Qlc : ((Rows.simplexBestRow.lifted == Try.pinned.checked.prog.liftsFinal)) = true := by kernel_rfl
theorem Qkb : ((Try.pinned.checked.prog.make == some Rows.simplexBestRow.make)) = true := by kernel_rfl
theorem Qjy : ((Rows.simplexBestRow.kinds == (if Rows.simplexBestRow.domain.isEmpty then [] else Try.f7.params.toList.map fun t => match Try.pinned.checked.prog.underlying t with | some (.int k) => some k | _ => none))) = true := by kernel_rfl
theorem Qkh : ((Rows.simplexBestRow.pinned == Rows.simplexBestRow.pinnedBy)) = true := by kernel_rfl
theorem Qke : ((Rows.simplexBestRow.veiled == (Try.f7.params.toList ++ Rows.simplexBestSpec.plain.varTypes Try.pinned.checked.prog ++ Try.f7.resultTypes.toList).any (Try.pinned.checked.prog.veiledRec ·))) = true := by kernel_rfl
theorem Qjw : (Rows.simplexBestRow.veiledFits Try.pinned.checked.prog Try.f7.params.toList (Try.f7.params.toList ++ Rows.simplexBestSpec.plain.varTypes Try.pinned.checked.prog ++ Try.f7.resultTypes.toList)) = true := by kernel_rfl
theorem Qgu : joinedFacts Try.pinned.checked.prog 7 Try.f7 Rows.simplexBestSpec Rows.simplexBestRow = true := by
  unfold joinedFacts
  simp only [Bool.and_eq_true]
  exact ⟨⟨⟨⟨⟨⟨⟨⟨⟨⟨⟨⟨⟨⟨⟨⟨⟨⟨⟨⟨⟨⟨⟨⟨⟨⟨⟨⟨⟨⟨⟨Qln,Qlm⟩,Qlx⟩,Qlw⟩,Qls⟩,Qlv⟩,Qlt⟩,Qlu⟩,Qlk⟩,Qll⟩,Qkf⟩,Qli⟩,Qks⟩,Qkj⟩,Qjq⟩,Qkz⟩,Qjl⟩,Qjn⟩,Qko⟩,Qjz⟩,Qla⟩,Qle⟩,Qji⟩,Qkw⟩,Qkx⟩,Qjv⟩,Qlc⟩,Qkb⟩,Qjy⟩,Qkh⟩,Qke⟩,Qjw⟩
theorem Qgq (os : Os) (started : os.Started) (H : Type) (enc : TypeId × Value → H) :
    ReturnsInHanded {} Try.checked os 7 .any (Rows.simplexBestSpec.pre6 enc Try.prog Try.f7 Rows.simplexBestRow.domain false) (Rows.simplexBestSpec.post enc Try.prog Try.f7 false true false false) := by
  refine returnsInHanded_of_change (C := Try.checked) own started (by kernel_rfl) Try.func7
    (ChangeSpec.witness6 (enc := enc) (C := Try.checked) false ⟨#[],#[.slice none 0 0],[]⟩ 8 (by kernel_rfl) (by kernel_rfl) (by kernel_rfl) (by kernel_rfl)) ?_
  intro W base args ds gs before hval0 hW hcnd _
  have hval : ∀ (j : Nat) t v,Try.f7.params[j]? = some t → args[j]? = some v → Value.okWide Try.prog W .any base t v := hval0
  have hW' := hW
  obtain ⟨p,q,hA0,hV,rfl,hfz,hnd⟩ := hW
  have hA : DataW.TrodAll enc Try.prog W 0 (fun _ => true) true Try.f7.params.toList args.toList ds p := hA0
  rw [Try.params7] at hA hval
  obtain ⟨v0,vs0,d0,ds0,p0,q0,hargs,rfl,rfl,h0,r0⟩ := trodAll_cons hA
  obtain ⟨rfl,rfl,rfl⟩ := trodAll_nil r0
  obtain rfl : args = #[v0] := by cases args;simp_all
  obtain ⟨rfl,rfl⟩ := trodVars_none hV
  have k0 := h0
  have lt0 : ∀ x ∈ p0,x.block < W.heap.size := by obtain ⟨m,hm⟩ := k0;exact DataW.trod_lt m _ _ _ hm
  obtain ⟨l0,s0,n0,i0⟩ := Qkm (hval 0 22 v0 rfl rfl) h0
  clear hA0 hval0
  refine (best_law l0 n0 i0 s0).mono fun e W' ⟨he,hk⟩ => ?_
  subst he
  have bel := hk.below
  exact ⟨_,rfl,_,_,_,[],_,[],hW',trodAll_mk1 (shut_bool Try.underlying4 _),(trodAll_cons_mk (Below.trod laidOut (by kernel_rfl) (of_decide_eq_true (by kernel_rfl)) k0 bel lt0) trodAll_mk0),rfl,bel.frame _,fun h => by cases h⟩
theorem Qic : Try.pinned.checked.prog.funcNamed Rows.simplexBestRow.func = some 7 := by kernel_rfl
theorem Qix : (Try.f7).isInstance Try.pinned.checked.prog Rows.simplexBestRow.origin Rows.simplexBestRow.targs := of_decide_eq_true (by kernel_rfl)
theorem Qir : (Try.f7).isWrapper Try.pinned.checked.prog Rows.simplexBestRow.wrapper Rows.simplexBestRow.mainSum := by unfold Func.isWrapper;rw [if_neg (of_decide_eq_false (by kernel_rfl))];exact ⟨rfl,rfl⟩
theorem Qiy : Rows.simplexBestRow.holds Try.pinned (OpenSpec.ofChange Rows.simplexBestSpec) :=
  OpenClaim.holds_of_wide 7 Try.f7 rfl rfl rfl rfl rfl rfl rfl ⟨rfl,rfl,rfl,rfl,rfl⟩ rfl rfl rfl rfl rfl Qic Try.func7 Qgu
    Qix Qir
    (fun os started H enc _ => Qgq os started H enc)
/-- The statement. -/
theorem simplexBest_proved : Rows.SimplexBestSaid := Qiy
end Go.Proofs.Ytdfdmeoalbpcdaa
