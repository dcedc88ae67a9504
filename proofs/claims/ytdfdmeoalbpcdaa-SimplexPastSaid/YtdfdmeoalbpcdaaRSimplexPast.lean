/-
  Rows.SimplexPastSaid: It is told which points are past the nearest one, and which of two is nearer, as the document says; the law answers true at every input, and leaves its arguments as they were.
-/
import Derived.Test.YtdfdmeoalbpcdaaQ7
import Derived.Test.YtdfdmeoalbpcdaaPa
import Derived.Test.YtdfdmeoalbpcdaaRows
set_option linter.unusedVariables false
namespace Go.Proofs.Ytdfdmeoalbpcdaa
open Go Go.ChangeShapes Go.WideShapes Go.ChangeAt Go.RowKit
set_option maxRecDepth 100000
theorem Qju : (Rows.simplexPastRow.wf (OpenSpec.ofChange Rows.simplexPastSpec)) = true := by kernel_rfl
theorem Qkd : (laidOutB Try.pinned.checked.prog) = true := by kernel_rfl
theorem Qjv : (mapsRowed Try.pinned.checked.prog) = true := by kernel_rfl
theorem Qka : (Try.f3.params.all (Try.pinned.checked.prog.readableRec ·)) = true := by kernel_rfl
theorem Qjr : (namedTie Try.pinned.checked.prog Rows.simplexPastRow.named Rows.simplexPastSpec.vars) = true := by kernel_rfl
theorem Qjw : ((Rows.simplexPastRow.stops == [])) = true := by kernel_rfl
theorem Qjs : ((Try.pinned.checked.prog.stops == [])) = true := by kernel_rfl
theorem Qjz : ((Rows.simplexPastRow.knobs == [])) = true := by kernel_rfl
theorem Qkb : ((Try.pinned.checked.prog.stopKnobs == [])) = true := by kernel_rfl
theorem Qke : ((Rows.simplexPastRow.inPlace == Try.pinned.checked.prog.inPlace 3)) = true := by kernel_rfl
theorem Qjc : ((Rows.simplexPastRow.unfollowed == Try.pinned.checked.prog.unfollowed 3)) = true := by kernel_rfl
theorem Qjd : ((Rows.simplexPastRow.recurses == Try.pinned.checked.prog.recurses 3)) = true := by kernel_rfl
theorem Qig : ((Rows.simplexPastRow.named == Try.pinned.checked.prog.varsNamed 3)) = true := by kernel_rfl
theorem Qjo : ((Rows.simplexPastRow.maps == (Try.f3.params.toList ++ Rows.simplexPastSpec.plain.varTypes Try.pinned.checked.prog).any (Try.pinned.checked.prog.mapsRec ·))) = true := by kernel_rfl
theorem Qhw : ((Rows.simplexPastRow.ifaces == (Try.f3.params.toList ++ Rows.simplexPastSpec.plain.varTypes Try.pinned.checked.prog).any (Try.pinned.checked.prog.ifacesRec ·))) = true := by kernel_rfl
theorem Qiz : ((Rows.simplexPastRow.mapsOut == Try.pinned.checked.prog.mapsAmong Try.f3.resultTypes.toList)) = true := by kernel_rfl
theorem Qib : ((Rows.simplexPastRow.loops == (Try.f3.params.toList ++ Rows.simplexPastSpec.plain.varTypes Try.pinned.checked.prog).any (Try.pinned.checked.prog.loopsFrom ·))) = true := by kernel_rfl
theorem Qil : ((Rows.simplexPastRow.wideKeys == (Try.f3.params.toList ++ Rows.simplexPastSpec.plain.varTypes Try.pinned.checked.prog ++ Try.f3.resultTypes.toList).any (Try.pinned.checked.prog.wideKeysFrom ·))) = true := by kernel_rfl
theorem Qjb : (Rows.simplexPastSpec.vars.all (Try.pinned.checked.prog.varReadable ·)) = true := by kernel_rfl
theorem Qjf : (Try.f3.resultTypes.all (fun t => Try.pinned.checked.prog.readableRec t && decide (t < Try.pinned.checked.prog.types.size))) = true := by kernel_rfl
theorem Qjj : ((Rows.simplexPastRow.ifacesOut == Try.f3.resultTypes.toList.any (Try.pinned.checked.prog.ifacesRec ·))) = true := by kernel_rfl
theorem Qiw : ((Rows.simplexPastRow.loopsOut == Try.f3.resultTypes.toList.any (Try.pinned.checked.prog.loopsFrom ·))) = true := by kernel_rfl
theorem Qhy : ((Rows.simplexPastRow.plainKeys == Try.pinned.checked.prog.plainKeys)) = true := by kernel_rfl
theorem Qji : (Rows.simplexPastRow.shortTexts.isNone) = true := by kernel_rfl
theorem Qjk : (Try.pinned.checked.prog.stopsHeard) = true := by kernel_rfl
theorem Qim : (Try.pinned.checked.prog.mayEnter) = true := by kernel_rfl
theorem Qie : ((Rows.simplexPastRow.lifted == Try.pinned.checked.prog.liftsFinal)) = true := by kernel_rfl
theorem Qin : ((Try.pinned.checked.prog.make == some Rows.simplexPastRow.make)) = true := by kernel_rfl
theorem Qiu : ((Rows.simplexPastRow.kinds == (if Rows.simplexPastRow.domain.isEmpty then [] else Try.f3.params.toList.map fun t => match Try.pinned.checked.prog.underlying t with | some (.int k) => some k | _ => none))) = true := by kernel_rfl
theorem Qje : ((Rows.simplexPastRow.pinned == Rows.simplexPastRow.pinnedBy)) = true := by kernel_rfl
theorem Qhz : ((Rows.simplexPastRow.veiled == (Try.f3.params.toList ++ Rows.simplexPastSpec.plain.varTypes Try.pinned.checked.prog ++ Try.f3.resultTypes.toList).any (Try.pinned.checked.prog.veiledRec ·))) = true := by kernel_rfl
theorem Qjn : (Rows.simplexPastRow.veiledFits Try.pinned.checked.prog Try.f3.params.toList (Try.f3.params.toList ++ Rows.simplexPastSpec.plain.varTypes Try.pinned.checked.prog ++ Try.f3.resultTypes.toList)) = true := by kernel_rfl
theorem Qgh : joinedFacts Try.pinned.checked.prog 3 Try.f3 Rows.simplexPastSpec Rows.simplexPastRow = true := by
  unfold joinedFacts
  simp only [Bool.and_eq_true]
  exact ⟨⟨⟨⟨⟨⟨⟨⟨⟨⟨⟨⟨⟨⟨⟨⟨⟨⟨⟨⟨⟨⟨⟨⟨⟨⟨⟨⟨⟨⟨⟨Qju,Qkd⟩,Qjv⟩,Qka⟩,Qjr⟩,Qjw⟩,Qjs⟩,Qjz⟩,Qkb⟩,Qke⟩,Qjc⟩,Qjd⟩,Qig⟩,Qjo⟩,Qhw⟩,Qiz⟩,Qib⟩,Qil⟩,Qjb⟩,Qjf⟩,Qjj⟩,Qiw⟩,Qhy⟩,Qji⟩,Qjk⟩,Qim⟩,Qie⟩,Qin⟩,Qiu⟩,Qje⟩,Qhz⟩,Qjn⟩
theorem Qgf (os : Os) (started : os.Started) (H : Type) (enc : TypeId × Value → H) :
    ReturnsInHanded {} Try.checked os 3 .any (Rows.simplexPastSpec.pre6 enc Try.prog Try.f3 Rows.simplexPastRow.domain false) (Rows.simplexPastSpec.post enc Try.prog Try.f3 false true false false) := by
  refine returnsInHanded_of_change (C := Try.checked) own started (by kernel_rfl) Try.func3
    (ChangeSpec.witness6 (enc := enc) (C := Try.checked) false ⟨#[],#[.slice none 0 0,.slice none 0 0,.agg #[.int .i64 0,.int .i64 0,.int .i64 0]],[]⟩ 8 (by kernel_rfl) (by kernel_rfl) (by kernel_rfl) (by kernel_rfl)) ?_
  intro W base args ds gs before hval0 hW hcnd _
  have hval : ∀ (j : Nat) t v,Try.f3.params[j]? = some t → args[j]? = some v → Value.okWide Try.prog W .any base t v := hval0
  have hW' := hW
  obtain ⟨p,q,hA0,hV,rfl,hfz,hnd⟩ := hW
  have hA : DataW.TrodAll enc Try.prog W 0 (fun _ => true) true Try.f3.params.toList args.toList ds p := hA0
  rw [Try.params3] at hA hval
  obtain ⟨v0,vs0,d0,ds0,p0,q0,hargs,rfl,rfl,h0,r0⟩ := trodAll_cons hA
  obtain ⟨v1,vs1,d1,ds1,p1,q1,rfl,rfl,rfl,h1,r1⟩ := trodAll_cons r0
  obtain ⟨v2,vs2,d2,ds2,p2,q2,rfl,rfl,rfl,h2,r2⟩ := trodAll_cons r1
  obtain ⟨rfl,rfl,rfl⟩ := trodAll_nil r2
  obtain rfl : args = #[v0,v1,v2] := by cases args;simp_all
  obtain ⟨rfl,rfl⟩ := trodVars_none hV
  have k0 := h0
  have k1 := h1
  have k2 := h2
  have lt0 : ∀ x ∈ p0,x.block < W.heap.size := by obtain ⟨m,hm⟩ := k0;exact DataW.trod_lt m _ _ _ hm
  have lt1 : ∀ x ∈ p1,x.block < W.heap.size := by obtain ⟨m,hm⟩ := k1;exact DataW.trod_lt m _ _ _ hm
  have lt2 : ∀ x ∈ p2,x.block < W.heap.size := by obtain ⟨m,hm⟩ := k2;exact DataW.trod_lt m _ _ _ hm
  obtain ⟨l0,s0,n0,i0⟩ := Qix (hval 0 22 v0 rfl rfl) h0
  obtain ⟨l1,s1,n1,i1⟩ := Qix (hval 1 22 v1 rfl rfl) h1
  obtain ⟨a2,rfl,ha2⟩ := open_point (hval 2 24 v2 rfl rfl) h2
  clear hA0 hval0
  refine (past_law l0 n0 i0 s0 l1 n1 i1 s1 a2 ha2).mono fun e W' ⟨he,hk⟩ => ?_
  subst he
  have bel := hk.below
  exact ⟨_,rfl,_,_,_,[],_,[],hW',trodAll_mk1 (shut_bool Try.underlying4 _),(trodAll_cons_mk (Below.trod Qoj (by kernel_rfl) (of_decide_eq_true (by kernel_rfl)) k0 bel lt0) (trodAll_cons_mk (Below.trod Qoj (by kernel_rfl) (of_decide_eq_true (by kernel_rfl)) k1 bel lt1) (trodAll_cons_mk (Below.trod Qoj (by kernel_rfl) (of_decide_eq_true (by kernel_rfl)) k2 bel lt2) trodAll_mk0))),rfl,bel.frame _,fun h => by cases h⟩
theorem Qgy : Try.pinned.checked.prog.funcNamed Rows.simplexPastRow.func = some 3 := by kernel_rfl
theorem Qhm : (Try.f3).isInstance Try.pinned.checked.prog Rows.simplexPastRow.origin Rows.simplexPastRow.targs := of_decide_eq_true (by kernel_rfl)
theorem Qhk : (Try.f3).isWrapper Try.pinned.checked.prog Rows.simplexPastRow.wrapper Rows.simplexPastRow.mainSum := by unfold Func.isWrapper;rw [if_neg (of_decide_eq_false (by kernel_rfl))];exact ⟨rfl,rfl⟩
theorem Qhj : Rows.simplexPastRow.holds Try.pinned (OpenSpec.ofChange Rows.simplexPastSpec) :=
  OpenClaim.holds_of_wide 3 Try.f3 rfl rfl rfl rfl rfl rfl rfl ⟨rfl,rfl,rfl,rfl,rfl⟩ rfl rfl rfl rfl rfl Qgy Try.func3 Qgh
    Qhm Qhk
    (fun os started H enc _ => Qgf os started H enc)
/-- The statement. -/
theorem simplexPast_proved : Rows.SimplexPastSaid := Qhj
end Go.Proofs.Ytdfdmeoalbpcdaa
