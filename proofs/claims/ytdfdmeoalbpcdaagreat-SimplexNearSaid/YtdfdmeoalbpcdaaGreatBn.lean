/-
  Package wide: Add, Sub, of numbers that fit.
  The walk's laws of memory inside a fence (a range over a function).
  Integers, points, spans: what is said of them everywhere; wide.Of.
  Package ninepinref03: Plus, Less, Times; ninepinref01.Small (contracts).
-/
import Derived.Test.YtdfdmeoalbpcdaaGreatWd
import Derived.Test.YtdfdmeoalbpcdaaGreatMc
import Derived.RangeFuncNested
import Derived.RangeFuncBound
import Derived.RangeFuncCalls
import Derived.RangeFuncLeaves
import Derived.OwnWalkIn
import Derived.TacticsInMore
import Derived.LoopNIn
import Derived.LoopIn
import Derived.Shelf.Abstract
import Derived.Test.YtdfdmeoalbpcdaaGreatSl
import Derived.Test.YtdfdmeoalbpcdaaGreatBg
set_option linter.unusedSimpArgs false
namespace Go.Proofs.YtdfdmeoalbpcdaaGreat
open Go Go.RowKit
theorem ng_more (n : Int) : ng (n + M512) = ng n := by
  unfold ng
  rw [lb_congr (a := n + M512) (b := n) ?_ 7 (by omega)]
  simp
theorem ng_less (n : Int) : ng (n - M512) = ng n := by
  rw [← ng_more (n - M512),Int.sub_add_cancel]
/-- The sign limb of what is just too great, or too small. -/
theorem ng_over {n : Int} (h : M511 ≤ n) (h' : n < M512) : ng n = true := by
  rw [← ng_less,Qco (by unfold Fit M511 at *;unfold M512 at *;omega)]
  simp;omega
theorem ng_under {n : Int} (h : n < -M511) (h' : -M512 ≤ n) : ng n = false := by
  rw [← ng_more,Qco (by unfold Fit M511 at *;unfold M512 at *;omega)]
  simp;omega
theorem addv_fit {s : Int} {x y : Bool} (hs : -M512 ≤ s ∧ s < M512) (h1 : x = true → y = true → s < 0) (h2 : x = false → y = false → 0 ≤ s) (h3 : M511 ≤ s → x = false ∧ y = false) (h4 : s < -M511 → x = true ∧ y = true) :
    addv s x y (ng s) = .tuple #[W (fz s),.bool (decide (Fit s))] := by
  have h0 : W (0 : Int) = .agg #[.int .u64 0,.int .u64 0,.int .u64 0,.int .u64 0,.int .u64 0,.int .u64 0,.int .u64 0,.int .u64 0] := Qfe
  by_cases hf : Fit s
  · rw [fz,if_pos hf,decide_eq_true hf,Qco hf]
    by_cases h : s < 0
    · rw [decide_eq_true h]
      cases x <;> cases y <;> simp [addv]
      have := h2 rfl rfl
      omega
    · rw [decide_eq_false h]
      cases x <;> cases y <;> simp [addv]
      have := h1 rfl rfl
      omega
  · rw [fz,if_neg hf,decide_eq_false hf,h0]
    by_cases h : s < 0
    · rw [ng_under (by unfold Fit M511 at *;omega) hs.1]
      obtain ⟨rfl,rfl⟩ := h4 (by unfold Fit M511 at *;omega)
      rfl
    · rw [ng_over (by unfold Fit M511 at *;omega) hs.2]
      obtain ⟨rfl,rfl⟩ := h3 (by unfold Fit M511 at *;omega)
      rfl
theorem add_any (a b : Int) (ha : Fit a) (hb : Fit b) (w : World) : Calls Tryz.prog 37 #[W a,W b] w (Ret (.tuple #[W (fz (a + b)),.bool (decide (Fit (a + b)))]) w) := by
  have h := add_raw a b w
  rw [Qco ha,Qco hb,addv_fit] at h
  · exact h
  all_goals unfold Fit M511 at *
  all_goals try unfold M512
  all_goals try simp
  all_goals omega
theorem sub_any (a b : Int) (ha : Fit a) (hb : Fit b) (w : World) : Calls Tryz.prog 89 #[W a,W b] w (Ret (.tuple #[W (fz (a - b)),.bool (decide (Fit (a - b)))]) w) := by
  have h := sub_raw a b w
  rw [Qco ha,Qco hb,addv_fit] at h
  · exact h
  all_goals unfold Fit M511 at *
  all_goals try unfold M512
  all_goals try simp
  all_goals omega
end Go.Proofs.YtdfdmeoalbpcdaaGreat

namespace Go.Proofs.YtdfdmeoalbpcdaaGreat
open Go Go.RowKit
/-- A fence that lets every function in, at whatever depth. -/
class Free (F : Fence) : Prop where
  fn : ∀ f,F.fn f
  depth : F.depth = none
@[go_sem] theorem wide_fn (f : FuncId) : Fence.wide.fn f = True := rfl
attribute [go_sem] Oper.semAt_some
instance : Free Fence.wide := ⟨fun _ => trivial,rfl⟩
instance {F : Fence} {l : Nat} [h : Free F] : Free (F.inRound l) := ⟨h.fn,h.depth⟩
section
variable {F : Fence} {P : Program} {X : List Nat} {w0 w : World} {H H' : List Bk} {g : Nat} {t : TypeId} {cs cs' : List Value}
variable {ops : Array Oper} {Q : Exit → Act → World → Prop} {a : Act} {rest : List Oper} {d p : Tmp} {tp ty : TypeId} {pos : String} {af : Array Edge} {off n m : Nat}
theorem Qem [hF : Free F] {o : Oper} {v : Value} {w1 : World} (hg : o.guard = none) (hd : ∀ c,o.op ≠ .defer c) (hr : (execOp a.eval o).run P w = .ok (.value v) w1)
    (hk : wpListIn F m P ops Q rest (a.put o.dst v) w1) : wpListIn F m P ops Q (o :: rest) a w := by
  refine wpListIn_plain hg fun K hK => ?_
  refine ⟨fun f _ => hF.fn f,?_⟩
  rw [Oper.semAt_eq _ _ _ hd,hr]
  exact hK _ _ hk
theorem Qcl [hF : Free F] (hp : Hp X w0 H w) (hx : a.eval (.tmp p) = .pointer (some ⟨g,off,none⟩)) (h : Has H g t cs) (ht : AggTy P ty n) (hle : off + n ≤ cs.length) {vs : List Value} (hvs : (cs.drop off).take n = vs)
    (hk : wpListIn F m P ops Q rest (a.put (some d) (.agg vs.toArray)) w) : wpListIn F m P ops Q (⟨some d,.load ty (.tmp p),tp,pos,af,none⟩ :: rest) a w := by
  subst hvs
  refine Qem rfl (fun _ h => by cases h) ?_ hk
  simp only [execOp,hx,Instr.loadAt,Instr.sureAddr,Sem.run_bind,Sem.run_pure,Result.andThen_ok,Qac hp hle]
theorem Qdp [hF : Free F] {x : Operand} (hp : Hp X w0 H w) (hx : a.eval (.tmp p) = .pointer (some ⟨g,off,none⟩)) {v : Value} (hxv : a.eval x = v) {vs : List Value} (hv : v.cells = vs.toArray) (hn : ∀ w,(sizeOf ty).run P w = .ok n w) (hvn : vs.length = n)
    {cs' : List Value} (_h0 : Has H g t cs) (hcs : cs.take off ++ vs ++ cs.drop (off + n) = cs') (hle : off + n ≤ cs.length) (h1 : vs.all (·.oneCell') = true) (h : Upd H g t cs cs' H')
    (hk : ∀ w1,Hp X w0 H' w1 → wpListIn F m P ops Q rest a w1) : wpListIn F m P ops Q (⟨none,.store ty (.tmp p) x,tp,pos,af,none⟩ :: rest) a w := by
  subst hcs
  obtain ⟨w1,hr,hp1⟩ := Qdv (P := P) hp (off := off) hv hn hvn hle h1 (h := h)
  refine wpListIn_plain rfl fun K hK => ?_
  refine ⟨fun f _ => hF.fn f,?_⟩
  rw [Oper.semAt_eq _ _ _ (fun _ h => by cases h)]
  simp only [execOp,hx,hxv,Instr.storeAt,Instr.sureAddr,Sem.run_bind,Sem.run_pure,Result.andThen_ok,hr]
  exact hK _ _ (hk w1 hp1)
theorem Qdo [hF : Free F] {z : Value} (hp : Hp X w0 H w) (hz : ZeroTy P ty z) {vs : List Value} (hv : z.cells = vs.toArray)
    (hk : ∀ g w1,Hp X w0 (⟨g,ty,vs⟩ :: H) w1 → wpListIn F m P ops Q rest (a.put (some d) (.pointer (some ⟨g,0,none⟩))) w1) : wpListIn F m P ops Q (⟨some d,.alloc ty,tp,pos,af,none⟩ :: rest) a w := by
  refine Qem rfl (fun _ h => by cases h) (w1 := w.alloc (.cells vs.toArray ty)) ?_ (hk _ _ (hp.alloc ty vs))
  have hr : (Instr.alloc ty true (.tuple #[])).run P w = .ok (.pointer (some ⟨w.heap.size,0,none⟩)) (w.alloc (.cells vs.toArray ty)) := by
    simp [Instr.alloc,newVar,newRow,hv,hz.zero]
  simp only [execOp,Sem.run_bind,Result.andThen_ok,hr,Sem.run_pure]
theorem Qby {f : FuncId} {args : Array Value} {v : Value} {l : Nat} {R : Ending → World → Prop} (hp : Hp X w0 H w) (hc : Calls P f args w (Ret v w)) (hk : ∀ w1,Hp X w0 H w1 → R (.returned v) w1) :
    CallsIn (Fence.wide.inRound l) n P f args w R :=
  CallsIn.inRound l (callsIn_wide.2 (Qaf hp hc hk))
/-- An operation whose guard says yes. -/
theorem si_strip {dst : Option Tmp} {op : Op} {gd : Nat × Bool} (hw : Region.wanted ⟨dst,op,tp,pos,af,some gd⟩ (yielded ops a.tmps) = true) (h : wpListIn F m P ops Q (⟨dst,op,tp,pos,af,none⟩ :: rest) a w) : wpListIn F m P ops Q (⟨dst,op,tp,pos,af,some gd⟩ :: rest) a w := by
  unfold wpListIn at h ⊢
  rw [if_pos hw]
  rw [if_pos (by simp [Region.wanted])] at h
  exact h
theorem Qjk [hF : Free F] {dst : Option Tmp} {op : Op} {gd : Nat × Bool} (hw : Region.wanted ⟨dst,op,tp,pos,af,some gd⟩ (yielded ops a.tmps) = false) (h : wpListIn F m P ops Q rest (a.put dst undef) w) : wpListIn F m P ops Q (⟨dst,op,tp,pos,af,some gd⟩ :: rest) a w := by
  unfold wpListIn
  rw [if_neg (by rw [hw];simp)]
  exact ⟨fun f _ => hF.fn f,h⟩
end
/-! ### What a loop's records leave alone -/
theorem Hp.grown {X : List Nat} {w0 w w' : World} {H : List Bk} {B : Nat} {row : Option Nat} (hp : Hp X w0 H w) (hB : w0.heap.size ≤ B) (hg : w.grownBy w' row) (hr : ∀ r,row = some r → B ≤ r ∧ ∃ o : Obj,w.heap[r]? = some o ∧ o.isCells = false) : Hp X w0 H w' := by
  obtain ⟨h1,h2,h3,h4,h5⟩ := hg
  refine ⟨⟨h1.trans hp.keep.os,h2.trans hp.keep.tape,h3.trans hp.keep.output,Nat.le_trans hp.keep.size h4,fun k hk hx => ?_⟩,fun b hb => ⟨(hp.own b hb).1,?_⟩,hp.nd⟩
  · rw [h5 k (Nat.lt_of_lt_of_le hk hp.keep.size) (fun e => ?_)]
    · exact hp.keep.block k hk hx
    · have := (hr k e.symm).1
      omega
  · rw [h5 b.g (hp.lt hb) (fun e => ?_)]
    · exact (hp.own b hb).2
    · obtain ⟨_,o,ho,hc⟩ := hr b.g e.symm
      rw [(hp.own b hb).2] at ho
      cases ho
      simp [Obj.isCells] at hc
/-- Within a frame: a part of a call that wrote just the call's own blocks. -/
theorem Hp.within {w0 w w' : World} {H H' : List Bk} (hp : Hp [] w0 H w) (h : Hp (H.map (·.g)) w H' w') : Hp [] w0 H' w' := by
  refine ⟨⟨h.keep.os.trans hp.keep.os,h.keep.tape.trans hp.keep.tape,h.keep.output.trans hp.keep.output,Nat.le_trans hp.keep.size h.keep.size,fun k hk _ => ?_⟩,fun b hb => ⟨.inr ?_,(h.own b hb).2⟩,h.nd⟩
  · refine (h.keep.block k (Nat.lt_of_lt_of_le hk hp.keep.size) (fun hm => ?_)).trans (hp.keep.block k hk (by simp))
    obtain ⟨b,hb,rfl⟩ := List.mem_map.1 hm
    rcases (hp.own b hb).1 with h' | h'
    · simp at h'
    · omega
  · rcases (h.own b hb).1 with h' | h'
    · obtain ⟨c,hc,e⟩ := List.mem_map.1 h'
      rcases (hp.own c hc).1 with h'' | h''
      · simp at h''
      · rw [← e];exact h''
    · exact Nat.le_trans hp.keep.size h'
/-- What was there stays there, if it is no cells. -/
theorem Hp.others {X : List Nat} {w w' : World} {H : List Bk} {B : Nat} (h : Hp X w H w') (hX : ∀ g ∈ X,∃ o : Obj,w.heap[g]? = some o ∧ o.isCells = true) : KeepsFrom B w w' := by
  refine ⟨h.keep.size,fun k o _ hk ho => ?_⟩
  have hlt : k < w.heap.size := by
    rcases Nat.lt_or_ge k w.heap.size with h' | h'
    · exact h'
    · rw [Array.getElem?_eq_none h'] at hk;cases hk
  rw [h.keep.block k hlt (fun hm => ?_)]
  · exact hk
  · obtain ⟨o',ho',hc⟩ := hX k hm
    rw [hk] at ho'
    cases ho'
    rw [ho] at hc
    cases hc
theorem Hp.within' {w0 w w' : World} {X : List Nat} {H H' : List Bk} (hp : Hp [] w0 H w) (h : Hp X w H' w') (hX : ∀ g ∈ X,w0.heap.size ≤ g) : Hp [] w0 H' w' := by
  refine ⟨⟨h.keep.os.trans hp.keep.os,h.keep.tape.trans hp.keep.tape,h.keep.output.trans hp.keep.output,Nat.le_trans hp.keep.size h.keep.size,fun k hk _ => ?_⟩,fun b hb => ⟨.inr ?_,(h.own b hb).2⟩,h.nd⟩
  · refine (h.keep.block k (Nat.lt_of_lt_of_le hk hp.keep.size) (fun hm => ?_)).trans (hp.keep.block k hk (by simp))
    have := hX k hm
    omega
  · rcases (h.own b hb).1 with h' | h'
    · exact hX _ h'
    · exact Nat.le_trans hp.keep.size h'
/-- The blocks H, in the world as it stands: to be written from here on. -/
theorem Hp.here {w : World} {H : List Bk} (h : ∀ b ∈ H,w.heap[b.g]? = some (.cells b.cs.toArray b.t (0,0))) (hn : (H.map (·.g)).Nodup) : Hp (H.map (·.g)) w H w := ⟨Keep.refl _ _,fun b hb => ⟨.inl (List.mem_map.2 ⟨b,hb,rfl⟩),h b hb⟩,hn⟩
theorem Hp.hereCells {w : World} {H : List Bk} (h : ∀ b ∈ H,w.heap[b.g]? = some (.cells b.cs.toArray b.t (0,0))) : ∀ g ∈ H.map (·.g),∃ o : Obj,w.heap[g]? = some o ∧ o.isCells = true := by
  intro g hg
  obtain ⟨b,hb,rfl⟩ := List.mem_map.1 hg
  exact ⟨_,h b hb,rfl⟩
theorem Qoi (TM : Array Value) (p q : Tmp) (a b : Value) : ((#[p,q] : Array Tmp).zip #[a,b]).foldl (fun t (p,v) => t.setIfInBounds p v) TM = (TM.setIfInBounds p a).setIfInBounds q b := by simp
theorem Hp.newX {X : List Nat} {w0 w : World} {H : List Bk} {g : Nat} {t : TypeId} {cs : List Value} (hp : Hp X w0 H w) (hg : g ∉ X) [h : Has H g t cs] : w0.heap.size ≤ g := (hp.own _ h.mem).1.resolve_left hg
theorem Qjt {B : Nat} {g : Nat} {o : Obj} (ho : o.isCells = true) {W W' : World} {row : Option Nat} (h : W.heap[g]? = some o) (hg : W.grownBy W' row) (hr : ∀ r,row = some r → B ≤ r ∧ ∃ o : Obj,W.heap[r]? = some o ∧ o.isCells = false) : W'.heap[g]? = some o := by
  have hlt : g < W.heap.size := by
    rcases Nat.lt_or_ge g W.heap.size with h' | h'
    · exact h'
    · rw [Array.getElem?_eq_none h'] at h;cases h
  obtain ⟨_,_,_,_,h5⟩ := hg
  rw [h5 g hlt (fun e => ?_)]
  · exact h
  · obtain ⟨_,o',ho',hc⟩ := hr g e.symm
    rw [h] at ho'
    cases ho'
    rw [ho] at hc
    cases hc
theorem Hp.self {w0 w : World} {H : List Bk} (hp : Hp [] w0 H w) : Hp (H.map (·.g)) w H w := ⟨Keep.refl _ _,fun b hb => ⟨.inl (List.mem_map.2 ⟨b,hb,rfl⟩),(hp.own b hb).2⟩,hp.nd⟩
theorem Hp.selfCells {w0 w : World} {H : List Bk} (hp : Hp [] w0 H w) : ∀ g ∈ H.map (·.g),∃ o : Obj,w.heap[g]? = some o ∧ o.isCells = true := by
  intro g hg
  obtain ⟨b,hb,rfl⟩ := List.mem_map.1 hg
  exact ⟨_,(hp.own b hb).2,rfl⟩
theorem Hp.selfSizes {w0 w : World} {H : List Bk} (hp : Hp [] w0 H w) : ∀ g ∈ H.map (·.g),w0.heap.size ≤ g := by
  intro g hg
  obtain ⟨b,hb,rfl⟩ := List.mem_map.1 hg
  exact (hp.own b hb).1.resolve_left (by simp)
theorem Hp.same {X : List Nat} {w w' : World} {H : List Bk} (h : Hp X w H w') (hX : ∀ g ∈ X,∃ o : Obj,w.heap[g]? = some o ∧ o.isCells = true) {k : Nat} {o : Obj} (hk : w.heap[k]? = some o) (ho : o.isCells = false) : w'.heap[k]? = some o :=
  (h.others (B := 0) hX).same k o (Nat.zero_le _) hk ho
/-- The end of a call that holds a loop over a function: the loop's record is shut. -/
theorem Hp.shut {w wl W w1 : World} {X : List Nat} {H H1 : List Bk} {D : Nat} (hwl : w.heap.size ≤ wl.heap.size) (hD : wl.heap.size ≤ D) (hI : Hp [] w H W) (hX : X = H.map (·.g)) (h : Hp X W H1 w1) (hd : W.heap[D]? = some (.deferred (some []))) :
    w1.heap[D]? = some (.deferred (some [])) ∧ Hp [] w H1 (w1.putObj D (.deferred none)) := by
  subst hX
  have h1 := h.same hI.selfCells hd rfl
  exact ⟨h1,(hI.within h).grown hwl (grownBy_putObj' _ D _) (fun r e => by cases e;exact ⟨hD,_,h1,rfl⟩)⟩
/-- What a call comes to that hands back v, in which the addresses of two blocks are that it made. -/
def RetN2 (v : Nat → Nat → Value) (t : TypeId) (cs : List Value) (u : TypeId) (ds : List Value) (w : World) (e : Ending) (w' : World) : Prop :=
  ∃ g h,e = .returned (v g h) ∧ g ≠ h ∧ Keep [] w w' ∧ w.heap.size ≤ g ∧ w.heap.size ≤ h ∧ w'.heap[g]? = some (.cells cs.toArray t (0,0)) ∧ w'.heap[h]? = some (.cells ds.toArray u (0,0))
theorem Hp.add2 {X : List Nat} {w0 w w1 : World} {H : List Bk} (hp : Hp X w0 H w) (hk : Keep [] w w1) {g h : Nat} {t u : TypeId} {cs ds : List Value} (hne : g ≠ h) (hg : w.heap.size ≤ g) (hh : w.heap.size ≤ h)
    (hb : w1.heap[g]? = some (.cells cs.toArray t (0,0))) (hb' : w1.heap[h]? = some (.cells ds.toArray u (0,0))) : Hp X w0 (⟨g,t,cs⟩ :: ⟨h,u,ds⟩ :: H) w1 := by
  have h1 := hp.add hk hh hb'
  refine ⟨h1.keep,?_,?_⟩
  · intro b hb'
    rcases List.mem_cons.1 hb' with rfl|hb'
    · exact ⟨.inr (Nat.le_trans hp.keep.size hg),hb⟩
    · exact h1.own b hb'
  · simp only [List.map_cons,List.nodup_cons]
    refine ⟨fun hm => ?_,by have := h1.nd;simpa using this⟩
    rcases List.mem_cons.1 hm with e|hm
    · exact hne e
    · obtain ⟨b,hb,he⟩ := List.mem_map.1 hm
      have := hp.lt hb
      omega
theorem sd_callN2 {P : Program} {ops : Array Oper} {Q : Exit → Act → World → Prop} {N : List Nat} {X : List Nat} {w0 w : World} {H Hq : List Bk} {d : Tmp} {tp : TypeId} {pos : String} {af : Array Edge} {gd : Option (Nat × Bool)} {i : Nat} {a : Act} {rest : Sc}
    {c : Call} {f : FuncId} {args : Array Value} {v : Nat → Nat → Value} {t u : TypeId} {cs ds : List Value} (hq : Hp X w0 Hq w) (hs : List.Sublist H Hq) (hw : Region.wanted ⟨some d,.call c,tp,pos,af,gd⟩ (yielded ops a.tmps) = true)
    (he : ∀ w,(execOp a.eval ⟨some d,.call c,tp,pos,af,gd⟩).run P w = .ok (.enter f args) w) (hc : Calls P f args w (RetN2 v t cs u ds w))
    (hk : ∀ g h w1,Hp X w0 H w1 → Hp X w0 (⟨g,t,cs⟩ :: ⟨h,u,ds⟩ :: Hq) w1 → Qbd P ops Q (Hp X w0 H) N rest (a.put (some d) (v g h)) w1) : wpL P ops Q (Hp X w0 H) N i rest ⟨some d,.call c,tp,pos,af,gd⟩ a w := by
  refine Qek hw ?_
  unfold Oper.wp
  simp only [he,Oper.upon]
  exact hc.mono fun e w1 ⟨g,h,he,hne,hw1,hg,hh,hb,hb'⟩ => by
    subst he
    have h1 := hq.add2 hw1 hne hg hh hb hb'
    have hH := h1.sub ((hs.cons ⟨h,u,ds⟩).cons ⟨g,t,cs⟩)
    exact ⟨fun _ => hH,hk g h w1 hH h1⟩
end Go.Proofs.YtdfdmeoalbpcdaaGreat

set_option linter.unusedSimpArgs false
set_option maxRecDepth 100000
namespace Go.Proofs.YtdfdmeoalbpcdaaGreat
open Go Go.RowKit
/-- A point, a span. -/
abbrev Pv (x y z : Int) : Value := .agg #[.int .i64 x,.int .i64 y,.int .i64 z]
abbrev Sv (x y z : Int) : Value := .agg #[.int .u64 (lb (x) 0),.int .u64 (lb (x) 1),.int .u64 (lb (x) 2),.int .u64 (lb (x) 3),.int .u64 (lb (x) 4),.int .u64 (lb (x) 5),.int .u64 (lb (x) 6),.int .u64 (lb (x) 7),.int .u64 (lb (y) 0),.int .u64 (lb (y) 1),.int .u64 (lb (y) 2),.int .u64 (lb (y) 3),.int .u64 (lb (y) 4),.int .u64 (lb (y) 5),.int .u64 (lb (y) 6),.int .u64 (lb (y) 7),.int .u64 (lb (z) 0),.int .u64 (lb (z) 1),.int .u64 (lb (z) 2),.int .u64 (lb (z) 3),.int .u64 (lb (z) 4),.int .u64 (lb (z) 5),.int .u64 (lb (z) 6),.int .u64 (lb (z) 7)]
def I64 (n : Int) : Prop := -9223372036854775808 ≤ n ∧ n < 9223372036854775808
theorem Qor (n : Int) (h : I64 n) (w : World) : Calls Tryz.prog 8 #[.int .i64 n] w (Ret (W n) w) := Qnv n h.1 h.2 w
theorem Qdj {n : Int} (h : I64 n) : Fit n := by
  unfold I64 at h
  unfold Fit M511
  omega
/-- Three integers. -/
structure P3 where
  x : Int
  y : Int
  z : Int
deriving DecidableEq
abbrev PV (p : P3) : Value := .agg #[.int .i64 p.x,.int .i64 p.y,.int .i64 p.z]
abbrev SV (p : P3) : Value := .agg #[.int .u64 (lb (p.x) 0),.int .u64 (lb (p.x) 1),.int .u64 (lb (p.x) 2),.int .u64 (lb (p.x) 3),.int .u64 (lb (p.x) 4),.int .u64 (lb (p.x) 5),.int .u64 (lb (p.x) 6),.int .u64 (lb (p.x) 7),.int .u64 (lb (p.y) 0),.int .u64 (lb (p.y) 1),.int .u64 (lb (p.y) 2),.int .u64 (lb (p.y) 3),.int .u64 (lb (p.y) 4),.int .u64 (lb (p.y) 5),.int .u64 (lb (p.y) 6),.int .u64 (lb (p.y) 7),.int .u64 (lb (p.z) 0),.int .u64 (lb (p.z) 1),.int .u64 (lb (p.z) 2),.int .u64 (lb (p.z) 3),.int .u64 (lb (p.z) 4),.int .u64 (lb (p.z) 5),.int .u64 (lb (p.z) 6),.int .u64 (lb (p.z) 7)]
def may (n : Int) : Prop := -268435456 ≤ n ∧ n ≤ 268435456
instance (n : Int) : Decidable (may n) := inferInstanceAs (Decidable (_ ∧ _))
def P3.may (p : P3) : Prop := YtdfdmeoalbpcdaaGreat.may p.x ∧ YtdfdmeoalbpcdaaGreat.may p.y ∧ YtdfdmeoalbpcdaaGreat.may p.z
instance (p : P3) : Decidable p.may := inferInstanceAs (Decidable (_ ∧ _))
def P3.i64 (p : P3) : Prop := I64 p.x ∧ I64 p.y ∧ I64 p.z
def P3.sub (a b : P3) : P3 := ⟨a.x - b.x,a.y - b.y,a.z - b.z⟩
def P3.dot (a b : P3) : Int := a.x * b.x + a.y * b.y + a.z * b.z
def P3.cross (a b : P3) : P3 := ⟨a.y * b.z - a.z * b.y,a.z * b.x - a.x * b.z,a.x * b.y - a.y * b.x⟩
def P3.det (a b c : P3) : Int := (b.cross c).dot a
theorem bd_mul {a b : Int} {A B : Nat} (ha : -(A : Int) ≤ a ∧ a ≤ A) (hb : -(B : Int) ≤ b ∧ b ≤ B) : -((A * B : Nat) : Int) ≤ a * b ∧ a * b ≤ ((A * B : Nat) : Int) := by
  have h1 : (a * b).natAbs ≤ A * B := by
    rw [Int.natAbs_mul]
    exact Nat.mul_le_mul (by omega) (by omega)
  generalize A * B = C at *
  omega
theorem i64_bd {a : Int} (h : I64 a) : -((9223372036854775808 : Nat) : Int) ≤ a ∧ a ≤ ((9223372036854775808 : Nat) : Int) := by
  unfold I64 at h
  omega
theorem Qbh {a b : Int} (ha : I64 a) (hb : I64 b) : -85070591730234615865843651857942052864 ≤ a * b ∧ a * b ≤ 85070591730234615865843651857942052864 := by
  have := bd_mul (i64_bd ha) (i64_bd hb)
  omega
theorem Qig {a b : Int} (ha : -170141183460469231731687303715884105728 ≤ a ∧ a ≤ 170141183460469231731687303715884105728) (hb : I64 b) : -1569275433846670190958947355801916604025588861116008628224 ≤ a * b ∧ a * b ≤ 1569275433846670190958947355801916604025588861116008628224 := by
  have := bd_mul (A := 170141183460469231731687303715884105728) ha (i64_bd hb)
  omega
end Go.Proofs.YtdfdmeoalbpcdaaGreat

set_option linter.unusedSimpArgs false
set_option linter.unusedVariables false
set_option maxRecDepth 100000
namespace Go.Proofs.YtdfdmeoalbpcdaaGreat
open Go Go.RowKit
set_option maxHeartbeats 1000000 in
theorem Qmb (a b : Int) (ha : Fit a) (hb : Fit b) (w : World) : Calls Tryz.prog 99 #[W a,W b] w (Ret (W (fz (a + b))) w) := by
  have Ha := Lib.hid ha
  have Hb := Lib.hid hb
  clear ha hb
  go_enter Tryz.func99,Tryz.ntmps99
  have hp := Hp.start [] w
  go_wp2_with (first|((with_reducible apply Qau hp);exact za rfl;exact rfl;clear hp;(try clear w1);intro g w1 hp;simp only [zp,zq,z0,z1])|((with_reducible apply Qag hp);exact ii;exact rfl;clear hp;(try clear w1);intro g w1 hp;simp only [zp,zq,z0,z1])|((with_reducible apply Qab hp);exact zt rfl;exact ii;exact ii;(exact zl rfl);(simp only [n0,Nat.reduceAdd,nn];try rfl);simp only [zp,zq,z0,z1])|((with_reducible apply Qae hp);exact zt rfl;exact za rfl;exact rfl;(exact AggTy.size);exact rfl;exact ii;(simp only [n0,Nat.reduceAdd,nn];try rfl);(exact zl rfl);exact rfl;exact ii;clear hp;(try clear w1);intro w1 hp)|((with_reducible refine Qaf hp (Qnk _ _ Ha.out Hb.out _) ?_);clear hp;(try clear w1);intro w1 hp))
  exact bodyPost_ret (Qaa rfl ⟨_,rfl,Qac hp (Nat.le_of_ble_eq_true rfl)⟩) rfl ⟨rfl,hp.keep⟩
theorem Qfq (a b : Int) (ha : Fit a) (hb : Fit b) (h : Fit (a + b)) (w : World) : Calls Tryz.prog 99 #[W a,W b] w (Ret (W (a + b)) w) := by
  have := Qmb a b ha hb w
  rw [fz,if_pos h] at this
  exact this
set_option maxHeartbeats 1000000 in
theorem Qls (a b : Int) (ha : Fit a) (hb : Fit b) (w : World) : Calls Tryz.prog 98 #[W a,W b] w (Ret (W (fz (a - b))) w) := by
  have Ha := Lib.hid ha
  have Hb := Lib.hid hb
  clear ha hb
  go_enter Tryz.func98,Tryz.ntmps98
  have hp := Hp.start [] w
  go_wp2_with (first|((with_reducible apply Qau hp);exact za rfl;exact rfl;clear hp;(try clear w1);intro g w1 hp;simp only [zp,zq,z0,z1])|((with_reducible apply Qag hp);exact ii;exact rfl;clear hp;(try clear w1);intro g w1 hp;simp only [zp,zq,z0,z1])|((with_reducible apply Qab hp);exact zt rfl;exact ii;exact ii;(exact zl rfl);(simp only [n0,Nat.reduceAdd,nn];try rfl);simp only [zp,zq,z0,z1])|((with_reducible apply Qae hp);exact zt rfl;exact za rfl;exact rfl;(exact AggTy.size);exact rfl;exact ii;(simp only [n0,Nat.reduceAdd,nn];try rfl);(exact zl rfl);exact rfl;exact ii;clear hp;(try clear w1);intro w1 hp)|((with_reducible refine Qaf hp (rsub_any _ _ Ha.out Hb.out _) ?_);clear hp;(try clear w1);intro w1 hp))
  exact bodyPost_ret (Qaa rfl ⟨_,rfl,Qac hp (Nat.le_of_ble_eq_true rfl)⟩) rfl ⟨rfl,hp.keep⟩
theorem Qht (a b : Int) (ha : Fit a) (hb : Fit b) (h : Fit (a - b)) (w : World) : Calls Tryz.prog 98 #[W a,W b] w (Ret (W (a - b)) w) := by
  have := Qls a b ha hb w
  rw [fz,if_pos h] at this
  exact this
set_option maxHeartbeats 1000000 in
theorem Qjh (a b : Int) (ha : Fit a) (hb : Fit b) (w : World) : Calls Tryz.prog 100 #[W a,W b] w (Ret (W (fz (a * b))) w) := by
  have Ha := Lib.hid ha
  have Hb := Lib.hid hb
  clear ha hb
  go_enter Tryz.func100,Tryz.ntmps100
  have hp := Hp.start [] w
  go_wp2_with (first|((with_reducible apply Qau hp);exact za rfl;exact rfl;clear hp;(try clear w1);intro g w1 hp;simp only [zp,zq,z0,z1])|((with_reducible apply Qag hp);exact ii;exact rfl;clear hp;(try clear w1);intro g w1 hp;simp only [zp,zq,z0,z1])|((with_reducible apply Qab hp);exact zt rfl;exact ii;exact ii;(exact zl rfl);(simp only [n0,Nat.reduceAdd,nn];try rfl);simp only [zp,zq,z0,z1])|((with_reducible apply Qae hp);exact zt rfl;exact za rfl;exact rfl;(exact AggTy.size);exact rfl;exact ii;(simp only [n0,Nat.reduceAdd,nn];try rfl);(exact zl rfl);exact rfl;exact ii;clear hp;(try clear w1);intro w1 hp)|((with_reducible refine Qaf hp (Qit _ _ Ha.out Hb.out _) ?_);clear hp;(try clear w1);intro w1 hp))
  exact bodyPost_ret (Qaa rfl ⟨_,rfl,Qac hp (Nat.le_of_ble_eq_true rfl)⟩) rfl ⟨rfl,hp.keep⟩
theorem Qlx (a b : Int) (ha : Fit a) (hb : Fit b) (h : Fit (a * b)) (w : World) : Calls Tryz.prog 100 #[W a,W b] w (Ret (W (a * b)) w) := by
  have := Qjh a b ha hb w
  rw [fz,if_pos h] at this
  exact this
theorem Qcw (n : Int) (h : I64 n) (w : World) : Calls Tryz.prog 66 #[.int .i64 n] w (Ret (W n) w) := rsmall_any n h.1 h.2 w
theorem rtimes_i64 (a b : Int) (ha : I64 a) (hb : I64 b) (w : World) : Calls Tryz.prog 100 #[W a,W b] w (Ret (W (a * b)) w) := by
  have := Qbh ha hb
  exact Qlx a b (Qdj ha) (Qdj hb) (by unfold Fit M511;omega) w
end Go.Proofs.YtdfdmeoalbpcdaaGreat
