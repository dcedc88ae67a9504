/-
  Numbers by their bits (plain); blocks that are told by a function; make([]int, n).
  Package ninepinref01: Long, plus, minus (contracts).
  Package ninepinref01: Of (contract).
  Package ninepinref01: Below, Small, Sign, Add, Sub, top, size (contracts).
  Package ninepinref01: Small, top, size, Add, Sub (contracts).
  Adding bit by bit: what the rounds of a product do (plain).
  Package ninepinref01: Mul (contract).
  Package wide: Add, Sub, of numbers that fit.
  The walk's laws of memory inside a fence (a range over a function).
-/
import Derived.Test.YtdfdmeoalbpcdaaSl
import Derived.Test.YtdfdmeoalbpcdaaEr
import Derived.Laws.MakeOwn
import Derived.WalkKit
import Derived.WalkSmall
import Derived.Lib.Hide
import Derived.Test.YtdfdmeoalbpcdaaMc
import Derived.Test.YtdfdmeoalbpcdaaWd
import Derived.RangeFuncNested
import Derived.RangeFuncBound
import Derived.RangeFuncCalls
import Derived.RangeFuncLeaves
import Derived.OwnWalkIn
import Derived.TacticsInMore
import Derived.LoopNIn
import Derived.LoopIn
import Derived.Shelf.Abstract
import Derived.Test.YtdfdmeoalbpcdaaHeb
set_option linter.unusedSimpArgs false
set_option linter.unusedVariables false
namespace Go.Proofs.Ytdfdmeoalbpcdaa
open Go Go.RowKit
/-! ### Blocks of ints -/
def tab (F : Nat → Int) (L : Nat) : List Value := (List.range L).map fun i => .int .i64 (F i)
theorem tab_get {F : Nat → Int} {L k : Nat} (h : k < L) : (tab F L)[k]? = some (.int .i64 (F k)) := by simp [tab,h]
/-- A call that is known of this world alone. -/
theorem Qcp {P : Program} {ops : Array Oper} {Q : Exit → Act → World → Prop} {N : List Nat} {X : List Nat} {w0 w : World} {H Hq : List Bk} {a : Act} {i : Nat} {rest : Sc} {d : Tmp} {tp : TypeId} {pos : String} {af : Array Edge} {gd : Option (Nat × Bool)} {c : Call} {f : FuncId} {args : Array Value} {v : Value} (hp : Hp X w0 H w) (hw : Region.wanted ⟨some d,.call c,tp,pos,af,gd⟩ (yielded ops a.tmps) = true)
    (he : ∀ w,(execOp a.eval ⟨some d,.call c,tp,pos,af,gd⟩).run P w = .ok (.enter f args) w) (hc : Calls P f args w (Ret v w)) (hq : Hp X w0 Hq w)
    (hk : ∀ w1,Hp X w0 H w1 → Hp X w0 Hq w1 → Qbb P ops Q (Hp X w0 H) N rest (a.put (some d) v) w1) : wpL P ops Q (Hp X w0 H) N i rest ⟨some d,.call c,tp,pos,af,gd⟩ a w := by
  refine Qdt hw ?_
  unfold Oper.wp
  simp only [he,Oper.upon]
  exact hc.mono fun e w1 ⟨he,hw1⟩ => by subst he;exact ⟨fun _ => hp.call hw1,hk w1 (hp.call hw1) (hq.call hw1)⟩
/-! ### Bits -/
/-- Bit i of n, in two's complement. -/
def bt (n : Int) (i : Nat) : Int := n / 2 ^ i % 2
/-- What is carried into bit k. -/
def cb (a b c : Int) (k : Nat) : Int := (a % 2 ^ k + b % 2 ^ k + c) / 2 ^ k
end Go.Proofs.Ytdfdmeoalbpcdaa
set_option linter.unusedSimpArgs false
set_option linter.unusedVariables false
set_option maxRecDepth 100000
namespace Go.Proofs.Ytdfdmeoalbpcdaa
open Go Go.RowKit
/-- A slice that holds L bits of x. -/
def BSl (w : World) (v : Value) (x : Int) (L : Nat) : Prop := ∃ g off cap bc t z,v = .slice (some ⟨g,off,none⟩) L cap ∧ w.heap[g]? = some (.cells (bc : List Value).toArray t z) ∧ ∀ k,k < L → bc[off + k * 1]? = some (.int .i64 (bt x k))
theorem BSl.of {w : World} {g cap L : Nat} {t : TypeId} {x : Int} (h : w.heap[g]? = some (.cells (tab (bt x) L).toArray t (0,0))) : BSl w (.slice (some ⟨g,0,none⟩) L cap) x L :=
  ⟨g,0,cap,_,t,_,rfl,h,fun k hk => by rw [Nat.zero_add,Nat.mul_one];exact tab_get hk⟩
end Go.Proofs.Ytdfdmeoalbpcdaa
set_option linter.unusedSimpArgs false
set_option linter.unusedVariables false
set_option maxRecDepth 100000
namespace Go.Proofs.Ytdfdmeoalbpcdaa
open Go Go.RowKit
/-- A limb, when its bits from k on are taken, the highest first. -/
def gl (m : Int) (k j : Nat) : Int := lb m j / 2 ^ (k - 64 * j)
end Go.Proofs.Ytdfdmeoalbpcdaa
set_option linter.unusedSimpArgs false
set_option linter.unusedVariables false
set_option maxRecDepth 100000
namespace Go.Proofs.Ytdfdmeoalbpcdaa
open Go Go.RowKit
end Go.Proofs.Ytdfdmeoalbpcdaa
set_option linter.unusedSimpArgs false
set_option linter.unusedVariables false
set_option maxRecDepth 100000
namespace Go.Proofs.Ytdfdmeoalbpcdaa
open Go Go.RowKit
/-- How many bits there are up to the last 1. -/
def tp (x : Int) : Nat → Nat
  | 0 => 0
  | k + 1 => if bt x k = 0 then tp x k else k + 1
/-- The absolute value. -/
def ab (n : Int) : Int := if n < 0 then -n else n
end Go.Proofs.Ytdfdmeoalbpcdaa
set_option linter.unusedSimpArgs false
set_option linter.unusedVariables false
set_option maxRecDepth 100000
namespace Go.Proofs.Ytdfdmeoalbpcdaa
open Go Go.RowKit
/-- A sum, of which so many bits are there. -/
def mx (S D : Int) (m : Nat) : Nat → Int := fun j => if j < m then bt (S + D) j else bt S j
end Go.Proofs.Ytdfdmeoalbpcdaa
set_option linter.unusedSimpArgs false
set_option linter.unusedVariables false
set_option maxRecDepth 100000
namespace Go.Proofs.Ytdfdmeoalbpcdaa
open Go Go.RowKit
end Go.Proofs.Ytdfdmeoalbpcdaa

set_option linter.unusedSimpArgs false
namespace Go.Proofs.Ytdfdmeoalbpcdaa
open Go Go.RowKit
theorem ng_more (n : Int) : ng (n + M512) = ng n := by
  unfold ng
  rw [lb_congr (a := n + M512) (b := n) ?_ 7 (by omega)]
  simp
theorem ng_less (n : Int) : ng (n - M512) = ng n := by
  rw [← ng_more (n - M512),Int.sub_add_cancel]
/-- The sign limb of what is just too great, or too small. -/
theorem ng_over {n : Int} (h : M511 ≤ n) (h' : n < M512) : ng n = true := by
  rw [← ng_less,Qcj (by unfold Fit M511 at *;unfold M512 at *;omega)]
  simp;omega
theorem ng_under {n : Int} (h : n < -M511) (h' : -M512 ≤ n) : ng n = false := by
  rw [← ng_more,Qcj (by unfold Fit M511 at *;unfold M512 at *;omega)]
  simp;omega
theorem addv_fit {s : Int} {x y : Bool} (hs : -M512 ≤ s ∧ s < M512) (h1 : x = true → y = true → s < 0) (h2 : x = false → y = false → 0 ≤ s) (h3 : M511 ≤ s → x = false ∧ y = false) (h4 : s < -M511 → x = true ∧ y = true) :
    addv s x y (ng s) = .tuple #[W (fz s),.bool (decide (Fit s))] := by
  have h0 : W (0 : Int) = .agg #[.int .u64 0,.int .u64 0,.int .u64 0,.int .u64 0,.int .u64 0,.int .u64 0,.int .u64 0,.int .u64 0] := Qfv
  by_cases hf : Fit s
  · rw [fz,if_pos hf,decide_eq_true hf,Qcj hf]
    by_cases h : s < 0
    · rw [decide_eq_true h]
      cases x <;> cases y <;> simp [addv]
      have := h2 rfl rfl
      omega
    · rw [decide_eq_false h]
      cases x <;> cases y <;> simp [addv]
      have := h1 rfl rfl
      omega
  · rw [fz,if_neg hf,decide_eq_false hf,h0]
    by_cases h : s < 0
    · rw [ng_under (by unfold Fit M511 at *;omega) hs.1]
      obtain ⟨rfl,rfl⟩ := h4 (by unfold Fit M511 at *;omega)
      rfl
    · rw [ng_over (by unfold Fit M511 at *;omega) hs.2]
      obtain ⟨rfl,rfl⟩ := h3 (by unfold Fit M511 at *;omega)
      rfl
theorem add_any (a b : Int) (ha : Fit a) (hb : Fit b) (w : World) : Calls Try.prog 38 #[W a,W b] w (Ret (.tuple #[W (fz (a + b)),.bool (decide (Fit (a + b)))]) w) := by
  have h := add_raw a b w
  rw [Qcj ha,Qcj hb,addv_fit] at h
  · exact h
  all_goals unfold Fit M511 at *
  all_goals try unfold M512
  all_goals try simp
  all_goals omega
theorem Qot (a b : Int) (ha : Fit a) (hb : Fit b) (w : World) : Calls Try.prog 36 #[W a,W b] w (Ret (.tuple #[W (fz (a - b)),.bool (decide (Fit (a - b)))]) w) := by
  have h := sub_raw a b w
  rw [Qcj ha,Qcj hb,addv_fit] at h
  · exact h
  all_goals unfold Fit M511 at *
  all_goals try unfold M512
  all_goals try simp
  all_goals omega
end Go.Proofs.Ytdfdmeoalbpcdaa

namespace Go.Proofs.Ytdfdmeoalbpcdaa
open Go Go.RowKit
/-- A fence that lets every function in, at whatever depth. -/
class Free (F : Fence) : Prop where
  fn : ∀ f,F.fn f
  depth : F.depth = none
@[go_sem] theorem wide_fn (f : FuncId) : Fence.wide.fn f = True := rfl
attribute [go_sem] Oper.semAt_some
instance : Free Fence.wide := ⟨fun _ => trivial,rfl⟩
instance {F : Fence} {l : Nat} [h : Free F] : Free (F.inRound l) := ⟨h.fn,h.depth⟩
section
variable {F : Fence} {P : Program} {X : List Nat} {w0 w : World} {H H' : List Bk} {g : Nat} {t : TypeId} {cs cs' : List Value}
variable {ops : Array Oper} {Q : Exit → Act → World → Prop} {a : Act} {rest : List Oper} {d p : Tmp} {tp ty : TypeId} {pos : String} {af : Array Edge} {off n m : Nat}
theorem Qdq [hF : Free F] {o : Oper} {v : Value} {w1 : World} (hg : o.guard = none) (hd : ∀ c,o.op ≠ .defer c) (hr : (execOp a.eval o).run P w = .ok (.value v) w1)
    (hk : wpListIn F m P ops Q rest (a.put o.dst v) w1) : wpListIn F m P ops Q (o :: rest) a w := by
  refine wpListIn_plain hg fun K hK => ?_
  refine ⟨fun f _ => hF.fn f,?_⟩
  rw [Oper.semAt_eq _ _ _ hd,hr]
  exact hK _ _ hk
theorem Qbs [hF : Free F] (hp : Hp X w0 H w) (hx : a.eval (.tmp p) = .pointer (some ⟨g,off,none⟩)) (h : Has H g t cs) (ht : AggTy P ty n) (hle : off + n ≤ cs.length) {vs : List Value} (hvs : (cs.drop off).take n = vs)
    (hk : wpListIn F m P ops Q rest (a.put (some d) (.agg vs.toArray)) w) : wpListIn F m P ops Q (⟨some d,.load ty (.tmp p),tp,pos,af,none⟩ :: rest) a w := by
  subst hvs
  refine Qdq rfl (fun _ h => by cases h) ?_ hk
  simp only [execOp,hx,Instr.loadAt,Instr.sureAddr,Sem.run_bind,Sem.run_pure,Result.andThen_ok,Qag hp hle]
theorem Qcf [hF : Free F] {x : Operand} (hp : Hp X w0 H w) (hx : a.eval (.tmp p) = .pointer (some ⟨g,off,none⟩)) {v : Value} (hxv : a.eval x = v) {vs : List Value} (hv : v.cells = vs.toArray) (hn : ∀ w,(sizeOf ty).run P w = .ok n w) (hvn : vs.length = n)
    {cs' : List Value} (_h0 : Has H g t cs) (hcs : cs.take off ++ vs ++ cs.drop (off + n) = cs') (hle : off + n ≤ cs.length) (h1 : vs.all (·.oneCell') = true) (h : Upd H g t cs cs' H')
    (hk : ∀ w1,Hp X w0 H' w1 → wpListIn F m P ops Q rest a w1) : wpListIn F m P ops Q (⟨none,.store ty (.tmp p) x,tp,pos,af,none⟩ :: rest) a w := by
  subst hcs
  obtain ⟨w1,hr,hp1⟩ := Qds (P := P) hp (off := off) hv hn hvn hle h1 (h := h)
  refine wpListIn_plain rfl fun K hK => ?_
  refine ⟨fun f _ => hF.fn f,?_⟩
  rw [Oper.semAt_eq _ _ _ (fun _ h => by cases h)]
  simp only [execOp,hx,hxv,Instr.storeAt,Instr.sureAddr,Sem.run_bind,Sem.run_pure,Result.andThen_ok,hr]
  exact hK _ _ (hk w1 hp1)
theorem Qci [hF : Free F] {z : Value} (hp : Hp X w0 H w) (hz : ZeroTy P ty z) {vs : List Value} (hv : z.cells = vs.toArray)
    (hk : ∀ g w1,Hp X w0 (⟨g,ty,vs⟩ :: H) w1 → wpListIn F m P ops Q rest (a.put (some d) (.pointer (some ⟨g,0,none⟩))) w1) : wpListIn F m P ops Q (⟨some d,.alloc ty,tp,pos,af,none⟩ :: rest) a w := by
  refine Qdq rfl (fun _ h => by cases h) (w1 := w.alloc (.cells vs.toArray ty)) ?_ (hk _ _ (hp.alloc ty vs))
  have hr : (Instr.alloc ty true (.tuple #[])).run P w = .ok (.pointer (some ⟨w.heap.size,0,none⟩)) (w.alloc (.cells vs.toArray ty)) := by
    simp [Instr.alloc,newVar,newRow,hv,hz.zero]
  simp only [execOp,Sem.run_bind,Result.andThen_ok,hr,Sem.run_pure]
theorem Qbh {f : FuncId} {args : Array Value} {v : Value} {l : Nat} {R : Ending → World → Prop} (hp : Hp X w0 H w) (hc : Calls P f args w (Ret v w)) (hk : ∀ w1,Hp X w0 H w1 → R (.returned v) w1) :
    CallsIn (Fence.wide.inRound l) n P f args w R :=
  CallsIn.inRound l (callsIn_wide.2 (Qah hp hc hk))
/-- An operation whose guard says yes. -/
theorem si_strip {dst : Option Tmp} {op : Op} {gd : Nat × Bool} (hw : Region.wanted ⟨dst,op,tp,pos,af,some gd⟩ (yielded ops a.tmps) = true) (h : wpListIn F m P ops Q (⟨dst,op,tp,pos,af,none⟩ :: rest) a w) : wpListIn F m P ops Q (⟨dst,op,tp,pos,af,some gd⟩ :: rest) a w := by
  unfold wpListIn at h ⊢
  rw [if_pos hw]
  rw [if_pos (by simp [Region.wanted])] at h
  exact h
theorem Qjj [hF : Free F] {dst : Option Tmp} {op : Op} {gd : Nat × Bool} (hw : Region.wanted ⟨dst,op,tp,pos,af,some gd⟩ (yielded ops a.tmps) = false) (h : wpListIn F m P ops Q rest (a.put dst undef) w) : wpListIn F m P ops Q (⟨dst,op,tp,pos,af,some gd⟩ :: rest) a w := by
  unfold wpListIn
  rw [if_neg (by rw [hw];simp)]
  exact ⟨fun f _ => hF.fn f,h⟩
end
/-! ### What a loop's records leave alone -/
theorem Hp.grown {X : List Nat} {w0 w w' : World} {H : List Bk} {B : Nat} {row : Option Nat} (hp : Hp X w0 H w) (hB : w0.heap.size ≤ B) (hg : w.grownBy w' row) (hr : ∀ r,row = some r → B ≤ r ∧ ∃ o : Obj,w.heap[r]? = some o ∧ o.isCells = false) : Hp X w0 H w' := by
  obtain ⟨h1,h2,h3,h4,h5⟩ := hg
  refine ⟨⟨h1.trans hp.keep.os,h2.trans hp.keep.tape,h3.trans hp.keep.output,Nat.le_trans hp.keep.size h4,fun k hk hx => ?_⟩,fun b hb => ⟨(hp.own b hb).1,?_⟩,hp.nd⟩
  · rw [h5 k (Nat.lt_of_lt_of_le hk hp.keep.size) (fun e => ?_)]
    · exact hp.keep.block k hk hx
    · have := (hr k e.symm).1
      omega
  · rw [h5 b.g (hp.lt hb) (fun e => ?_)]
    · exact (hp.own b hb).2
    · obtain ⟨_,o,ho,hc⟩ := hr b.g e.symm
      rw [(hp.own b hb).2] at ho
      cases ho
      simp [Obj.isCells] at hc
/-- Within a frame: a part of a call that wrote just the call's own blocks. -/
theorem Hp.within {w0 w w' : World} {H H' : List Bk} (hp : Hp [] w0 H w) (h : Hp (H.map (·.g)) w H' w') : Hp [] w0 H' w' := by
  refine ⟨⟨h.keep.os.trans hp.keep.os,h.keep.tape.trans hp.keep.tape,h.keep.output.trans hp.keep.output,Nat.le_trans hp.keep.size h.keep.size,fun k hk _ => ?_⟩,fun b hb => ⟨.inr ?_,(h.own b hb).2⟩,h.nd⟩
  · refine (h.keep.block k (Nat.lt_of_lt_of_le hk hp.keep.size) (fun hm => ?_)).trans (hp.keep.block k hk (by simp))
    obtain ⟨b,hb,rfl⟩ := List.mem_map.1 hm
    rcases (hp.own b hb).1 with h' | h'
    · simp at h'
    · omega
  · rcases (h.own b hb).1 with h' | h'
    · obtain ⟨c,hc,e⟩ := List.mem_map.1 h'
      rcases (hp.own c hc).1 with h'' | h''
      · simp at h''
      · rw [← e];exact h''
    · exact Nat.le_trans hp.keep.size h'
/-- What was there stays there, if it is no cells. -/
theorem Hp.others {X : List Nat} {w w' : World} {H : List Bk} {B : Nat} (h : Hp X w H w') (hX : ∀ g ∈ X,∃ o : Obj,w.heap[g]? = some o ∧ o.isCells = true) : KeepsFrom B w w' := by
  refine ⟨h.keep.size,fun k o _ hk ho => ?_⟩
  have hlt : k < w.heap.size := by
    rcases Nat.lt_or_ge k w.heap.size with h' | h'
    · exact h'
    · rw [Array.getElem?_eq_none h'] at hk;cases hk
  rw [h.keep.block k hlt (fun hm => ?_)]
  · exact hk
  · obtain ⟨o',ho',hc⟩ := hX k hm
    rw [hk] at ho'
    cases ho'
    rw [ho] at hc
    cases hc
theorem Hp.within' {w0 w w' : World} {X : List Nat} {H H' : List Bk} (hp : Hp [] w0 H w) (h : Hp X w H' w') (hX : ∀ g ∈ X,w0.heap.size ≤ g) : Hp [] w0 H' w' := by
  refine ⟨⟨h.keep.os.trans hp.keep.os,h.keep.tape.trans hp.keep.tape,h.keep.output.trans hp.keep.output,Nat.le_trans hp.keep.size h.keep.size,fun k hk _ => ?_⟩,fun b hb => ⟨.inr ?_,(h.own b hb).2⟩,h.nd⟩
  · refine (h.keep.block k (Nat.lt_of_lt_of_le hk hp.keep.size) (fun hm => ?_)).trans (hp.keep.block k hk (by simp))
    have := hX k hm
    omega
  · rcases (h.own b hb).1 with h' | h'
    · exact hX _ h'
    · exact Nat.le_trans hp.keep.size h'
/-- The blocks H, in the world as it stands: to be written from here on. -/
theorem Hp.here {w : World} {H : List Bk} (h : ∀ b ∈ H,w.heap[b.g]? = some (.cells b.cs.toArray b.t (0,0))) (hn : (H.map (·.g)).Nodup) : Hp (H.map (·.g)) w H w := ⟨Keep.refl _ _,fun b hb => ⟨.inl (List.mem_map.2 ⟨b,hb,rfl⟩),h b hb⟩,hn⟩
theorem Hp.hereCells {w : World} {H : List Bk} (h : ∀ b ∈ H,w.heap[b.g]? = some (.cells b.cs.toArray b.t (0,0))) : ∀ g ∈ H.map (·.g),∃ o : Obj,w.heap[g]? = some o ∧ o.isCells = true := by
  intro g hg
  obtain ⟨b,hb,rfl⟩ := List.mem_map.1 hg
  exact ⟨_,h b hb,rfl⟩
theorem Qim (TM : Array Value) (p q : Tmp) (a b : Value) : ((#[p,q] : Array Tmp).zip #[a,b]).foldl (fun t (p,v) => t.setIfInBounds p v) TM = (TM.setIfInBounds p a).setIfInBounds q b := by simp
theorem Hp.newX {X : List Nat} {w0 w : World} {H : List Bk} {g : Nat} {t : TypeId} {cs : List Value} (hp : Hp X w0 H w) (hg : g ∉ X) [h : Has H g t cs] : w0.heap.size ≤ g := (hp.own _ h.mem).1.resolve_left hg
theorem Qgr {B : Nat} {g : Nat} {o : Obj} (ho : o.isCells = true) {W W' : World} {row : Option Nat} (h : W.heap[g]? = some o) (hg : W.grownBy W' row) (hr : ∀ r,row = some r → B ≤ r ∧ ∃ o : Obj,W.heap[r]? = some o ∧ o.isCells = false) : W'.heap[g]? = some o := by
  have hlt : g < W.heap.size := by
    rcases Nat.lt_or_ge g W.heap.size with h' | h'
    · exact h'
    · rw [Array.getElem?_eq_none h'] at h;cases h
  obtain ⟨_,_,_,_,h5⟩ := hg
  rw [h5 g hlt (fun e => ?_)]
  · exact h
  · obtain ⟨_,o',ho',hc⟩ := hr g e.symm
    rw [h] at ho'
    cases ho'
    rw [ho] at hc
    cases hc
theorem Hp.self {w0 w : World} {H : List Bk} (hp : Hp [] w0 H w) : Hp (H.map (·.g)) w H w := ⟨Keep.refl _ _,fun b hb => ⟨.inl (List.mem_map.2 ⟨b,hb,rfl⟩),(hp.own b hb).2⟩,hp.nd⟩
theorem Hp.selfCells {w0 w : World} {H : List Bk} (hp : Hp [] w0 H w) : ∀ g ∈ H.map (·.g),∃ o : Obj,w.heap[g]? = some o ∧ o.isCells = true := by
  intro g hg
  obtain ⟨b,hb,rfl⟩ := List.mem_map.1 hg
  exact ⟨_,(hp.own b hb).2,rfl⟩
theorem Hp.selfSizes {w0 w : World} {H : List Bk} (hp : Hp [] w0 H w) : ∀ g ∈ H.map (·.g),w0.heap.size ≤ g := by
  intro g hg
  obtain ⟨b,hb,rfl⟩ := List.mem_map.1 hg
  exact (hp.own b hb).1.resolve_left (by simp)
theorem Hp.same {X : List Nat} {w w' : World} {H : List Bk} (h : Hp X w H w') (hX : ∀ g ∈ X,∃ o : Obj,w.heap[g]? = some o ∧ o.isCells = true) {k : Nat} {o : Obj} (hk : w.heap[k]? = some o) (ho : o.isCells = false) : w'.heap[k]? = some o :=
  (h.others (B := 0) hX).same k o (Nat.zero_le _) hk ho
/-- The end of a call that holds a loop over a function: the loop's record is shut. -/
theorem Hp.shut {w wl W w1 : World} {X : List Nat} {H H1 : List Bk} {D : Nat} (hwl : w.heap.size ≤ wl.heap.size) (hD : wl.heap.size ≤ D) (hI : Hp [] w H W) (hX : X = H.map (·.g)) (h : Hp X W H1 w1) (hd : W.heap[D]? = some (.deferred (some []))) :
    w1.heap[D]? = some (.deferred (some [])) ∧ Hp [] w H1 (w1.putObj D (.deferred none)) := by
  subst hX
  have h1 := h.same hI.selfCells hd rfl
  exact ⟨h1,(hI.within h).grown hwl (grownBy_putObj' _ D _) (fun r e => by cases e;exact ⟨hD,_,h1,rfl⟩)⟩
/-- What a call comes to that hands back v, in which the addresses of two blocks are that it made. -/
def RetN2 (v : Nat → Nat → Value) (t : TypeId) (cs : List Value) (u : TypeId) (ds : List Value) (w : World) (e : Ending) (w' : World) : Prop :=
  ∃ g h,e = .returned (v g h) ∧ g ≠ h ∧ Keep [] w w' ∧ w.heap.size ≤ g ∧ w.heap.size ≤ h ∧ w'.heap[g]? = some (.cells cs.toArray t (0,0)) ∧ w'.heap[h]? = some (.cells ds.toArray u (0,0))
theorem Hp.add2 {X : List Nat} {w0 w w1 : World} {H : List Bk} (hp : Hp X w0 H w) (hk : Keep [] w w1) {g h : Nat} {t u : TypeId} {cs ds : List Value} (hne : g ≠ h) (hg : w.heap.size ≤ g) (hh : w.heap.size ≤ h)
    (hb : w1.heap[g]? = some (.cells cs.toArray t (0,0))) (hb' : w1.heap[h]? = some (.cells ds.toArray u (0,0))) : Hp X w0 (⟨g,t,cs⟩ :: ⟨h,u,ds⟩ :: H) w1 := by
  have h1 := hp.add hk hh hb'
  refine ⟨h1.keep,?_,?_⟩
  · intro b hb'
    rcases List.mem_cons.1 hb' with rfl|hb'
    · exact ⟨.inr (Nat.le_trans hp.keep.size hg),hb⟩
    · exact h1.own b hb'
  · simp only [List.map_cons,List.nodup_cons]
    refine ⟨fun hm => ?_,by have := h1.nd;simpa using this⟩
    rcases List.mem_cons.1 hm with e|hm
    · exact hne e
    · obtain ⟨b,hb,he⟩ := List.mem_map.1 hm
      have := hp.lt hb
      omega
theorem sd_callN2 {P : Program} {ops : Array Oper} {Q : Exit → Act → World → Prop} {N : List Nat} {X : List Nat} {w0 w : World} {H Hq : List Bk} {d : Tmp} {tp : TypeId} {pos : String} {af : Array Edge} {gd : Option (Nat × Bool)} {i : Nat} {a : Act} {rest : Sc}
    {c : Call} {f : FuncId} {args : Array Value} {v : Nat → Nat → Value} {t u : TypeId} {cs ds : List Value} (hq : Hp X w0 Hq w) (hs : List.Sublist H Hq) (hw : Region.wanted ⟨some d,.call c,tp,pos,af,gd⟩ (yielded ops a.tmps) = true)
    (he : ∀ w,(execOp a.eval ⟨some d,.call c,tp,pos,af,gd⟩).run P w = .ok (.enter f args) w) (hc : Calls P f args w (RetN2 v t cs u ds w))
    (hk : ∀ g h w1,Hp X w0 H w1 → Hp X w0 (⟨g,t,cs⟩ :: ⟨h,u,ds⟩ :: Hq) w1 → Qbb P ops Q (Hp X w0 H) N rest (a.put (some d) (v g h)) w1) : wpL P ops Q (Hp X w0 H) N i rest ⟨some d,.call c,tp,pos,af,gd⟩ a w := by
  refine Qdt hw ?_
  unfold Oper.wp
  simp only [he,Oper.upon]
  exact hc.mono fun e w1 ⟨g,h,he,hne,hw1,hg,hh,hb,hb'⟩ => by
    subst he
    have h1 := hq.add2 hw1 hne hg hh hb hb'
    have hH := h1.sub ((hs.cons ⟨h,u,ds⟩).cons ⟨g,t,cs⟩)
    exact ⟨fun _ => hH,hk g h w1 hH h1⟩
end Go.Proofs.Ytdfdmeoalbpcdaa
