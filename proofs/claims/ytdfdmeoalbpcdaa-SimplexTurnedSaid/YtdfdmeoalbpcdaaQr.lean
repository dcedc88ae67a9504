/-
  A loop over a function whose elements lie in memory: the function says of each element, where it hands it over, what lies there.
-/
import Derived.Test.YtdfdmeoalbpcdaaCa
set_option linter.unusedSimpArgs false
set_option linter.unusedVariables false
set_option maxRecDepth 100000
namespace Go.Proofs.Ytdfdmeoalbpcdaa
open Go Go.RowKit
theorem Qci {w : World} {k : Nat} {o : Obj} (h : w.heap[k]? = some o) : k < w.heap.size := by
  rcases Nat.lt_or_ge k w.heap.size with h' | h'
  · exact h'
  · rw [Array.getElem?_eq_none h'] at h;cases h
theorem Keep.some {w w' : World} (h : Keep [] w w') {k : Nat} {o : Obj} (hk : w.heap[k]? = Option.some o) : w'.heap[k]? = Option.some o :=
  (h.block k (Qci hk) (by simp)).trans hk
theorem Qge (w : World) (o : Obj) : Keep [] w (w.alloc o) := ⟨rfl,rfl,rfl,by simp,fun k hk _ => Below.heap_alloc _ _ _ hk⟩
theorem Qny {w0 w : World} {l : Nat} {o : Obj} (h : Keep [] w0 w) (hl : w0.heap.size ≤ l) : Keep [] w0 (w.putObj l o) :=
  ⟨h.os,h.tape,h.output,by rw [World.putObj_size];exact h.size,fun k hk hx => (World.putObj_heap_other (by omega)).trans (h.block k hk hx)⟩
/-- A function that hands elements over, one by one, each of which is as Px says: all, or as long as more are asked for. -/
def Yields {α : Type} (P : Program) (n : Nat) (g : FuncId) (ca : Array Value) (enc : α → Value) (Px : α → World → Prop) (S Sp : List α → Prop) (w0 : World) : Prop :=
  ∀ (l : Nat) (J Jx : List α → World → Prop) (W : World),Keep [] w0 W → (∀ s A B,J s A → Keep [] A B → J s B) → (∀ s A B,Jx s A → Keep [] A B → Jx s B) →
    (∀ pre x W1,Px x W1 → J pre W1 → YieldAt Fence.wide (n - 1) P l #[enc x] W1 fun e W' => (e = .returned (.bool true) ∧ J (pre ++ [x]) W' ∧ Keep [] W1 W') ∨ (e = .returned (.bool false) ∧ Jx (pre ++ [x]) W')) →
    J [] W → CallsIn Fence.wide n P g (#[.func (.yield l) #[] #[]] ++ ca) W fun e W' => (∃ v,e = .returned v) ∧ ((∃ xs,S xs ∧ J xs W') ∨ ∃ pre,Sp pre ∧ Jx pre W')
/-- How a round may be left. -/
def roundEnd {α : Type} (B : Nat) (I : List α → Prop) (Ix : List α → World → Prop) (xs : List α) (W : World) : Exit → Act → World → Prop
  | .normal,_,W' => Keep [] W W' ∧ I xs
  | .ret,_,W' => (∃ X : List Nat,(∀ g ∈ X,g < B) ∧ Keep X W W') ∧ Ix xs W'
  | _,_,_ => False
theorem Qmp (TM : Array Value) (p : Tmp) (v : Value) : ((#[p] : Array Tmp).zip #[v]).foldl (fun t (p,v) => t.setIfInBounds p v) TM = TM.setIfInBounds p v := by simp
theorem Qis {α : Type} {P : Program} {n : Nat} {f : Operand} {p : Tmp} {asg body : Code} {Q : Exit → Act → World → Prop} {a : Act} {w : World} (h1 : 1 ≤ n) {g : FuncId} {ca : Array Value} (hf : a.eval f = .func (.func g) #[] ca)
    (henter : ∀ args w,(callFunc g args).run P w = .ok (.enter g args) w) {enc : α → Value} {Px : α → World → Prop} {S Sp : List α → Prop} (hseq : ∀ W,Keep [] w W → Yields P (n - 1) g ca enc Px S Sp W)
    (I : List α → Prop) (Ix : List α → World → Prop) (hIx : OwnFrom w.heap.size Ix) (h0 : I []) (q : Tmp)
    (hasg : ∀ (l : Nat) (x : α) (W : World) (K : Act → World → Prop),K { tmps := (a.tmps.setIfInBounds p (enc x)).setIfInBounds q (enc x),defers := [] } W → asg.wpIn (Fence.wide.inRound l) (n - 1 - 1) P (Exit.then K fun _ _ _ => False) { tmps := a.tmps.setIfInBounds p (enc x),defers := [] } W)
    (hbody : ∀ (l : Nat) (pre : List α) (x : α) (W : World),Keep [] w W → I pre → Px x W → body.wpIn (Fence.wide.inRound l) (n - 1 - 1) P (roundEnd w.heap.size I Ix (pre ++ [x]) W) { tmps := (a.tmps.setIfInBounds p (enc x)).setIfInBounds q (enc x),defers := [] } W)
    (hPx : ∀ x A l o o',Px x A → A.heap[l]? = some o → o.isCells = false → Px x (A.putObj l o'))
    (hdone : ∀ (D : Nat) (xs : List α) (W : World),w.heap.size ≤ D → S xs → I xs → Keep [] w W → W.heap[D]? = some (.deferred (some [])) → Q .normal { a with defers := { target := .collected D,args := #[] } :: a.defers } W)
    (hstop : ∀ (D : Nat) (pre : List α) (W : World),w.heap.size ≤ D → Sp pre → Ix pre W → W.heap[D]? = some (.deferred (some [])) → Code.ret.wpIn Fence.wide n P Q { a with defers := { target := .collected D,args := #[] } :: a.defers } W) :
    (Code.rangeFunc f #[p] asg body).wpIn Fence.wide n P Q a w := by
  refine wpIn_rangeFunc fun fn hfn => ?_
  -- the record,and the block beside it
  obtain ⟨R,hR⟩ : ∃ R : LoopState → Option Code → Loop,∀ s j,R s j = { state := s,pending := j,fn,tmps := a.tmps,params := #[p],assign := asg,body,defers := w.heap.size } := ⟨_,fun _ _ => rfl⟩
  have hen := run_enterLoop_outer (P := P) (w := w) fn a.tmps #[p] asg body
  rw [← hR .ready none] at hen
  generalize hl : w.heap.size + 1 = l at hen
  have k1 : Keep [] w ((w.alloc (.deferred (some []))).alloc (.loop (R .ready none))) := (Qge w _).trans (Qge _ _)
  have r1 : ((w.alloc (.deferred (some []))).alloc (.loop (R .ready none))).heap[l]? = some (.loop (R .ready none)) := by
    have := World.alloc_heap_new (w.alloc (.deferred (some []))) (.loop (R .ready none))
    rwa [World.size_alloc,hl] at this
  have d1 : ((w.alloc (.deferred (some []))).alloc (.loop (R .ready none))).heap[w.heap.size]? = some (.deferred (some [])) :=
    (Qge _ _).some (World.alloc_heap_new w _)
  generalize (w.alloc (.deferred (some []))).alloc (.loop (R .ready none)) = W1 at hen k1 r1 d1
  have hst : ∀ (s : LoopState) (j : Option Code),(R s j).state = s ∧ (R s j).pending = j ∧ (R s j).params = #[p] := fun s j => by rw [hR];exact ⟨rfl,rfl,rfl⟩
  have hup : ∀ (s t : LoopState) (j k : Option Code),{ R s j with state := t,pending := k } = R t k := fun s t j k => by rw [hR,hR]
  refine ⟨l,_,W1,{ target := .fn (.func g) ca,args := #[.func (.yield l) #[] #[]] },W1,g,#[.func (.yield l) #[] #[]] ++ ca,W1,hen,?_,fun f' _ => trivial,?_,fun _ => h1,?_⟩
  · simp only [resolve,hf]
    simp [go_sem]
  · simp [invoke,go_sem,henter]
  refine (hseq W1 k1 l (fun xs W => I xs ∧ Keep [] w W ∧ W.heap[l]? = some (.loop (R .ready none)) ∧ W.heap[w.heap.size]? = some (.deferred (some [])))
    (fun xs W => Ix xs W ∧ W.heap[l]? = some (.loop (R .done (some .ret))) ∧ W.heap[w.heap.size]? = some (.deferred (some []))) W1 (Keep.refl _ _)
    (fun s A B h k => ⟨h.1,h.2.1.trans k,k.some h.2.2.1,k.some h.2.2.2⟩)
    (fun s A B h k => ⟨hIx s A B none h.1 ⟨k.os,k.tape,k.output,k.size,fun i hi _ => k.block i hi (by simp)⟩ (fun r e => by cases e),k.some h.2.1,k.some h.2.2⟩)
    ?_ ⟨h0,k1,r1,d1⟩).mono ?_
  · -- a round
    rintro pre x W hx ⟨hi,hk,hr,hd⟩
    have hy := run_yield (P := P) (args := #[enc x]) hr (by rw [(hst _ _).2.2];rfl)
    have hq : (R .ready none).fn = fn ∧ (R .ready none).tmps = a.tmps ∧ (R .ready none).params = #[p] ∧ (R .ready none).assign = asg ∧ (R .ready none).body = body := by rw [hR];exact ⟨rfl,rfl,rfl,rfl,rfl⟩
    rw [hq.1,hq.2.1,hq.2.2.1,hq.2.2.2.1,hq.2.2.2.2,Qmp] at hy
    refine ⟨_,_,_,_,hy,?_⟩
    refine roundIn_of_wpIn hfn ?_
    refine hasg l x W _ ⟨_,run_beginRound hr (hst _ _).1,?_⟩
    have e1 : ({ R .ready none with state := .busy } : Loop) = R .busy none := by rw [hR,hR]
    rw [e1]
    have hkb : Keep [] w (W.putObj l (.loop (R .busy none))) := Qny hk (by omega)
    have hxb := hPx x W l _ (.loop (R .busy none)) hx hr rfl
    have hlt := Qci hr
    have hrb : (W.putObj l (.loop (R .busy none))).heap[l]? = some (.loop (R .busy none)) := World.putObj_heap_same hlt
    have hdb : (W.putObj l (.loop (R .busy none))).heap[w.heap.size]? = some (.deferred (some [])) := (World.putObj_heap_other (by omega)).trans hd
    refine wpIn_mono (hbody l pre x _ hkb hi hxb) ?_
    intro e a3 W3 hp
    cases e with
    | normal =>
      obtain ⟨k3,hi3⟩ := hp
      have h3 := k3.some hrb
      refine ⟨_,_,run_endRound none h3,.inl ⟨rfl,?_⟩⟩
      have e2 : ({ R .busy none with state := if (none : Option Code).isNone then .ready else .done,pending := none } : Loop) = R .ready none := by rw [hR,hR];rfl
      rw [e2]
      have kk : Keep [] W (W3.putObj l (.loop (R .ready none))) := by
        refine ⟨k3.os,k3.tape,k3.output,?_,fun k hk' _ => ?_⟩
        · rw [World.putObj_size]
          have := k3.size
          rwa [World.putObj_size] at this
        · by_cases hkl : k = l
          · subst hkl
            rw [World.putObj_heap_same (Qci h3)];exact hr.symm
          · rw [World.putObj_heap_other hkl,k3.block k (by rw [World.putObj_size];exact hk') (by simp),World.putObj_heap_other hkl]
      exact ⟨⟨hi3,hk.trans kk,kk.some hr,kk.some hd⟩,kk⟩
    | ret =>
      obtain ⟨⟨X,hX,k3⟩,hi3⟩ := hp
      have hlX : l ∉ X := fun h => by have := hX l h;omega
      have hdX : w.heap.size ∉ X := fun h => by have := hX _ h;omega
      have h3 := (k3.block l (Qci hrb) hlX).trans hrb
      have h4 := (k3.block _ (Qci hdb) hdX).trans hdb
      refine ⟨_,_,run_endRound (some .ret) h3,.inr ⟨rfl,?_⟩⟩
      have e2 : ({ R .busy none with state := if (some Code.ret).isNone then .ready else .done,pending := some .ret } : Loop) = R .done (some .ret) := by rw [hR,hR];rfl
      rw [e2]
      exact ⟨hIx.putObj _ hi3 (by omega) h3 rfl,World.putObj_heap_same (Qci h3),(World.putObj_heap_other (by omega)).trans h4⟩
    | exit id => exact hp.elim
    | goto t => exact hp.elim
    | panic ch => exact hp.elim
    | outgrown => exact hp.elim
  · -- behind it
    rintro e W2 ⟨⟨v,rfl⟩,⟨xs,hS,hi,hk,hr,hd⟩|⟨pre,hS,hi,hr,hd⟩⟩
    · refine ⟨none,_,(run_endLoop hr (by rw [(hst _ _).1];simp)).trans (by rw [(hst _ _).2.1]),?_⟩
      exact hdone _ xs _ (Nat.le_refl _) hS hi (Qny hk (by omega)) ((World.putObj_heap_other (by omega)).trans hd)
    · refine ⟨some .ret,_,(run_endLoop hr (by rw [(hst _ _).1];simp)).trans (by rw [(hst _ _).2.1]),?_⟩
      exact hstop _ pre _ (Nat.le_refl _) hS (hIx.putObj _ hi (by omega) hr rfl) ((World.putObj_heap_other (by omega)).trans hd)
end Go.Proofs.Ytdfdmeoalbpcdaa
