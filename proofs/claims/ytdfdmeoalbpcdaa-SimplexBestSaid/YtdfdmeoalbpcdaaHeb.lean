/-
  More of the walk's laws: an operation whose guard says yes; a block of a wide number.
-/
import Derived.Test.YtdfdmeoalbpcdaaDraw
import Derived.WalkSmall
namespace Go.Proofs.Ytdfdmeoalbpcdaa
open Go Go.RowKit
/-- An operation that is wanted is walked as one without a guard. -/
theorem Qcc {P : Program} {ops : Array Oper} {Q : Exit → Act → World → Prop} {rest : List Oper} {a : Act} {w : World} {dst : Option Tmp} {op : Op} {tp : TypeId} {pos : String} {af : Array Edge} {gd : Nat × Bool}
    (hw : Region.wanted ⟨dst,op,tp,pos,af,some gd⟩ (yielded ops a.tmps) = true) (h : wpList P ops Q (⟨dst,op,tp,pos,af,none⟩ :: rest) a w) : wpList P ops Q (⟨dst,op,tp,pos,af,some gd⟩ :: rest) a w := by
  unfold wpList at h ⊢
  rw [if_pos hw]
  rw [if_pos (by simp [Region.wanted])] at h
  exact h
theorem Qea {P : Program} {ops : Array Oper} {Q : Exit → Act → World → Prop} {rest : List Oper} {a : Act} {w : World} {dst : Option Tmp} {op : Op} {tp : TypeId} {pos : String} {af : Array Edge} {gd : Nat × Bool}
    (hw : Region.wanted ⟨dst,op,tp,pos,af,some gd⟩ (yielded ops a.tmps) = false) (h : wpList P ops Q rest (a.put dst undef) w) : wpList P ops Q (⟨dst,op,tp,pos,af,some gd⟩ :: rest) a w := by
  unfold wpList
  rw [if_neg (by rw [hw];simp)]
  exact h
/-- What a call comes to that panics with v. -/
def Dies (v : Value) (w : World) (e : Ending) (w' : World) : Prop := e = .panicked [{ v,recovered := false }] ∧ Keep [] w w'
theorem sd_callD {P : Program} {ops : Array Oper} {Q : Exit → Act → World → Prop} {N : List Nat} {X : List Nat} {w0 w : World} {H Hq : List Bk} {d : Option Tmp} {tp : TypeId} {pos : String} {af : Array Edge} {gd : Option (Nat × Bool)} {i : Nat} {a : Act} {rest : Sc}
    {c : Call} {f : FuncId} {args : Array Value} {v : Value} (hq : Hp X w0 Hq w) (hw : Region.wanted ⟨d,.call c,tp,pos,af,gd⟩ (yielded ops a.tmps) = true)
    (he : ∀ w,(execOp a.eval ⟨d,.call c,tp,pos,af,gd⟩).run P w = .ok (.enter f args) w) (hc : Calls P f args w (Dies v w))
    (hk : ∀ w1,Hp X w0 Hq w1 → Q (.panic [{ v,recovered := false }]) a w1) : wpL P ops Q (Hp X w0 H) N i rest ⟨d,.call c,tp,pos,af,gd⟩ a w := by
  refine Qdt hw ?_
  unfold Oper.wp
  simp only [he,Oper.upon]
  exact hc.mono fun e w1 ⟨he,hw1⟩ => by
    subst he
    exact hk w1 (hq.call hw1)
/-- Behind a panic: slots J and the deferred calls are as they were, Kp holds. -/
def PanicAt (J : List (Nat × Value)) (D : List Deferred) (Kp : List PanicEntry → World → Prop) (Q : Exit → Act → World → Prop) : Exit → Act → World → Prop
  | .panic c,a,w => (∀ p ∈ J,a.tmps.getD p.1 undef = p.2) ∧ a.defers = D ∧ Kp c w
  | e,a,w => Q e a w
theorem getD_put {a : Act} {d : Option Tmp} {v : Value} {j : Nat} (h : (d != some j) = true) : (a.put d v).tmps.getD j undef = a.tmps.getD j undef := by
  cases d with
  | none => rfl
  | some d =>
    have : d ≠ j := fun h' => by subst h';simp at h
    simp only [Act.put,Array.getD_eq_getD_getElem?,Array.getElem?_setIfInBounds_ne this]
theorem defers_put {a : Act} {d : Option Tmp} {v : Value} : (a.put d v).defers = a.defers := by cases d <;> rfl
theorem Qjs {P : Program} {Q : Exit → Act → World → Prop} {id : Nat} {a : Act} {w w0 : World} {X : List Nat} {H Hq : List Bk} {l : List Oper} (J : List (Nat × Value)) (D : List Deferred) (Kp : List PanicEntry → World → Prop)
    (hK : ∀ c a w,(∀ p ∈ J,a.tmps.getD p.1 undef = p.2) → a.defers = D → Kp c w → Q (.panic c) a w) (hp : Hp X w0 H w) (hq : Hp X w0 Hq w) (N : List Nat) (sched : Sc) (hm : P.follows .mixedOrders = true)
    (hc : (Qcx .any l.toArray N sched l.length (Array.replicate l.length false) && Region.noSelect l.toArray) = true) (hJ : (l.all fun o => J.all fun p => o.dst != some p.1) = true)
    (h : ∀ w1,Hp X w0 H w1 → Hp X w0 Hq w1 → Qbb P l.toArray (PanicAt J D Kp Q) (Hp X w0 H) N sched a w1) : (Code.region id l.toArray true).wp P Q a w := by
  refine Code.wp_mono (Q := PanicAt J D Kp Q) (fun e a' w' h' => ?_) (wp_drawn (Hp X w0 H) N sched hm hc (fun i o ho c a v w h => ?_) (h _ hp.bump hq.bump))
  · cases e with
    | panic c => exact hK c a' w' h'.1 h'.2.1 h'.2.2
    | _ => exact h'
  · refine ⟨fun p hpj => ?_,?_,h.2.2⟩
    · rw [← h.1 p hpj,getD_put]
      rw [List.all_eq_true] at hJ
      have ho' : o ∈ l := by
        have : l[i]? = some o := by simpa using ho
        exact List.mem_of_getElem? this
      exact List.all_eq_true.1 (hJ o ho') p hpj
    · rw [← h.2.1,defers_put]
end Go.Proofs.Ytdfdmeoalbpcdaa
