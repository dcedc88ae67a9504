/-
  The walk's laws of memory inside a fence (a range over a function).
-/
import Derived.RangeFuncNested
import Derived.RangeFuncBound
import Derived.RangeFuncCalls
import Derived.RangeFuncLeaves
import Derived.OwnWalkIn
import Derived.TacticsInMore
import Derived.LoopNIn
import Derived.LoopIn
import Derived.Shelf.Abstract
import Derived.Test.YtblffafmkpnjdaaGreatHeb
namespace Go.Proofs.YtblffafmkpnjdaaGreat
open Go Go.RowKit
/-- A fence that lets every function in, at whatever depth. -/
class Free (F : Fence) : Prop where
  fn : ∀ f,F.fn f
  depth : F.depth = none
@[go_sem] theorem wide_fn (f : FuncId) : Fence.wide.fn f = True := rfl
attribute [go_sem] Oper.semAt_some
instance : Free Fence.wide := ⟨fun _ => trivial,rfl⟩
instance {F : Fence} {l : Nat} [h : Free F] : Free (F.inRound l) := ⟨h.fn,h.depth⟩
section
variable {F : Fence} {P : Program} {X : List Nat} {w0 w : World} {H H' : List Bk} {g : Nat} {t : TypeId} {cs cs' : List Value}
variable {ops : Array Oper} {Q : Exit → Act → World → Prop} {a : Act} {rest : List Oper} {d p : Tmp} {tp ty : TypeId} {pos : String} {af : Array Edge} {off n m : Nat}
end
/-! ### What a loop's records leave alone -/
/-- What was there stays there, if it is no cells. -/
theorem Hp.others {X : List Nat} {w w' : World} {H : List Bk} {B : Nat} (h : Hp X w H w') (hX : ∀ g ∈ X,∃ o : Obj,w.heap[g]? = some o ∧ o.isCells = true) : KeepsFrom B w w' := by
  refine ⟨h.keep.size,fun k o _ hk ho => ?_⟩
  have hlt : k < w.heap.size := by
    rcases Nat.lt_or_ge k w.heap.size with h' | h'
    · exact h'
    · rw [Array.getElem?_eq_none h'] at hk;cases hk
  rw [h.keep.block k hlt (fun hm => ?_)]
  · exact hk
  · obtain ⟨o',ho',hc⟩ := hX k hm
    rw [hk] at ho'
    cases ho'
    rw [ho] at hc
    cases hc
theorem Hp.same {X : List Nat} {w w' : World} {H : List Bk} (h : Hp X w H w') (hX : ∀ g ∈ X,∃ o : Obj,w.heap[g]? = some o ∧ o.isCells = true) {k : Nat} {o : Obj} (hk : w.heap[k]? = some o) (ho : o.isCells = false) : w'.heap[k]? = some o :=
  (h.others (B := 0) hX).same k o (Nat.zero_le _) hk ho
end Go.Proofs.YtblffafmkpnjdaaGreat
