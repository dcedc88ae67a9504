/-
  Slices in a region that draws: literals, append (laws of the walk).
-/
import Derived.Test.YtblffafmkpnjdaaGreatSl
set_option linter.unusedSimpArgs false
set_option linter.unusedVariables false
namespace Go.Proofs.YtblffafmkpnjdaaGreat
open Go Go.RowKit
section
variable {P : Program} {X : List Nat} {w0 w : World} {H Hq H' : List Bk} {g : Nat} {t : TypeId} {cs cs' : List Value}
variable {ops : Array Oper} {Q : Exit → Act → World → Prop} {a : Act} {N : List Nat} {i : Nat} {rest : Sc} {d p : Tmp} {tp ty : TypeId} {pos : String} {af : Array Edge} {gd : Option (Nat × Bool)} {off n : Nat}
theorem Qhq {e : TypeId} {n m : Nat} {z : Value} {parts : List (Nat × Operand)} {vs cs : List Value} {ls : List (List Value)} (hq : Hp X w0 Hq w) (hsub : List.Sublist H Hq) (hw : Region.wanted ⟨some d,.buildSlice t n parts.toArray,tp,pos,af,gd⟩ (yielded ops a.tmps) = true)
    (ht : Qfg P t e) (hs : ∀ w,(sizeOf e).run P w = .ok m w) (hz : ZeroTy P e z) (hsm : n * m ≤ 2 ^ 24) (h0 : n * m ≠ 0)
    (hpv : (parts.map fun p => (p.1,a.eval p.2)) = Qan 0 vs) (hn : vs.length = n) (hv : vs.map (·.cells) = ls.map (·.toArray)) (hl : ∀ l ∈ ls,l.length = m) (hcs : ls.flatten = cs)
    (hk : ∀ g w1,Hp X w0 H w1 → Hp X w0 (⟨g,e,cs⟩ :: Hq) w1 → Qbk P ops Q (Hp X w0 H) N rest (a.put (some d) (.slice (some ⟨g,0,none⟩) n n)) w1) : wpL P ops Q (Hp X w0 H) N i rest ⟨some d,.buildSlice t n parts.toArray,tp,pos,af,gd⟩ a w := by
  subst hcs
  refine Qdp hw ?_
  unfold Oper.wp
  have hpv' : (parts.toArray.map fun (i,x) => (i,a.eval x)).toList = Qan 0 vs := by rw [← hpv];simp
  simp only [execOp,Sem.run_bind,Qgz hs hsm h0 hpv' hn hv hl,Result.andThen_ok]
  have h1 := hq.alloc e ls.flatten
  have h2 := h1.sub (hsub.cons _)
  exact ⟨fun _ => h2,hk _ _ h2 h1⟩
end
end Go.Proofs.YtblffafmkpnjdaaGreat
