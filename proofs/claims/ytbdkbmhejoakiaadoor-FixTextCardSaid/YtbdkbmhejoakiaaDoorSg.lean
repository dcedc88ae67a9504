/-
  An operation with a guard (law of the walk).
-/
import Derived.Test.YtbdkbmhejoakiaaDoorSd
set_option linter.unusedVariables false
namespace Go.Proofs.YtbdkbmhejoakiaaDoor
open Go Go.RowKit

structure Bx (p : Prop) : Prop where
  out : p
theorem sx_guard {P : Program} {ops : Array Oper} {Q : Exit → Act → World → Prop} {rest : List Oper} {a : Act} {w : World} {dst : Option Tmp} {op : Op} {tp : TypeId} {pos : String} {af : Array Edge} {gd : Nat × Bool}
    (h : match Region.wanted ⟨dst, op, tp, pos, af, some gd⟩ (yielded ops a.tmps) with
      | true => Bx (wpList P ops Q (⟨dst, op, tp, pos, af, none⟩ :: rest) a w)
      | false => Bx (wpList P ops Q rest (a.put dst undef) w)) : wpList P ops Q (⟨dst, op, tp, pos, af, some gd⟩ :: rest) a w := by
  cases hb : Region.wanted ⟨dst, op, tp, pos, af, some gd⟩ (yielded ops a.tmps) with
  | true => rw [hb] at h; exact sx_strip hb h.out
  | false => rw [hb] at h; exact sx_unwanted hb h.out

/-! ### A load that is not taken ahead of its turn (its block is written in the same region) -/
section
variable {P : Program} {ops : Array Oper} {Q : Exit → Act → World → Prop} {N : List Nat} {X : List Nat} {w0 w : World} {H Hq : List Bk} {a : Act} {i : Nat} {rest : Sc}
variable {d p : Tmp} {tp ty : TypeId} {pos : String} {af : Array Edge} {gd : Option (Nat × Bool)} {g off n : Nat} {t : TypeId} {cs : List Value}
theorem sd_lload_agg (hp : Hp X w0 H w) (hq : Hp X w0 Hq w) (hw : Region.wanted ⟨some d, .load ty (.tmp p), tp, pos, af, gd⟩ (yielded ops a.tmps) = true)
    (hx : a.eval (.tmp p) = .pointer (some ⟨g, off, none⟩)) (h : Has Hq g t cs) (ht : AggTy P ty n) (hle : off + n ≤ cs.length) {vs : List Value} (hvs : (cs.drop off).take n = vs)
    (hk : wpSched P ops Q (Hp X w0 H) N rest (a.put (some d) (.agg vs.toArray)) w) : wpL P ops Q (Hp X w0 H) N i rest ⟨some d, .load ty (.tmp p), tp, pos, af, gd⟩ a w := by
  subst hvs
  refine sd_loud hw ?_
  unfold Oper.wp
  simp only [execOp, hx, Instr.loadAt, Instr.sureAddr, Sem.run_bind, Sem.run_pure, Result.andThen_ok, run_load_agg hq hle, Oper.upon]
  exact ⟨fun _ => hp, hk⟩
theorem sd_lload_one (hp : Hp X w0 H w) (hq : Hp X w0 Hq w) (hw : Region.wanted ⟨some d, .load ty (.tmp p), tp, pos, af, gd⟩ (yielded ops a.tmps) = true)
    (hx : a.eval (.tmp p) = .pointer (some ⟨g, off, none⟩)) (h : Has Hq g t cs) (ht : OneTy P ty) {v : Value} (hv : cs[off]? = some v)
    (hk : wpSched P ops Q (Hp X w0 H) N rest (a.put (some d) v) w) : wpL P ops Q (Hp X w0 H) N i rest ⟨some d, .load ty (.tmp p), tp, pos, af, gd⟩ a w := by
  refine sd_loud hw ?_
  unfold Oper.wp
  simp only [execOp, hx, Instr.loadAt, Instr.sureAddr, Sem.run_bind, Sem.run_pure, Result.andThen_ok, run_load_one hq hv, Oper.upon]
  exact ⟨fun _ => hp, hk⟩
end
end Go.Proofs.YtbdkbmhejoakiaaDoor
