/-
  The solver's model: what stays, what is within the limits (plain).
-/
import Derived.Test.YtblffafmkpnjdaaGreatUp
set_option linter.unusedSimpArgs false
set_option linter.unusedVariables false
set_option maxRecDepth 100000
namespace Go.Proofs.YtblffafmkpnjdaaGreat
open Go Go.RowKit
/-- Pushed, any number of times. -/
inductive Pu : Inr → Inr → Prop
  | refl (x : Inr) : Pu x x
  | push {x y : Inr} (r f : P3) : Pu x y → Pu x (y.push r f)
theorem Pu.trans {x y z : Inr} (h : Pu x y) (h2 : Pu y z) : Pu x z := by
  induction h2 with
  | refl => exact h
  | push r f _ ih => exact .push r f ih
def Inr.lim (b : Inr) : Prop := b.v.lim = true ∧ b.s.lim = true
theorem push_lim (b : Inr) (r f : P3) : (b.push r f).lim := ⟨clam_lim _,clam_lim _⟩
theorem Pu.lim {x y : Inr} (h : Pu x y) (hx : x.lim) : y.lim := by
  cases h with
  | refl => exact hx
  | push r f _ => exact push_lim _ r f
/-! ### One row -/
def gb (L : List Inr) (i : Nat) : Inr := L.getD i zI
/-- What a row does to bodies. -/
structure Tch (r : Rw) (L L' : List Inr) : Prop where
  len : L'.length = L.length
  pu : ∀ i,Pu (gb L i) (gb L' i)
  off : ∀ i,i ≠ ik r.a → i ≠ ik r.b → gb L' i = gb L i
  lim : ∀ i,i = ik r.a ∨ i = ik r.b → (gb L' i).lim
theorem Tch.trans {r r' : Rw} {L L' L'' : List Inr} (ha : r'.a = r.a) (hb : r'.b = r.b) (h : Tch r L L') (h2 : Tch r' L' L'') : Tch r L L'' :=
  ⟨h2.len.trans h.len,fun i => (h.pu i).trans (h2.pu i),fun i h3 h4 => (h2.off i (by rw [ha];exact h3) (by rw [hb];exact h4)).trans (h.off i h3 h4),fun i hi => h2.lim i (by rw [ha,hb];exact hi)⟩
/-! ### A row's own numbers -/
/-! ### All rows -/
def gr (S : List Rw) (i : Nat) : Rw := S.getD i zR
def Rw.on (r : Rw) (i : Nat) : Prop := i = ik r.a ∨ i = ik r.b
end Go.Proofs.YtblffafmkpnjdaaGreat
