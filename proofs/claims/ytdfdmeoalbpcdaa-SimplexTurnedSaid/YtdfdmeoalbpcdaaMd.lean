/-
  Numbers by their bits (plain); blocks that are told by a function; make([]int, n).
  Package ninepinref01: Long, plus, minus (contracts).
  Package ninepinref01: Of (contract).
  Package ninepinref01: Below, Small, Sign, Add, Sub, top, size (contracts).
  Package ninepinref01: Small, top, size, Add, Sub (contracts).
  Adding bit by bit: what the rounds of a product do (plain).
  Package ninepinref01: Mul (contract).
  Package wide: Add, Sub, of numbers that fit.
-/
import Derived.Test.YtdfdmeoalbpcdaaSl
import Derived.Test.YtdfdmeoalbpcdaaEr
import Derived.Laws.MakeOwn
import Derived.WalkKit
import Derived.WalkSmall
import Derived.Lib.Hide
import Derived.Test.YtdfdmeoalbpcdaaMc
import Derived.Test.YtdfdmeoalbpcdaaWd
set_option linter.unusedSimpArgs false
set_option linter.unusedVariables false
namespace Go.Proofs.Ytdfdmeoalbpcdaa
open Go Go.RowKit
/-! ### Blocks of ints -/
def tab (F : Nat → Int) (L : Nat) : List Value := (List.range L).map fun i => .int .i64 (F i)
theorem tab_get {F : Nat → Int} {L k : Nat} (h : k < L) : (tab F L)[k]? = some (.int .i64 (F k)) := by simp [tab,h]
/-- A call that is known of this world alone. -/
theorem Qcf {P : Program} {ops : Array Oper} {Q : Exit → Act → World → Prop} {N : List Nat} {X : List Nat} {w0 w : World} {H Hq : List Bk} {a : Act} {i : Nat} {rest : Sc} {d : Tmp} {tp : TypeId} {pos : String} {af : Array Edge} {gd : Option (Nat × Bool)} {c : Call} {f : FuncId} {args : Array Value} {v : Value} (hp : Hp X w0 H w) (hw : Region.wanted ⟨some d,.call c,tp,pos,af,gd⟩ (yielded ops a.tmps) = true)
    (he : ∀ w,(execOp a.eval ⟨some d,.call c,tp,pos,af,gd⟩).run P w = .ok (.enter f args) w) (hc : Calls P f args w (Ret v w)) (hq : Hp X w0 Hq w)
    (hk : ∀ w1,Hp X w0 H w1 → Hp X w0 Hq w1 → Qaw P ops Q (Hp X w0 H) N rest (a.put (some d) v) w1) : wpL P ops Q (Hp X w0 H) N i rest ⟨some d,.call c,tp,pos,af,gd⟩ a w := by
  refine Qdd hw ?_
  unfold Oper.wp
  simp only [he,Oper.upon]
  exact hc.mono fun e w1 ⟨he,hw1⟩ => by subst he;exact ⟨fun _ => hp.call hw1,hk w1 (hp.call hw1) (hq.call hw1)⟩
/-! ### Bits -/
/-- Bit i of n, in two's complement. -/
def bt (n : Int) (i : Nat) : Int := n / 2 ^ i % 2
end Go.Proofs.Ytdfdmeoalbpcdaa
set_option linter.unusedSimpArgs false
set_option linter.unusedVariables false
set_option maxRecDepth 100000
namespace Go.Proofs.Ytdfdmeoalbpcdaa
open Go Go.RowKit
/-- A slice that holds L bits of x. -/
def BSl (w : World) (v : Value) (x : Int) (L : Nat) : Prop := ∃ g off cap bc t z,v = .slice (some ⟨g,off,none⟩) L cap ∧ w.heap[g]? = some (.cells (bc : List Value).toArray t z) ∧ ∀ k,k < L → bc[off + k * 1]? = some (.int .i64 (bt x k))
theorem BSl.of {w : World} {g cap L : Nat} {t : TypeId} {x : Int} (h : w.heap[g]? = some (.cells (tab (bt x) L).toArray t (0,0))) : BSl w (.slice (some ⟨g,0,none⟩) L cap) x L :=
  ⟨g,0,cap,_,t,_,rfl,h,fun k hk => by rw [Nat.zero_add,Nat.mul_one];exact tab_get hk⟩
end Go.Proofs.Ytdfdmeoalbpcdaa
set_option linter.unusedSimpArgs false
set_option linter.unusedVariables false
set_option maxRecDepth 100000
namespace Go.Proofs.Ytdfdmeoalbpcdaa
open Go Go.RowKit
/-- A limb, when its bits from k on are taken, the highest first. -/
def gl (m : Int) (k j : Nat) : Int := lb m j / 2 ^ (k - 64 * j)
end Go.Proofs.Ytdfdmeoalbpcdaa
set_option linter.unusedSimpArgs false
set_option linter.unusedVariables false
set_option maxRecDepth 100000
namespace Go.Proofs.Ytdfdmeoalbpcdaa
open Go Go.RowKit
end Go.Proofs.Ytdfdmeoalbpcdaa
set_option linter.unusedSimpArgs false
set_option linter.unusedVariables false
set_option maxRecDepth 100000
namespace Go.Proofs.Ytdfdmeoalbpcdaa
open Go Go.RowKit
/-- How many bits there are up to the last 1. -/
def tp (x : Int) : Nat → Nat
  | 0 => 0
  | k + 1 => if bt x k = 0 then tp x k else k + 1
/-- The absolute value. -/
def ab (n : Int) : Int := if n < 0 then -n else n
end Go.Proofs.Ytdfdmeoalbpcdaa
set_option linter.unusedSimpArgs false
set_option linter.unusedVariables false
set_option maxRecDepth 100000
namespace Go.Proofs.Ytdfdmeoalbpcdaa
open Go Go.RowKit
/-- A sum, of which so many bits are there. -/
def mx (S D : Int) (m : Nat) : Nat → Int := fun j => if j < m then bt (S + D) j else bt S j
end Go.Proofs.Ytdfdmeoalbpcdaa
set_option linter.unusedSimpArgs false
set_option linter.unusedVariables false
set_option maxRecDepth 100000
namespace Go.Proofs.Ytdfdmeoalbpcdaa
open Go Go.RowKit
end Go.Proofs.Ytdfdmeoalbpcdaa

set_option linter.unusedSimpArgs false
namespace Go.Proofs.Ytdfdmeoalbpcdaa
open Go Go.RowKit
theorem ng_more (n : Int) : ng (n + M512) = ng n := by
  unfold ng
  rw [Qod (a := n + M512) (b := n) ?_ 7 (by omega)]
  simp
theorem ng_less (n : Int) : ng (n - M512) = ng n := by
  rw [← ng_more (n - M512),Int.sub_add_cancel]
/-- The sign limb of what is just too great, or too small. -/
theorem ng_over {n : Int} (h : M511 ≤ n) (h' : n < M512) : ng n = true := by
  rw [← ng_less,Qcc (by unfold Fit M511 at *;unfold M512 at *;omega)]
  simp;omega
theorem ng_under {n : Int} (h : n < -M511) (h' : -M512 ≤ n) : ng n = false := by
  rw [← ng_more,Qcc (by unfold Fit M511 at *;unfold M512 at *;omega)]
  simp;omega
theorem Qoa {s : Int} {x y : Bool} (hs : -M512 ≤ s ∧ s < M512) (h1 : x = true → y = true → s < 0) (h2 : x = false → y = false → 0 ≤ s) (h3 : M511 ≤ s → x = false ∧ y = false) (h4 : s < -M511 → x = true ∧ y = true) :
    addv s x y (ng s) = .tuple #[W (fz s),.bool (decide (Fit s))] := by
  have h0 : W (0 : Int) = .agg #[.int .u64 0,.int .u64 0,.int .u64 0,.int .u64 0,.int .u64 0,.int .u64 0,.int .u64 0,.int .u64 0] := Qfe
  by_cases hf : Fit s
  · rw [fz,if_pos hf,decide_eq_true hf,Qcc hf]
    by_cases h : s < 0
    · rw [decide_eq_true h]
      cases x <;> cases y <;> simp [addv]
      have := h2 rfl rfl
      omega
    · rw [decide_eq_false h]
      cases x <;> cases y <;> simp [addv]
      have := h1 rfl rfl
      omega
  · rw [fz,if_neg hf,decide_eq_false hf,h0]
    by_cases h : s < 0
    · rw [ng_under (by unfold Fit M511 at *;omega) hs.1]
      obtain ⟨rfl,rfl⟩ := h4 (by unfold Fit M511 at *;omega)
      rfl
    · rw [ng_over (by unfold Fit M511 at *;omega) hs.2]
      obtain ⟨rfl,rfl⟩ := h3 (by unfold Fit M511 at *;omega)
      rfl
theorem add_any (a b : Int) (ha : Fit a) (hb : Fit b) (w : World) : Calls Try.prog 38 #[W a,W b] w (Ret (.tuple #[W (fz (a + b)),.bool (decide (Fit (a + b)))]) w) := by
  have h := add_raw a b w
  rw [Qcc ha,Qcc hb,Qoa] at h
  · exact h
  all_goals unfold Fit M511 at *
  all_goals try unfold M512
  all_goals try simp
  all_goals omega
theorem Qmt (a b : Int) (ha : Fit a) (hb : Fit b) (w : World) : Calls Try.prog 36 #[W a,W b] w (Ret (.tuple #[W (fz (a - b)),.bool (decide (Fit (a - b)))]) w) := by
  have h := sub_raw a b w
  rw [Qcc ha,Qcc hb,Qoa] at h
  · exact h
  all_goals unfold Fit M511 at *
  all_goals try unfold M512
  all_goals try simp
  all_goals omega
end Go.Proofs.Ytdfdmeoalbpcdaa
