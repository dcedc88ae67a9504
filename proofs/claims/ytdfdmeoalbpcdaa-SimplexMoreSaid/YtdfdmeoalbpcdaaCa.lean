/-
  Package orient: simplex, level, Volume, between (contracts).
  Package orient: within (contract).
  Package orient: between (contract).
  Package orient: Inside, of three points that are a simplex (contract).
  Package orient: Volume (contract).
  Packages ninepinref06, ninepinref07: may, Check, Fine, Less, det, line, Side, Volume (contracts).
  Package ninepinref07: Of (contract).
  Package orient: deep, Inside (contracts).
  Package orient: Inside (contract).
  The Qel of points that each raised the rank (plain).
  Points in simplices: what is inside of a face, and the middle of two points, is inside (plain).
  Faces of simplices: what ninepinlaw07.OrientFaces asks, of points (plain).
  The rank by all choices is the spread's (plain).
  Slices of no element; appending what is part of a block, or nil.
  Package ninepinref07: Rank, Spread (contracts).
  Bits shifted up, and held against one another.
  Package ninepinref01: further, least (contracts).
-/
import Derived.Test.YtdfdmeoalbpcdaaHe
import Derived.Test.YtdfdmeoalbpcdaaGa
import Derived.Test.YtdfdmeoalbpcdaaHa
import Derived.Laws.AppendOwnNone
import Derived.Test.YtdfdmeoalbpcdaaMd
set_option linter.unusedSimpArgs false
set_option linter.unusedVariables false
set_option maxRecDepth 100000
namespace Go.Proofs.Ytdfdmeoalbpcdaa
open Go Go.RowKit
def Qfk (ps : List P3) : Bool := decide (1 ≤ ps.length ∧ ps.length ≤ 4 ∧ (Qeq ps).2 = 0 ∧ (Qeq ps).1 = ps.length - 1)
/-- What fits, multiplied and summed. -/
structure DotFit (m n : P3) : Prop where
  mf : Fit m.x ∧ Fit m.y ∧ Fit m.z
  nf : Fit n.x ∧ Fit n.y ∧ Fit n.z
  x : Fit (m.x * n.x)
  y : Fit (m.y * n.y)
  z : Fit (m.z * n.z)
  xy : Fit (m.x * n.x + m.y * n.y)
  all : Fit (m.x * n.x + m.y * n.y + m.z * n.z)
def part (m n : P3) : Nat → Int
  | 0 => 0
  | 1 => m.x * n.x
  | 2 => m.x * n.x + m.y * n.y
  | _ => m.x * n.x + m.y * n.y + m.z * n.z
end Go.Proofs.Ytdfdmeoalbpcdaa

set_option linter.unusedSimpArgs false
set_option linter.unusedVariables false
set_option maxRecDepth 100000
namespace Go.Proofs.Ytdfdmeoalbpcdaa
open Go Go.RowKit
theorem DotFit.dot {m n : P3} (h : DotFit m n) : Fit (m.dot n) := h.all
end Go.Proofs.Ytdfdmeoalbpcdaa

set_option linter.unusedSimpArgs false
set_option linter.unusedVariables false
set_option maxRecDepth 100000
namespace Go.Proofs.Ytdfdmeoalbpcdaa
open Go Go.RowKit
end Go.Proofs.Ytdfdmeoalbpcdaa
set_option linter.unusedSimpArgs false
set_option linter.unusedVariables false
set_option maxRecDepth 100000
namespace Go.Proofs.Ytdfdmeoalbpcdaa
open Go Go.RowKit
end Go.Proofs.Ytdfdmeoalbpcdaa
set_option linter.unusedSimpArgs false
set_option linter.unusedVariables false
set_option maxRecDepth 100000
namespace Go.Proofs.Ytdfdmeoalbpcdaa
open Go Go.RowKit
/-! ### Volume -/
end Go.Proofs.Ytdfdmeoalbpcdaa

set_option linter.unusedSimpArgs false
set_option linter.unusedVariables false
set_option maxRecDepth 100000
namespace Go.Proofs.Ytdfdmeoalbpcdaa
open Go Go.RowKit
end Go.Proofs.Ytdfdmeoalbpcdaa

set_option linter.unusedSimpArgs false
set_option linter.unusedVariables false
set_option maxRecDepth 100000
namespace Go.Proofs.Ytdfdmeoalbpcdaa
open Go Go.RowKit
/-- A point of a list. -/
def pt (ps : List P3) (i : Nat) : P3 := ps.getD i ⟨0,0,0⟩
def dz (ps : List P3) (j k i : Nat) : Int := P3.det ((pt ps j).sub (pt ps 0)) ((pt ps k).sub (pt ps 0)) ((pt ps i).sub (pt ps 0))
def nl (ps : List P3) (k i : Nat) : Prop := ((pt ps k).sub (pt ps 0)).cross ((pt ps i).sub (pt ps 0)) ≠ ⟨0,0,0⟩
def S1 (ps : List P3) (i : Nat) (e : Bool) : Prop := e = true ↔ ∃ i',1 ≤ i' ∧ i' < i ∧ pt ps i' ≠ pt ps 0
def S2 (ps : List P3) (i k : Nat) (e : Bool) : Prop := e = true ↔ ∃ i' k',1 ≤ k' ∧ k' < i' ∧ (i' < i ∨ i' = i ∧ k' < k) ∧ nl ps k' i'
end Go.Proofs.Ytdfdmeoalbpcdaa

set_option linter.unusedSimpArgs false
set_option linter.unusedVariables false
set_option maxRecDepth 100000
namespace Go.Proofs.Ytdfdmeoalbpcdaa
open Go Go.RowKit
end Go.Proofs.Ytdfdmeoalbpcdaa

set_option linter.unusedSimpArgs false
set_option linter.unusedVariables false
set_option maxRecDepth 100000
namespace Go.Proofs.Ytdfdmeoalbpcdaa
open Go Go.RowKit
section
variable (p : P3) (w : World) (g0 off cap : Nat) (bc : List Value) (t : TypeId) {z : Nat × Nat}
end
end Go.Proofs.Ytdfdmeoalbpcdaa

set_option linter.unusedSimpArgs false
set_option linter.unusedVariables false
namespace Go.Proofs.Ytdfdmeoalbpcdaa
open Go Go.RowKit
/-! ### The Qel of what was taken -/
/-- Each of these raises the rank of those before it. -/
def Raised : List P3 → List P3 → Prop
  | _,[] => True
  | tk,p :: ps => Qcu tk p = true ∧ Raised (tk ++ [p]) ps
theorem Raised.append : ∀ {ps : List P3} {tk : List P3} {p : P3},Raised tk ps → Qcu (tk ++ ps) p = true → Raised tk (ps ++ [p])
  | [],tk,p,_,h => by rw [List.append_nil] at h;exact ⟨h,trivial⟩
  | q :: ps,tk,p,h1,h => ⟨h1.1,Raised.append h1.2 (by simpa using h)⟩
theorem Qim (ps : List P3) : ∀ k,Raised [] (spst ps k).1
  | 0 => trivial
  | k + 1 => by
    have ih := Qim ps k
    unfold spst
    cases hp : ps[k]? with
    | none => exact ih
    | some p =>
      dsimp only
      split
      · rename_i hr
        exact ih.append (by simpa using hr)
      · exact ih
theorem Raised.take : ∀ {ps tk : List P3} (n : Nat),Raised tk ps → Raised tk (ps.take n)
  | _,_,0,_ => by simp [Raised]
  | [],_,_ + 1,_ => trivial
  | _ :: _,_,n + 1,h => ⟨h.1,Raised.take n h.2⟩
/-- The Qel of points that each raise the rank is all of them. -/
theorem Qoe {ps : List P3} (h : Raised [] ps) : ∀ k,k ≤ ps.length → (spst ps k).1 = ps.take k ∧ (spst ps k).2 = (List.range k).map (fun i : Nat => (i : Int))
  | 0,_ => ⟨rfl,rfl⟩
  | k + 1,hk => by
    obtain ⟨h1,h2⟩ := Qoe h k (by omega)
    have hp : ps[k]? = some ps[k] := List.getElem?_eq_getElem (by omega)
    have key : ∀ (l tk : List P3) (i : Nat) (q : P3),Raised tk l → l[i]? = some q → Qcu (tk ++ l.take i) q = true := by
      intro l
      induction l with
      | nil => intro tk i q _ hq;simp at hq
      | cons a l ih =>
        intro tk i q hr hq
        cases i with
        | zero => simp at hq;subst hq;simpa using hr.1
        | succ i =>
          have := ih (tk ++ [a]) i q hr.2 (by simpa using hq)
          simpa using this
    have hr := key ps [] k ps[k] h hp
    unfold spst
    rw [hp]
    dsimp only
    rw [h1,h2,if_pos (by simpa using hr)]
    exact ⟨by rw [List.take_add_one,hp];rfl,by rw [List.range_succ];simp⟩
theorem Qoj {ps : List P3} (h : Raised [] ps) : (Qel ps).length = ps.length := by
  unfold Qel
  rw [(Qoe h ps.length (Nat.le_refl _)).2]
  simp
end Go.Proofs.Ytdfdmeoalbpcdaa
set_option linter.unusedSimpArgs false
set_option linter.unusedVariables false
namespace Go.Proofs.Ytdfdmeoalbpcdaa
open Go Go.RowKit
/-- No plane parts p from these points. -/
def Cv (vs : List P3) (p : P3) : Prop := ∀ m x : P3,(∀ v ∈ vs,0 ≤ m.dot (v.sub x)) → 0 ≤ m.dot (p.sub x)
theorem Cv.mono {vs ws : List P3} {p : P3} (h : Cv vs p) (hs : ∀ v ∈ vs,v ∈ ws) : Cv ws p := fun m x hx => h m x fun v hv => hx v (hs v hv)
theorem Cv.self {vs : List P3} {p : P3} (h : p ∈ vs) : Cv vs p := fun m x hx => hx p h
def P3.scale (k : Int) (m : P3) : P3 := ⟨k * m.x,k * m.y,k * m.z⟩
theorem Qlq (k : Int) (m q : P3) : (m.scale k).dot q = k * m.dot q := by
  simp only [P3.scale,P3.dot]
  grind
theorem Cv.zero {vs : List P3} {p m x : P3} (h : Cv vs p) (hx : ∀ v ∈ vs,m.dot (v.sub x) = 0) : m.dot (p.sub x) = 0 := by
  have h1 := h m x fun v hv => by rw [hx v hv];omega
  have h2 := h (m.scale (-1)) x fun v hv => by rw [Qlq,hx v hv];omega
  rw [Qlq] at h2
  omega
theorem Qep (x : Int) : 0 ≤ x * x := by
  rcases Int.le_total 0 x with h|h
  · exact Int.mul_nonneg h h
  · have := Int.mul_nonneg (a := -x) (b := -x) (by omega) (by omega)
    rwa [Int.neg_mul_neg] at this
/-! ### A simplex, by what raised it -/
theorem spst_le (ps : List P3) : ∀ k,(spst ps k).1.length ≤ k
  | 0 => by simp [spst]
  | k + 1 => by
    have := spst_le ps k
    unfold spst
    cases ps[k]? with
    | none => dsimp only;omega
    | some p =>
      dsimp only
      split
      · simp;omega
      · omega
theorem Qll (ps : List P3) : ∀ k,k ≤ ps.length → (spst ps k).1.length = k → (spst ps k).1 = ps.take k
  | 0,_,_ => by simp [spst]
  | k + 1,hk,h => by
    have hl := spst_le ps k
    have hp : ps[k]? = some ps[k] := List.getElem?_eq_getElem (by omega)
    unfold spst at h ⊢
    rw [hp] at h ⊢
    dsimp only at h ⊢
    split
    · rename_i hr
      rw [if_pos hr] at h
      simp only [List.length_append,List.length_cons,List.length_nil] at h
      rw [Qll ps k (by omega) (by omega),List.take_add_one,hp]
      rfl
    · rename_i hr
      rw [if_neg hr] at h
      omega
theorem Qiv {ps : List P3} (h : Qfk ps = true) : Qdw ps = true ∧ 1 ≤ ps.length ∧ ps.length ≤ 4 ∧ Raised [] ps := by
  unfold Qfk at h
  simp only [decide_eq_true_eq] at h
  obtain ⟨h1,h4,he,hr⟩ := h
  unfold Qeq at he hr
  have hs : (Qcv ps).2 = 0 := by
    split at he
    · assumption
    · exact he
  rw [if_pos hs] at hr
  have hf : Qdw ps = true ∧ Qcv ps = (Qel ps,0) := by
    unfold Qcv at hs ⊢
    split at hs
    · cases hs
    · rename_i hf
      rw [if_neg hf]
      split at hs
      · cases hs
      · rename_i h2
        rw [if_neg h2]
        exact ⟨by simpa using hf,rfl⟩
  rw [hf.2] at hr
  dsimp only at hr
  obtain ⟨_,hl,_⟩ := Qjx ps ps.length
  have hfull := Qll ps ps.length (Nat.le_refl _) (by rw [hl];unfold Qel at hr;omega)
  rw [List.take_length] at hfull
  refine ⟨hf.1,h1,h4,?_⟩
  rw [← hfull]
  exact Qim ps ps.length
theorem Qoh {ps : List P3} (hf : Qdw ps = true) (h1 : 1 ≤ ps.length) (h4 : ps.length ≤ 4) (hr : Raised [] ps) : Qfk ps = true := by
  unfold Qfk
  simp only [decide_eq_true_eq]
  have hs : Qcv ps = (Qel ps,0) := by
    unfold Qcv
    rw [if_neg (by rw [hf];simp),if_neg (by omega)]
  unfold Qeq
  rw [hs]
  dsimp only
  rw [if_pos rfl,Qoj hr]
  exact ⟨h1,h4,rfl,rfl⟩
/-! ### What no plane parts from a simplex is inside -/
theorem Qda (n : P3) : 0 ≤ n.dot n := by
  have h1 := Qep n.x
  have h2 := Qep n.y
  have h3 := Qep n.z
  simp only [P3.dot]
  omega
end Go.Proofs.Ytdfdmeoalbpcdaa
set_option linter.unusedSimpArgs false
set_option linter.unusedVariables false
namespace Go.Proofs.Ytdfdmeoalbpcdaa
open Go Go.RowKit
theorem Qop {a b : P3} : Raised [] [a,b] ↔ b ≠ a := by
  simp [Raised,Qcu]
theorem raised_three {a b c : P3} : Raised [] [a,b,c] ↔ b ≠ a ∧ (b.sub a).cross (c.sub a) ≠ ⟨0,0,0⟩ := by
  simp [Raised,Qcu]
theorem raised_four {a b c d : P3} : Raised [] [a,b,c,d] ↔ b ≠ a ∧ (b.sub a).cross (c.sub a) ≠ ⟨0,0,0⟩ ∧ P3.det (b.sub a) (c.sub a) (d.sub a) ≠ 0 := by
  simp [Raised,Qcu]
theorem Qil {x y z : P3} (h : (y.sub x).cross (z.sub x) ≠ ⟨0,0,0⟩) : y ≠ x := by
  rintro rfl
  apply h
  simp only [P3.cross,P3.sub,P3.mk.injEq]
  refine ⟨by grind,by grind,by grind⟩
end Go.Proofs.Ytdfdmeoalbpcdaa

set_option linter.unusedSimpArgs false
set_option linter.unusedVariables false
namespace Go.Proofs.Ytdfdmeoalbpcdaa
open Go Go.RowKit
/-! ### Linear algebra -/
theorem Qld {u v w : P3} (h : v.cross w = ⟨0,0,0⟩) : P3.det u v w = 0 := by
  unfold P3.det
  rw [h]
  simp [P3.dot]
/-! ### What was taken holds all -/
theorem sub_self (a : P3) : a.sub a = ⟨0,0,0⟩ := by simp [P3.sub]
theorem det_rot (a b c : P3) : P3.det a b c = P3.det c a b := by
  simp only [P3.det,P3.dot,P3.cross];grind
theorem Qnu {ps : List P3} {i : Nat} (h : i < ps.length) : ps[i]? = some (pt ps i) := by
  unfold pt
  rw [List.getD_eq_getElem?_getD,List.getElem?_eq_getElem h]
  rfl
/-! ### The Qel of a list that is longer -/
end Go.Proofs.Ytdfdmeoalbpcdaa

set_option linter.unusedSimpArgs false
set_option linter.unusedVariables false
namespace Go.Proofs.Ytdfdmeoalbpcdaa
open Go Go.RowKit
section
variable {P : Program} {X : List Nat} {w0 w : World} {H H1 : List Bk} {ops : Array Oper} {Q : Exit → Act → World → Prop} {a : Act} {rest : List Oper} {d : Tmp} {tp t : TypeId} {pos : String} {af : Array Edge}
end
theorem pcs_one (ps : List P3) : (pcs ps).all (·.oneCell') = true := by
  induction ps with
  | nil => rfl
  | cons p ps ih => simpa [pcs,Value.oneCell'] using ih
end Go.Proofs.Ytdfdmeoalbpcdaa
set_option linter.unusedSimpArgs false
set_option linter.unusedVariables false
set_option maxRecDepth 100000
namespace Go.Proofs.Ytdfdmeoalbpcdaa
open Go Go.RowKit
theorem PSl.own {w : World} {g cap : Nat} {t : TypeId} {tk : List P3} {ja : List Value} (h : w.heap[g]? = some (.cells (pcs tk ++ ja).toArray t (0,0))) : PSl w (.slice (some ⟨g,0,none⟩) tk.length cap) tk :=
  .inr ⟨g,0,cap,_,t,_,rfl,h,by rw [List.drop_zero,← Qaz,List.take_left'];rfl⟩
end Go.Proofs.Ytdfdmeoalbpcdaa

set_option linter.unusedSimpArgs false
set_option linter.unusedVariables false
set_option maxRecDepth 100000
namespace Go.Proofs.Ytdfdmeoalbpcdaa
open Go Go.RowKit
end Go.Proofs.Ytdfdmeoalbpcdaa
