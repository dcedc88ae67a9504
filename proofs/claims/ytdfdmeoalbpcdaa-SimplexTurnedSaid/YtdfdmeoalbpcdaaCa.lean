/-
  The Qdz of points that each raised the rank (plain).
  Points in simplices: what is inside of a face, and the middle of two points, is inside (plain).
  Faces of simplices: what ninepinlaw07.OrientFaces asks, of points (plain).
  The rank by all choices is the spread's (plain).
  Slices of no element; appending what is part of a block, or nil.
  Package ninepinref07: Rank, Spread (contracts).
  Bits shifted up, and held against one another.
  Package ninepinref01: further, least (contracts).
-/
import Derived.Test.YtdfdmeoalbpcdaaHk
import Derived.Test.YtdfdmeoalbpcdaaHb
import Derived.Laws.AppendOwnNone
import Derived.Test.YtdfdmeoalbpcdaaMd
set_option linter.unusedSimpArgs false
set_option linter.unusedVariables false
namespace Go.Proofs.Ytdfdmeoalbpcdaa
open Go Go.RowKit
/-! ### The Qdz of what was taken -/
/-- Each of these raises the rank of those before it. -/
def Raised : List P3 → List P3 → Prop
  | _,[] => True
  | tk,p :: ps => Qce tk p = true ∧ Raised (tk ++ [p]) ps
theorem Raised.append : ∀ {ps : List P3} {tk : List P3} {p : P3},Raised tk ps → Qce (tk ++ ps) p = true → Raised tk (ps ++ [p])
  | [],tk,p,_,h => by rw [List.append_nil] at h;exact ⟨h,trivial⟩
  | q :: ps,tk,p,h1,h => ⟨h1.1,Raised.append h1.2 (by simpa using h)⟩
theorem Qik (ps : List P3) : ∀ k,Raised [] (spst ps k).1
  | 0 => trivial
  | k + 1 => by
    have ih := Qik ps k
    unfold spst
    cases hp : ps[k]? with
    | none => exact ih
    | some p =>
      dsimp only
      split
      · rename_i hr
        exact ih.append (by simpa using hr)
      · exact ih
theorem Raised.take : ∀ {ps tk : List P3} (n : Nat),Raised tk ps → Raised tk (ps.take n)
  | _,_,0,_ => by simp [Raised]
  | [],_,_ + 1,_ => trivial
  | _ :: _,_,n + 1,h => ⟨h.1,Raised.take n h.2⟩
/-- The Qdz of points that each raise the rank is all of them. -/
theorem Qnw {ps : List P3} (h : Raised [] ps) : ∀ k,k ≤ ps.length → (spst ps k).1 = ps.take k ∧ (spst ps k).2 = (List.range k).map (fun i : Nat => (i : Int))
  | 0,_ => ⟨rfl,rfl⟩
  | k + 1,hk => by
    obtain ⟨h1,h2⟩ := Qnw h k (by omega)
    have hp : ps[k]? = some ps[k] := List.getElem?_eq_getElem (by omega)
    have key : ∀ (l tk : List P3) (i : Nat) (q : P3),Raised tk l → l[i]? = some q → Qce (tk ++ l.take i) q = true := by
      intro l
      induction l with
      | nil => intro tk i q _ hq;simp at hq
      | cons a l ih =>
        intro tk i q hr hq
        cases i with
        | zero => simp at hq;subst hq;simpa using hr.1
        | succ i =>
          have := ih (tk ++ [a]) i q hr.2 (by simpa using hq)
          simpa using this
    have hr := key ps [] k ps[k] h hp
    unfold spst
    rw [hp]
    dsimp only
    rw [h1,h2,if_pos (by simpa using hr)]
    exact ⟨by rw [List.take_add_one,hp];rfl,by rw [List.range_succ];simp⟩
theorem Qor {ps : List P3} (h : Raised [] ps) : (Qdz ps).length = ps.length := by
  unfold Qdz
  rw [(Qnw h ps.length (Nat.le_refl _)).2]
  simp
end Go.Proofs.Ytdfdmeoalbpcdaa
set_option linter.unusedSimpArgs false
set_option linter.unusedVariables false
namespace Go.Proofs.Ytdfdmeoalbpcdaa
open Go Go.RowKit
/-- No plane parts p from these points. -/
def Cv (vs : List P3) (p : P3) : Prop := ∀ m x : P3,(∀ v ∈ vs,0 ≤ m.dot (v.sub x)) → 0 ≤ m.dot (p.sub x)
theorem Cv.mono {vs ws : List P3} {p : P3} (h : Cv vs p) (hs : ∀ v ∈ vs,v ∈ ws) : Cv ws p := fun m x hx => h m x fun v hv => hx v (hs v hv)
theorem Cv.self {vs : List P3} {p : P3} (h : p ∈ vs) : Cv vs p := fun m x hx => hx p h
def P3.scale (k : Int) (m : P3) : P3 := ⟨k * m.x,k * m.y,k * m.z⟩
theorem Qkq (k : Int) (m q : P3) : (m.scale k).dot q = k * m.dot q := by
  simp only [P3.scale,P3.dot]
  grind
theorem Cv.zero {vs : List P3} {p m x : P3} (h : Cv vs p) (hx : ∀ v ∈ vs,m.dot (v.sub x) = 0) : m.dot (p.sub x) = 0 := by
  have h1 := h m x fun v hv => by rw [hx v hv];omega
  have h2 := h (m.scale (-1)) x fun v hv => by rw [Qkq,hx v hv];omega
  rw [Qkq] at h2
  omega
theorem Qed (x : Int) : 0 ≤ x * x := by
  rcases Int.le_total 0 x with h|h
  · exact Int.mul_nonneg h h
  · have := Int.mul_nonneg (a := -x) (b := -x) (by omega) (by omega)
    rwa [Int.neg_mul_neg] at this
/-! ### A simplex, by what raised it -/
theorem spst_le (ps : List P3) : ∀ k,(spst ps k).1.length ≤ k
  | 0 => by simp [spst]
  | k + 1 => by
    have := spst_le ps k
    unfold spst
    cases ps[k]? with
    | none => dsimp only;omega
    | some p =>
      dsimp only
      split
      · simp;omega
      · omega
theorem Qli (ps : List P3) : ∀ k,k ≤ ps.length → (spst ps k).1.length = k → (spst ps k).1 = ps.take k
  | 0,_,_ => by simp [spst]
  | k + 1,hk,h => by
    have hl := spst_le ps k
    have hp : ps[k]? = some ps[k] := List.getElem?_eq_getElem (by omega)
    unfold spst at h ⊢
    rw [hp] at h ⊢
    dsimp only at h ⊢
    split
    · rename_i hr
      rw [if_pos hr] at h
      simp only [List.length_append,List.length_cons,List.length_nil] at h
      rw [Qli ps k (by omega) (by omega),List.take_add_one,hp]
      rfl
    · rename_i hr
      rw [if_neg hr] at h
      omega
theorem Qiv {ps : List P3} (h : Qfa ps = true) : Qdm ps = true ∧ 1 ≤ ps.length ∧ ps.length ≤ 4 ∧ Raised [] ps := by
  unfold Qfa at h
  simp only [decide_eq_true_eq] at h
  obtain ⟨h1,h4,he,hr⟩ := h
  unfold Qek at he hr
  have hs : (Qcd ps).2 = 0 := by
    split at he
    · assumption
    · exact he
  rw [if_pos hs] at hr
  have hf : Qdm ps = true ∧ Qcd ps = (Qdz ps,0) := by
    unfold Qcd at hs ⊢
    split at hs
    · cases hs
    · rename_i hf
      rw [if_neg hf]
      split at hs
      · cases hs
      · rename_i h2
        rw [if_neg h2]
        exact ⟨by simpa using hf,rfl⟩
  rw [hf.2] at hr
  dsimp only at hr
  obtain ⟨_,hl,_⟩ := Qka ps ps.length
  have hfull := Qli ps ps.length (Nat.le_refl _) (by rw [hl];unfold Qdz at hr;omega)
  rw [List.take_length] at hfull
  refine ⟨hf.1,h1,h4,?_⟩
  rw [← hfull]
  exact Qik ps ps.length
theorem Qoj {ps : List P3} (hf : Qdm ps = true) (h1 : 1 ≤ ps.length) (h4 : ps.length ≤ 4) (hr : Raised [] ps) : Qfa ps = true := by
  unfold Qfa
  simp only [decide_eq_true_eq]
  have hs : Qcd ps = (Qdz ps,0) := by
    unfold Qcd
    rw [if_neg (by rw [hf];simp),if_neg (by omega)]
  unfold Qek
  rw [hs]
  dsimp only
  rw [if_pos rfl,Qor hr]
  exact ⟨h1,h4,rfl,rfl⟩
/-! ### What no plane parts from a simplex is inside -/
theorem Qct (n : P3) : 0 ≤ n.dot n := by
  have h1 := Qed n.x
  have h2 := Qed n.y
  have h3 := Qed n.z
  simp only [P3.dot]
  omega
end Go.Proofs.Ytdfdmeoalbpcdaa
set_option linter.unusedSimpArgs false
set_option linter.unusedVariables false
namespace Go.Proofs.Ytdfdmeoalbpcdaa
open Go Go.RowKit
theorem Qph {a b : P3} : Raised [] [a,b] ↔ b ≠ a := by
  simp [Raised,Qce]
theorem raised_three {a b c : P3} : Raised [] [a,b,c] ↔ b ≠ a ∧ (b.sub a).cross (c.sub a) ≠ ⟨0,0,0⟩ := by
  simp [Raised,Qce]
theorem raised_four {a b c d : P3} : Raised [] [a,b,c,d] ↔ b ≠ a ∧ (b.sub a).cross (c.sub a) ≠ ⟨0,0,0⟩ ∧ P3.det (b.sub a) (c.sub a) (d.sub a) ≠ 0 := by
  simp [Raised,Qce]
theorem Qin {x y z : P3} (h : (y.sub x).cross (z.sub x) ≠ ⟨0,0,0⟩) : y ≠ x := by
  rintro rfl
  apply h
  simp only [P3.cross,P3.sub,P3.mk.injEq]
  refine ⟨by grind,by grind,by grind⟩
end Go.Proofs.Ytdfdmeoalbpcdaa

set_option linter.unusedSimpArgs false
set_option linter.unusedVariables false
namespace Go.Proofs.Ytdfdmeoalbpcdaa
open Go Go.RowKit
/-! ### Linear algebra -/
theorem Qkt {u v w : P3} (h : v.cross w = ⟨0,0,0⟩) : P3.det u v w = 0 := by
  unfold P3.det
  rw [h]
  simp [P3.dot]
/-! ### What was taken holds all -/
theorem sub_self (a : P3) : a.sub a = ⟨0,0,0⟩ := by simp [P3.sub]
theorem det_rot (a b c : P3) : P3.det a b c = P3.det c a b := by
  simp only [P3.det,P3.dot,P3.cross];grind
theorem Qna {ps : List P3} {i : Nat} (h : i < ps.length) : ps[i]? = some (pt ps i) := by
  unfold pt
  rw [List.getD_eq_getElem?_getD,List.getElem?_eq_getElem h]
  rfl
/-! ### The Qdz of a list that is longer -/
end Go.Proofs.Ytdfdmeoalbpcdaa

set_option linter.unusedSimpArgs false
set_option linter.unusedVariables false
namespace Go.Proofs.Ytdfdmeoalbpcdaa
open Go Go.RowKit
section
variable {P : Program} {X : List Nat} {w0 w : World} {H H1 : List Bk} {ops : Array Oper} {Q : Exit → Act → World → Prop} {a : Act} {rest : List Oper} {d : Tmp} {tp t : TypeId} {pos : String} {af : Array Edge}
end
theorem Qjw (ps : List P3) : (pcs ps).all (·.oneCell') = true := by
  induction ps with
  | nil => rfl
  | cons p ps ih => simpa [pcs,Value.oneCell'] using ih
end Go.Proofs.Ytdfdmeoalbpcdaa
set_option linter.unusedSimpArgs false
set_option linter.unusedVariables false
set_option maxRecDepth 100000
namespace Go.Proofs.Ytdfdmeoalbpcdaa
open Go Go.RowKit
theorem PSl.own {w : World} {g cap : Nat} {t : TypeId} {tk : List P3} {ja : List Value} (h : w.heap[g]? = some (.cells (pcs tk ++ ja).toArray t (0,0))) : PSl w (.slice (some ⟨g,0,none⟩) tk.length cap) tk :=
  .inr ⟨g,0,cap,_,t,_,rfl,h,by rw [List.drop_zero,← Qbz,List.take_left'];rfl⟩
end Go.Proofs.Ytdfdmeoalbpcdaa

set_option linter.unusedSimpArgs false
set_option linter.unusedVariables false
set_option maxRecDepth 100000
namespace Go.Proofs.Ytdfdmeoalbpcdaa
open Go Go.RowKit
end Go.Proofs.Ytdfdmeoalbpcdaa
