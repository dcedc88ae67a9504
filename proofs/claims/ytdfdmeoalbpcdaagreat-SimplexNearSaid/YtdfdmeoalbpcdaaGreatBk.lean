/-
  Package orient: deep, Inside (contracts).
  Package orient: Inside (contract).
  The Qcd of points that each raised the rank (plain).
  Points in simplices: what is inside of a face, and the middle of two points, is inside (plain).
  Faces of simplices: what ninepinlaw07.OrientFaces asks, of points (plain).
  The rank by all choices is the spread's (plain).
-/
import Derived.Test.YtdfdmeoalbpcdaaGreatBi
import Derived.Test.YtdfdmeoalbpcdaaGreatBj
set_option linter.unusedSimpArgs false
set_option linter.unusedVariables false
set_option maxRecDepth 100000
namespace Go.Proofs.YtdfdmeoalbpcdaaGreat
open Go Go.RowKit
end Go.Proofs.YtdfdmeoalbpcdaaGreat

set_option linter.unusedSimpArgs false
set_option linter.unusedVariables false
set_option maxRecDepth 100000
namespace Go.Proofs.YtdfdmeoalbpcdaaGreat
open Go Go.RowKit
section
variable (p : P3) (w : World) (g0 off cap : Nat) (bc : List Value) (t : TypeId) {z : Nat × Nat}
end
end Go.Proofs.YtdfdmeoalbpcdaaGreat

set_option linter.unusedSimpArgs false
set_option linter.unusedVariables false
namespace Go.Proofs.YtdfdmeoalbpcdaaGreat
open Go Go.RowKit
/-! ### The Qcd of what was Qeu -/
/-- Each of these raises the rank of those before it. -/
def Raised : List P3 → List P3 → Prop
  | _,[] => True
  | tk,p :: ps => Qbz tk p = true ∧ Raised (tk ++ [p]) ps
theorem Raised.append : ∀ {ps : List P3} {tk : List P3} {p : P3},Raised tk ps → Qbz (tk ++ ps) p = true → Raised tk (ps ++ [p])
  | [],tk,p,_,h => by rw [List.append_nil] at h;exact ⟨h,trivial⟩
  | q :: ps,tk,p,h1,h => ⟨h1.1,Raised.append h1.2 (by simpa using h)⟩
theorem Qfx (ps : List P3) : ∀ k,Raised [] (spst ps k).1
  | 0 => trivial
  | k + 1 => by
    have ih := Qfx ps k
    unfold spst
    cases hp : ps[k]? with
    | none => exact ih
    | some p =>
      dsimp only
      split
      · rename_i hr
        exact ih.append (by simpa using hr)
      · exact ih
theorem Raised.take : ∀ {ps tk : List P3} (n : Nat),Raised tk ps → Raised tk (ps.take n)
  | _,_,0,_ => by simp [Raised]
  | [],_,_ + 1,_ => trivial
  | _ :: _,_,n + 1,h => ⟨h.1,Raised.take n h.2⟩
/-- The Qcd of points that each raise the rank is all of them. -/
theorem spst_all {ps : List P3} (h : Raised [] ps) : ∀ k,k ≤ ps.length → (spst ps k).1 = ps.take k ∧ (spst ps k).2 = (List.range k).map (fun i : Nat => (i : Int))
  | 0,_ => ⟨rfl,rfl⟩
  | k + 1,hk => by
    obtain ⟨h1,h2⟩ := spst_all h k (by omega)
    have hp : ps[k]? = some ps[k] := List.getElem?_eq_getElem (by omega)
    have key : ∀ (l tk : List P3) (i : Nat) (q : P3),Raised tk l → l[i]? = some q → Qbz (tk ++ l.take i) q = true := by
      intro l
      induction l with
      | nil => intro tk i q _ hq;simp at hq
      | cons a l ih =>
        intro tk i q hr hq
        cases i with
        | zero => simp at hq;subst hq;simpa using hr.1
        | succ i =>
          have := ih (tk ++ [a]) i q hr.2 (by simpa using hq)
          simpa using this
    have hr := key ps [] k ps[k] h hp
    unfold spst
    rw [hp]
    dsimp only
    rw [h1,h2,if_pos (by simpa using hr)]
    exact ⟨by rw [List.take_add_one,hp];rfl,by rw [List.range_succ];simp⟩
theorem spread_all {ps : List P3} (h : Raised [] ps) : (Qcd ps).length = ps.length := by
  unfold Qcd
  rw [(spst_all h ps.length (Nat.le_refl _)).2]
  simp
/-- What is Qeu stands at the places that are told, which rise. -/
theorem Qgx (ps : List P3) : ∀ k,k ≤ ps.length → (∀ (i : Nat) (n : Int),(spst ps k).2[i]? = some n → 0 ≤ n ∧ n < k ∧ (spst ps k).1[i]? = ps[n.toNat]?) ∧ (∀ (i : Nat) (m n : Int),(spst ps k).2[i]? = some m → (spst ps k).2[i + 1]? = some n → m < n)
  | 0,_ => by simp [spst]
  | k + 1,hk => by
    obtain ⟨h1,h2⟩ := Qgx ps k (by omega)
    obtain ⟨_,hlen,_⟩ := Qgj ps k
    have hp : ps[k]? = some ps[k] := List.getElem?_eq_getElem (by omega)
    unfold spst
    rw [hp]
    dsimp only
    split
    · refine ⟨fun i n hn => ?_,fun i m n hm hn => ?_⟩
      · rw [List.getElem?_append] at hn
        split at hn
        · rename_i hi
          obtain ⟨a,b,c⟩ := h1 i n hn
          refine ⟨a,by omega,?_⟩
          rw [List.getElem?_append_left (by omega)]
          exact c
        · rename_i hi
          have hi' : i = (spst ps k).2.length := by
            rcases Nat.lt_or_ge (i - (spst ps k).2.length) 1 with h|h
            · omega
            · rw [List.getElem?_eq_none (by simpa using h)] at hn;cases hn
          subst hi'
          simp at hn
          subst hn
          refine ⟨by omega,by omega,?_⟩
          rw [List.getElem?_append_right (by omega),hlen]
          simp [hp]
      · have hlt : i + 1 ≤ (spst ps k).2.length := by
          rcases Nat.lt_or_ge (i + 1) ((spst ps k).2 ++ [(k : Int)]).length with h|h
          · simp at h;omega
          · rw [List.getElem?_eq_none h] at hn;cases hn
        rw [List.getElem?_append_left (by omega)] at hm
        rw [List.getElem?_append] at hn
        split at hn
        · exact h2 i m n hm hn
        · rename_i hi
          have hi' : i + 1 - (spst ps k).2.length = 0 := by omega
          rw [hi'] at hn
          simp at hn
          subst hn
          exact (h1 i m hm).2.1
    · exact ⟨fun i n hn => by obtain ⟨a,b,c⟩ := h1 i n hn;exact ⟨a,by omega,c⟩,h2⟩
/-- The points of a Qcd. -/
def Qeu (ps : List P3) : List P3 := (spst ps ps.length).1
end Go.Proofs.YtdfdmeoalbpcdaaGreat
set_option linter.unusedSimpArgs false
set_option linter.unusedVariables false
namespace Go.Proofs.YtdfdmeoalbpcdaaGreat
open Go Go.RowKit
/-- No plane parts p from these points. -/
def Cv (vs : List P3) (p : P3) : Prop := ∀ m x : P3,(∀ v ∈ vs,0 ≤ m.dot (v.sub x)) → 0 ≤ m.dot (p.sub x)
theorem Cv.mono {vs ws : List P3} {p : P3} (h : Cv vs p) (hs : ∀ v ∈ vs,v ∈ ws) : Cv ws p := fun m x hx => h m x fun v hv => hx v (hs v hv)
theorem Cv.self {vs : List P3} {p : P3} (h : p ∈ vs) : Cv vs p := fun m x hx => hx p h
def P3.scale (k : Int) (m : P3) : P3 := ⟨k * m.x,k * m.y,k * m.z⟩
theorem Qpb (k : Int) (m q : P3) : (m.scale k).dot q = k * m.dot q := by
  simp only [P3.scale,P3.dot]
  grind
theorem Cv.zero {vs : List P3} {p m x : P3} (h : Cv vs p) (hx : ∀ v ∈ vs,m.dot (v.sub x) = 0) : m.dot (p.sub x) = 0 := by
  have h1 := h m x fun v hv => by rw [hx v hv];omega
  have h2 := h (m.scale (-1)) x fun v hv => by rw [Qpb,hx v hv];omega
  rw [Qpb] at h2
  omega
theorem Qfs (x : Int) : 0 ≤ x * x := by
  rcases Int.le_total 0 x with h|h
  · exact Int.mul_nonneg h h
  · have := Int.mul_nonneg (a := -x) (b := -x) (by omega) (by omega)
    rwa [Int.neg_mul_neg] at this
theorem sub_ne {a b : P3} (h : b ≠ a) : b.sub a ≠ ⟨0,0,0⟩ := by
  intro h'
  apply h
  obtain ⟨ax,ay,az⟩ := a
  obtain ⟨bx,by',bz⟩ := b
  simp only [P3.sub,P3.mk.injEq] at h' ⊢
  omega
/-! ### A simplex, by what raised it -/
theorem spst_le (ps : List P3) : ∀ k,(spst ps k).1.length ≤ k
  | 0 => by simp [spst]
  | k + 1 => by
    have := spst_le ps k
    unfold spst
    cases ps[k]? with
    | none => dsimp only;omega
    | some p =>
      dsimp only
      split
      · simp;omega
      · omega
theorem Qpd (ps : List P3) : ∀ k,k ≤ ps.length → (spst ps k).1.length = k → (spst ps k).1 = ps.take k
  | 0,_,_ => by simp [spst]
  | k + 1,hk,h => by
    have hl := spst_le ps k
    have hp : ps[k]? = some ps[k] := List.getElem?_eq_getElem (by omega)
    unfold spst at h ⊢
    rw [hp] at h ⊢
    dsimp only at h ⊢
    split
    · rename_i hr
      rw [if_pos hr] at h
      simp only [List.length_append,List.length_cons,List.length_nil] at h
      rw [Qpd ps k (by omega) (by omega),List.take_add_one,hp]
      rfl
    · rename_i hr
      rw [if_neg hr] at h
      omega
theorem Qln {ps : List P3} (h : Qgt ps = true) : Qdf ps = true ∧ 1 ≤ ps.length ∧ ps.length ≤ 4 ∧ Raised [] ps := by
  unfold Qgt at h
  simp only [decide_eq_true_eq] at h
  obtain ⟨h1,h4,he,hr⟩ := h
  unfold Qft at he hr
  have hs : (Qcq ps).2 = 0 := by
    split at he
    · assumption
    · exact he
  rw [if_pos hs] at hr
  have hf : Qdf ps = true ∧ Qcq ps = (Qcd ps,0) := by
    unfold Qcq at hs ⊢
    split at hs
    · cases hs
    · rename_i hf
      rw [if_neg hf]
      split at hs
      · cases hs
      · rename_i h2
        rw [if_neg h2]
        exact ⟨by simpa using hf,rfl⟩
  rw [hf.2] at hr
  dsimp only at hr
  obtain ⟨_,hl,_⟩ := Qgj ps ps.length
  have hfull := Qpd ps ps.length (Nat.le_refl _) (by rw [hl];unfold Qcd at hr;omega)
  rw [List.take_length] at hfull
  refine ⟨hf.1,h1,h4,?_⟩
  rw [← hfull]
  exact Qfx ps ps.length
theorem simplex_of {ps : List P3} (hf : Qdf ps = true) (h1 : 1 ≤ ps.length) (h4 : ps.length ≤ 4) (hr : Raised [] ps) : Qgt ps = true := by
  unfold Qgt
  simp only [decide_eq_true_eq]
  have hs : Qcq ps = (Qcd ps,0) := by
    unfold Qcq
    rw [if_neg (by rw [hf];simp),if_neg (by omega)]
  unfold Qft
  rw [hs]
  dsimp only
  rw [if_pos rfl,spread_all hr]
  exact ⟨h1,h4,rfl,rfl⟩
/-! ### What no plane parts from a simplex is inside -/
theorem Qej (n : P3) : 0 ≤ n.dot n := by
  have h1 := Qfs n.x
  have h2 := Qfs n.y
  have h3 := Qfs n.z
  simp only [P3.dot]
  omega
theorem det_dot (x y z p : P3) : P3.det (y.sub x) (z.sub x) (p.sub x) = ((y.sub x).cross (z.sub x)).dot (p.sub x) := by
  simp only [P3.det,P3.dot,P3.cross,P3.sub]
  grind
end Go.Proofs.YtdfdmeoalbpcdaaGreat
set_option linter.unusedSimpArgs false
set_option linter.unusedVariables false
namespace Go.Proofs.YtdfdmeoalbpcdaaGreat
open Go Go.RowKit
theorem raised_two {a b : P3} : Raised [] [a,b] ↔ b ≠ a := by
  simp [Raised,Qbz]
theorem raised_three {a b c : P3} : Raised [] [a,b,c] ↔ b ≠ a ∧ (b.sub a).cross (c.sub a) ≠ ⟨0,0,0⟩ := by
  simp [Raised,Qbz]
theorem raised_four {a b c d : P3} : Raised [] [a,b,c,d] ↔ b ≠ a ∧ (b.sub a).cross (c.sub a) ≠ ⟨0,0,0⟩ ∧ P3.det (b.sub a) (c.sub a) (d.sub a) ≠ 0 := by
  simp [Raised,Qbz]
theorem Qju {x y z : P3} (h : (y.sub x).cross (z.sub x) ≠ ⟨0,0,0⟩) : y ≠ x := by
  rintro rfl
  apply h
  simp only [P3.cross,P3.sub,P3.mk.injEq]
  refine ⟨by grind,by grind,by grind⟩
end Go.Proofs.YtdfdmeoalbpcdaaGreat

set_option linter.unusedSimpArgs false
set_option linter.unusedVariables false
namespace Go.Proofs.YtdfdmeoalbpcdaaGreat
open Go Go.RowKit
/-! ### Linear algebra -/
theorem Qjd {u v w : P3} (hu : u ≠ ⟨0,0,0⟩) (hv : u.cross v = ⟨0,0,0⟩) (hw : u.cross w = ⟨0,0,0⟩) : v.cross w = ⟨0,0,0⟩ := by
  obtain ⟨ux,uy,uz⟩ := u
  obtain ⟨vx,vy,vz⟩ := v
  obtain ⟨wx,wy,wz⟩ := w
  simp only [P3.cross,P3.mk.injEq,ne_eq] at *
  obtain ⟨v1,v2,v3⟩ := hv
  obtain ⟨w1,w2,w3⟩ := hw
  have key : ∀ t : Int,(ux * t = 0 ∧ uy * t = 0 ∧ uz * t = 0) → t = 0 := by
    rintro t ⟨h1,h2,h3⟩
    rcases Int.mul_eq_zero.1 h1 with h|h
    · rcases Int.mul_eq_zero.1 h2 with h' | h'
      · rcases Int.mul_eq_zero.1 h3 with h'' | h''
        · exact absurd ⟨h,h',h''⟩ hu
        · exact h''
      · exact h'
    · exact h
  refine ⟨key _ ⟨?_,?_,?_⟩,key _ ⟨?_,?_,?_⟩,key _ ⟨?_,?_,?_⟩⟩ <;> grind
theorem Qeq {u v w : P3} (h : v.cross w = ⟨0,0,0⟩) : P3.det u v w = 0 := by
  unfold P3.det
  rw [h]
  simp [P3.dot]
theorem det_level {n u v w : P3} (hn : n ≠ ⟨0,0,0⟩) (hu : n.dot u = 0) (hv : n.dot v = 0) (hw : n.dot w = 0) : P3.det u v w = 0 := by
  obtain ⟨nx,ny,nz⟩ := n
  obtain ⟨ux,uy,uz⟩ := u
  obtain ⟨vx,vy,vz⟩ := v
  obtain ⟨wx,wy,wz⟩ := w
  simp only [P3.det,P3.cross,P3.dot,P3.mk.injEq,ne_eq] at *
  have key : ∀ t : Int,(nx * t = 0 ∧ ny * t = 0 ∧ nz * t = 0) → t = 0 := by
    rintro t ⟨h1,h2,h3⟩
    rcases Int.mul_eq_zero.1 h1 with h|h
    · rcases Int.mul_eq_zero.1 h2 with h' | h'
      · rcases Int.mul_eq_zero.1 h3 with h'' | h''
        · exact absurd ⟨h,h',h''⟩ hn
        · exact h''
      · exact h'
    · exact h
  refine key _ ⟨?_,?_,?_⟩ <;> grind
/-! ### What was Qeu holds all -/
/-- A point raises nothing. -/
def lvl : List P3 → P3 → Prop
  | [],_ => False
  | [a],p => p = a
  | [a,b],p => (b.sub a).cross (p.sub a) = ⟨0,0,0⟩
  | [a,b,c],p => P3.det (b.sub a) (c.sub a) (p.sub a) = 0
  | _,_ => True
theorem lvl_of : ∀ {tk : List P3} {p : P3},Qbz tk p = false → lvl tk p
  | [],_,h => by simp [Qbz] at h
  | [a],p,h => by simpa [Qbz,lvl] using h
  | [a,b],p,h => by simpa [Qbz,lvl] using h
  | [a,b,c],p,h => by simpa [Qbz,lvl] using h
  | _ :: _ :: _ :: _ :: _,_,_ => trivial
theorem sub_self (a : P3) : a.sub a = ⟨0,0,0⟩ := by simp [P3.sub]
theorem Qlz (a : P3) : a.cross a = ⟨0,0,0⟩ := by
  simp only [P3.cross,P3.mk.injEq]
  refine ⟨by grind,by grind,by grind⟩
theorem cross_swap {a b : P3} (h : a.cross b = ⟨0,0,0⟩) : b.cross a = ⟨0,0,0⟩ := by
  simp only [P3.cross,P3.mk.injEq] at *
  refine ⟨by grind,by grind,by grind⟩
theorem det_rot (a b c : P3) : P3.det a b c = P3.det c a b := by
  simp only [P3.det,P3.dot,P3.cross];grind
theorem lvl_self : ∀ (tk : List P3) (p : P3),lvl (tk ++ [p]) p
  | [],p => rfl
  | [a],p => Qlz _
  | [a,b],p => Qeq (Qlz _)
  | [_,_,_],_ => trivial
  | _ :: _ :: _ :: _ :: _,_ => trivial
theorem lvl_more : ∀ {tk : List P3} {p : P3} (q : P3),lvl tk p → lvl (tk ++ [q]) p
  | [],_,_,h => h.elim
  | [a],p,q,h => by
    have h : p = a := h
    show (q.sub a).cross (p.sub a) = ⟨0,0,0⟩
    rw [h,sub_self]
    simp [P3.cross]
  | [a,b],p,q,h => by
    show P3.det (b.sub a) (q.sub a) (p.sub a) = 0
    rw [det_rot,det_rot]
    exact Qeq (cross_swap h)
  | [_,_,_],_,_,_ => trivial
  | _ :: _ :: _ :: _ :: _,_,_,_ => trivial
theorem Qiy (ps : List P3) : ∀ k i p,i < k → ps[i]? = some p → lvl (spst ps k).1 p
  | 0,i,p,h,_ => by omega
  | k + 1,i,p,h,hp => by
    unfold spst
    cases hk : ps[k]? with
    | none =>
      rcases Nat.lt_or_ge i k with h1|h1
      · exact Qiy ps k i p h1 hp
      · rw [show i = k by omega,hk] at hp;cases hp
    | some q =>
      dsimp only
      rcases Nat.lt_or_ge i k with h1|h1
      · have ih := Qiy ps k i p h1 hp
        split
        · exact lvl_more q ih
        · exact ih
      · rw [show i = k by omega,hk] at hp
        cases hp
        split
        · exact lvl_self _ _
        · rename_i hr
          exact lvl_of (by simpa using hr)
theorem Qjq (ps : List P3) (h : 1 ≤ ps.length) : ∀ k,1 ≤ k → ∃ tl ol,spst ps k = (pt ps 0 :: tl,0 :: ol)
  | 0,h => by omega
  | 1,_ => by
    refine ⟨[],[],?_⟩
    have : ps[0]? = some ps[0] := List.getElem?_eq_getElem (by omega)
    unfold spst
    rw [this]
    simp [spst,Qbz,pt,List.getD_eq_getElem?_getD,this]
  | k + 2,_ => by
    obtain ⟨tl,ol,e⟩ := Qjq ps h (k + 1) (by omega)
    unfold spst
    cases hk : ps[k + 1]? with
    | none => exact ⟨tl,ol,e⟩
    | some q =>
      dsimp only
      rw [e]
      split
      · exact ⟨tl ++ [q],ol ++ [((k + 1 : Nat) : Int)],rfl⟩
      · exact ⟨tl,ol,rfl⟩
theorem Qkg {ps : List P3} {i : Nat} (h : i < ps.length) : ps[i]? = some (pt ps i) := by
  unfold pt
  rw [List.getD_eq_getElem?_getD,List.getElem?_eq_getElem h]
  rfl
/-- The places of what is Qeu. -/
theorem taken_at (ps : List P3) {i : Nat} {q : P3} (h : (Qeu ps)[i]? = some q) : ∃ n : Nat,n < ps.length ∧ (Qcd ps)[i]? = some (n : Int) ∧ q = pt ps n := by
  obtain ⟨h4,hlen,hsub⟩ := Qgj ps ps.length
  obtain ⟨h1,h2⟩ := Qgx ps ps.length (Nat.le_refl _)
  have hi : i < (Qcd ps).length := by
    rcases Nat.lt_or_ge i (Qcd ps).length with h' | h'
    · exact h'
    · unfold Qeu at h
      unfold Qcd at h'
      rw [List.getElem?_eq_none (by omega)] at h;cases h
  have hn : (Qcd ps)[i]? = some (Qcd ps)[i] := List.getElem?_eq_getElem hi
  obtain ⟨a,b,c⟩ := h1 i _ hn
  refine ⟨((Qcd ps)[i]).toNat,by omega,by rw [hn];congr 1;omega,?_⟩
  unfold Qeu at h
  rw [c,Qkg (by omega)] at h
  exact (Option.some.inj h).symm
theorem rank_three {ps : List P3} (h : ∃ j k i,1 ≤ j ∧ j < k ∧ k < i ∧ i < ps.length ∧ dz ps j k i ≠ 0) : (Qcd ps).length = 4 := by
  obtain ⟨j,k,i,h1,h2,h3,h4,hd⟩ := h
  obtain ⟨hl4,hlen,hsub⟩ := Qgj ps ps.length
  have hr := Qfx ps ps.length
  obtain ⟨tl,ol,e⟩ := Qjq ps (by omega) ps.length (by omega)
  have hlv := fun n (hn : n < ps.length) => Qiy ps ps.length n _ hn (Qkg hn)
  unfold Qcd
  rw [← hlen]
  rw [e] at hl4 hr hlv ⊢
  dsimp only at hl4 hr hlv ⊢
  unfold dz at hd
  match tl,hl4,hr,hlv with
  | [],_,_,hlv =>
    have hlv : ∀ n,n < ps.length → pt ps n = pt ps 0 := hlv
    rw [hlv j (by omega),hlv k (by omega)] at hd
    exact absurd (Qeq (by rw [sub_self];simp [P3.cross])) hd
  | [b],_,hr,hlv =>
    have hb := sub_ne (raised_two.1 hr)
    have hlv : ∀ n,n < ps.length → (b.sub (pt ps 0)).cross ((pt ps n).sub (pt ps 0)) = ⟨0,0,0⟩ := hlv
    exact absurd (Qeq (Qjd hb (hlv k (by omega)) (hlv i (by omega)))) hd
  | [b,c],_,hr,hlv =>
    have hc := (raised_three.1 hr).2
    have hlv : ∀ n,n < ps.length → P3.det (b.sub (pt ps 0)) (c.sub (pt ps 0)) ((pt ps n).sub (pt ps 0)) = 0 := hlv
    have hlv2 := fun n hn => (det_dot (pt ps 0) b c (pt ps n)).symm.trans (hlv n hn)
    exact absurd (det_level hc (hlv2 j (by omega)) (hlv2 k (by omega)) (hlv2 i (by omega))) hd
  | [b,c,d],_,_,_ => rfl
  | _ :: _ :: _ :: _ :: _,h,_,_ => simp at h
theorem rank_less {ps : List P3} (h1 : 1 ≤ ps.length) {e1 e2 : Bool} (hs1 : S1 ps ps.length e1) (hs2 : S2 ps ps.length 1 e2) (hs3 : Sy3 ps ps.length 1 1) : ((Qcd ps).length : Int) - 1 = rr e1 e2 := by
  obtain ⟨hl4,hlen,hsub⟩ := Qgj ps ps.length
  have hr := Qfx ps ps.length
  obtain ⟨tl,ol,e⟩ := Qjq ps (by omega) ps.length (by omega)
  have hlv := fun n (hn : n < ps.length) => Qiy ps ps.length n _ hn (Qkg hn)
  obtain ⟨hpl,hinc⟩ := Qgx ps ps.length (Nat.le_refl _)
  have hat := fun (i : Nat) (q : P3) => taken_at ps (i := i) (q := q)
  unfold Qeu Qcd at hat
  unfold Qcd
  rw [e] at hl4 hr hlv hinc hat hlen ⊢
  dsimp only at hl4 hr hlv hinc hat hlen ⊢
  rw [← hlen]
  have hz : ∀ i n,(0 :: ol)[i + 1]? = some n → ∀ m,(0 :: ol)[i]? = some m → m < n := fun i n hn m hm => hinc i m n hm hn
  have e1f : (∀ n,n < ps.length → pt ps n = pt ps 0) → e1 = false := fun h => by
    cases he : e1 with
    | false => rfl
    | true =>
      obtain ⟨i,_,hi,hne⟩ := hs1.1 he
      exact absurd (h i hi) hne
  have e2f : (∀ k i,k < ps.length → i < ps.length → ((pt ps k).sub (pt ps 0)).cross ((pt ps i).sub (pt ps 0)) = ⟨0,0,0⟩) → e2 = false := fun h => by
    cases he : e2 with
    | false => rfl
    | true =>
      obtain ⟨i,k,_,hk,hi,hne⟩ := hs2.1 he
      exact absurd (h k i (by omega) (by omega)) hne
  match tl,hl4,hr,hlv,hat with
  | [],_,_,hlv,_ =>
    have hlv : ∀ n,n < ps.length → pt ps n = pt ps 0 := hlv
    rw [e1f hlv,e2f fun k i hk _ => by rw [hlv k hk,sub_self];simp [P3.cross]]
    rfl
  | [b],_,hr,hlv,hat =>
    have hb := raised_two.1 hr
    have hlv : ∀ n,n < ps.length → (b.sub (pt ps 0)).cross ((pt ps n).sub (pt ps 0)) = ⟨0,0,0⟩ := hlv
    rw [e2f fun k i hk hi => Qjd (sub_ne hb) (hlv k hk) (hlv i hi)]
    obtain ⟨n,hn,hn1,hn2⟩ := hat 1 b rfl
    have := hz 0 _ hn1 0 rfl
    rw [hs1.2 ⟨n,by omega,hn,by rw [← hn2];exact hb⟩]
    rfl
  | [b,c],_,hr,hlv,hat =>
    have hc := (raised_three.1 hr).2
    obtain ⟨n,hn,hn1,hn2⟩ := hat 1 b rfl
    obtain ⟨m,hm,hm1,hm2⟩ := hat 2 c rfl
    have h01 := hz 0 _ hn1 0 rfl
    have h12 := hz 1 _ hm1 _ hn1
    rw [hs2.2 ⟨m,n,by omega,by omega,by omega,by unfold nl;rw [← hn2,← hm2];exact hc⟩]
    cases e1 <;> rfl
  | [b,c,d],_,hr,hlv,hat =>
    have hd := (raised_four.1 hr).2.2
    obtain ⟨n,hn,hn1,hn2⟩ := hat 1 b rfl
    obtain ⟨m,hm,hm1,hm2⟩ := hat 2 c rfl
    obtain ⟨l,hl,hl1,hl2⟩ := hat 3 d rfl
    have h01 := hz 0 _ hn1 0 rfl
    have h12 := hz 1 _ hm1 _ hn1
    have h23 := hz 2 _ hl1 _ hm1
    have := hs3 l m n (by omega) (by omega) (by omega) (by omega)
    unfold dz at this
    rw [← hn2,← hm2,← hl2] at this
    exact absurd this hd
  | _ :: _ :: _ :: _ :: _,h,_,_,_ => simp at h
theorem rOf_nil (w : World) : Calls Tryz.prog 29 #[.slice none 0 0] w (Ret (.int .i64 (-1)) w) := by
  go_enter Tryz.func29,Tryz.ntmps29
  have hp := Hp.start [] w
  go_wp2_with (fail)
  exact bodyPost_ret (Qaa rfl rfl) rfl ⟨rfl,hp.keep⟩
theorem rOf_empty (w : World) (a : Option Addr) (cap : Nat) : Calls Tryz.prog 29 #[.slice a 0 cap] w (Ret (.int .i64 (-1)) w) := by
  go_enter Tryz.func29,Tryz.ntmps29
  have hp := Hp.start [] w
  go_wp2_with (fail)
  exact bodyPost_ret (Qaa rfl rfl) rfl ⟨rfl,hp.keep⟩
/-- ninepinref07.Of: one less than the spread's places. -/
theorem rOf_any (ps : List P3) (hm : ∀ q ∈ ps,q.may) (hlen : ps.length ≤ maxLen) (v : Value) (w : World) (h : PSl w v ps) : Calls Tryz.prog 29 #[v] w (Ret (.int .i64 ((Qcd ps).length - 1)) w) := by
  rcases h with ⟨rfl,rfl⟩|⟨g,off,cap,bc,t,z,rfl,hb,hv⟩
  · exact rOf_nil w
  · rcases Nat.eq_zero_or_pos ps.length with h0|h0
    · obtain rfl := List.eq_nil_of_length_eq_zero h0
      exact rOf_empty w _ cap
    · exact rOf_far ps hm h0 hlen _ (Lib.hid fun h => by rw [rank_three h];rfl) (Lib.hid fun e1 e2 h1 h2 h3 => rank_less h0 h1 h2 h3) w g off cap bc t hb hv
/-! ### The Qcd of a list that is longer -/
end Go.Proofs.YtdfdmeoalbpcdaaGreat
