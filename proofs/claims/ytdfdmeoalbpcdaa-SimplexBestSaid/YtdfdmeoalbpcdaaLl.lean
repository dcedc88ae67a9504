/-
  ninepinlaw06: awake (contract).
  An operation with a guard (law of the walk).
  Orders of points (plain).
  The arguments of a law: points.
  The arguments of a law: wide numbers, spans.
  Package ninepinref06: Along; ninepinlaw06.GridAlong (contracts).
  What Prime hands back: plain.
  Package wide: Shr (contract).
  Package wide: Shl, Int, Bits (contracts).
  Package ninepinref01: Cmp, Shl; package ninepinref02: Within (contracts).
  The arguments of a law: slices of points.
-/
import Derived.Test.YtdfdmeoalbpcdaaEb
import Derived.Test.YtdfdmeoalbpcdaaEc
import Derived.Test.YtdfdmeoalbpcdaaGb
import Derived.WalkKit
import Derived.ProofKit
import Derived.OpenShut
import Derived.ShutString
import Derived.ChangeOld
import Derived.Below
import Derived.Lib.SmallJoins
import Derived.Deep.Slices
import Derived.Test.YtdfdmeoalbpcdaaEr
import Derived.Deep.Strs
import Derived.Test.YtdfdmeoalbpcdaaGc
import Derived.Test.YtdfdmeoalbpcdaaDb
import Derived.Test.YtdfdmeoalbpcdaaDd
import Derived.Test.YtdfdmeoalbpcdaaIn
import Derived.Test.YtdfdmeoalbpcdaaDa
import Derived.Test.YtdfdmeoalbpcdaaCa
import Derived.Test.YtdfdmeoalbpcdaaHb
set_option linter.unusedSimpArgs false
set_option linter.unusedVariables false
set_option maxRecDepth 100000
namespace Go.Proofs.Ytdfdmeoalbpcdaa
open Go Go.RowKit
end Go.Proofs.Ytdfdmeoalbpcdaa

set_option linter.unusedVariables false
namespace Go.Proofs.Ytdfdmeoalbpcdaa
open Go Go.RowKit
/-! ### A load that is not taken ahead of its turn (its block is written in the same region) -/
section
variable {P : Program} {ops : Array Oper} {Q : Exit → Act → World → Prop} {N : List Nat} {X : List Nat} {w0 w : World} {H Hq : List Bk} {a : Act} {i : Nat} {rest : Sc}
variable {d p : Tmp} {tp ty : TypeId} {pos : String} {af : Array Edge} {gd : Option (Nat × Bool)} {g off n : Nat} {t : TypeId} {cs : List Value}
theorem Qdd (hp : Hp X w0 H w) (hq : Hp X w0 Hq w) (hw : Region.wanted ⟨some d,.load ty (.tmp p),tp,pos,af,gd⟩ (yielded ops a.tmps) = true)
    (hx : a.eval (.tmp p) = .pointer (some ⟨g,off,none⟩)) (h : Has Hq g t cs) (ht : AggTy P ty n) (hle : off + n ≤ cs.length) {vs : List Value} (hvs : (cs.drop off).take n = vs)
    (hk : Qbb P ops Q (Hp X w0 H) N rest (a.put (some d) (.agg vs.toArray)) w) : wpL P ops Q (Hp X w0 H) N i rest ⟨some d,.load ty (.tmp p),tp,pos,af,gd⟩ a w := by
  subst hvs
  refine Qdt hw ?_
  unfold Oper.wp
  simp only [execOp,hx,Instr.loadAt,Instr.sureAddr,Sem.run_bind,Sem.run_pure,Result.andThen_ok,Qag hq hle,Oper.upon]
  exact ⟨fun _ => hp,hk⟩
end
end Go.Proofs.Ytdfdmeoalbpcdaa

set_option linter.unusedSimpArgs false
set_option linter.unusedVariables false
set_option maxRecDepth 100000
namespace Go.Proofs.Ytdfdmeoalbpcdaa
open Go Go.RowKit
end Go.Proofs.Ytdfdmeoalbpcdaa

set_option linter.unusedVariables false
set_option maxRecDepth 100000
namespace Go.Proofs.Ytdfdmeoalbpcdaa
open Go Go.ChangeShapes Go.WideShapes Go.ChangeAt Go.RowKit Go.Joins
theorem own : ownKnob Try.prog.godebug = none := by kernel_rfl
theorem laidOut : laidOutB Try.prog = true := by kernel_rfl
theorem i64_wf {n : Int} (h : (Lit.int .i64 n).wf = true) : I64 n := by
  unfold I64
  simp [Lit.wf,IntKind.min,IntKind.max,IntKind.bits,IntKind.signed] at h
  omega
theorem cellsPoint : Try.prog.cellsOf 24 = 3 := by kernel_rfl
end Go.Proofs.Ytdfdmeoalbpcdaa

set_option linter.unusedVariables false
set_option maxRecDepth 100000
namespace Go.Proofs.Ytdfdmeoalbpcdaa
open Go Go.ChangeShapes Go.WideShapes Go.ChangeAt Go.RowKit Go.Joins
structure S3 where (x y z : Int)
def S3.fit (n : S3) : Prop := Fit n.x ∧ Fit n.y ∧ Fit n.z
end Go.Proofs.Ytdfdmeoalbpcdaa

set_option linter.unusedSimpArgs false
set_option linter.unusedVariables false
set_option maxRecDepth 100000
namespace Go.Proofs.Ytdfdmeoalbpcdaa
open Go Go.RowKit
attribute [local irreducible] wpList
theorem Qdh (n : Int) : Fit (fz n) := by
  unfold fz
  split
  · assumption
  · exact Qbn
end Go.Proofs.Ytdfdmeoalbpcdaa

set_option linter.unusedSimpArgs false
set_option linter.unusedVariables false
set_option maxRecDepth 100000
namespace Go.Proofs.Ytdfdmeoalbpcdaa
open Go Go.RowKit
/-- The greatest common divisor of three. -/
def g3 (x y z : Int) : Nat := Nat.gcd (Nat.gcd x.natAbs y.natAbs) z.natAbs
theorem az_abs (n : Int) : az n = (n.natAbs : Int) := by unfold az;split <;> omega
theorem gacc_eq (x y z : Int) : gacc (nth x y z) [0,1,2] = if Fit (az x) ∧ (Fit (az y) ∧ Fit (az z)) then some (g3 x y z : Int) else none := by
  simp only [gacc,List.foldl_cons,List.foldl_nil,Qod,nth,Option.bind_some]
  by_cases h1 : Fit (az x)
  · by_cases h2 : Fit (az y)
    · by_cases h3 : Fit (az z)
      · simp only [h1,h2,h3,if_true,Option.bind_some,and_self]
        simp only [cg,az_abs,g3,m0,m1,Nat.gcd_zero_left]
      · simp [h1,h2,h3]
    · simp [h1,h2]
  · simp [h1]
theorem fq_exact (g X : Int) (hX : X ≠ 0) : fq (g * X) X = g ∧ fr (g * X) X = 0 :=
  Qfh (a := g * X) (b := X) (q := g) (r := 0) (by omega) (by omega)
theorem Qnc (g X : Int) (hX : X ≠ 0) (hg : Fit g) : dvq (g * X) X = g ∧ dvr (g * X) X = 0 ∧ dvok (g * X) X := by
  obtain ⟨h1,h2⟩ := fq_exact g X hX
  have h3 : dvok (g * X) X := ⟨hX,by rw [h1];exact hg⟩
  exact ⟨by unfold dvq;rw [if_pos h3,h1],by unfold dvr;rw [if_pos h3,h2],h3⟩
theorem Qfq {g X : Int} (hg : 0 < g) (h : Fit (g * X)) : Fit X := by
  have h1 : X.natAbs ≤ (g * X).natAbs := by
    rw [Int.natAbs_mul]
    exact Nat.le_mul_of_pos_left _ (by omega)
  unfold Fit at *
  obtain ⟨h2,h3⟩ := h
  rcases Int.lt_or_le X 0 with hX|hX
  · have h4 : g * X < 0 := Int.mul_neg_of_pos_of_neg hg hX
    omega
  · have h4 : 0 ≤ g * X := Int.mul_nonneg (by omega) hX
    omega
end Go.Proofs.Ytdfdmeoalbpcdaa

set_option linter.unusedSimpArgs false
set_option linter.unusedVariables false
set_option maxRecDepth 100000
namespace Go.Proofs.Ytdfdmeoalbpcdaa
open Go Go.RowKit
/-! ### A limb of a number that was taken down -/
/-- The limbs of a number that was taken down, so many of them. -/
def rf (x : Int) (n k : Nat) : Nat → Int := fun j => if j < k then lb (x / 2 ^ n) j else 0
end Go.Proofs.Ytdfdmeoalbpcdaa

set_option linter.unusedSimpArgs false
set_option linter.unusedVariables false
set_option maxRecDepth 100000
namespace Go.Proofs.Ytdfdmeoalbpcdaa
open Go Go.RowKit
/-- Is there such a multiple by a power of two? -/
def shok (a n : Int) : Prop := 0 ≤ n ∧ (a = 0 ∨ (n ≤ 511 ∧ Fit (a * 2 ^ n.toNat)))
instance (a n : Int) : Decidable (shok a n) := inferInstanceAs (Decidable (_ ∧ (_ ∨ (_ ∧ _))))
/-! ### Small ones -/
instance (n : Int) : Decidable (I64 n) := inferInstanceAs (Decidable (_ ∧ _))
end Go.Proofs.Ytdfdmeoalbpcdaa

set_option linter.unusedSimpArgs false
set_option linter.unusedVariables false
set_option maxRecDepth 100000
namespace Go.Proofs.Ytdfdmeoalbpcdaa
open Go Go.RowKit
attribute [local irreducible] wpList
/-! ### Brought in -/
/-! ### Further up -/
end Go.Proofs.Ytdfdmeoalbpcdaa

set_option linter.unusedVariables false
set_option maxRecDepth 100000
namespace Go.Proofs.Ytdfdmeoalbpcdaa
open Go Go.ChangeShapes Go.WideShapes Go.ChangeAt Go.RowKit Go.Joins
/-! ### Slices of points -/
theorem pcs_of : ∀ (ps : List P3) (bc : List Value) (off : Nat),(∀ i p,ps[i]? = some p → bc[off + i * 3]? = some (.int .i64 p.x) ∧ bc[off + i * 3 + 1]? = some (.int .i64 p.y) ∧ bc[off + i * 3 + 2]? = some (.int .i64 p.z)) → (bc.drop off).take (ps.length * 3) = pcs ps
  | [],_,_,_ => by simp [pcs]
  | p :: ps,bc,off,h => by
    obtain ⟨h0,h1,h2⟩ := h 0 p rfl
    have cons : ∀ {k : Nat} {v : Value},bc[k]? = some v → bc.drop k = v :: bc.drop (k + 1) := fun {k v} hk => by
      obtain ⟨hlt,rfl⟩ := List.getElem?_eq_some_iff.1 hk
      exact List.drop_eq_getElem_cons hlt
    simp only [Nat.zero_mul,Nat.add_zero] at h0 h1 h2
    rw [cons h0,cons h1,cons h2,List.length_cons,Nat.add_mul,Nat.one_mul,pcs]
    simp only [n1,show ps.length * 3 + 3 = (ps.length * 3 + 2) + 1 by omega]
    congr 3
    exact pcs_of ps bc (off + 1 + 1 + 1) fun i q hq => by
      have := h (i + 1) q hq
      rw [show off + 1 + 1 + 1 + i * 3 = off + (i + 1) * 3 by omega]
      exact this
/-- A slice of points that came in. -/
theorem Qkm {H : Type} {enc : TypeId × Value → H} {W : World} {r : Reach} {b0 base : Nat} {spare : Nat → Bool} {held : Bool} {v : Value} {d : DataW H} {p : List MemPlace}
    (hv : Value.okWide Try.prog W r b0 22 v) (h : DataW.Trod enc Try.prog W base spare held 22 v d p) : ∃ ps : List P3,PSl W v ps ∧ ps.length ≤ maxLen ∧ ∀ q ∈ ps,q.i64 := by
  have hu := Try.underlying22
  have hok : Cell.ok Try.prog W r b0 22 v := by
    simpa only [Value.okWide,hu,Cell.okWide] using hv
  unfold Cell.ok at hok
  rw [hu] at hok
  obtain ⟨fuel,h⟩ := h
  rcases Deep.open_slice hu h with ⟨h1,_⟩|⟨a,len,cap,m,n,D,Pl,h1,_,hlc,hcm,hm,_,hx⟩
  · refine ⟨[],.inl ⟨?_,rfl⟩,Nat.zero_le _,by simp⟩
    cases v <;> first|(exact hok.elim)|(simp [Value.cells] at h1;obtain ⟨rfl,rfl,rfl⟩ := h1;rfl)
  · obtain rfl : v = .slice (some a) len cap := by
      cases v <;> first|(exact hok.elim)|(simp [Value.cells] at h1;obtain ⟨rfl,rfl,rfl⟩ := h1;rfl)
    obtain ⟨_,_,hhas⟩ := hok
    obtain ⟨_,hsp,row,cells,hshape,_⟩ := hhas
    obtain ⟨g,off,spot⟩ := a
    dsimp only at hsp hshape
    subst hsp
    obtain ⟨c,t,z,hblk⟩ : ∃ c t z,W.heap[g]? = some (.cells c t z) := by
      unfold World.shape? at hshape
      split at hshape
      · rename_i c t z hq;exact ⟨c,t,z,hq⟩
      · cases hshape
    have hlm : len ≤ m := by rw [hm];split <;> omega
    have hone : ∀ i,i < len → ∃ q : P3,q.i64 ∧ c.toList[off + i * 3]? = some (.int .i64 q.x) ∧ c.toList[off + i * 3 + 1]? = some (.int .i64 q.y) ∧ c.toList[off + i * 3 + 2]? = some (.int .i64 q.z) := by
      intro i hi
      obtain ⟨cs',hc,ht⟩ := hx i (by omega)
      rw [cellsPoint] at hc
      obtain ⟨_,hlen,hcell⟩ := World.cells?_some hc
      obtain ⟨xs,k,_,_,_,hxl,hf⟩ := DataW.trod_struct Try.underlying24 ht
      match xs,hxl,cs',hlen with
      | [y0,y1,y2],_,[v0,v1,v2],_ =>
        have g0 := hf 0 _ rfl
        have g1 := hf 1 _ rfl
        have g2 := hf 2 _ rfl
        have ci : Try.prog.cellsOf 2 = 1 := by kernel_rfl
        simp [ci] at g0 g1 g2
        obtain ⟨x,e0,_,w0⟩ := DataW.trod_int Try.underlying2 g0
        obtain ⟨y,e1,_,w1⟩ := DataW.trod_int Try.underlying2 g1
        obtain ⟨z',e2,_,w2⟩ := DataW.trod_int Try.underlying2 g2
        simp at e0 e1 e2
        subst e0 e1 e2
        have c0 := hcell 0 (by omega)
        have c1 := hcell 1 (by omega)
        have c2 := hcell 2 (by omega)
        simp only [Qnt,cell_of_row W g _ c t z hblk] at c0 c1 c2
        refine ⟨⟨x,y,z'⟩,⟨i64_wf w0,i64_wf w1,i64_wf w2⟩,?_,?_,?_⟩
        · simpa using c0
        · simpa using c1
        · simpa using c2
    haveI : Inhabited P3 := ⟨⟨0,0,0⟩⟩
    obtain ⟨f,hf⟩ := Deep.choose_lt hone
    refine ⟨(List.range len).map f,.inr ⟨g,off,cap,c.toList,t,z,by simp,by simpa using hblk,?_⟩,by simp;omega,?_⟩
    · refine pcs_of _ _ _ fun i q hq => ?_
      simp only [List.getElem?_map,Option.map_eq_some_iff] at hq
      obtain ⟨j,hj,rfl⟩ := hq
      obtain ⟨hi,rfl⟩ := List.getElem?_eq_some_iff.1 hj
      simp only [List.length_range] at hi
      simp only [List.getElem_range]
      exact (hf i hi).2
    · intro q hq
      obtain ⟨i,hi,rfl⟩ := List.mem_map.1 hq
      exact (hf i (List.mem_range.1 hi)).1
end Go.Proofs.Ytdfdmeoalbpcdaa
