/-
  The arguments of a law: slices of what is Inert, of Rows.
-/
import Derived.Test.YtblffafmkpnjdaaGreatLq
import Derived.Test.YtblffafmkpnjdaaGreatYl
import Derived.Test.YtblffafmkpnjdaaGreatUl
import Derived.WalkKit
import Derived.ProofKit
import Derived.OpenShut
import Derived.ShutString
import Derived.ChangeOld
import Derived.Below
import Derived.Lib.SmallJoins
import Derived.Deep.Slices
set_option linter.unusedVariables false
set_option maxRecDepth 100000
namespace Go.Proofs.YtblffafmkpnjdaaGreat
open Go Go.ChangeShapes Go.WideShapes Go.ChangeAt Go.RowKit Go.Joins
theorem fl_of {α : Type} {F : α → List Value} {m : Nat} : ∀ (L : List α) (bc : List Value) (off : Nat),(∀ i x,L[i]? = some x → (bc.drop (off + i * m)).take m = F x) → (bc.drop off).take (L.length * m) = L.flatMap F
  | [],_,_,_ => by simp
  | x :: L,bc,off,h => by
    have h0 := h 0 x rfl
    rw [Nat.zero_mul,Nat.add_zero] at h0
    rw [List.length_cons,Nat.succ_mul,Nat.add_comm,List.take_add,h0,List.drop_drop,List.flatMap_cons,fl_of L bc (off + m) fun i y hy => ?_]
    have := h (i + 1) y hy
    rw [Nat.succ_mul] at this
    rw [show off + m + i * m = off + (i * m + m) by omega]
    exact this
theorem Qlq {α : Type} [Inhabited α] {F : α → List Value} {Q : α → Prop} {m : Nat} {s e : TypeId} {H : Type} {enc : TypeId × Value → H} {W : World} {r : Reach} {b0 base : Nat} {spare : Nat → Bool} {held : Bool} {v : Value} {d : DataW H} {p : List MemPlace}
    (hu : Tryz.prog.underlying s = some (.slice e)) (hm' : Tryz.prog.cellsOf e = m) (hfl : Flat enc W base spare held e)
    (mk : ∀ f : Nat → Int,(∀ i,i < m → I64 (f i)) → ∃ x : α,Q x ∧ F x = (List.range m).map fun i => Value.int .i64 (f i))
    (hv : Value.okWide Tryz.prog W r b0 s v) (h : DataW.Trod enc Tryz.prog W base spare held s v d p) : ∃ L : List α,FSl F m W v L ∧ L.length ≤ maxLen ∧ ∀ x ∈ L,Q x := by
  have hok : Cell.ok Tryz.prog W r b0 s v := by
    simpa only [Value.okWide,hu,Cell.okWide] using hv
  unfold Cell.ok at hok
  rw [hu] at hok
  obtain ⟨fuel,h⟩ := h
  rcases Deep.open_slice hu h with ⟨h1,_⟩ | ⟨a,len,cap,m2,n,D,Pl,h1,_,hlc,hcm,hm,_,hx⟩
  · refine ⟨[],.inl ⟨?_,rfl⟩,Nat.zero_le _,by simp⟩
    cases v <;> first | (exact hok.elim) | (simp [Value.cells] at h1;obtain ⟨rfl,rfl,rfl⟩ := h1;rfl)
  · obtain rfl : v = .slice (some a) len cap := by
      cases v <;> first | (exact hok.elim) | (simp [Value.cells] at h1;obtain ⟨rfl,rfl,rfl⟩ := h1;rfl)
    obtain ⟨_,_,hhas⟩ := hok
    obtain ⟨_,hsp,row,cells,hshape,_⟩ := hhas
    obtain ⟨g,off,spot⟩ := a
    dsimp only at hsp hshape
    subst hsp
    obtain ⟨c,t,z,hblk⟩ : ∃ c t z,W.heap[g]? = some (.cells c t z) := by
      unfold World.shape? at hshape
      split at hshape
      · rename_i c t z hq;exact ⟨c,t,z,hq⟩
      · cases hshape
    have hlm : len ≤ m2 := by rw [hm];split <;> omega
    have hone : ∀ i,i < len → ∃ x : α,Q x ∧ (c.toList.drop (off + i * m)).take m = F x := by
      intro i hi
      obtain ⟨cs',hc,ht⟩ := hx i (by omega)
      rw [hm'] at hc
      obtain ⟨_,hlen,hcell⟩ := World.cells?_some hc
      have one : ∀ j,j < m → ∃ n : Int,cs'[j]? = some (.int .i64 n) ∧ I64 n := fun j hj => hfl _ cs' _ ht j (by omega)
      obtain ⟨f,hf⟩ := Deep.choose_lt one
      obtain ⟨x,hx1,hx2⟩ := mk f fun i hi => (hf i hi).2
      refine ⟨x,hx1,?_⟩
      rw [hx2]
      apply List.ext_getElem?
      intro j
      rw [List.getElem?_take]
      by_cases hj : j < m
      · have c0 := hcell j (by omega)
        simp only [Qjx,cell_of_row W g _ c t z hblk] at c0
        have e1 := (hf j hj).1
        obtain ⟨hj2,e2⟩ := List.getElem?_eq_some_iff.1 e1
        rw [if_pos hj,List.getElem?_drop,List.getElem?_map,List.getElem?_range hj,Array.getElem?_toList,c0,e1]
        rfl
      · rw [if_neg hj,List.getElem?_eq_none (by simp;omega)]
    obtain ⟨f,hf⟩ := Deep.choose_lt hone
    refine ⟨(List.range len).map f,.inr ⟨g,off,cap,c.toList,t,z,by simp,by simpa using hblk,?_⟩,by simp;omega,?_⟩
    · refine fl_of _ _ _ fun i q hq => ?_
      simp only [List.getElem?_map,Option.map_eq_some_iff] at hq
      obtain ⟨j,hj,rfl⟩ := hq
      obtain ⟨hi,rfl⟩ := List.getElem?_eq_some_iff.1 hj
      simp only [List.length_range] at hi
      simp only [List.getElem_range]
      exact (hf i hi).2
    · intro q hq
      obtain ⟨i,hi,rfl⟩ := List.mem_map.1 hq
      exact (hf i (List.mem_range.1 hi)).1
instance : Inhabited Inr := ⟨zI⟩
instance : Inhabited Rw := ⟨zR⟩
theorem Qow {H : Type} {enc : TypeId × Value → H} {W : World} {r : Reach} {b0 base : Nat} {spare : Nat → Bool} {held : Bool} {v : Value} {d : DataW H} {p : List MemPlace}
    (hv : Value.okWide Tryz.prog W r b0 35 v) (h : DataW.Trod enc Tryz.prog W base spare held 35 v d p) : ∃ L : List Inr,FSl NVl 16 W v L ∧ L.length ≤ maxLen ∧ ∀ x ∈ L,x.i64 :=
  Qlq Tryz.underlying35 (by kernel_rfl) flat_inert (fun f hf => ⟨⟨f 0,⟨f 1,f 2,f 3⟩,⟨f 4,f 5,f 6⟩,⟨f 7,f 8,f 9⟩,⟨f 10,f 11,f 12⟩,⟨f 13,f 14,f 15⟩⟩,⟨hf 0 (by omega),⟨hf 1 (by omega),hf 2 (by omega),hf 3 (by omega)⟩,⟨hf 4 (by omega),hf 5 (by omega),hf 6 (by omega)⟩,⟨hf 7 (by omega),hf 8 (by omega),hf 9 (by omega)⟩,⟨hf 10 (by omega),hf 11 (by omega),hf 12 (by omega)⟩,⟨hf 13 (by omega),hf 14 (by omega),hf 15 (by omega)⟩⟩,rfl⟩) hv h
theorem open_rows {H : Type} {enc : TypeId × Value → H} {W : World} {r : Reach} {b0 base : Nat} {spare : Nat → Bool} {held : Bool} {v : Value} {d : DataW H} {p : List MemPlace}
    (hv : Value.okWide Tryz.prog W r b0 36 v) (h : DataW.Trod enc Tryz.prog W base spare held 36 v d p) : ∃ L : List Rw,FSl RVl 25 W v L ∧ L.length ≤ maxLen ∧ ∀ x ∈ L,x.i64f :=
  Qlq Tryz.underlying36 (by kernel_rfl) flat_row (fun f hf => ⟨⟨f 0,f 1,⟨f 2,f 3,f 4⟩,⟨f 5,f 6,f 7⟩,⟨f 8,f 9,f 10⟩,⟨f 11,f 12,f 13⟩,⟨f 14,f 15,f 16⟩,f 17,f 18,f 19,f 20,f 21,f 22,f 23,f 24⟩,by
    refine ⟨⟨?_,?_,⟨?_,?_,?_⟩,⟨?_,?_,?_⟩,⟨?_,?_,?_⟩,⟨?_,?_,?_⟩,⟨?_,?_,?_⟩⟩,⟨?_,?_,?_,?_,?_,?_,?_,?_⟩⟩ <;> exact hf _ (by omega),rfl⟩) hv h
end Go.Proofs.YtblffafmkpnjdaaGreat
