/-
  Slices that read as lists: laws of their own.
-/
import Derived.Test.YtdfdmeoalbpcdaaQr
set_option linter.unusedSimpArgs false
set_option linter.unusedVariables false
set_option maxRecDepth 100000
namespace Go.Proofs.Ytdfdmeoalbpcdaa
open Go Go.RowKit
attribute [local irreducible] wpList
section
variable {α : Type} (f : α → List Value) (m : Nat)
theorem Qif (hf : ∀ x,(f x).length = m) (L : List α) : (L.flatMap f).length = L.length * m := by
  induction L with
  | nil => simp
  | cons x L ih => rw [List.flatMap_cons,List.length_append,hf,ih,List.length_cons,Nat.succ_mul];omega
/-- The cells, parted at one element. -/
theorem fl_split (hf : ∀ x,(f x).length = m) (L : List α) (k : Nat) (h : k < L.length) (j : List Value) : ∃ pre post,pre.length = k * m ∧ L.flatMap f ++ j = pre ++ (f L[k] ++ post) ∧ ∀ x,(L.set k x).flatMap f ++ j = pre ++ (f x ++ post) := by
  refine ⟨(L.take k).flatMap f,(L.drop (k + 1)).flatMap f ++ j,by rw [Qif f m hf,List.length_take,Nat.min_eq_left (by omega)],?_,fun x => ?_⟩
  · have e : L = L.take k ++ (L[k] :: L.drop (k + 1)) := by rw [List.getElem_cons_drop];exact (List.take_append_drop k L).symm
    conv => lhs;rw [e]
    rw [List.flatMap_append,List.flatMap_cons]
    simp [List.append_assoc]
  · rw [List.set_eq_take_append_cons_drop,if_pos h,List.flatMap_append,List.flatMap_cons]
    simp [List.append_assoc]
end
/-- A slice that reads as a list. -/
def FSl {α : Type} (f : α → List Value) (m : Nat) (w : World) (v : Value) (L : List α) : Prop :=
  (v = .slice none 0 0 ∧ L = []) ∨ ∃ g off cap bc t z,v = .slice (some ⟨g,off,none⟩) L.length cap ∧ w.heap[g]? = some (.cells (bc : List Value).toArray t z) ∧ (bc.drop off).take (L.length * m) = L.flatMap f
theorem FSl.keep {α : Type} {f : α → List Value} {m : Nat} {w w' : World} {v : Value} {L : List α} (h : FSl f m w v L) (hk : Keep [] w w') : FSl f m w' v L := by
  rcases h with h|⟨g,off,cap,bc,t,z,h1,h2,h3⟩
  · exact .inl h
  · refine .inr ⟨g,off,cap,bc,t,z,h1,?_,h3⟩
    exact hk.some h2
theorem FSl.own {α : Type} {f : α → List Value} {m : Nat} {w : World} {g cap n : Nat} {t : TypeId} {L : List α} {junk : List Value} (hf : ∀ x,(f x).length = m) (hn : n = L.length) (h : w.heap[g]? = some (.cells (L.flatMap f ++ junk).toArray t (0,0))) : FSl f m w (.slice (some ⟨g,0,none⟩) n cap) L := by
  subst hn
  refine .inr ⟨g,0,cap,_,_,_,rfl,h,?_⟩
  rw [List.drop_zero,← Qif f m hf,List.take_left]
theorem FSl.shape {α : Type} {f : α → List Value} {m : Nat} {w : World} {v : Value} {L : List α} (h : FSl f m w v L) : ∃ b c,v = .slice b L.length c := by
  rcases h with ⟨rfl,rfl⟩|⟨g,off,cap,_,_,_,rfl,_⟩
  · exact ⟨none,0,rfl⟩
  · exact ⟨_,cap,rfl⟩
theorem fl_at {α : Type} {f : α → List Value} {m : Nat} (hm : 0 < m) (hf : ∀ x,(f x).length = m) {bc : List Value} {off : Nat} {L : List α} (h : (bc.drop off).take (L.length * m) = L.flatMap f) {k : Nat} (hk : k < L.length) : (bc.drop (off + k * m)).take m = f L[k] ∧ off + k * m + m ≤ bc.length := by
  obtain ⟨pre,post,h1,h2,_⟩ := fl_split f m hf L k hk []
  rw [List.append_nil,← h] at h2
  have hl : L.length * m = k * m + m + (L.length - k - 1) * m := by
    rw [← Nat.succ_mul,← Nat.add_mul];congr 1;omega
  have hlen := congrArg List.length h2
  simp only [List.length_append,List.length_take,List.length_drop,hf,h1] at hlen
  have h3 : ((bc.drop off).take (L.length * m)).drop (k * m) = (f L[k] ++ post) := by rw [h2,← h1,List.drop_left]
  rw [List.drop_take,List.drop_drop] at h3
  have h4 := congrArg (List.take m) h3
  have e9 : ((f L[k]) ++ post).take m = f L[k] := by rw [List.take_append_of_le_length (Nat.le_of_eq (hf _).symm),List.take_of_length_le (Nat.le_of_eq (hf _))]
  rw [e9,List.take_take,Nat.min_eq_left (by omega)] at h4
  refine ⟨h4,?_⟩
  have h5 := congrArg List.length h4
  rw [hf,List.length_take,List.length_drop] at h5
  omega
/-- A slice that reads as a list that is not empty. -/
theorem FSl.some {α : Type} {f : α → List Value} {m : Nat} {w : World} {v : Value} {L : List α} (h : FSl f m w v L) (hn : L ≠ []) : ∃ g off cap bc t z,v = .slice (some ⟨g,off,none⟩) L.length cap ∧ w.heap[g]? = some (.cells (bc : List Value).toArray t z) ∧ (bc.drop off).take (L.length * m) = L.flatMap f :=
  h.resolve_left fun h => hn h.2
end Go.Proofs.Ytdfdmeoalbpcdaa
