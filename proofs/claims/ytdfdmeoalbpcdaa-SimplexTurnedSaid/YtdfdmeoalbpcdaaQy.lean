/-
  SimplexTurned: the contract of the law.
-/
import Derived.Test.YtdfdmeoalbpcdaaQx
import Derived.Test.YtdfdmeoalbpcdaaQw
set_option linter.unusedSimpArgs false
set_option linter.unusedVariables false
set_option maxRecDepth 100000
namespace Go.Proofs.Ytdfdmeoalbpcdaa
open Go Go.RowKit
attribute [local irreducible] wpList
theorem tmod_bd (a : Int) {n : Nat} (h : 0 < n) : -(n : Int) < a.tmod n ∧ a.tmod n < n := by
  have hn : (0 : Int) < n := by omega
  rcases Int.le_total 0 a with h0|h0
  · rw [Int.tmod_eq_emod_of_nonneg h0]
    have h1 := Int.emod_nonneg a (b := (n : Int)) (by omega)
    have h2 := Int.emod_lt_of_pos a hn
    omega
  · have e : a.tmod n = -((-a).tmod n) := by rw [Int.neg_tmod,Int.neg_neg]
    rw [e,Int.tmod_eq_emod_of_nonneg (by omega)]
    have h1 := Int.emod_nonneg (-a) (b := (n : Int)) (by omega)
    have h2 := Int.emod_lt_of_pos (-a) hn
    omega
theorem Qnn {l m : List P3} (h : Qdn l = 0) (h' : Qdn m = 0) (hm : ∀ p,p ∈ l ↔ p ∈ m) : Qcm l = Qcm m := by
  obtain ⟨hF,_,hN⟩ := Qfh h
  obtain ⟨hG,_,hM⟩ := Qfh h'
  rw [hN,hM]
  exact nrm_same (Qip hF.ok.1) (Qip hG.ok.1) (succ_one hF.ok ⟨hG.ok.1,hG.ok.2.1,hG.ok.2.2.mono fun p hp => (hm p).1 hp⟩ hF.mem fun p hp => (hm p).2 (hG.mem p hp))
theorem Qnp {m : List P3} (h1 : 1 ≤ m.length) (h4 : m.length ≤ 4) (hf : ∀ p ∈ m,p.may) : Qdn m = 0 :=
  nearE_zero.2 ⟨h1,h4,by unfold Qdm;simpa using hf⟩
theorem pcs_take (l : List P3) (k : Nat) (hk : k ≤ l.length) : (pcs l).take (k * 3) = pcs (l.take k) := by
  have e : pcs l = pcs (l.take k) ++ pcs (l.drop k) := by rw [← Qcu,List.take_append_drop]
  have hl : (pcs (l.take k)).length = k * 3 := by rw [Qbz,List.length_take,Nat.min_eq_left hk]
  rw [e,← hl,List.take_left]
theorem pcs_dropk (l : List P3) (k : Nat) (hk : k ≤ l.length) : (pcs l).drop (k * 3) = pcs (l.drop k) := by
  have e : pcs l = pcs (l.take k) ++ pcs (l.drop k) := by rw [← Qcu,List.take_append_drop]
  have hl : (pcs (l.take k)).length = k * 3 := by rw [Qbz,List.length_take,Nat.min_eq_left hk]
  rw [e,← hl,List.drop_left]
theorem Qpf {v : Value} {w : World} (l : List P3) (hlen : l.length ≤ maxLen) (_ : ∀ q ∈ l,q.i64) (h : PSl w v l) (hcap : ∀ b n c,v = .slice b n c → n ≤ c) (turn : Int) (_ : I64 turn) : Calls Try.prog 4 #[v,.int .i64 turn] w (Ret (.bool true) w) := by
  have NR : ∀ w1,Keep [] w w1 → Calls Try.prog 8 #[v] w1 (Qem (Qcm l).1 (Qcm l).2 (Qco l) (Qdn l) w1) := fun w1 hk => Qea hlen w1 (h.keep hk)
  by_cases hE : Qdn l = 0
  · obtain ⟨h1,h4,hf⟩ := nearE_zero.1 hE
    have hm := Qjt hf
    have hne := Qnx hE
    rw [hE] at NR
    rcases h with ⟨rfl,rfl⟩|⟨g,off,cap,bc,t,z,rfl,hb,hv⟩
    · simp at h1
    obtain ⟨b1,b2⟩ := tmod_bd turn (n := l.length) (by omega)
    obtain ⟨k,hk,hrk⟩ : ∃ k : Nat,k < l.length ∧ (turn.tmod l.length = k ∨ turn.tmod l.length = k - l.length) := by
      rcases Int.le_total 0 (turn.tmod l.length) with h0|h0
      · exact ⟨(turn.tmod l.length).toNat,by omega,by omega⟩
      · by_cases h00 : turn.tmod l.length = 0
        · exact ⟨0,by omega,by omega⟩
        · exact ⟨(turn.tmod l.length + l.length).toNat,by omega,by omega⟩
    obtain ⟨p0,hp0⟩ : ∃ p,l[0]? = some p := by
      cases l with
      | nil => simp at h1
      | cons p l => exact ⟨p,rfl⟩
    have hroom := (Qdv hv).resolve_left (by intro h0;rw [h0] at h1;simp at h1)
    have hp0m : p0 ∈ l := List.mem_of_getElem? hp0
    have hx := Qhk hv hp0
    rw [Nat.zero_mul,Nat.add_zero] at hx
    have hperm : (l.drop k ++ l.take k).Perm l := by
      have := (List.perm_append_comm (l₁ := l.drop k) (l₂ := l.take k))
      rwa [List.take_append_drop] at this
    have hTl : (l.drop k ++ l.take k).length = l.length := hperm.length_eq
    have hTm : ∀ p,p ∈ l ↔ p ∈ l.drop k ++ l.take k := fun p => (hperm.mem_iff).symm
    have hET : Qdn (l.drop k ++ l.take k) = 0 := Qnp (by rw [hTl];exact h1) (by rw [hTl];exact h4) fun p hp => hm p ((hTm p).2 hp)
    have hNT := Qnn hE hET hTm
    have hjs : (Qco (l.drop k ++ l.take k)).length = (Qco l).length := (Qou hperm.symm (Qfh hE).1 (Qfh hET).1).symm
    have lA : (pcs (l.drop k)).length = (l.length - k) * 3 := by rw [Qbz,List.length_drop]
    have lB : (pcs (l.take k)).length = k * 3 := by rw [Qbz,List.length_take,Nat.min_eq_left (by omega)]
    have hAB : (pcs (l.drop k) ++ pcs (l.take k)).length = l.length * 3 := by rw [← Qcu,Qbz,hTl]
    have hA : (bc.drop (off + k * 3)).take ((l.length - k) * 3) = pcs (l.drop k) := by
      rw [← pcs_dropk l k (by omega),← hv,List.drop_take,List.drop_drop,Nat.sub_mul]
    have hB : (bc.drop off).take (k * 3) = pcs (l.take k) := by
      rw [← pcs_take l k (by omega),← hv,List.take_take,Nat.min_eq_left (by omega)]
    have NT : ∀ (g cap : Nat) (cs : List Value) (w1 : World),w1.heap[g]? = some (.cells cs.toArray 24 (0,0)) → cs.take ((pcs (l.drop k)).length + (pcs (l.take k)).length) = pcs (l.drop k) ++ pcs (l.take k) → Calls Try.prog 8 #[.slice (some ⟨g,0,none⟩) l.length cap] w1 (Qem (Qcm l).1 (Qcm l).2 (Qco (l.drop k ++ l.take k)) 0 w1) := by
      intro g1 cap1 cs w1 hb1 hc
      have := Qea (l := l.drop k ++ l.take k) (by rw [hTl];exact hlen) w1 (Qmx (n := l.length) (cap := cap1) hb1 hTl.symm (by rw [← hAB,List.length_append,hc,Qcu]))
      rw [hET,← hNT] at this
      exact this
    have SM : ∀ s s' w1,Calls Try.prog 14 #[NrV (Qcm l).1.x (Qcm l).1.y (Qcm l).1.z (Qcm l).2 s,NrV (Qcm l).1.x (Qcm l).1.y (Qcm l).1.z (Qcm l).2 s'] w1 (Ret (.bool true) w1) := by
      intro s s' w1
      have := same_any (Qjz hE) (Qjz hE) s s' w1
      rwa [decide_eq_true ⟨rfl,rfl⟩] at this
    have hnc : l.length ≤ cap := hcap _ _ _ rfl
    by_cases hl4 : l.length = 4
    · exact Qpg (l.drop k) (l.take k) l.length k turn _ p0 g off cap bc t z hl4 hnc hk rfl hrk (Qcm l).1 (Qcm l).2 (Qco l) (Qco (l.drop k ++ l.take k)) (Qco l) hne hjs hne w hb hA lA (Qjw _) hB lB (Qjw _) hx (by omega) hAB NR NT SM
    · have hTm' : ∀ p,p ∈ l ↔ p ∈ (l.drop k ++ l.take k) ++ [p0] := fun p => by
        rw [List.mem_append,← hTm p]
        constructor
        · exact .inl
        · rintro (h|h)
          · exact h
          · simp only [List.mem_singleton] at h;rw [h];exact hp0m
      have hTl' : ((l.drop k ++ l.take k) ++ [p0]).length = l.length + 1 := by rw [List.length_append,hTl];rfl
      have hEO : Qdn ((l.drop k ++ l.take k) ++ [p0]) = 0 := Qnp (by omega) (by omega) fun p hp => hm p ((hTm' p).2 hp)
      have hNO := Qnn hE hEO hTm'
      refine turned_in (l.drop k) (l.take k) l.length k turn _ p0 g off cap bc t z (by omega) hnc hk rfl hrk (Qcm l).1 (Qcm l).2 (Qco l) (Qco (l.drop k ++ l.take k)) (Qco ((l.drop k ++ l.take k) ++ [p0])) hne hjs (Qnx hEO) w hb hA lA (Qjw _) hB lB (Qjw _) hx (by omega) hAB NR NT ?_ SM
      intro g1 cap1 cs w1 hb1 hc
      have := Qea (l := (l.drop k ++ l.take k) ++ [p0]) (by unfold maxLen;omega) w1 (Qmx (n := l.length + 1) (cap := cap1) hb1 hTl'.symm (by
        have e : (l.length + 1) * 3 = (pcs (l.drop k)).length + (pcs (l.take k)).length + 3 := by rw [← List.length_append,hAB];omega
        rw [e,hc,Qcu,Qcu];rfl))
      rw [hEO,← hNO] at this
      exact this
  · have hK : Qco l = [] := by unfold Qco;rw [if_neg hE]
    rw [hK] at NR
    refine Qpd v turn (Qcm l).1 (Qcm l).2 (Qdn l) ?_ w NR
    unfold Qdn at hE ⊢
    split
    · exact .inl rfl
    · rename_i h0
      split
      · exact .inr rfl
      · rename_i h2;rw [if_neg h0,if_neg h2] at hE;exact absurd rfl hE
end Go.Proofs.Ytdfdmeoalbpcdaa
