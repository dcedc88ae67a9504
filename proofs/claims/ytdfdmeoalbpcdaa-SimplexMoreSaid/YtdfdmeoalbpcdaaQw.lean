/-
  SimplexMore: the contract of the law.
-/
import Derived.Test.YtdfdmeoalbpcdaaQv
import Derived.Test.YtdfdmeoalbpcdaaGe
set_option linter.unusedSimpArgs false
set_option linter.unusedVariables false
set_option maxRecDepth 100000
namespace Go.Proofs.Ytdfdmeoalbpcdaa
open Go Go.RowKit
attribute [local irreducible] wpList
theorem less_nrm {X Y : P3} {D E : Int} (hD : 0 < D) (hE : 0 < E) (h : D * D * Y.dot Y < E * E * X.dot X) : (nrm X D).2 * (nrm X D).2 * ((nrm Y E).1.dot (nrm Y E).1) < (nrm Y E).2 * (nrm Y E).2 * ((nrm X D).1.dot (nrm X D).1) := by
  obtain ⟨a1,a2,a3⟩ := Qij X hD
  obtain ⟨b1,b2,b3⟩ := Qij Y hE
  generalize (nrm X D).1 = N at *
  generalize (nrm X D).2 = d at *
  generalize (nrm Y E).1 = M at *
  generalize (nrm Y E).2 = e at *
  generalize (gc X D : Int) = g at *
  generalize (gc Y E : Int) = k at *
  have q1 : X.dot X = g * g * N.dot N := by
    have := congrArg (fun Z : P3 => Z.dot Z) a1
    simp only [dotS,dotT] at this
    rw [this];grind
  have q2 : Y.dot Y = k * k * M.dot M := by
    have := congrArg (fun Z : P3 => Z.dot Z) b1
    simp only [dotS,dotT] at this
    rw [this];grind
  rw [q1,q2,a2,b2] at h
  refine Int.not_le.1 fun hc => ?_
  have hn : 0 ≤ (g * k) * (g * k) := by
    rcases Int.le_total 0 (g * k) with h0|h0
    · exact Int.mul_nonneg h0 h0
    · exact Int.mul_nonneg_of_nonpos_of_nonpos h0 h0
  have := Int.mul_le_mul_of_nonneg_left hc hn
  have l1 : g * d * (g * d) * (k * k * M.dot M) = (g * k) * (g * k) * (d * d * M.dot M) := by grind
  have l2 : k * e * (k * e) * (g * g * N.dot N) = (g * k) * (g * k) * (e * e * N.dot N) := by grind
  omega
theorem Qpb {l : List P3} {p : P3} (h : Qee l = 0) (h3 : l.length ≤ 3) (hp : p.may) : Qee (l ++ [p]) = 0 := by
  obtain ⟨h1,h4,hf⟩ := nearE_zero.1 h
  refine nearE_zero.2 ⟨by simp,by simpa using h3,?_⟩
  unfold Qdw at hf ⊢
  rw [List.all_append,hf]
  simp [hp]
theorem cmp_same (a : Int) : cmp a a = 0 := by unfold cmp;rw [if_neg (by omega),if_pos rfl]
theorem Qma {l : List P3} {p : P3} (h : Qee l = 0) (h' : Qee (l ++ [p]) = 0) (hp : p.may) :
    (Nopast (Qcc l).1 (Qcc l).2 [p] → Qcc l = Qcc (l ++ [p])) ∧ (¬Nopast (Qcc l).1 (Qcc l).2 [p] → (Qcc l).2 * (Qcc l).2 * ((Qcc (l ++ [p])).1.dot (Qcc (l ++ [p])).1) < (Qcc (l ++ [p])).2 * (Qcc (l ++ [p])).2 * ((Qcc l).1.dot (Qcc l).1)) := by
  obtain ⟨hF,_,hN⟩ := Qhw h
  obtain ⟨hG,_,hM⟩ := Qhw h'
  have w1 := Qfx hF.ok.1
  have w2 := Qfx hG.ok.1
  rw [hN,hM]
  constructor
  · intro hn
    exact nrm_same w1 w2 (more_same hF.ok hG.ok hF.mem hG.mem ((Qkm _ w1 _).1 hn))
  · intro hn
    exact less_nrm w1 w2 (more_past hF.ok hG.ok hF.mem fun hc => hn ((Qkm _ w1 _).2 hc))
theorem Qnx {l : List P3} (h : Qee l = 0) : Qdt l ≠ [] := by
  obtain ⟨hF,_⟩ := Qhw h
  have := (Qkc hF.ok.1).1
  intro h0
  rw [h0] at this
  simp [pts] at this
theorem more_law {v : Value} {w : World} (l : List P3) (hlen : l.length ≤ maxLen) (_ : ∀ q ∈ l,q.i64) (h : PSl w v l) (p : P3) (_ : p.i64) : Calls Try.prog 5 #[v,PV p] w (Ret (.bool true) w) := by
  have NR : ∀ w1,Keep [] w w1 → Calls Try.prog 8 #[v] w1 (Qfd (Qcc l).1 (Qcc l).2 (Qdt l) (Qee l) w1) := fun w1 hk => Qfa hlen w1 (h.keep hk)
  have CK : ∀ w1,Calls Try.prog 15 #[PV p] w1 (Ret (.int .i64 (if p.may then 0 else 7)) w1) := fun w1 => Qlj p w1
  by_cases hE : Qee l = 0
  · obtain ⟨h1,h4,hf⟩ := nearE_zero.1 hE
    have hne := Qnx hE
    rw [hE] at NR
    rcases h with ⟨rfl,rfl⟩|⟨g,off,cap,bc,t,z,rfl,hb,hv⟩
    · simp at h1
    by_cases hm : p.may ∧ l.length ≤ 3
    · obtain ⟨hm,h3⟩ := hm
      have hE' := Qpb hE h3 hm
      have hN := Qkt hE
      have hM := Qkt hE'
      obtain ⟨m1,m2⟩ := Qma hE hE' hm
      rw [if_pos hm] at CK
      refine more_in l l.length p g off cap bc t z (by omega) (Qcc l).1 (Qcc (l ++ [p])).1 (Qcc l).2 (Qcc (l ++ [p])).2 (Qdt l) (Qdt (l ++ [p])) hne (Qnx hE') (!decide (Nopast (Qcc l).1 (Qcc l).2 [p])) (cmp ((Qcc l).1.dot (Qcc l).1 * ((Qcc (l ++ [p])).2 * (Qcc (l ++ [p])).2)) ((Qcc (l ++ [p])).1.dot (Qcc (l ++ [p])).1 * ((Qcc l).2 * (Qcc l).2))) (cmp ((Qcc (l ++ [p])).1.dot (Qcc (l ++ [p])).1 * ((Qcc l).2 * (Qcc l).2)) ((Qcc l).1.dot (Qcc l).1 * ((Qcc (l ++ [p])).2 * (Qcc (l ++ [p])).2))) ?_ w hb hv (Qaz _) (pcs_one _) NR CK ?_ ?_ ?_ ?_ ?_
      · by_cases hn : Nopast (Qcc l).1 (Qcc l).2 [p]
        · refine .inl ⟨by simp [hn],?_⟩
          rw [← m1 hn,cmp_same]
        · have := m2 hn
          rw [Int.mul_comm ((Qcc l).2 * (Qcc l).2),Int.mul_comm ((Qcc (l ++ [p])).2 * (Qcc (l ++ [p])).2)] at this
          refine .inr ⟨by simp [hn],?_,?_⟩
          · unfold cmp;rw [if_neg (by omega),if_neg (by omega)]
          · unfold cmp;rw [if_pos (by omega)]
      · intro g1 cap1 cs w1 hb1 hc
        have := Qfa (l := l ++ [p]) (by unfold maxLen;simp;omega) w1 (psl_take (n := l.length + 1) (cap := cap1) hb1 (by simp) hc)
        rw [hE'] at this
        exact this
      · exact fun s w1 => Qgw hN hm s w1
      · intro hbf s s' w1
        have hn : Nopast (Qcc l).1 (Qcc l).2 [p] := by simpa using hbf
        have := same_any hN hM s s' w1
        rw [decide_eq_true ⟨congrArg Prod.fst (m1 hn),congrArg Prod.snd (m1 hn)⟩] at this
        exact this
      · exact fun s s' w1 => Qjz hN hM s s' w1
      · exact fun s s' w1 => Qjz hM hN s s' w1
    · refine more_out (some ⟨g,off,none⟩) l.length cap p (Qcc l).1 (Qcc l).2 (if p.may then 0 else 7) (Qdt l) hne ?_ w NR CK
      by_cases hl : l.length = 4
      · exact .inl hl
      · exact .inr ⟨by omega,if_neg fun hp => hm ⟨hp,by omega⟩⟩
  · have hK : Qdt l = [] := by unfold Qdt;rw [if_neg hE]
    rw [hK] at NR
    refine more_bad v p (Qcc l).1 (Qcc l).2 (Qee l) ?_ w NR
    unfold Qee at hE ⊢
    split
    · exact .inl rfl
    · rename_i h0
      split
      · exact .inr rfl
      · rename_i h2;rw [if_neg h0,if_neg h2] at hE;exact absurd rfl hE
end Go.Proofs.Ytdfdmeoalbpcdaa
