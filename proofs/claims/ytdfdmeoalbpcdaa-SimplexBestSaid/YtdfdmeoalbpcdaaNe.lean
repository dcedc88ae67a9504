/-
  ninepinlaw15.small: of least numbers it says true.
  SimplexBest: the contract of the law.
  SimplexDouble: the contract of the law.
-/
import Derived.Test.YtdfdmeoalbpcdaaQ1
import Derived.Test.YtdfdmeoalbpcdaaQ8
import Derived.Test.YtdfdmeoalbpcdaaQ6
import Derived.Test.YtdfdmeoalbpcdaaNd
set_option linter.unusedSimpArgs false
set_option linter.unusedVariables false
set_option maxRecDepth 100000
namespace Go.Proofs.Ytdfdmeoalbpcdaa
open Go Go.RowKit
attribute [local irreducible] wpList
theorem small_any {N : P3} {d : Int} (h : Nb N d) (hg : gc N d = 1) (sv : Value) (w : World) : Calls Try.prog 21 #[NrV N.x N.y N.z d sv] w (Ret (.bool true) w) := by
  obtain ⟨fx,fy,fz',fd⟩ := h.fit
  have hd := h.d0
  have az_fit : ∀ {x : Int},Bd (4 * BP) x → Fit (az x) := by
    intro x hx
    have := BP_lt
    have := Qlo
    have h2 := Qco (B := 4 * BP) (by omega) ⟨hx.1,hx.2⟩
    have h3 := Qco (B := 4 * BP) (x := -x) (by omega) ⟨by have := hx.2;omega,by have := hx.1;omega⟩
    unfold az
    split
    · exact h3
    · exact h2
  have PR := fun w1 => prime_any N.x N.y N.z fx fy fz' w1
  have e : prv N.x N.y N.z = if (g3 N.x N.y N.z : Int) = 0 then .tuple #[Sv 0 0 0,.bool false] else .tuple #[Sv (dvq N.x (g3 N.x N.y N.z)) (dvq N.y (g3 N.x N.y N.z)) (dvq N.z (g3 N.x N.y N.z)),.bool true] := by
    unfold prv
    rw [gacc_eq,if_pos ⟨az_fit h.x,az_fit h.y,az_fit h.z⟩]
  rw [e] at PR
  have hgc : Nat.gcd (g3 N.x N.y N.z) d.natAbs = 1 := by
    rw [← hg]
    unfold gc g3
    rw [Nat.gcd_comm,Nat.gcd_assoc,Nat.gcd_assoc,Nat.gcd_assoc]
  by_cases h0 : (g3 N.x N.y N.z : Int) = 0
  · simp only [if_pos h0] at PR
    have hn : g3 N.x N.y N.z = 0 := by omega
    rw [hn,Nat.gcd_zero_left] at hgc
    have hd1 : d = 1 := by omega
    refine small_none N.x N.y N.z d sv ?_ w PR
    rw [Qcg fd (by unfold Fit M511;omega),hd1];rfl
  · simp only [if_neg h0] at PR
    have dx : (g3 N.x N.y N.z : Int) ∣ N.x := Int.ofNat_dvd_left.2 (Nat.dvd_trans (Nat.gcd_dvd_left _ _) (Nat.gcd_dvd_left _ _))
    have dy : (g3 N.x N.y N.z : Int) ∣ N.y := Int.ofNat_dvd_left.2 (Nat.dvd_trans (Nat.gcd_dvd_left _ _) (Nat.gcd_dvd_right _ _))
    have dz : (g3 N.x N.y N.z : Int) ∣ N.z := Int.ofNat_dvd_left.2 (Nat.gcd_dvd_right _ _)
    have hall : N.x = 0 → N.y = 0 → N.z = 0 → False := fun a b c => h0 (by unfold g3;rw [a,b,c];rfl)
    have hcg : cg (g3 N.x N.y N.z : Int) d = 1 := by
      unfold cg
      rw [Int.toNat_natCast,show d.toNat = d.natAbs by omega,hgc];rfl
    have hgf : Fit (g3 N.x N.y N.z : Int) := by
      have : ∀ {x : Int},x ≠ 0 → (g3 N.x N.y N.z : Int) ∣ x → Bd (4 * BP) x → Fit (g3 N.x N.y N.z : Int) := by
        intro x hx hd hb
        have h1 := az_fit hb
        have h2 : (g3 N.x N.y N.z : Int) ≤ az x := by
          rw [az_abs]
          exact Int.ofNat_le.2 (Nat.le_of_dvd (by omega) (Int.ofNat_dvd_left.1 hd))
        unfold Fit at *
        omega
      by_cases hx : N.x = 0
      · by_cases hy : N.y = 0
        · exact this (fun hz => hall hx hy hz) dz h.z
        · exact this hy dy h.y
      · exact this hx dx h.x
    have hpos : 0 < (g3 N.x N.y N.z : Int) := by omega
    rw [Qmt fx hpos dx,Qmt fy hpos dy,Qmt fz' hpos dz] at PR
    have ex := Int.mul_ediv_cancel' dx
    have ey := Int.mul_ediv_cancel' dy
    have ez := Int.mul_ediv_cancel' dz
    generalize (g3 N.x N.y N.z : Int) = g at *
    generalize N.x / g = p at *
    generalize N.y / g = q at *
    generalize N.z / g = r at *
    have key : ∃ k1 x1 k2 x2 s0 s1 : Int,(p = 0 ∧ s0 = 0 ∧ k1 = N.y ∧ x1 = q ∨ (s0 = 1 ∨ s0 = -1) ∧ k1 = N.x ∧ x1 = p) ∧ (x1 = 0 ∧ s1 = 0 ∧ k2 = N.z ∧ x2 = r ∨ (s1 = 1 ∨ s1 = -1) ∧ k2 = k1 ∧ x2 = x1) ∧ s0 = sgn p ∧ s1 = sgn x1 ∧ x2 ≠ 0 ∧ k2 = g * x2 ∧ Fit x1 ∧ Fit x2 ∧ Fit k2 := by
      have gp : Fit p := Qfq hpos (by rw [ex];exact fx)
      have gq : Fit q := Qfq hpos (by rw [ey];exact fy)
      have gr : Fit r := Qfq hpos (by rw [ez];exact fz')
      rcases Qob p with ⟨hp,hs⟩|⟨hp,hs⟩
      · rcases Qob q with ⟨hq,hs'⟩|⟨hq,hs'⟩
        · refine ⟨N.y,q,N.z,r,0,0,.inl ⟨hp,rfl,rfl,rfl⟩,.inl ⟨hq,rfl,rfl,rfl⟩,hs.symm,hs'.symm,?_,ez.symm,gq,gr,fz'⟩
          intro hr
          refine hall ?_ ?_ ?_
          · rw [← ex,hp,Int.mul_zero]
          · rw [← ey,hq,Int.mul_zero]
          · rw [← ez,hr,Int.mul_zero]
        · exact ⟨N.y,q,N.y,q,0,sgn q,.inl ⟨hp,rfl,rfl,rfl⟩,.inr ⟨hs',rfl,rfl⟩,hs.symm,rfl,hq,ey.symm,gq,gq,fy⟩
      · exact ⟨N.x,p,N.x,p,sgn p,sgn p,.inr ⟨hs,rfl,rfl⟩,.inr ⟨hs,rfl,rfl⟩,rfl,rfl,hp,ex.symm,gp,gp,fx⟩
    obtain ⟨k1,x1,k2,x2,s0,s1,H1,H2,e0,e1,hx2,ek,f1,f2,f3⟩ := key
    have gp : Fit p := Qfq hpos (by rw [ex];exact fx)
    refine small_core N.x N.y N.z d p q r g k1 x1 k2 x2 sv s0 s1 H1 H2 w PR ?_ ?_ ?_ hpos hgf hd fd hcg
    · intro w1;rw [e0];exact Qbu p gp w1
    · intro w1;rw [e1];exact Qbu x1 f1 w1
    · intro w1
      have := Qdn k2 x2 f3 f2 w1
      rw [ek,(Qnc g x2 hx2 hgf).1,(Qnc g x2 hx2 hgf).2.1,decide_eq_true (Qnc g x2 hx2 hgf).2.2,← ek] at this
      exact this
end Go.Proofs.Ytdfdmeoalbpcdaa

set_option linter.unusedSimpArgs false
set_option linter.unusedVariables false
set_option maxRecDepth 100000
namespace Go.Proofs.Ytdfdmeoalbpcdaa
open Go Go.RowKit
attribute [local irreducible] wpList
theorem range_rise (n : Nat) : (List.range n).Pairwise (· < ·) := List.pairwise_lt_range
theorem near_places {l : List P3} {ks : List Nat} (h : ks.Sublist (List.range l.length)) : (∀ (i : Nat) (n : Int),(ks.map fun k : Nat => (k : Int))[i]? = some n → 0 ≤ n ∧ n < l.length ∧ (pts l ks)[i]? = l[n.toNat]?) ∧ ∀ (i : Nat) (m n : Int),(ks.map fun k : Nat => (k : Int))[i]? = some m → (ks.map fun k : Nat => (k : Int))[i + 1]? = some n → m < n := by
  constructor
  · intro i n hn
    rw [List.getElem?_map] at hn
    cases hk : ks[i]? with
    | none => rw [hk] at hn;cases hn
    | some k =>
      rw [hk] at hn
      obtain rfl : (k : Int) = n := by simpa using hn
      have hlt : k < l.length := by
        have := h.subset (List.mem_of_getElem? hk)
        rwa [List.mem_range] at this
      refine ⟨by omega,by omega,?_⟩
      unfold pts
      rw [List.getElem?_map,hk,Int.toNat_natCast,List.getElem?_eq_getElem hlt]
      simp [pt,List.getD_eq_getElem?_getD,List.getElem?_eq_getElem hlt]
  · intro i m n hm hn
    have hp := (range_rise l.length).sublist h
    rw [List.getElem?_map] at hm hn
    cases hk : ks[i]? with
    | none => rw [hk] at hm;cases hm
    | some a =>
      cases hj : ks[i + 1]? with
      | none => rw [hj] at hn;cases hn
      | some b =>
        rw [hk] at hm
        rw [hj] at hn
        obtain rfl : (a : Int) = m := by simpa using hm
        obtain rfl : (b : Int) = n := by simpa using hn
        obtain ⟨h1,e1⟩ := List.getElem?_eq_some_iff.1 hk
        obtain ⟨h2,e2⟩ := List.getElem?_eq_some_iff.1 hj
        have := List.pairwise_iff_getElem.1 hp i (i + 1) h1 h2 (by omega)
        rw [e1,e2] at this
        omega
theorem Qou (l : List P3) : Qcw l = 0 ∨ Qcw l = 7 ∨ Qcw l = 2 ∧ ((l.length : Int) < 1 ∨ ¬ (l.length : Int) < 1 ∧ (4 : Int) < l.length) := by
  unfold Qcw
  split
  · exact .inr (.inr ⟨rfl,by omega⟩)
  · split
    · exact .inr (.inl rfl)
    · exact .inl rfl
theorem best_law {v : Value} {w : World} (l : List P3) (hlen : l.length ≤ maxLen) (_ : ∀ q ∈ l,q.i64) (h : PSl w v l) : Calls Try.prog 7 #[v] w (Ret (.bool true) w) := by
  have NR : ∀ w1,Keep [] w w1 → Calls Try.prog 8 #[v] w1 (Qeg (Qbp l).1 (Qbp l).2 (Qbx l) (Qcw l) w1) := fun w1 hk => Qdi hlen w1 (h.keep hk)
  by_cases hE : Qcw l = 0
  · obtain ⟨h1,h4,hf⟩ := nearE_zero.1 hE
    have hne := Qjd hE
    have hN := Qfe hE
    obtain ⟨hF,_,eN⟩ := Qei hE
    rw [hE] at NR
    rcases h with ⟨rfl,rfl⟩|⟨g,off,cap,bc,t,z,rfl,hb,hv⟩
    · simp at h1
    obtain ⟨p1,p2⟩ := near_places hF.sub
    have hm := Qna hf
    obtain ⟨s1,s4⟩ := Qgi hF.ok.1
    have hfo : Qdk (pts l (Qbx l)) = true := by
      unfold Qdk
      rw [List.all_eq_true]
      intro p hp
      simpa using hm p (hF.mem p hp)
    have hEo : Qcw (pts l (Qbx l)) = 0 := nearE_zero.2 ⟨s1,s4,hfo⟩
    obtain ⟨hG,_,eM⟩ := Qei hEo
    obtain ⟨o1,o2⟩ := found_own hF hG
    have eNo : Qbp (pts l (Qbx l)) = Qbp l := by
      rw [eN,eM]
      exact nrm_same (Qdu hG.ok.1) (Qdu hF.ok.1) o2
    have hkl : (Qbx l).length ≤ 4 := by rw [Qca] at s4;exact s4
    have hol : (Qbx l).length = ((Qbx l).map fun k : Nat => (k : Int)).length := (List.length_map ..).symm
    have hgc : gc (Qbp l).1 (Qbp l).2 = 1 := by rw [eN];exact Qkn _ (Qdu hF.ok.1)
    refine best_good l l.length (Lib.hid rfl) h4 (Qbx l) (Qbx (pts l (Qbx l))) hne (Qjd hEo) (Qbp l).1 (Qbp l).2 ((Qbx l).map fun k : Nat => (k : Int)) (Lib.hid (by rw [List.map_map];rfl)) hol (o1.trans hol) (by rw [← hol];exact hkl) (by rw [← hol,← Qca l];exact s1) (pts l (Qbx l)) ((Qca _ _).trans hol) (Lib.hid p1) (Lib.hid p2) g off cap bc t w hb (Lib.hid hv) NR ?_ ?_ ?_ ?_ ?_ ?_
    · intro k p hk s w1
      have hpl : p ∈ l := List.mem_of_getElem? hk
      have hnp : Nopast (Qbp l).1 (Qbp l).2 [p] := by
        rw [eN]
        refine ((nrm_past _ (Qdu hF.ok.1) l).2 hF.ok.2.2).mono ?_
        intro q hq
        rw [List.mem_singleton.1 hq];exact hpl
      have := Qjc hN (hm p hpl) s w1
      rwa [show (!decide (Nopast (Qbp l).1 (Qbp l).2 [p])) = false by simp [hnp]] at this
    · intro v1 w1 hP
      have := Qjg (ps := pts l (Qbx l)) (by unfold maxLen;omega) w1 hP
      obtain ⟨r1,r2⟩ := Qky hfo s1 s4
      rw [r1,r2.2 hF.ok.1,Qca,hol] at this
      exact this
    · intro v1 w1 hP
      have := Qdi (l := pts l (Qbx l)) (by unfold maxLen;omega) w1 hP
      rw [hEo,eNo] at this
      exact this
    · intro s s' w1
      have := same_any hN hN s s' w1
      rwa [decide_eq_true ⟨rfl,rfl⟩] at this
    · intro w1
      have := Qbu (Qbp l).2 hN.fit.2.2.2 w1
      rwa [show sgn (Qbp l).2 = 1 by unfold sgn;have := hN.d0;rw [if_neg (by omega),if_neg (by omega)]] at this
    · exact fun s w1 => small_any hN hgc s w1
  · have hK : Qbx l = [] := by unfold Qbx;rw [if_neg hE]
    have eN : Qbp l = (⟨0,0,0⟩,0) := by unfold Qbp;rw [if_neg hE]
    rw [hK,eN] at NR
    obtain ⟨b,c,rfl⟩ := h.shape
    refine best_bad b l.length c (Qcw l) ((Qou l).resolve_left hE) w NR ?_
    intro s w1
    have ez : eqb 0 0 = true := by rw [Qcg Qbn Qbn];rfl
    have := Qof 0 0 0 0 0 0 0 0 true true true true s (.slice none 0 0) ez ez ez ez w1
    rw [← NrZ_eq] at this
    exact this
end Go.Proofs.Ytdfdmeoalbpcdaa

set_option linter.unusedSimpArgs false
set_option linter.unusedVariables false
set_option maxRecDepth 100000
namespace Go.Proofs.Ytdfdmeoalbpcdaa
open Go Go.RowKit
attribute [local irreducible] wpList
theorem twc_any {a b d e : Int} (ha : Fit a) (hb : Fit b) (hd : Fit d) (he : Fit e) (h : e * a = d * (2 * b)) (h1 : Fit (b * d)) (h2 : Fit (2 * (b * d))) : TwC a b d e := by
  have e1 : a * e = 2 * (b * d) := by rw [Int.mul_comm,h];grind
  have f1 : fz (a * e) = 2 * (b * d) := by rw [e1];exact if_pos h2
  have f2 : fz (b * d) = b * d := if_pos h1
  have f3 : fz (b * d + b * d) = 2 * (b * d) := by
    rw [show b * d + b * d = 2 * (b * d) by omega];exact if_pos h2
  refine ⟨2 * (b * d),b * d,decide (Fit (a * e)),decide (Fit (b * d)),decide (Fit (b * d + b * d)),?_,?_,?_⟩
  · intro w1
    have := Qkr a e ha he w1
    rw [f1] at this
    exact this
  · intro w1
    have := Qkr b d hb hd w1
    rw [f2] at this
    exact this
  · intro w1
    have := add_any (b * d) (b * d) h1 h1 w1
    rw [f3] at this
    exact this
theorem fit_neg {x : Int} (h : Bd (4 * BP) x) : Fit (-x) := by
  have := BP_lt
  have := Qlo
  exact Qco (B := 4 * BP) (by omega) ⟨by have := h.2;omega,by have := h.1;omega⟩
theorem double_law {v : Value} {w : World} (l : List P3) (hlen : l.length ≤ maxLen) (_ : ∀ q ∈ l,q.i64) (h : PSl w v l) : Calls Try.prog 6 #[v] w (Ret (.bool true) w) := by
  have NR : ∀ w1,Keep [] w w1 → Calls Try.prog 8 #[v] w1 (Qeg (Qbp l).1 (Qbp l).2 (Qbx l) (Qcw l) w1) := fun w1 hk => Qdi hlen w1 (h.keep hk)
  by_cases h0 : l = []
  · subst h0
    have eE : Qcw [] = 2 := if_pos (.inl (by decide))
    have eK : Qbx [] = [] := by unfold Qbx;rw [if_neg (by rw [eE];decide)]
    have eN : Qbp [] = (⟨0,0,0⟩,0) := by unfold Qbp;rw [if_neg (by rw [eE];decide)]
    rw [eE,eK,eN] at NR
    obtain ⟨b,c,rfl⟩ := h.shape
    refine double_none b c w NR ?_
    intro w1
    have := Qdi (l := []) (by unfold maxLen;decide) w1 (v := .slice none 0 0) (.inl ⟨rfl,rfl⟩)
    rw [eE,eK,eN] at this
    exact this
  by_cases h4 : l.length ≤ 4
  · have h1 : 1 ≤ l.length := by
      cases l with
      | nil => exact absurd rfl h0
      | cons a l => simp
    rcases h with ⟨rfl,rfl⟩|⟨g,off,cap,bc,t,z,rfl,hb,hv⟩
    · exact absurd rfl h0
    have E : ∀ k : Int,k = 1 ∨ k = 2 ∨ k = -1 → (∀ p ∈ l,p.near) → Qcw (l.map (·.scale k)) = 0 := fun k hk hn => by
      rw [nearE_near hn hk,if_neg (by omega)]
    have E1 : (∀ p ∈ l,p.near) → Qcw l = 0 := fun hn => by
      have := E 1 (.inl rfl) hn
      rwa [Qmz] at this
    have hkn : (Qbx l = [] → False) ∨ ¬ ∀ p ∈ l,p.near := by
      by_cases hn : ∀ p ∈ l,p.near
      · exact .inl fun h => Qjd (E1 hn) h
      · exact .inr hn
    obtain ⟨ks,hks,hk⟩ : ∃ ks : List Nat,ks ≠ [] ∧ ks.length ≤ 4 ∧ ((∀ p ∈ l,p.near) → ks = Qbx l) := by
      by_cases hn : ∀ p ∈ l,p.near
      · refine ⟨Qbx l,Qjd (E1 hn),?_,fun _ => rfl⟩
        obtain ⟨hF,_,_⟩ := Qei (E1 hn)
        have := (Qgi hF.ok.1).2
        rwa [Qca] at this
      · exact ⟨[0],by simp,by simp,fun h => absurd h hn⟩
    obtain ⟨hk4,hk⟩ := hk
    refine double_good l l.length (Lib.hid rfl) h4 h1 (Qbp l).1 (Qbp (l.map (·.scale 2))).1 (Qbp (l.map (·.scale (-1)))).1 (Qbp l).2 (Qbp (l.map (·.scale 2))).2 ks hks (ks.map fun k : Nat => (k : Int)) (Lib.hid (by rw [List.map_map];rfl)) (List.length_map ..).symm (by rw [List.length_map];exact hk4) g off cap bc t w hb (Lib.hid hv) ?_ ?_ ?_ ?_ ?_
    · intro hn
      rw [hk hn]
      rw [E1 hn] at NR
      exact NR
    · intro hn v1 w1 hP
      have := Qdi (l := l.map (·.scale 2)) (by rw [List.length_map];exact hlen) w1 hP
      rw [E 2 (.inr (.inl rfl)) hn,Qfi (by decide) ((E 2 (.inr (.inl rfl)) hn).trans (E1 hn).symm),← hk hn] at this
      exact this
    · intro hn v1 w1 hP
      have := Qdi (l := l.map (·.scale (-1))) (by rw [List.length_map];exact hlen) w1 hP
      rw [E (-1) (.inr (.inr rfl)) hn,Qfi (by decide) ((E (-1) (.inr (.inr rfl)) hn).trans (E1 hn).symm),← hk hn,(Qmi (E1 hn) (E (-1) (.inr (.inr rfl)) hn)).2] at this
      exact this
    · intro hn s s' w1
      have hN := Qfe (E1 hn)
      have hM := Qfe (E 2 (.inr (.inl rfl)) hn)
      have hs := Qik (k := 2) (by decide) (E1 hn) (E 2 (.inr (.inl rfl)) hn)
      obtain ⟨⟨r1,r2,r3⟩,r4,r5,r6⟩ := nb_room hN hM.d0 hM.d1
      have hx := congrArg P3.x hs
      have hy := congrArg P3.y hs
      have hz := congrArg P3.z hs
      simp only [P3.scale] at hx hy hz
      have f := hN.fit
      have f' := hM.fit
      exact twice_core _ _ _ _ _ _ _ _ s s' (Lib.hid (twc_any f'.1 f.1 f'.2.2.2 f.2.2.2 hx r1 r4)) (Lib.hid (twc_any f'.2.1 f.2.1 f'.2.2.2 f.2.2.2 hy r2 r5)) (Lib.hid (twc_any f'.2.2.1 f.2.2.1 f'.2.2.2 f.2.2.2 hz r3 r6)) w1
    · intro hn
      have hN := Qfe (E1 hn)
      have f := hN.fit
      rw [(Qmi (E1 hn) (E (-1) (.inr (.inr rfl)) hn)).1]
      have hz : ∀ {x : Int},Bd (4 * BP) x → fz (-x) = (-1) * x := fun {x} h => by
        rw [show fz (-x) = -x from if_pos (fit_neg h)];omega
      refine ⟨decide (Fit (-(Qbp l).1.x)),decide (Fit (-(Qbp l).1.y)),decide (Fit (-(Qbp l).1.z)),?_,?_,?_⟩
      · intro w1
        have := Qfg (Qbp l).1.x f.1 w1
        rw [hz hN.x] at this
        exact this
      · intro w1
        have := Qfg (Qbp l).1.y f.2.1 w1
        rw [hz hN.y] at this
        exact this
      · intro w1
        have := Qfg (Qbp l).1.z f.2.2.1 w1
        rw [hz hN.z] at this
        exact this
  · obtain ⟨b,c,rfl⟩ := h.shape
    exact Qpi b l.length c (by omega) w
end Go.Proofs.Ytdfdmeoalbpcdaa
