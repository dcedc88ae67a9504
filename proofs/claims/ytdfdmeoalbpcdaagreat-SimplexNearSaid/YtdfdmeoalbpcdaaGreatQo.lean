/-
  Package simplex: Near at any points; Cmp (contracts).
-/
import Derived.Test.YtdfdmeoalbpcdaaGreatQn
import Derived.Test.YtdfdmeoalbpcdaaGreatPd
set_option linter.unusedSimpArgs false
set_option linter.unusedVariables false
set_option maxRecDepth 100000
namespace Go.Proofs.YtdfdmeoalbpcdaaGreat
open Go Go.RowKit
attribute [local irreducible] wpList
/-- What Near says: its error, places, numbers. -/
def Qea (l : List P3) : Int := if (l.length : Int) < 1 ∨ 4 < (l.length : Int) then 2 else if Qdf l = false then 7 else 0
def Qda (l : List P3) : List Nat := if Qea l = 0 then (Qgv l).getD [] else []
def Qdt (l : List P3) : P3 × Int := if Qea l = 0 then nrm (cmb (cw (pts l (Qda l))) (pts l (Qda l))) (wd (pts l (Qda l))) else (⟨0,0,0⟩,0)
theorem nearE_zero {l : List P3} : Qea l = 0 ↔ 1 ≤ l.length ∧ l.length ≤ 4 ∧ Qdf l = true := by
  unfold Qea
  split
  · rename_i h
    constructor
    · intro h;cases h
    · intro h;omega
  · rename_i h
    split
    · rename_i hf
      constructor
      · intro h;cases h
      · rintro ⟨_,_,h⟩;rw [hf] at h;cases h
    · rename_i hf
      simp at hf
      exact ⟨fun _ => ⟨by omega,by omega,hf⟩,fun _ => rfl⟩
theorem Qms {l : List P3} (h : Qdf l = true) : ∀ p ∈ l,p.may := fun p hp => by
  unfold Qdf at h
  simpa using List.all_eq_true.1 h p hp
theorem Qnh {l : List P3} (h : Qea l = 0) : Found l (Qda l) ∧ Qgv l = some (Qda l) ∧ Qdt l = nrm (cmb (cw (pts l (Qda l))) (pts l (Qda l))) (wd (pts l (Qda l))) := by
  obtain ⟨h1,h4,hf⟩ := nearE_zero.1 h
  obtain ⟨ks,e,hF⟩ := near_found h1 h4
  have hk : Qda l = ks := by unfold Qda;rw [if_pos h,e];rfl
  refine ⟨hk ▸ hF,hk ▸ e,?_⟩
  unfold Qdt
  rw [if_pos h]
theorem Qhp {l : List P3} (hlen : l.length ≤ maxLen) {v : Value} (w : World) (h : PSl w v l) : Calls Tryz.prog 5 #[v] w (Qfi (Qdt l).1 (Qdt l).2 (Qda l) (Qea l) w) := by
  by_cases h14 : (l.length : Int) < 1 ∨ 4 < (l.length : Int)
  · have e : Qea l = 2 := if_pos h14
    have eN : Qdt l = (⟨0,0,0⟩,0) := by unfold Qdt;rw [if_neg (by rw [e];decide)]
    have eK : Qda l = [] := by unfold Qda;rw [if_neg (by rw [e];decide)]
    rw [e,eN,eK]
    obtain ⟨b,c,rfl⟩ := h.shape
    exact near_arg b l.length c (by omega) w
  · by_cases hf : Qdf l = true
    · have e : Qea l = 0 := nearE_zero.2 ⟨by omega,by omega,hf⟩
      obtain ⟨_,hF,hN⟩ := Qnh e
      rcases h with ⟨rfl,rfl⟩|⟨g,off,cap,bc,t,z,rfl,hb,hv⟩
      · simp at h14
      have hr := (Qdg hv).resolve_left (by intro h0;rw [h0] at h14;simp at h14)
      rw [e]
      refine near_main l l.length g off cap bc t z w hb rfl (by omega) (by omega) (Qft l).1 (Qda l) (Qdt l) ?_ (Qms hf) ?_ ?_ ⟨hF,hN⟩
      · intro k p hk
        refine ⟨Qfm hv hk,?_⟩
        have : k < l.length := by
          rcases Nat.lt_or_ge k l.length with h|h
          · exact h
          · rw [List.getElem?_eq_none h] at hk;cases hk
        omega
      · exact fun w1 h1 => .inr ⟨g,off,cap,bc,t,z,rfl,h1,hv⟩
      · intro w1 hk
        have := Qnl hlen w1 (.inr ⟨g,off,cap,bc,t,z,rfl,hk.some hb,hv⟩)
        rw [(Qko hf (by omega) (by omega)).1] at this
        exact this
    · have hf' : Qdf l = false := by simpa using hf
      have e : Qea l = 7 := by unfold Qea;rw [if_neg h14,if_pos hf']
      have eN : Qdt l = (⟨0,0,0⟩,0) := by unfold Qdt;rw [if_neg (by rw [e];decide)]
      have eK : Qda l = [] := by unfold Qda;rw [if_neg (by rw [e];decide)]
      rw [e,eN,eK]
      have hrk : (Qft l).2 = 7 := by
        have hs : Qcq l = ([],7) := by unfold Qcq;rw [if_pos hf']
        unfold Qft
        rw [hs]
        rfl
      obtain ⟨b,c,rfl⟩ := h.shape
      refine near_bound b l.length c (by omega) (by omega) (Qft l).1 w fun w1 hk => ?_
      have := Qnl hlen w1 (h.keep hk)
      rw [hrk] at this
      exact this
/-- The numbers of a nearest one are such that Past takes them. -/
theorem near_nb {l : List P3} (h : Qea l = 0) : Nb (Qdt l).1 (Qdt l).2 := by
  obtain ⟨hF,_,hN⟩ := Qnh h
  obtain ⟨h1,h4,hf⟩ := nearE_zero.1 h
  have hm : ∀ p ∈ pts l (Qda l),p.may := fun p hp => Qms hf p (hF.mem p hp)
  obtain ⟨s1,s4⟩ := Qhm hF.ok.1
  obtain ⟨b1,b2⟩ := cw_bd s1 s4 hm
  rw [hN]
  exact nrm_nb (by rw [Qim hF.ok.1];exact s4) hm b1 (wd_pos hF.ok.1) b2.2
/-! ### Which is nearer -/
theorem cmp_swap (a b : Int) : cmp a b = -cmp b a := by unfold cmp;split <;> split <;> (try split) <;> (try split) <;> omega
theorem cmp_lt {x y p q i k r s : Int} (hp : 0 < p) (hq : 0 < q) (hx : x = i * p + r) (hy : y = k * q + s) (hr0 : 0 ≤ r) (hr1 : r < p) (hs0 : 0 ≤ s) (hs1 : s < q) (h : i < k) : x * q < y * p := by
  have h1 : i * p + p ≤ k * p := by
    have := Int.mul_le_mul_of_nonneg_right (show i + 1 ≤ k by omega) (Int.le_of_lt hp)
    rw [Int.add_mul,Int.one_mul] at this;exact this
  have h2 : x * q < k * p * q := Int.mul_lt_mul_of_pos_right (by omega) hq
  have h3 : k * q * p ≤ y * p := Int.mul_le_mul_of_nonneg_right (by omega) (Int.le_of_lt hp)
  have e : k * p * q = k * q * p := by grind
  omega
theorem cmp_step {x y p q i k r s : Int} (hp : 0 < p) (hq : 0 < q) (hx : x = i * p + r) (hy : y = k * q + s) (hr0 : 0 ≤ r) (hr1 : r < p) (hs0 : 0 ≤ s) (hs1 : s < q) :
    (i < k → cmp (x * q) (y * p) = -1) ∧ (k < i → cmp (x * q) (y * p) = 1) ∧ (i = k → cmp (x * q) (y * p) = cmp (r * q) (s * p)) := by
  refine ⟨fun h => ?_,fun h => ?_,fun h => ?_⟩
  · unfold cmp;rw [if_pos (cmp_lt hp hq hx hy hr0 hr1 hs0 hs1 h)]
  · have := cmp_lt hq hp hy hx hs0 hs1 hr0 hr1 h
    unfold cmp;rw [if_neg (by omega),if_neg (by omega)]
  · subst h
    have e1 : x * q = i * p * q + r * q := by rw [hx,Int.add_mul]
    have e2 : y * p = i * p * q + s * p := by rw [hy];grind
    unfold cmp
    rw [e1,e2]
    split <;> split <;> (try split) <;> (try split) <;> omega
theorem cmp_nil {p q : Int} : cmp (0 * q) (0 * p) = 0 := by simp [cmp]
theorem cmp_left {p q s : Int} (hp : 0 < p) (hs : 0 < s) : cmp (0 * q) (s * p) = -1 := by
  have := Int.mul_pos hs hp
  unfold cmp;rw [if_pos (by omega)]
theorem cmp_right {p q r : Int} (hq : 0 < q) (hr : 0 < r) : cmp (r * q) (0 * p) = 1 := by
  have := Int.mul_pos hr hq
  unfold cmp;rw [if_neg (by omega),if_neg (by omega)]
theorem cmp_flip (p q r s : Int) : cmp (r * q) (s * p) = -cmp (p * s) (q * r) := by
  rw [cmp_swap,Int.mul_comm s p,Int.mul_comm r q]
theorem dv_pos {x p : Int} (hx0 : 0 ≤ x) (hx : Fit x) (hp : 0 < p) : dvq x p = x / p ∧ dvr x p = x % p := by
  have h := Qfh (a := x) (b := p) (q := x / p) (r := x % p) (by have := Int.mul_ediv_add_emod x p;rw [Int.mul_comm] at this;omega) (.inl ⟨hp,Int.emod_nonneg _ (by omega),Int.emod_lt_of_pos _ hp⟩)
  have hok : dvok x p := ⟨by omega,by rw [h.1];unfold Fit at *;have := Int.ediv_nonneg hx0 (Int.le_of_lt hp);have := Int.ediv_le_self p hx0;omega⟩
  unfold dvq dvr
  rw [if_pos hok,if_pos hok]
  exact h
structure CmI (x p y q : Int) : Prop where
  x0 : 0 ≤ x
  xf : Fit x
  p0 : 0 < p
  pf : Fit p
  y0 : 0 ≤ y
  yf : Fit y
  q0 : 0 < q
  qf : Fit q
section perms
variable {α : Type} {a b c d : α} {r : List α}
theorem pe1 : (a :: b :: d :: c :: r).Perm (a :: b :: c :: d :: r) := (.cons _ (.cons _ (.swap _ _ _)))
theorem pe2 : (a :: c :: b :: d :: r).Perm (a :: b :: c :: d :: r) := (.cons _ (.swap _ _ _))
theorem pe3 : (a :: c :: d :: b :: r).Perm (a :: b :: c :: d :: r) := (List.Perm.trans (.cons _ (.cons _ (.swap _ _ _))) (.cons _ (.swap _ _ _)))
theorem pe4 : (a :: d :: b :: c :: r).Perm (a :: b :: c :: d :: r) := (List.Perm.trans (.cons _ (.swap _ _ _)) (.cons _ (.cons _ (.swap _ _ _))))
theorem pe5 : (a :: d :: c :: b :: r).Perm (a :: b :: c :: d :: r) := (List.Perm.trans (.cons _ (.swap _ _ _)) (List.Perm.trans (.cons _ (.cons _ (.swap _ _ _))) (.cons _ (.swap _ _ _))))
theorem pe6 : (b :: a :: c :: d :: r).Perm (a :: b :: c :: d :: r) := (.swap _ _ _)
theorem pe7 : (b :: a :: d :: c :: r).Perm (a :: b :: c :: d :: r) := (List.Perm.trans (.swap _ _ _) (.cons _ (.cons _ (.swap _ _ _))))
theorem pe8 : (b :: c :: a :: d :: r).Perm (a :: b :: c :: d :: r) := (List.Perm.trans (.cons _ (.swap _ _ _)) (.swap _ _ _))
theorem pe9 : (b :: c :: d :: a :: r).Perm (a :: b :: c :: d :: r) := (List.Perm.trans (.cons _ (.cons _ (.swap _ _ _))) (List.Perm.trans (.cons _ (.swap _ _ _)) (.swap _ _ _)))
theorem pe10 : (b :: d :: a :: c :: r).Perm (a :: b :: c :: d :: r) := (List.Perm.trans (.cons _ (.swap _ _ _)) (List.Perm.trans (.cons _ (.cons _ (.swap _ _ _))) (.swap _ _ _)))
theorem pe11 : (b :: d :: c :: a :: r).Perm (a :: b :: c :: d :: r) := (List.Perm.trans (.cons _ (.swap _ _ _)) (List.Perm.trans (.cons _ (.cons _ (.swap _ _ _))) (List.Perm.trans (.cons _ (.swap _ _ _)) (.swap _ _ _))))
theorem pe12 : (c :: a :: b :: d :: r).Perm (a :: b :: c :: d :: r) := (List.Perm.trans (.swap _ _ _) (.cons _ (.swap _ _ _)))
theorem pe13 : (c :: a :: d :: b :: r).Perm (a :: b :: c :: d :: r) := (List.Perm.trans (.swap _ _ _) (List.Perm.trans (.cons _ (.cons _ (.swap _ _ _))) (.cons _ (.swap _ _ _))))
theorem pe14 : (c :: b :: a :: d :: r).Perm (a :: b :: c :: d :: r) := (List.Perm.trans (.swap _ _ _) (List.Perm.trans (.cons _ (.swap _ _ _)) (.swap _ _ _)))
theorem pe15 : (c :: b :: d :: a :: r).Perm (a :: b :: c :: d :: r) := (List.Perm.trans (.swap _ _ _) (List.Perm.trans (.cons _ (.cons _ (.swap _ _ _))) (List.Perm.trans (.cons _ (.swap _ _ _)) (.swap _ _ _))))
theorem pe16 : (c :: d :: a :: b :: r).Perm (a :: b :: c :: d :: r) := (List.Perm.trans (.cons _ (.swap _ _ _)) (List.Perm.trans (.cons _ (.cons _ (.swap _ _ _))) (List.Perm.trans (.swap _ _ _) (.cons _ (.swap _ _ _)))))
theorem pe17 : (c :: d :: b :: a :: r).Perm (a :: b :: c :: d :: r) := (List.Perm.trans (.cons _ (.swap _ _ _)) (List.Perm.trans (.cons _ (.cons _ (.swap _ _ _))) (List.Perm.trans (.swap _ _ _) (List.Perm.trans (.cons _ (.swap _ _ _)) (.swap _ _ _)))))
theorem pe18 : (d :: a :: b :: c :: r).Perm (a :: b :: c :: d :: r) := (List.Perm.trans (.swap _ _ _) (List.Perm.trans (.cons _ (.swap _ _ _)) (.cons _ (.cons _ (.swap _ _ _)))))
theorem pe19 : (d :: a :: c :: b :: r).Perm (a :: b :: c :: d :: r) := (List.Perm.trans (.swap _ _ _) (List.Perm.trans (.cons _ (.swap _ _ _)) (List.Perm.trans (.cons _ (.cons _ (.swap _ _ _))) (.cons _ (.swap _ _ _)))))
theorem pe20 : (d :: b :: a :: c :: r).Perm (a :: b :: c :: d :: r) := (List.Perm.trans (.swap _ _ _) (List.Perm.trans (.cons _ (.swap _ _ _)) (List.Perm.trans (.cons _ (.cons _ (.swap _ _ _))) (.swap _ _ _))))
theorem pe21 : (d :: b :: c :: a :: r).Perm (a :: b :: c :: d :: r) := (List.Perm.trans (.swap _ _ _) (List.Perm.trans (.cons _ (.swap _ _ _)) (List.Perm.trans (.cons _ (.cons _ (.swap _ _ _))) (List.Perm.trans (.cons _ (.swap _ _ _)) (.swap _ _ _)))))
theorem pe22 : (d :: c :: a :: b :: r).Perm (a :: b :: c :: d :: r) := (List.Perm.trans (.swap _ _ _) (List.Perm.trans (.cons _ (.swap _ _ _)) (List.Perm.trans (.cons _ (.cons _ (.swap _ _ _))) (List.Perm.trans (.swap _ _ _) (.cons _ (.swap _ _ _))))))
theorem pe23 : (d :: c :: b :: a :: r).Perm (a :: b :: c :: d :: r) := (List.Perm.trans (.swap _ _ _) (List.Perm.trans (.cons _ (.swap _ _ _)) (List.Perm.trans (.cons _ (.cons _ (.swap _ _ _))) (List.Perm.trans (.swap _ _ _) (List.Perm.trans (.cons _ (.swap _ _ _)) (.swap _ _ _))))))
end perms
set_option maxHeartbeats 16000000 in
theorem scmp_core (a0 a1 a2 a3 b0 b1 b2 b3 : Int) (sa sb : Value) (x p y q r0 : Int) (HI : Hid (CmI x p y q)) (HR : Hid (r0 = cmp (x * q) (y * p)))
    (SA : Hid (∀ w,Calls Tryz.prog 19 #[Sv a0 a1 a2] w (Ret (W x) w))) (SB : Hid (∀ w,Calls Tryz.prog 19 #[Sv b0 b1 b2] w (Ret (W y) w)))
    (TA : Hid (∀ w,Calls Tryz.prog 18 #[W a3,W a3] w (Ret (W p) w))) (TB : Hid (∀ w,Calls Tryz.prog 18 #[W b3,W b3] w (Ret (W q) w))) (w : World) :
    Calls Tryz.prog 10 #[NrV a0 a1 a2 a3 sa,NrV b0 b1 b2 b3 sb] w (Ret (.int .i64 r0) w) := by
  go_enter Tryz.func10,Tryz.ntmps10
  have hp := Hp.start [] w
  go_upto_region 1 with ((with_reducible apply Qau hp);(exact za rfl);exact rfl;clear hp;(try clear w1);intro g w1 hp;simp only [zp,zq,z0,z1])
  go_cut [5,6,7,8] (fun s5 s6 s7 s8 wx => ∃ gx gy gp gq,s5 = .pointer (some ⟨gx,0,none⟩) ∧ s6 = .pointer (some ⟨gy,0,none⟩) ∧ s7 = .pointer (some ⟨gp,0,none⟩) ∧ s8 = .pointer (some ⟨gq,0,none⟩) ∧ Hp [] w [⟨gq,27,[.int .u64 (lb (q) 0),.int .u64 (lb (q) 1),.int .u64 (lb (q) 2),.int .u64 (lb (q) 3),.int .u64 (lb (q) 4),.int .u64 (lb (q) 5),.int .u64 (lb (q) 6),.int .u64 (lb (q) 7)]⟩,⟨gp,27,[.int .u64 (lb (p) 0),.int .u64 (lb (p) 1),.int .u64 (lb (p) 2),.int .u64 (lb (p) 3),.int .u64 (lb (p) 4),.int .u64 (lb (p) 5),.int .u64 (lb (p) 6),.int .u64 (lb (p) 7)]⟩,⟨gy,27,[.int .u64 (lb (y) 0),.int .u64 (lb (y) 1),.int .u64 (lb (y) 2),.int .u64 (lb (y) 3),.int .u64 (lb (y) 4),.int .u64 (lb (y) 5),.int .u64 (lb (y) 6),.int .u64 (lb (y) 7)]⟩,⟨gx,27,[.int .u64 (lb (x) 0),.int .u64 (lb (x) 1),.int .u64 (lb (x) 2),.int .u64 (lb (x) 3),.int .u64 (lb (x) 4),.int .u64 (lb (x) 5),.int .u64 (lb (x) 6),.int .u64 (lb (x) 7)]⟩] wx)
  case first =>
    skip
    have hq := hp
    refine Qcc hp hq [23] (.q 0 (.q 1 (.q 3 (.q 4 (.q 6 (.q 7 (.q 8 (.q 9 (.q 11 (.q 12 (.q 13 (.q 14 (.p 2 (.p 5 (.p 10 (.p 15 (.alt 16 (.alt 17 (.alt 18 (.l 19 (.l 20 (.l 21 (.l 22 (.l 23 .nil))))) (.l 19 (.l 18 (.l 20 (.l 21 (.l 22 (.l 23 .nil))))))) (.alt 18 (.alt 17 (.l 19 (.l 20 (.l 21 (.l 22 (.l 23 .nil))))) (.l 19 (.l 17 (.l 20 (.l 21 (.l 22 (.l 23 .nil))))))) (.l 19 (.alt 17 (.l 18 (.l 20 (.l 21 (.l 22 (.l 23 .nil))))) (.l 18 (.l 17 (.l 20 (.l 21 (.l 22 (.l 23 .nil)))))))))) (.alt 17 (.alt 16 (.alt 18 (.l 19 (.l 20 (.l 21 (.l 22 (.l 23 .nil))))) (.l 19 (.l 18 (.l 20 (.l 21 (.l 22 (.l 23 .nil))))))) (.alt 18 (.alt 16 (.l 19 (.l 20 (.l 21 (.l 22 (.l 23 .nil))))) (.l 19 (.l 16 (.l 20 (.l 21 (.l 22 (.l 23 .nil))))))) (.l 19 (.alt 16 (.l 18 (.l 20 (.l 21 (.l 22 (.l 23 .nil))))) (.l 18 (.l 16 (.l 20 (.l 21 (.l 22 (.l 23 .nil)))))))))) (.alt 18 (.alt 16 (.alt 17 (.l 19 (.l 20 (.l 21 (.l 22 (.l 23 .nil))))) (.l 19 (.l 17 (.l 20 (.l 21 (.l 22 (.l 23 .nil))))))) (.alt 17 (.alt 16 (.l 19 (.l 20 (.l 21 (.l 22 (.l 23 .nil))))) (.l 19 (.l 16 (.l 20 (.l 21 (.l 22 (.l 23 .nil))))))) (.l 19 (.alt 16 (.l 17 (.l 20 (.l 21 (.l 22 (.l 23 .nil))))) (.l 17 (.l 16 (.l 20 (.l 21 (.l 22 (.l 23 .nil)))))))))) (.l 19 (.alt 16 (.alt 17 (.l 18 (.l 20 (.l 21 (.l 22 (.l 23 .nil))))) (.l 18 (.l 17 (.l 20 (.l 21 (.l 22 (.l 23 .nil))))))) (.alt 17 (.alt 16 (.l 18 (.l 20 (.l 21 (.l 22 (.l 23 .nil))))) (.l 18 (.l 16 (.l 20 (.l 21 (.l 22 (.l 23 .nil))))))) (.l 18 (.alt 16 (.l 17 (.l 20 (.l 21 (.l 22 (.l 23 .nil))))) (.l 17 (.l 16 (.l 20 (.l 21 (.l 22 (.l 23 .nil)))))))))))))))))))))))))))))) (by kernel_rfl) (by kernel_rfl) ?_
    clear hp hq;(try clear w1);intro w1 hp hq
    repeat' (first|(((with_reducible apply sg_q);exact zo rfl);(first|((with_reducible apply Qdq hp);exact rfl;exact zt rfl;exact ii;exact ii;(exact zl rfl);(simp only [n0,Nat.reduceAdd,nn];try rfl);simp only [zp,zq,z0,z1])|((with_reducible apply Qjo hp);exact rfl;(focus (intro _;go_simp;(try go_ints);try with_reducible rfl));simp only [zp,zq,z0,z1])))|(((with_reducible apply sg_p);exact zo rfl);((with_reducible apply Qfj hp);exact rfl;(focus (intro _;go_simp;try first|with_reducible rfl|exact ⟨rfl,rfl⟩));(with_reducible first|exact fun w => SA.out w|exact fun w => SB.out w|exact fun w => TA.out w|exact fun w => TB.out w);simp only [zp,zq,z0,z1]))|(((with_reducible apply sg_l);exact zo rfl);(first|((with_reducible apply Qgu hq);(repeat (first|exact sb0|apply sb3));exact rfl;exact ii;exact rfl;clear hp hq;(try clear w1);intro g w1 hp hq;simp only [zp,zq,z0,z1])|((with_reducible apply Qdw hq);exact rfl;exact zt rfl;(exact za rfl);exact rfl;(exact AggTy.size);exact rfl;exact ii;(simp only [n0,Nat.reduceAdd,nn];try rfl);(exact zl rfl);exact rfl;exact ii;(repeat (first|exact sb0|apply sb3));clear hp hq;(try clear w1);intro w1 hp hq)))|(with_reducible apply sg_alt)|((with_reducible apply Qgw hq);clear hp hq;(try clear w1);intro w1 hp))
    all_goals (go_wp2_with fail;go_meet;exact ⟨_,_,_,_,rfl,rfl,rfl,rfl,(hp.perm (by first|exact pm0|exact pe1|exact pe2|exact pe3|exact pe4|exact pe5|exact pe6|exact pe7|exact pe8|exact pe9|exact pe10|exact pe11|exact pe12|exact pe13|exact pe14|exact pe15|exact pe16|exact pe17|exact pe18|exact pe19|exact pe20|exact pe21|exact pe22|exact pe23)).sub (.cons_cons _ (.cons_cons _ (.cons_cons _ (.cons_cons _ (List.nil_sublist _)))))⟩)
  case rest =>
    clear hp SA SB TA TB
    obtain ⟨gx,gy,gp,gq,rfl,rfl,rfl,rfl,hp⟩ := hcut
    go_wp2_with (fail)
    go_loopw [9] (fun tv wr => ∃ t x p y q : Int,(t = 1 ∨ t = -1) ∧ tv = .int .i64 t ∧ Hid (CmI x p y q ∧ r0 = t * cmp (x * q) (y * p)) ∧ Hp [] w [⟨gq,27,[.int .u64 (lb (q) 0),.int .u64 (lb (q) 1),.int .u64 (lb (q) 2),.int .u64 (lb (q) 3),.int .u64 (lb (q) 4),.int .u64 (lb (q) 5),.int .u64 (lb (q) 6),.int .u64 (lb (q) 7)]⟩,⟨gp,27,[.int .u64 (lb (p) 0),.int .u64 (lb (p) 1),.int .u64 (lb (p) 2),.int .u64 (lb (p) 3),.int .u64 (lb (p) 4),.int .u64 (lb (p) 5),.int .u64 (lb (p) 6),.int .u64 (lb (p) 7)]⟩,⟨gy,27,[.int .u64 (lb (y) 0),.int .u64 (lb (y) 1),.int .u64 (lb (y) 2),.int .u64 (lb (y) 3),.int .u64 (lb (y) 4),.int .u64 (lb (y) 5),.int .u64 (lb (y) 6),.int .u64 (lb (y) 7)]⟩,⟨gx,27,[.int .u64 (lb (x) 0),.int .u64 (lb (x) 1),.int .u64 (lb (x) 2),.int .u64 (lb (x) 3),.int .u64 (lb (x) 4),.int .u64 (lb (x) 5),.int .u64 (lb (x) 6),.int .u64 (lb (x) 7)]⟩] wr) (fun _ wr => bval gp wr)
    case atStart => exact ⟨1,x,p,y,q,.inl rfl,rfl,⟨HI.out,by rw [HR.out,Int.one_mul]⟩,hp⟩
    case round =>
      clear hp HI HR
      obtain ⟨t,x,p,y,q,ht,rfl,HC,hp⟩ := hrel
      obtain ⟨x0,xf,p0,pf,y0,yf,q0,qf⟩ := HC.out.1
      have hm := Qdm (g := gp) (y := p) hp (Int.le_of_lt p0) (by unfold Fit M511 at pf;unfold M512;omega)
      have d1 := Qgc x p xf pf
      have d2 := Qgc y q yf qf
      rw [(dv_pos x0 xf p0).1,(dv_pos x0 xf p0).2] at d1
      rw [(dv_pos y0 yf q0).1,(dv_pos y0 yf q0).2] at d2
      have ex : x = x / p * p + x % p := by have := Int.mul_ediv_add_emod x p;rw [Int.mul_comm] at this;omega
      have ey : y = y / q * q + y % q := by have := Int.mul_ediv_add_emod y q;rw [Int.mul_comm] at this;omega
      have er0 := Int.emod_nonneg x (show p ≠ 0 by omega)
      have er1 := Int.emod_lt_of_pos x p0
      have es0 := Int.emod_nonneg y (show q ≠ 0 by omega)
      have es1 := Int.emod_lt_of_pos y q0
      have i0 : Fit (x / p) := by unfold Fit at *;have := Int.ediv_nonneg x0 (Int.le_of_lt p0);have := Int.ediv_le_self p x0;omega
      have k0 : Fit (y / q) := by unfold Fit at *;have := Int.ediv_nonneg y0 (Int.le_of_lt q0);have := Int.ediv_le_self q y0;omega
      generalize x / p = i at *
      generalize x % p = r at *
      generalize y / q = k at *
      generalize y % q = s at *
      have hst := cmp_step p0 q0 ex ey er0 er1 es0 es1
      have cp := fun w => cmp_any i k i0 k0 w
      have rf : Fit r := by unfold Fit at *;omega
      have sf : Fit s := by unfold Fit at *;omega
      have D1 := Lib.hid d1
      have D2 := Lib.hid d2
      have HM := Lib.hid hm
      have hR := HC.out.2
      clear d1 d2 hm i0 k0
      rcases Int.lt_trichotomy i k with h|h|h
      · have CP := Lib.hid (fun w1 => by have := cp w1;rw [show cmp i k = -1 from if_pos h] at this;exact this)
        rw [hst.1 h] at hR
        clear hst ex ey er0 er1 es0 es1 x0 xf p0 pf y0 yf q0 qf rf sf h cp
        rcases ht with rfl|rfl
        · obtain rfl : r0 = -1 := by omega
          clear hR
          go_wp2_with (first|((with_reducible apply Qag hp);exact ii;exact rfl;clear hp;(try clear w1);intro g w1 hp;simp only [zp,zq,z0,z1])|((with_reducible apply Qab hp);exact zt rfl;exact ii;exact ii;(exact zl rfl);(simp only [n0,Nat.reduceAdd,nn];try rfl);simp only [zp,zq,z0,z1])|((with_reducible apply Qae hp);exact zt rfl;exact za rfl;exact rfl;(exact AggTy.size);exact rfl;exact ii;(simp only [n0,Nat.reduceAdd,nn];try rfl);(exact zl rfl);exact rfl;exact ii;clear hp;(try clear w1);intro w1 hp)|((with_reducible first|refine Qaf hp (D1.out _) ?_|refine Qaf hp (D2.out _) ?_|refine Qaf hp (CP.out _) ?_);clear hp;(try clear w1);intro w1 hp))
          exact bodyPost_ret (Qaa rfl rfl) rfl ⟨rfl,hp.keep⟩
        · obtain rfl : r0 = 1 := by omega
          clear hR
          go_wp2_with (first|((with_reducible apply Qag hp);exact ii;exact rfl;clear hp;(try clear w1);intro g w1 hp;simp only [zp,zq,z0,z1])|((with_reducible apply Qab hp);exact zt rfl;exact ii;exact ii;(exact zl rfl);(simp only [n0,Nat.reduceAdd,nn];try rfl);simp only [zp,zq,z0,z1])|((with_reducible apply Qae hp);exact zt rfl;exact za rfl;exact rfl;(exact AggTy.size);exact rfl;exact ii;(simp only [n0,Nat.reduceAdd,nn];try rfl);(exact zl rfl);exact rfl;exact ii;clear hp;(try clear w1);intro w1 hp)|((with_reducible first|refine Qaf hp (D1.out _) ?_|refine Qaf hp (D2.out _) ?_|refine Qaf hp (CP.out _) ?_);clear hp;(try clear w1);intro w1 hp))
          exact bodyPost_ret (Qaa rfl rfl) rfl ⟨rfl,hp.keep⟩
      · have CP := Lib.hid (fun w1 => by have := cp w1;rw [show cmp i k = 0 from by unfold cmp;rw [if_neg (by omega),if_pos h]] at this;exact this)
        rw [hst.2.2 h] at hR
        clear hst ex ey h cp
        rcases Int.lt_or_eq_of_le er0 with hr|hr
        · have S1 := Lib.hid (fun w1 => by have := Qcn r rf w1;rw [show sgn r = 1 from by unfold sgn;rw [if_neg (by omega),if_neg (by omega)]] at this;exact this)
          rcases Int.lt_or_eq_of_le es0 with hs|hs
          · have S2 := Lib.hid (fun w1 => by have := Qcn s sf w1;rw [show sgn s = 1 from by unfold sgn;rw [if_neg (by omega),if_neg (by omega)]] at this;exact this)
            have HZ : Hid (CmI p r q s ∧ r0 = -t * cmp (p * s) (q * r) ∧ r < p) := ⟨⟨Int.le_of_lt p0,pf,hr,rf,Int.le_of_lt q0,qf,hs,sf⟩,by rw [hR,cmp_flip];grind,er1⟩
            clear hR er0 er1 es0 es1 x0 xf p0 pf y0 yf q0 qf rf sf hr hs HC
            go_upto_region 9 with (first|((with_reducible apply Qag hp);exact ii;exact rfl;clear hp;(try clear w1);intro g w1 hp;simp only [zp,zq,z0,z1])|((with_reducible apply Qab hp);exact zt rfl;exact ii;exact ii;(exact zl rfl);(simp only [n0,Nat.reduceAdd,nn];try rfl);simp only [zp,zq,z0,z1])|((with_reducible apply Qae hp);exact zt rfl;exact za rfl;exact rfl;(exact AggTy.size);exact rfl;exact ii;(simp only [n0,Nat.reduceAdd,nn];try rfl);(exact zl rfl);exact rfl;exact ii;clear hp;(try clear w1);intro w1 hp)|((with_reducible first|refine Qaf hp (D1.out _) ?_|refine Qaf hp (D2.out _) ?_|refine Qaf hp (CP.out _) ?_);clear hp;(try clear w1);intro w1 hp))
            have hq := hp
            refine Qad hp hq [] (.q 0 (.q 3 (.l 1 (.q 2 (.l 4 (.q 5 (.q 6 (.q 7 .nil)))))))) (by kernel_rfl) (by kernel_rfl) ?_
            clear hp hq;(try clear w1);intro w1 hp hq
            repeat' (first|(((with_reducible apply sd_q);exact zo rfl);(first|((with_reducible apply Qah hp);exact rfl;exact zt rfl;exact ii;exact ii;(exact zl rfl);(simp only [n0,Nat.reduceAdd,nn];try rfl);simp only [zp,zq,z0,z1])|((with_reducible apply Qat hp);exact zb rfl;simp only [zp,zq,z0,z1])|((with_reducible apply Qaj hp);exact rfl;(focus (intro _;go_simp;(try go_ints);try with_reducible rfl));simp only [zp,zq,z0,z1])))|(((with_reducible apply sd_l);exact zo rfl);((with_reducible apply Qap hp);exact rfl;(focus (intro _;go_simp;try first|with_reducible rfl|exact ⟨rfl,rfl⟩));(with_reducible first|exact fun w => S1.out w|exact fun w => S2.out w);exact hq;clear hp hq;(try clear w1);intro w1 hp hq;simp only [zp,zq,z0,z1]))|((with_reducible apply Qao);clear hp;have hp := hq;clear hq))
            go_upto_region 16 with (fail)
            have hq := hp
            clear hp
            have hp := hq.sub (.cons_cons _ (.cons_cons _ (.cons_cons _ (.cons_cons _ (List.nil_sublist _)))))
            refine Qad hp hq [7] (.q 1 (.q 3 (.b2 0 (.b2 2 (.l 4 (.l 5 (.l 6 (.l 7 .nil)))) 4 (.b2 2 (.l 5 (.l 6 (.l 7 .nil))) 5 (.l 2 (.l 6 (.l 7 .nil))))) 2 (.l 0 (.l 4 (.l 5 (.l 6 (.l 7 .nil)))))))) (by kernel_rfl) (by kernel_rfl) ?_
            clear hp hq;(try clear w1);intro w1 hp hq
            repeat' (first|(((with_reducible apply sd_q);exact zo rfl);((with_reducible apply Qah hp);exact rfl;exact zt rfl;exact ii;exact ii;(exact zl rfl);(simp only [n0,Nat.reduceAdd,nn];try rfl);simp only [zp,zq,z0,z1]))|(((with_reducible apply sd_l);exact zo rfl);(first|((with_reducible apply Qam hq);exact rfl;exact zt rfl;(exact za rfl);exact rfl;(exact AggTy.size);exact rfl;exact ii;(simp only [n0,Nat.reduceAdd,nn];try rfl);(exact zl rfl);exact rfl;exact ii;(repeat (first|exact sb1|apply sb2));clear hp hq;(try clear w1);intro w1 hp hq)|((with_reducible apply Qbo hp hq);exact rfl;exact zt rfl;exact ii;exact ii;(exact zl rfl);(simp only [n0,Nat.reduceAdd,nn];try rfl);simp only [zp,zq,z0,z1])))|(with_reducible apply Qfa)|((with_reducible apply Qao);clear hp;have hp := hq;clear hq))
            all_goals
              rcases ht with rfl|rfl
            all_goals
              go_wp2
              go_roundw
            all_goals
              first
                | (case' rel =>
                    exact ⟨_,p,r,q,s,(by first|exact .inl rfl|exact .inr rfl),rfl,⟨HZ.out.1,by have := HZ.out.2.1;omega⟩,hp.sub ((((List.Sublist.refl _).cons _).cons _).cons _ |>.cons _)⟩)
                | (case' measure =>
                    rw [HM.out,Qdm (g := gp) (y := r) hp (Int.le_of_lt HZ.out.1.p0) (by have := HZ.out.1.pf;unfold Fit M511 at this;unfold M512;omega)]
                    have := HZ.out.2.2
                    have := HZ.out.1.p0
                    omega)
          · subst hs
            have S2 := Lib.hid (fun w1 => by have := Qcn 0 sf w1;rw [show sgn 0 = 0 from rfl] at this;exact this)
            rw [cmp_right q0 hr] at hR
            clear er0 er1 es0 es1 x0 xf p0 pf y0 yf q0 qf rf sf hr HC
            rcases ht with rfl|rfl
            · obtain rfl : r0 = 1 := by omega
              clear hR
              go_upto_region 9 with (first|((with_reducible apply Qag hp);exact ii;exact rfl;clear hp;(try clear w1);intro g w1 hp;simp only [zp,zq,z0,z1])|((with_reducible apply Qab hp);exact zt rfl;exact ii;exact ii;(exact zl rfl);(simp only [n0,Nat.reduceAdd,nn];try rfl);simp only [zp,zq,z0,z1])|((with_reducible apply Qae hp);exact zt rfl;exact za rfl;exact rfl;(exact AggTy.size);exact rfl;exact ii;(simp only [n0,Nat.reduceAdd,nn];try rfl);(exact zl rfl);exact rfl;exact ii;clear hp;(try clear w1);intro w1 hp)|((with_reducible first|refine Qaf hp (D1.out _) ?_|refine Qaf hp (D2.out _) ?_|refine Qaf hp (CP.out _) ?_);clear hp;(try clear w1);intro w1 hp))
              have hq := hp
              refine Qad hp hq [] (.q 0 (.q 3 (.l 1 (.q 2 (.l 4 (.q 5 (.q 6 (.q 7 .nil)))))))) (by kernel_rfl) (by kernel_rfl) ?_
              clear hp hq;(try clear w1);intro w1 hp hq
              repeat' (first|(((with_reducible apply sd_q);exact zo rfl);(first|((with_reducible apply Qah hp);exact rfl;exact zt rfl;exact ii;exact ii;(exact zl rfl);(simp only [n0,Nat.reduceAdd,nn];try rfl);simp only [zp,zq,z0,z1])|((with_reducible apply Qat hp);exact zb rfl;simp only [zp,zq,z0,z1])|((with_reducible apply Qaj hp);exact rfl;(focus (intro _;go_simp;(try go_ints);try with_reducible rfl));simp only [zp,zq,z0,z1])))|(((with_reducible apply sd_l);exact zo rfl);((with_reducible apply Qap hp);exact rfl;(focus (intro _;go_simp;try first|with_reducible rfl|exact ⟨rfl,rfl⟩));(with_reducible first|exact fun w => S1.out w|exact fun w => S2.out w);exact hq;clear hp hq;(try clear w1);intro w1 hp hq;simp only [zp,zq,z0,z1]))|((with_reducible apply Qao);clear hp;have hp := hq;clear hq))
              go_wp2_with (fail)
              exact bodyPost_ret (Qaa rfl rfl) rfl ⟨rfl,hp.keep⟩
            · obtain rfl : r0 = -1 := by omega
              clear hR
              go_upto_region 9 with (first|((with_reducible apply Qag hp);exact ii;exact rfl;clear hp;(try clear w1);intro g w1 hp;simp only [zp,zq,z0,z1])|((with_reducible apply Qab hp);exact zt rfl;exact ii;exact ii;(exact zl rfl);(simp only [n0,Nat.reduceAdd,nn];try rfl);simp only [zp,zq,z0,z1])|((with_reducible apply Qae hp);exact zt rfl;exact za rfl;exact rfl;(exact AggTy.size);exact rfl;exact ii;(simp only [n0,Nat.reduceAdd,nn];try rfl);(exact zl rfl);exact rfl;exact ii;clear hp;(try clear w1);intro w1 hp)|((with_reducible first|refine Qaf hp (D1.out _) ?_|refine Qaf hp (D2.out _) ?_|refine Qaf hp (CP.out _) ?_);clear hp;(try clear w1);intro w1 hp))
              have hq := hp
              refine Qad hp hq [] (.q 0 (.q 3 (.l 1 (.q 2 (.l 4 (.q 5 (.q 6 (.q 7 .nil)))))))) (by kernel_rfl) (by kernel_rfl) ?_
              clear hp hq;(try clear w1);intro w1 hp hq
              repeat' (first|(((with_reducible apply sd_q);exact zo rfl);(first|((with_reducible apply Qah hp);exact rfl;exact zt rfl;exact ii;exact ii;(exact zl rfl);(simp only [n0,Nat.reduceAdd,nn];try rfl);simp only [zp,zq,z0,z1])|((with_reducible apply Qat hp);exact zb rfl;simp only [zp,zq,z0,z1])|((with_reducible apply Qaj hp);exact rfl;(focus (intro _;go_simp;(try go_ints);try with_reducible rfl));simp only [zp,zq,z0,z1])))|(((with_reducible apply sd_l);exact zo rfl);((with_reducible apply Qap hp);exact rfl;(focus (intro _;go_simp;try first|with_reducible rfl|exact ⟨rfl,rfl⟩));(with_reducible first|exact fun w => S1.out w|exact fun w => S2.out w);exact hq;clear hp hq;(try clear w1);intro w1 hp hq;simp only [zp,zq,z0,z1]))|((with_reducible apply Qao);clear hp;have hp := hq;clear hq))
              go_wp2_with (fail)
              exact bodyPost_ret (Qaa rfl rfl) rfl ⟨rfl,hp.keep⟩
        · subst hr
          have S1 := Lib.hid (fun w1 => by have := Qcn 0 rf w1;rw [show sgn 0 = 0 from rfl] at this;exact this)
          rcases Int.lt_or_eq_of_le es0 with hs|hs
          · have S2 := Lib.hid (fun w1 => by have := Qcn s sf w1;rw [show sgn s = 1 from by unfold sgn;rw [if_neg (by omega),if_neg (by omega)]] at this;exact this)
            rw [cmp_left p0 hs] at hR
            clear er0 er1 es0 es1 x0 xf p0 pf y0 yf q0 qf rf sf hs HC
            rcases ht with rfl|rfl
            · obtain rfl : r0 = -1 := by omega
              clear hR
              go_upto_region 9 with (first|((with_reducible apply Qag hp);exact ii;exact rfl;clear hp;(try clear w1);intro g w1 hp;simp only [zp,zq,z0,z1])|((with_reducible apply Qab hp);exact zt rfl;exact ii;exact ii;(exact zl rfl);(simp only [n0,Nat.reduceAdd,nn];try rfl);simp only [zp,zq,z0,z1])|((with_reducible apply Qae hp);exact zt rfl;exact za rfl;exact rfl;(exact AggTy.size);exact rfl;exact ii;(simp only [n0,Nat.reduceAdd,nn];try rfl);(exact zl rfl);exact rfl;exact ii;clear hp;(try clear w1);intro w1 hp)|((with_reducible first|refine Qaf hp (D1.out _) ?_|refine Qaf hp (D2.out _) ?_|refine Qaf hp (CP.out _) ?_);clear hp;(try clear w1);intro w1 hp))
              have hq := hp
              refine Qad hp hq [] (.q 0 (.q 3 (.l 1 (.q 2 (.l 4 (.q 5 (.q 6 (.q 7 .nil)))))))) (by kernel_rfl) (by kernel_rfl) ?_
              clear hp hq;(try clear w1);intro w1 hp hq
              repeat' (first|(((with_reducible apply sd_q);exact zo rfl);(first|((with_reducible apply Qah hp);exact rfl;exact zt rfl;exact ii;exact ii;(exact zl rfl);(simp only [n0,Nat.reduceAdd,nn];try rfl);simp only [zp,zq,z0,z1])|((with_reducible apply Qat hp);exact zb rfl;simp only [zp,zq,z0,z1])|((with_reducible apply Qaj hp);exact rfl;(focus (intro _;go_simp;(try go_ints);try with_reducible rfl));simp only [zp,zq,z0,z1])))|(((with_reducible apply sd_l);exact zo rfl);((with_reducible apply Qap hp);exact rfl;(focus (intro _;go_simp;try first|with_reducible rfl|exact ⟨rfl,rfl⟩));(with_reducible first|exact fun w => S1.out w|exact fun w => S2.out w);exact hq;clear hp hq;(try clear w1);intro w1 hp hq;simp only [zp,zq,z0,z1]))|((with_reducible apply Qao);clear hp;have hp := hq;clear hq))
              go_wp2_with (fail)
              exact bodyPost_ret (Qaa rfl rfl) rfl ⟨rfl,hp.keep⟩
            · obtain rfl : r0 = 1 := by omega
              clear hR
              go_upto_region 9 with (first|((with_reducible apply Qag hp);exact ii;exact rfl;clear hp;(try clear w1);intro g w1 hp;simp only [zp,zq,z0,z1])|((with_reducible apply Qab hp);exact zt rfl;exact ii;exact ii;(exact zl rfl);(simp only [n0,Nat.reduceAdd,nn];try rfl);simp only [zp,zq,z0,z1])|((with_reducible apply Qae hp);exact zt rfl;exact za rfl;exact rfl;(exact AggTy.size);exact rfl;exact ii;(simp only [n0,Nat.reduceAdd,nn];try rfl);(exact zl rfl);exact rfl;exact ii;clear hp;(try clear w1);intro w1 hp)|((with_reducible first|refine Qaf hp (D1.out _) ?_|refine Qaf hp (D2.out _) ?_|refine Qaf hp (CP.out _) ?_);clear hp;(try clear w1);intro w1 hp))
              have hq := hp
              refine Qad hp hq [] (.q 0 (.q 3 (.l 1 (.q 2 (.l 4 (.q 5 (.q 6 (.q 7 .nil)))))))) (by kernel_rfl) (by kernel_rfl) ?_
              clear hp hq;(try clear w1);intro w1 hp hq
              repeat' (first|(((with_reducible apply sd_q);exact zo rfl);(first|((with_reducible apply Qah hp);exact rfl;exact zt rfl;exact ii;exact ii;(exact zl rfl);(simp only [n0,Nat.reduceAdd,nn];try rfl);simp only [zp,zq,z0,z1])|((with_reducible apply Qat hp);exact zb rfl;simp only [zp,zq,z0,z1])|((with_reducible apply Qaj hp);exact rfl;(focus (intro _;go_simp;(try go_ints);try with_reducible rfl));simp only [zp,zq,z0,z1])))|(((with_reducible apply sd_l);exact zo rfl);((with_reducible apply Qap hp);exact rfl;(focus (intro _;go_simp;try first|with_reducible rfl|exact ⟨rfl,rfl⟩));(with_reducible first|exact fun w => S1.out w|exact fun w => S2.out w);exact hq;clear hp hq;(try clear w1);intro w1 hp hq;simp only [zp,zq,z0,z1]))|((with_reducible apply Qao);clear hp;have hp := hq;clear hq))
              go_wp2_with (fail)
              exact bodyPost_ret (Qaa rfl rfl) rfl ⟨rfl,hp.keep⟩
          · subst hs
            have S2 := Lib.hid (fun w1 => by have := Qcn 0 sf w1;rw [show sgn 0 = 0 from rfl] at this;exact this)
            rw [cmp_nil] at hR
            obtain rfl : r0 = 0 := by rcases ht with rfl|rfl <;> omega
            clear er0 er1 es0 es1 x0 xf p0 pf y0 yf q0 qf rf sf HC hR
            go_upto_region 9 with (first|((with_reducible apply Qag hp);exact ii;exact rfl;clear hp;(try clear w1);intro g w1 hp;simp only [zp,zq,z0,z1])|((with_reducible apply Qab hp);exact zt rfl;exact ii;exact ii;(exact zl rfl);(simp only [n0,Nat.reduceAdd,nn];try rfl);simp only [zp,zq,z0,z1])|((with_reducible apply Qae hp);exact zt rfl;exact za rfl;exact rfl;(exact AggTy.size);exact rfl;exact ii;(simp only [n0,Nat.reduceAdd,nn];try rfl);(exact zl rfl);exact rfl;exact ii;clear hp;(try clear w1);intro w1 hp)|((with_reducible first|refine Qaf hp (D1.out _) ?_|refine Qaf hp (D2.out _) ?_|refine Qaf hp (CP.out _) ?_);clear hp;(try clear w1);intro w1 hp))
            have hq := hp
            refine Qad hp hq [] (.q 0 (.q 3 (.l 1 (.q 2 (.l 4 (.q 5 (.q 6 (.q 7 .nil)))))))) (by kernel_rfl) (by kernel_rfl) ?_
            clear hp hq;(try clear w1);intro w1 hp hq
            repeat' (first|(((with_reducible apply sd_q);exact zo rfl);(first|((with_reducible apply Qah hp);exact rfl;exact zt rfl;exact ii;exact ii;(exact zl rfl);(simp only [n0,Nat.reduceAdd,nn];try rfl);simp only [zp,zq,z0,z1])|((with_reducible apply Qat hp);exact zb rfl;simp only [zp,zq,z0,z1])|((with_reducible apply Qaj hp);exact rfl;(focus (intro _;go_simp;(try go_ints);try with_reducible rfl));simp only [zp,zq,z0,z1])))|(((with_reducible apply sd_l);exact zo rfl);((with_reducible apply Qap hp);exact rfl;(focus (intro _;go_simp;try first|with_reducible rfl|exact ⟨rfl,rfl⟩));(with_reducible first|exact fun w => S1.out w|exact fun w => S2.out w);exact hq;clear hp hq;(try clear w1);intro w1 hp hq;simp only [zp,zq,z0,z1]))|((with_reducible apply Qao);clear hp;have hp := hq;clear hq))
            go_wp2_with (fail)
            exact bodyPost_ret (Qaa rfl rfl) rfl ⟨rfl,hp.keep⟩
      · have CP := Lib.hid (fun w1 => by have := cp w1;rw [show cmp i k = 1 from by unfold cmp;rw [if_neg (by omega),if_neg (by omega)]] at this;exact this)
        rw [hst.2.1 h] at hR
        clear hst ex ey er0 er1 es0 es1 x0 xf p0 pf y0 yf q0 qf rf sf h cp
        rcases ht with rfl|rfl
        · obtain rfl : r0 = 1 := by omega
          clear hR
          go_wp2_with (first|((with_reducible apply Qag hp);exact ii;exact rfl;clear hp;(try clear w1);intro g w1 hp;simp only [zp,zq,z0,z1])|((with_reducible apply Qab hp);exact zt rfl;exact ii;exact ii;(exact zl rfl);(simp only [n0,Nat.reduceAdd,nn];try rfl);simp only [zp,zq,z0,z1])|((with_reducible apply Qae hp);exact zt rfl;exact za rfl;exact rfl;(exact AggTy.size);exact rfl;exact ii;(simp only [n0,Nat.reduceAdd,nn];try rfl);(exact zl rfl);exact rfl;exact ii;clear hp;(try clear w1);intro w1 hp)|((with_reducible first|refine Qaf hp (D1.out _) ?_|refine Qaf hp (D2.out _) ?_|refine Qaf hp (CP.out _) ?_);clear hp;(try clear w1);intro w1 hp))
          exact bodyPost_ret (Qaa rfl rfl) rfl ⟨rfl,hp.keep⟩
        · obtain rfl : r0 = -1 := by omega
          clear hR
          go_wp2_with (first|((with_reducible apply Qag hp);exact ii;exact rfl;clear hp;(try clear w1);intro g w1 hp;simp only [zp,zq,z0,z1])|((with_reducible apply Qab hp);exact zt rfl;exact ii;exact ii;(exact zl rfl);(simp only [n0,Nat.reduceAdd,nn];try rfl);simp only [zp,zq,z0,z1])|((with_reducible apply Qae hp);exact zt rfl;exact za rfl;exact rfl;(exact AggTy.size);exact rfl;exact ii;(simp only [n0,Nat.reduceAdd,nn];try rfl);(exact zl rfl);exact rfl;exact ii;clear hp;(try clear w1);intro w1 hp)|((with_reducible first|refine Qaf hp (D1.out _) ?_|refine Qaf hp (D2.out _) ?_|refine Qaf hp (CP.out _) ?_);clear hp;(try clear w1);intro w1 hp))
          exact bodyPost_ret (Qaa rfl rfl) rfl ⟨rfl,hp.keep⟩
theorem nb_cm {N M : P3} {d e : Int} (h : Nb N d) (h' : Nb M e) : CmI (N.dot N) (d * d) (M.dot M) (e * e) := by
  have s1 := Qpf h
  have s2 := Qpf h'
  have hl : BW * BW < M511 := by unfold BW B3 B2 B1 M511;decide
  have m1 : d * d ≤ BW * BW := Int.mul_le_mul h.d1 h.d1 (Int.le_of_lt h.d0) Qgh
  have m2 : e * e ≤ BW * BW := Int.mul_le_mul h'.d1 h'.d1 (Int.le_of_lt h'.d0) Qgh
  have p1 := Int.mul_pos h.d0 h.d0
  have p2 := Int.mul_pos h'.d0 h'.d0
  exact ⟨s1.2.1,⟨by omega,s1.2.2⟩,p1,⟨by omega,by omega⟩,s2.2.1,⟨by omega,s2.2.2⟩,p2,⟨by omega,by omega⟩⟩
/-- Cmp of two that Past takes: of the squares, by those of the divisors. -/
theorem scmp_any {N M : P3} {d e : Int} (h : Nb N d) (h' : Nb M e) (sa sb : Value) (w : World) : Calls Tryz.prog 10 #[NrV N.x N.y N.z d sa,NrV M.x M.y M.z e sb] w (Ret (.int .i64 (cmp (N.dot N * (e * e)) (M.dot M * (d * d)))) w) := by
  have f := h.fit
  have f' := h'.fit
  have hc := nb_cm h h'
  refine scmp_core N.x N.y N.z d M.x M.y M.z e sa sb (N.dot N) (d * d) (M.dot M) (e * e) _ hc rfl ?_ ?_ ?_ ?_ w
  · intro w1
    have := Qha N.x N.y N.z f.1 f.2.1 f.2.2.1 w1
    rwa [(Qpf h).1] at this
  · intro w1
    have := Qha M.x M.y M.z f'.1 f'.2.1 f'.2.2.1 w1
    rwa [(Qpf h').1] at this
  · intro w1
    have := Qch d d f.2.2.2 f.2.2.2 w1
    rwa [show fz (d * d) = d * d from if_pos hc.pf] at this
  · intro w1
    have := Qch e e f'.2.2.2 f'.2.2.2 w1
    rwa [show fz (e * e) = e * e from if_pos hc.qf] at this
end Go.Proofs.YtdfdmeoalbpcdaaGreat
