/-
  Package wide: Div (contract).
  Package grid: common (contract).
  Slices in a region that draws: literals, append (laws of the walk).
  Package grid: near, Round, Cmp; cmp.Compare, cmp.Or (contracts).
-/
import Derived.Test.YtdfdmeoalbpcdaaDe
import Derived.Test.YtdfdmeoalbpcdaaSl
import Derived.Test.YtdfdmeoalbpcdaaHb
import Derived.Test.YtdfdmeoalbpcdaaEr
set_option linter.unusedSimpArgs false
set_option linter.unusedVariables false
set_option maxRecDepth 100000
namespace Go.Proofs.Ytdfdmeoalbpcdaa
open Go Go.RowKit
theorem sz_abs {a : Int} (h : Fit a) : sz a = if a < 0 then -a else a := by
  unfold sz
  rw [Qcj h]
  by_cases ha : a < 0 <;> simp [ha]
theorem sgn_ne {b : Int} (h : b ≠ 0) : sgn b ≠ 0 := by
  unfold sgn
  split
  · omega
  · first|omega|(split <;> omega)
/-- wide.Div: the quotient, rounded down, and what is left; none by 0, none that does not fit. -/
theorem Qdn (a b : Int) (ha : Fit a) (hb : Fit b) (w : World) : Calls Try.prog 33 #[W a,W b] w (Ret (.tuple #[W (dvq a b),W (dvr a b),.bool (decide (dvok a b))]) w) := by
  by_cases hb0 : b = 0
  · have hn : ¬ dvok a b := fun h => h.1 hb0
    unfold dvq dvr
    rw [if_neg hn,if_neg hn,decide_eq_false hn,hb0]
    exact div_none a w
  · have hA := sz_abs ha
    have hB := sz_abs hb
    have hA0 : 0 ≤ sz a ∧ sz a ≤ M511 := by rw [hA];unfold Fit at ha;split <;> omega
    have hB0 : 0 < sz b ∧ sz b ≤ M511 := by rw [hB];unfold Fit at hb;split <;> omega
    have hM : M511 + M511 = M512 := by unfold M511 M512;omega
    have hM0 : 0 < M511 := by unfold M511;omega
    have hx0 : 0 ≤ sz a / sz b := Int.ediv_nonneg hA0.1 (by omega)
    have hx1 : sz a / sz b ≤ sz a := Int.ediv_le_self _ hA0.1
    have hy0 := Int.emod_nonneg (sz a) (show sz b ≠ 0 by omega)
    have hy1 := Int.emod_lt_of_pos (sz a) hB0.1
    have HS := Lib.hid (Qbu b hb)
    have HA := Lib.hid (Qmu a)
    have HB := Lib.hid (Qmu b)
    have HP := Lib.hid (parts_any (sz a) (sz b) hA0.1 (by omega) hB0.1 (by omega))
    have HNA := Lib.hid (Qcs a)
    have HNB := Lib.hid (Qcs b)
    have hfy : Fit (sz a % sz b) := by unfold Fit;omega
    have hfr := fr_range (a := a) hb0
    have hfrf : Fit (fr a b) := by unfold Fit at hb ⊢;omega
    have HI : Hid (∀ w,Calls Try.prog 61 #[W (sz a / sz b),.agg #[.int .u64 0,.int .u64 0,.int .u64 0,.int .u64 0,.int .u64 0,.int .u64 0,.int .u64 0,.int .u64 0],.int .u64 1] w (Ret (W (sz a / sz b + 1)) w)) := Lib.hid fun w => by
      have := Qfo (sz a / sz b) 0 1 (by omega) (by omega) w
      rw [Qfv,Int.add_zero] at this
      exact this
    have HN := Lib.hid (Qmr (sz a % sz b))
    have HJ : Hid (∀ w,Calls Try.prog 61 #[W (sz b),W (-(sz a % sz b) - 1),.int .u64 1] w (Ret (W (sz b - sz a % sz b)) w)) := Lib.hid fun w => by
      have := Qfo (sz b) (-(sz a % sz b) - 1) 1 (by omega) (by omega) w
      rw [show sz b + (-(sz a % sz b) - 1) + 1 = sz b - sz a % sz b by omega] at this
      exact this
    by_cases hs : decide (a < 0) = decide (b < 0)
    · obtain ⟨eq,er⟩ := div_like hb0 hs (sz a) (sz b) hA hB
      have hu : (ng a == ng b) = true := by rw [Qcj ha,Qcj hb,hs];simp
      by_cases hf : Fit (fq a b)
      · have hn : dvok a b := ⟨hb0,hf⟩
        unfold dvq dvr
        rw [if_pos hn,if_pos hn,decide_eq_true hn]
        refine Qng a b (sz a) (sz b) _ _ (sz a / sz b) (sz a % sz b) _ _ _ _ w (sgn_ne hb0) HS HA HB HP HNA HNB HI HN HJ (Lib.hid fun w => ?_) (Lib.hid fun w => ?_) (.inl ⟨hu,rfl,rfl⟩)
        · rw [hu,eq]
          rw [eq] at hf
          exact Qdm _ false hx0 hf w
        · have := Qdm (sz a % sz b) (ng b) hy0 (by rw [Qcj hb];simp only [decide_eq_true_eq];rw [← er];exact hfrf) w
          rw [Qcj hb] at this ⊢
          simp only [decide_eq_true_eq] at this
          rw [← er] at this
          exact this
      · have hn : ¬ dvok a b := fun h => hf h.2
        unfold dvq dvr
        rw [if_neg hn,if_neg hn,decide_eq_false hn]
        refine div_bad a b (sz a) (sz b) _ _ _ _ w (sgn_ne hb0) HS HA HB HP HNA HNB (Lib.hid fun w => ?_) hu
        rw [hu]
        rw [eq] at hf
        exact Qin _ false hx0 (by omega) hf w
    · have hs' : decide (a < 0) = !decide (b < 0) := by
        cases h1 : decide (a < 0) <;> cases h2 : decide (b < 0) <;> simp [h1,h2] at hs ⊢
      obtain ⟨e0,e1⟩ := div_unlike hb0 hs' (sz a) (sz b) hA hB
      have hu : (ng a == ng b) = false := by rw [Qcj ha,Qcj hb];simpa using hs
      have hz := Qcg hfy Qbn
      by_cases hy : sz a % sz b = 0
      · obtain ⟨eq,er⟩ := e0 hy
        have hf : Fit (fq a b) := by rw [eq];unfold Fit;omega
        have hn : dvok a b := ⟨hb0,hf⟩
        unfold dvq dvr
        rw [if_pos hn,if_pos hn,decide_eq_true hn]
        rw [decide_eq_true hy] at hz
        refine Qng a b (sz a) (sz b) _ _ (sz a / sz b) (sz a % sz b) _ _ _ _ w (sgn_ne hb0) HS HA HB HP HNA HNB HI HN HJ (Lib.hid fun w => ?_) (Lib.hid fun w => ?_) (.inr (.inl ⟨hu,hz,rfl,rfl⟩))
        · rw [hu,eq]
          rw [eq] at hf
          exact Qdm _ true hx0 hf w
        · rw [er,hy]
          have := Qdm 0 (ng b) (by omega) (by split <;> exact Qbn) w
          have e : (if ng b = true then -(0 : Int) else 0) = 0 := by split <;> rfl
          rw [e] at this
          exact this
      · obtain ⟨eq,er⟩ := e1 hy
        have hx2 : sz a / sz b + 1 ≤ M511 := by
          by_cases h : sz a / sz b < M511
          · omega
          · exfalso
            replace h : M511 ≤ sz a / sz b := by omega
            have h1 := Int.mul_ediv_add_emod (sz a) (sz b)
            have h2 := Int.mul_le_mul (show (1 : Int) ≤ sz b by omega) h (by omega) (by omega)
            omega
        have hf : Fit (fq a b) := by rw [eq];unfold Fit;omega
        have hn : dvok a b := ⟨hb0,hf⟩
        unfold dvq dvr
        rw [if_pos hn,if_pos hn,decide_eq_true hn]
        rw [decide_eq_false hy] at hz
        refine Qng a b (sz a) (sz b) _ _ (sz a / sz b + 1) (sz b - sz a % sz b) _ _ _ _ w (sgn_ne hb0) HS HA HB HP HNA HNB HI HN HJ (Lib.hid fun w => ?_) (Lib.hid fun w => ?_) (.inr (.inr ⟨hu,hz,rfl,rfl⟩))
        · rw [hu,eq]
          rw [eq] at hf
          exact Qdm _ true (by omega) hf w
        · have := Qdm (sz b - sz a % sz b) (ng b) (by omega) (by rw [Qcj hb];simp only [decide_eq_true_eq];rw [← er];exact hfrf) w
          rw [Qcj hb] at this ⊢
          simp only [decide_eq_true_eq] at this
          rw [← er] at this
          exact this
end Go.Proofs.Ytdfdmeoalbpcdaa

set_option linter.unusedSimpArgs false
set_option linter.unusedVariables false
set_option maxRecDepth 100000
namespace Go.Proofs.Ytdfdmeoalbpcdaa
open Go Go.RowKit
/-- The greatest common divisor of two numbers from 0 on. -/
def cg (x y : Int) : Int := ((Nat.gcd x.toNat y.toNat : Nat) : Int)
theorem Qfc {x : Int} (h : 0 ≤ x) : cg x 0 = x := by
  unfold cg
  simp
  exact Int.max_eq_left h
theorem Qfk {x y : Int} (hx : 0 ≤ x) (hy : 0 < y) : cg y (x % y) = cg x y := by
  unfold cg
  have e : (x % y).toNat = x.toNat % y.toNat := by
    have : ((x.toNat % y.toNat : Nat) : Int) = x % y := by rw [Int.natCast_emod];congr 1 <;> omega
    omega
  rw [e,Nat.gcd_comm,← Nat.gcd_rec,Nat.gcd_comm]
/-- The number whose limbs lie in a block. -/
def cval : List Value → Int
  | [] => 0
  | .int _ n :: l => n + 18446744073709551616 * cval l
  | _ :: l => 18446744073709551616 * cval l
def bval (g : Nat) (w : World) : Nat := match w.heap[g]? with
  | some (.cells cs _ _) => (cval cs.toList).toNat
  | _ => 0
theorem cval_W {y : Int} (h0 : 0 ≤ y) (h1 : y < M512) : cval [.int .u64 (lb (y) 0),.int .u64 (lb (y) 1),.int .u64 (lb (y) 2),.int .u64 (lb (y) 3),.int .u64 (lb (y) 4),.int .u64 (lb (y) 5),.int .u64 (lb (y) 6),.int .u64 (lb (y) 7)] = y := by
  have s := fun k => Qlr y k
  have h8 : y % 2 ^ (64 * 8) = y := Int.emod_eq_of_lt h0 (by rw [← M512_eq];exact h1)
  have e := fun k => Qdf k
  have s7 := s 7;have s6 := s 6;have s5 := s 5;have s4 := s 4;have s3 := s 3;have s2 := s 2;have s1 := s 1;have s0 := s 0
  simp only [cval,Nat.reduceAdd] at *
  rw [h8] at s7
  have p1 : (2 : Int) ^ (64 * 1) = 18446744073709551616 := rfl
  have p2 := e 1;have p3 := e 2;have p4 := e 3;have p5 := e 4;have p6 := e 5;have p7 := e 6
  simp only [Nat.reduceAdd] at p2 p3 p4 p5 p6 p7
  rw [p1] at p2;rw [p2] at p3;rw [p3] at p4;rw [p4] at p5;rw [p5] at p6;rw [p6] at p7
  rw [p7] at s7;rw [p6,p7] at s6;rw [p5,p6] at s5;rw [p4,p5] at s4;rw [p3,p4] at s3;rw [p2,p3] at s2;rw [p1,p2] at s1;rw [p1] at s0
  have z : y % 2 ^ (64 * 0) = 0 := by simp [Int.emod_one]
  have z2 : (2 : Int) ^ (64 * 0) = 1 := rfl
  rw [z,z2] at s0
  omega
theorem Qcl {X : List Nat} {w0 w : World} {H : List Bk} {g : Nat} {t : TypeId} {y : Int} (hp : Hp X w0 H w) [h : Has H g t [.int .u64 (lb (y) 0),.int .u64 (lb (y) 1),.int .u64 (lb (y) 2),.int .u64 (lb (y) 3),.int .u64 (lb (y) 4),.int .u64 (lb (y) 5),.int .u64 (lb (y) 6),.int .u64 (lb (y) 7)]] (h0 : 0 ≤ y) (h1 : y < M512) : bval g w = y.toNat := by
  unfold bval
  rw [hp.blk]
  dsimp only
  rw [cval_W h0 h1]
set_option maxHeartbeats 8000000 in
theorem Qmc (a b : Int) (ha : Fit a) (hb : Fit b) (ha0 : 0 ≤ a) (hb0 : 0 ≤ b) (w : World) : Calls Try.prog 75 #[W a,W b] w (Ret (W (cg a b)) w) := by
  have HA := Lib.hid ha
  have HB := Lib.hid hb
  clear ha hb
  go_enter Try.func75,Try.ntmps75
  have hp := Hp.start [] w
  go_wp2_with (first|((with_reducible apply Qaw hp);exact za rfl;exact rfl;clear hp;(try clear w1);intro g w1 hp;simp only [zp,zq,z0,z1])|((with_reducible apply Qae hp);exact ii;exact rfl;clear hp;(try clear w1);intro g w1 hp;simp only [zp,zq,z0,z1]))
  rename_i ga gb K hK
  obtain ⟨gp,rfl⟩ : ∃ z : Nat,z = g := ⟨_,rfl⟩
  go_loopw [7] (fun ok wr => ∃ x y : Int,Fit x ∧ Fit y ∧ 0 ≤ x ∧ 0 ≤ y ∧ cg x y = cg a b ∧ Hp [] w [⟨gp,28,[.int .u64 0,.int .u64 0,.int .u64 0,.int .u64 0,.int .u64 0,.int .u64 0,.int .u64 0,.int .u64 0]⟩,⟨gb,28,[.int .u64 (lb (y) 0),.int .u64 (lb (y) 1),.int .u64 (lb (y) 2),.int .u64 (lb (y) 3),.int .u64 (lb (y) 4),.int .u64 (lb (y) 5),.int .u64 (lb (y) 6),.int .u64 (lb (y) 7)]⟩,⟨ga,28,[.int .u64 (lb (x) 0),.int .u64 (lb (x) 1),.int .u64 (lb (x) 2),.int .u64 (lb (x) 3),.int .u64 (lb (x) 4),.int .u64 (lb (x) 5),.int .u64 (lb (x) 6),.int .u64 (lb (x) 7)]⟩] wr) (fun _ wr => bval gb wr)
  case atStart => exact ⟨a,b,HA.out,HB.out,ha0,hb0,rfl,hp⟩
  case round =>
    clear hp
    obtain ⟨x,y,hx,hy,hx0,hy0,hg,hp⟩ := hrel
    have hz := Qcg hy Qbn
    rw [Qcd] at hz
    have HX := Lib.hid hx
    have HY := Lib.hid hy
    have HG := Lib.hid hg
    by_cases h0 : y = 0
    · rw [decide_eq_true h0] at hz
      have e : cg a b = x := by rw [← hg,h0,Qfc hx0]
      clear hx hy hg h0 HX HY HG
      go_wp2_with (first|((with_reducible apply Qaa hp);exact zt rfl;exact ii;exact ii;(exact zl rfl);(simp only [n0,Nat.reduceAdd,nn];try rfl);simp only [zp,zq,z0,z1])|((with_reducible apply Qad hp);exact zt rfl;exact za rfl;exact rfl;(exact AggTy.size);exact rfl;exact ii;(simp only [n0,Nat.reduceAdd,nn];try rfl);(exact zl rfl);exact rfl;exact ii;clear hp;(try clear w1);intro w1 hp))
      exact bodyPost_ret (Qab rfl ⟨_,rfl,Qag hp (Nat.le_of_ble_eq_true rfl)⟩) rfl ⟨by rw [e];rfl,hp.keep⟩
    · rw [decide_eq_false h0] at hz
      have hm := Qcl (g := gb) (y := y) hp hy0 (by unfold Fit M511 at hy;unfold M512;omega)
      have hok : dvok x y := ⟨h0,by unfold fq Fit at *;rw [if_neg (by omega)];have := Int.ediv_nonneg hx0 hy0;have := Int.ediv_le_self y hx0;omega⟩
      have hr : dvr x y = x % y := by
        unfold dvr
        rw [if_pos hok]
        exact (Qfh (q := x / y) (by have := Int.mul_ediv_add_emod x y;rw [Int.mul_comm] at this;omega) (.inl ⟨by omega,Int.emod_nonneg _ h0,Int.emod_lt_of_pos _ (by omega)⟩)).2
      have hd := Qdn x y hx hy
      rw [hr] at hd
      have HD := Lib.hid hd
      have HM := Lib.hid hm
      have HY0 := Lib.hid h0
      clear hd hr hok hm h0 hx hy hg
      go_wp2_with (first|((with_reducible apply Qae hp);exact ii;exact rfl;clear hp;(try clear w1);intro g w1 hp;simp only [zp,zq,z0,z1])|((with_reducible apply Qaa hp);exact zt rfl;exact ii;exact ii;(exact zl rfl);(simp only [n0,Nat.reduceAdd,nn];try rfl);simp only [zp,zq,z0,z1])|((with_reducible apply Qad hp);exact zt rfl;exact za rfl;exact rfl;(exact AggTy.size);exact rfl;exact ii;(simp only [n0,Nat.reduceAdd,nn];try rfl);(exact zl rfl);exact rfl;exact ii;clear hp;(try clear w1);intro w1 hp)|((with_reducible refine Qah hp (HD.out _) ?_);clear hp;(try clear w1);intro w1 hp))
      have hq := hp
      clear hp
      have hp := hq.sub (.cons_cons _ (.cons_cons _ (.cons_cons _ (.cons_cons _ (.cons _ .slnil)))))
      refine Qac hp hq [3] (.q 0 (.q 1 (.l 2 (.l 3 .nil)))) (by kernel_rfl) (by kernel_rfl) ?_
      clear hp hq;(try clear w1);intro w1 hp hq
      repeat' (first|(((with_reducible apply sd_q);exact zo rfl);((with_reducible apply Qaf hp);exact rfl;exact zt rfl;exact ii;exact ii;(exact zl rfl);(simp only [n0,Nat.reduceAdd,nn];try rfl);simp only [zp,zq,z0,z1]))|(((with_reducible apply sd_l);exact zo rfl);(first|((with_reducible apply Qao hq);exact rfl;exact zt rfl;(exact za rfl);exact rfl;(exact AggTy.size);exact rfl;exact ii;(simp only [n0,Nat.reduceAdd,nn];try rfl);(exact zl rfl);exact rfl;exact ii;(repeat (first|exact sb1|apply sb2|apply sb3));clear hp hq;(try clear w1);intro w1 hp hq)|((with_reducible apply Qax hq);exact rfl;exact zt rfl;(exact za rfl);exact rfl;(exact AggTy.size);exact rfl;exact ii;(simp only [n0,Nat.reduceAdd,nn];try rfl);(exact zl rfl);exact rfl;exact ii;exact rfl;clear hp hq;(try clear w1);intro w1 hq;have hp := True.intro)))|((with_reducible apply Qam);clear hp;have hp := hq;clear hq))
      go_wp2
      go_roundw
      case rel =>
        have := Int.emod_lt_of_pos x (show 0 < y by have := HY0.out;omega)
        have h2 := Int.emod_nonneg x HY0.out
        refine ⟨y,x % y,HY.out,?_,hy0,h2,?_,?_⟩
        · have := HY.out
          unfold Fit at *;omega
        · rw [Qfk hx0 (by have := HY0.out;omega)];exact HG.out
        · exact hp.sub ((List.Sublist.refl _).cons _ |>.cons _)
      case measure =>
        have h1 := Int.emod_lt_of_pos x (show 0 < y by have := HY0.out;omega)
        have h2 := Int.emod_nonneg x HY0.out
        have h3 := HY.out
        rw [HM.out,Qcl (g := gb) (y := x % y) hp h2 (by unfold Fit M511 at h3;unfold M512;omega)]
        omega
end Go.Proofs.Ytdfdmeoalbpcdaa

set_option linter.unusedSimpArgs false
set_option linter.unusedVariables false
namespace Go.Proofs.Ytdfdmeoalbpcdaa
open Go Go.RowKit
section
variable {P : Program} {X : List Nat} {w0 w : World} {H Hq H' : List Bk} {g : Nat} {t : TypeId} {cs cs' : List Value}
variable {ops : Array Oper} {Q : Exit → Act → World → Prop} {a : Act} {N : List Nat} {i : Nat} {rest : Sc} {d p : Tmp} {tp ty : TypeId} {pos : String} {af : Array Edge} {gd : Option (Nat × Bool)} {off n : Nat}
theorem Qch {e : TypeId} {n m : Nat} {z : Value} {parts : List (Nat × Operand)} {vs cs : List Value} {ls : List (List Value)} (hq : Hp X w0 Hq w) (hsub : List.Sublist H Hq) (hw : Region.wanted ⟨some d,.buildSlice t n parts.toArray,tp,pos,af,gd⟩ (yielded ops a.tmps) = true)
    (ht : Qfb P t e) (hs : ∀ w,(sizeOf e).run P w = .ok m w) (hz : ZeroTy P e z) (hsm : n * m ≤ 2 ^ 24) (h0 : n * m ≠ 0)
    (hpv : (parts.map fun p => (p.1,a.eval p.2)) = Qbw 0 vs) (hn : vs.length = n) (hv : vs.map (·.cells) = ls.map (·.toArray)) (hl : ∀ l ∈ ls,l.length = m) (hcs : ls.flatten = cs)
    (hk : ∀ g w1,Hp X w0 H w1 → Hp X w0 (⟨g,e,cs⟩ :: Hq) w1 → Qbb P ops Q (Hp X w0 H) N rest (a.put (some d) (.slice (some ⟨g,0,none⟩) n n)) w1) : wpL P ops Q (Hp X w0 H) N i rest ⟨some d,.buildSlice t n parts.toArray,tp,pos,af,gd⟩ a w := by
  subst hcs
  refine Qdt hw ?_
  unfold Oper.wp
  have hpv' : (parts.toArray.map fun (i,x) => (i,a.eval x)).toList = Qbw 0 vs := by rw [← hpv];simp
  simp only [execOp,Sem.run_bind,Qef hs hsm h0 hpv' hn hv hl,Result.andThen_ok]
  have h1 := hq.alloc e ls.flatten
  have h2 := h1.sub (hsub.cons _)
  exact ⟨fun _ => h2,hk _ _ h2 h1⟩
theorem Qep {s x : Operand} {e : TypeId} {z : Value} {size bytes n m c gv cap gx : Nat} {ex : TypeId} {xs junk news : List Value} {H1 : List Bk} (hq : Hp X w0 Hq w) (hw : Region.wanted ⟨some d,.call { callee := .builtin .append,args := #[s,x],argTypes := #[t,t] },tp,pos,af,gd⟩ (yielded ops a.tmps) = true)
    (ht : Qfb P t e) (he : Qgo P e z size bytes) (hzs : z.cells.size = size) (hsz : 0 < size)
    (hs : a.eval s = .slice (some ⟨gv,0,none⟩) n cap) (hperm : Hq.Perm (⟨gv,e,xs ++ junk⟩ :: H1)) (hsub : List.Sublist H H1) (hxl : xs.length = n * size) (hjl : (xs ++ junk).length = cap * size) (hnc : n ≤ cap) (hcm : cap ≤ maxLen)
    (hx : a.eval x = .slice (some ⟨gx,0,none⟩) m c) (hh : Has Hq gx ex news) (hl : news.length = m * size) (h1 : news.all (·.oneCell') = true) (hm : m ≠ 0) (hm1 : n + m ≤ maxLen) (hm2 : (n + m) * bytes ≤ 140737488355328)
    (hk : ∀ g cap' junk' w1,(xs ++ news ++ junk').length = cap' * size → n + m ≤ cap' → cap' ≤ maxLen → Hp X w0 H w1 → Hp X w0 (⟨g,e,xs ++ news ++ junk'⟩ :: H1) w1 → Qbb P ops Q (Hp X w0 H) N rest (a.put (some d) (.slice (some ⟨g,0,none⟩) (n + m) cap')) w1) :
    wpL P ops Q (Hp X w0 H) N i rest ⟨some d,.call { callee := .builtin .append,args := #[s,x],argTypes := #[t,t] },tp,pos,af,gd⟩ a w := by
  obtain ⟨inf,hi,hi'⟩ : ∃ i,P.info? e = some i ∧ (i.zero,i.size,i.bytes) = (some z,size,bytes) := by
    have := he.info
    cases h : P.info? e with
    | none => rw [h] at this;cases this
    | some i => rw [h] at this;exact ⟨i,rfl,by simpa using this⟩
  simp only [Prod.mk.injEq] at hi'
  obtain ⟨hiz,his,hib⟩ := hi'
  have hbv := ((hq.perm hperm).own ⟨gv,e,xs ++ junk⟩ (by simp)).2
  obtain ⟨v',w',hrun,hr,hg,hnil,hob⟩ := run_append_own_at (P := P) w 0 t tp e inf z size bytes ht.und hi hiz his hib hzs hsz (.slice (some ⟨gv,0,none⟩) n cap) n xs ⟨hxl,.inr ⟨gv,cap,_,rfl,Nat.zero_le _,hbv,hnc,hcm,by simpa using hjl,by rw [List.toList_toArray,← hxl,List.take_left'];rfl⟩⟩ ⟨gx,0,none⟩ m c news hl (Qgl hq) (fun u hu => List.all_eq_true.1 h1 u hu) hm1 hm2 (Nat.zero_le _)
  refine Qdt hw ?_
  unfold Oper.wp execOp
  simp only [resolve,invoke,builtin,Sem.run_bind,Sem.run_pure,Result.andThen_ok,List.map_toArray,List.map_cons,List.map_nil,hs,hx,hrun]
  obtain ⟨hlen,hr⟩ := hr
  rcases hr with ⟨rfl,h0⟩|⟨g,cap',cur,rfl,_,hb,hn,hc,hcs,htk⟩
  · exact absurd (hnil.1 rfl).2 hm
  · have hgs : g = gv ∨ g = w.heap.size := by
      rcases hob with h|h
      · left;simpa [Value.ownBlock] using h
      · right;simpa [Value.ownBlock] using h
    have e1 : cur.toList = xs ++ news ++ cur.toList.drop ((n + m) * size) := by rw [← htk,List.take_append_drop]
    have h1 := hq.grew (cs' := xs ++ news ++ cur.toList.drop ((n + m) * size)) hperm hg hgs (by rw [← e1];simpa using hb)
    have h2 := h1.sub (hsub.cons _)
    refine ⟨fun _ => h2,hk g cap' (cur.toList.drop ((n + m) * size)) w' ?_ hn hc h2 h1⟩
    rw [← e1];simpa using hcs
end
end Go.Proofs.Ytdfdmeoalbpcdaa

set_option linter.unusedSimpArgs false
set_option linter.unusedVariables false
set_option maxRecDepth 100000
namespace Go.Proofs.Ytdfdmeoalbpcdaa
open Go Go.RowKit
/-- A call that is known of this world alone. -/
theorem Qmn {P : Program} {ops : Array Oper} {Q : Exit → Act → World → Prop} {N : List Nat} {X : List Nat} {w0 w : World} {H Hq : List Bk} {a : Act} {i : Nat} {rest : Sc} {d : Tmp} {tp : TypeId} {pos : String} {af : Array Edge} {gd : Option (Nat × Bool)} {c : Call} {f : FuncId} {args : Array Value} {v : Value} (hp : Hp X w0 H w) (hw : Region.wanted ⟨some d,.call c,tp,pos,af,gd⟩ (yielded ops a.tmps) = true)
    (he : ∀ w,(execOp a.eval ⟨some d,.call c,tp,pos,af,gd⟩).run P w = .ok (.enter f args) w) (hc : Calls P f args w (Ret v w)) (hq : Hp X w0 Hq w)
    (hk : ∀ w1,Hp X w0 H w1 → Hp X w0 Hq w1 → Qbb P ops Q (Hp X w0 H) N rest (a.put (some d) v) w1) : wpL P ops Q (Hp X w0 H) N i rest ⟨some d,.call c,tp,pos,af,gd⟩ a w := by
  refine Qdt hw ?_
  unfold Oper.wp
  simp only [he,Oper.upon]
  exact hc.mono fun e w1 ⟨he,hw1⟩ => by subst he;exact ⟨fun _ => hp.call hw1,hk w1 (hp.call hw1) (hq.call hw1)⟩
/-! ### Comparing -/
def cp (x y : Int) : Int := if x < y then -1 else if y < x then 1 else 0
end Go.Proofs.Ytdfdmeoalbpcdaa
