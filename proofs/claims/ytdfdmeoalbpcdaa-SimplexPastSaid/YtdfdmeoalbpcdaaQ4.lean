/-
  ninepinref15.Cmp (contract).
-/
import Derived.Test.YtdfdmeoalbpcdaaQ3
import Derived.Test.YtdfdmeoalbpcdaaCd
set_option linter.unusedSimpArgs false
set_option linter.unusedVariables false
set_option maxRecDepth 100000
namespace Go.Proofs.Ytdfdmeoalbpcdaa
open Go Go.RowKit
attribute [local irreducible] wpList
set_option maxHeartbeats 16000000 in
theorem Qog (a0 a1 a2 a3 b0 b1 b2 b3 : Int) (sa sb : Value) (x p y q r0 : Int) (HI : Hid (CmI x p y q)) (HR : Hid (r0 = cmp (x * q) (y * p)))
    (SA : Hid (∀ w,Calls Try.prog 32 #[Sv a0 a1 a2] w (Ret (W x) w))) (SB : Hid (∀ w,Calls Try.prog 32 #[Sv b0 b1 b2] w (Ret (W y) w)))
    (TA : Hid (∀ w,Calls Try.prog 31 #[W a3,W a3] w (Ret (W p) w))) (TB : Hid (∀ w,Calls Try.prog 31 #[W b3,W b3] w (Ret (W q) w))) (w : World) :
    Calls Try.prog 13 #[NrV a0 a1 a2 a3 sa,NrV b0 b1 b2 b3 sb] w (Ret (.int .i64 r0) w) := by
  go_enter Try.func13,Try.ntmps13
  have hp := Hp.start [] w
  go_upto_region 1 with ((with_reducible apply Qav hp);exact za rfl;exact rfl;clear hp;(try clear w1);intro g w1 hp;simp only [zp,zq,z0,z1])
  rename_i ga K hK
  obtain ⟨gb,rfl⟩ : ∃ u : Nat,u = g := ⟨_,rfl⟩
  go_cut [5,6] (fun s5 s6 wx => ∃ gx gy,s5 = .pointer (some ⟨gx,0,none⟩) ∧ s6 = .pointer (some ⟨gy,0,none⟩) ∧ Hp [] w [⟨gy,28,[.int .u64 (lb (y) 0),.int .u64 (lb (y) 1),.int .u64 (lb (y) 2),.int .u64 (lb (y) 3),.int .u64 (lb (y) 4),.int .u64 (lb (y) 5),.int .u64 (lb (y) 6),.int .u64 (lb (y) 7)]⟩,⟨gx,28,[.int .u64 (lb (x) 0),.int .u64 (lb (x) 1),.int .u64 (lb (x) 2),.int .u64 (lb (x) 3),.int .u64 (lb (x) 4),.int .u64 (lb (x) 5),.int .u64 (lb (x) 6),.int .u64 (lb (x) 7)]⟩,⟨gb,33,[.int .u64 (lb (b0) 0),.int .u64 (lb (b0) 1),.int .u64 (lb (b0) 2),.int .u64 (lb (b0) 3),.int .u64 (lb (b0) 4),.int .u64 (lb (b0) 5),.int .u64 (lb (b0) 6),.int .u64 (lb (b0) 7),.int .u64 (lb (b1) 0),.int .u64 (lb (b1) 1),.int .u64 (lb (b1) 2),.int .u64 (lb (b1) 3),.int .u64 (lb (b1) 4),.int .u64 (lb (b1) 5),.int .u64 (lb (b1) 6),.int .u64 (lb (b1) 7),.int .u64 (lb (b2) 0),.int .u64 (lb (b2) 1),.int .u64 (lb (b2) 2),.int .u64 (lb (b2) 3),.int .u64 (lb (b2) 4),.int .u64 (lb (b2) 5),.int .u64 (lb (b2) 6),.int .u64 (lb (b2) 7),.int .u64 (lb (b3) 0),.int .u64 (lb (b3) 1),.int .u64 (lb (b3) 2),.int .u64 (lb (b3) 3),.int .u64 (lb (b3) 4),.int .u64 (lb (b3) 5),.int .u64 (lb (b3) 6),.int .u64 (lb (b3) 7),sb]⟩,⟨ga,33,[.int .u64 (lb (a0) 0),.int .u64 (lb (a0) 1),.int .u64 (lb (a0) 2),.int .u64 (lb (a0) 3),.int .u64 (lb (a0) 4),.int .u64 (lb (a0) 5),.int .u64 (lb (a0) 6),.int .u64 (lb (a0) 7),.int .u64 (lb (a1) 0),.int .u64 (lb (a1) 1),.int .u64 (lb (a1) 2),.int .u64 (lb (a1) 3),.int .u64 (lb (a1) 4),.int .u64 (lb (a1) 5),.int .u64 (lb (a1) 6),.int .u64 (lb (a1) 7),.int .u64 (lb (a2) 0),.int .u64 (lb (a2) 1),.int .u64 (lb (a2) 2),.int .u64 (lb (a2) 3),.int .u64 (lb (a2) 4),.int .u64 (lb (a2) 5),.int .u64 (lb (a2) 6),.int .u64 (lb (a2) 7),.int .u64 (lb (a3) 0),.int .u64 (lb (a3) 1),.int .u64 (lb (a3) 2),.int .u64 (lb (a3) 3),.int .u64 (lb (a3) 4),.int .u64 (lb (a3) 5),.int .u64 (lb (a3) 6),.int .u64 (lb (a3) 7),sa]⟩] wx)
  case first =>
    skip
    have hq := hp
    refine Qac hp hq [9] (.q 0 (.q 1 (.q 3 (.q 4 (.b3 2 (.b3 5 (.b2 6 (.l 7 (.l 8 (.l 9 .nil))) 7 (.l 6 (.l 8 (.l 9 .nil)))) 6 (.b2 5 (.l 7 (.l 8 (.l 9 .nil))) 7 (.l 5 (.l 8 (.l 9 .nil)))) 7 (.b2 5 (.l 6 (.l 8 (.l 9 .nil))) 6 (.l 5 (.l 8 (.l 9 .nil))))) 6 (.b2 2 (.b2 5 (.l 7 (.l 8 (.l 9 .nil))) 7 (.l 5 (.l 8 (.l 9 .nil)))) 7 (.l 2 (.l 5 (.l 8 (.l 9 .nil))))) 7 (.b2 2 (.b2 5 (.l 6 (.l 8 (.l 9 .nil))) 6 (.l 5 (.l 8 (.l 9 .nil)))) 6 (.l 2 (.l 5 (.l 8 (.l 9 .nil)))))))))) (by kernel_rfl) (by kernel_rfl) ?_
    clear hp hq;(try clear w1);intro w1 hp hq
    repeat' (first|(((with_reducible apply sd_q);exact zo rfl);(first|((with_reducible apply Qah hp);exact rfl;exact zt rfl;exact ii;exact ii;(exact zl rfl);(simp only [n0,Nat.reduceAdd,nn];try rfl);simp only [zp,zq,z0,z1])|((with_reducible apply Qai hp);exact rfl;(focus (intro _;go_simp;(try go_ints);try with_reducible rfl));simp only [zp,zq,z0,z1])))|(((with_reducible apply sd_l);exact zo rfl);(first|((with_reducible apply Qcq hq);(repeat (first|exact sb0|apply sb3));exact rfl;exact ii;exact rfl;clear hp hq;(try clear w1);intro g w1 hp hq;simp only [zp,zq,z0,z1])|((with_reducible apply Qao hp);exact rfl;(focus (intro _;go_simp;try first|with_reducible rfl|exact ⟨rfl,rfl⟩));(with_reducible first|exact fun w => SA.out w|exact fun w => SB.out w);exact hq;clear hp hq;(try clear w1);intro w1 hp hq;simp only [zp,zq,z0,z1])|((with_reducible apply Qar hq);exact rfl;exact zt rfl;(exact za rfl);exact rfl;(exact AggTy.size);exact rfl;exact ii;(simp only [n0,Nat.reduceAdd,nn];try rfl);(exact zl rfl);exact rfl;exact ii;(repeat (first|exact sb0|apply sb3));clear hp hq;(try clear w1);intro w1 hp hq)))|(with_reducible apply Qgi)|(with_reducible apply sd_b3)|((with_reducible apply Qam);clear hp;have hp := hq;clear hq))
    all_goals (go_wp2_with fail;go_meet;exact ⟨_,_,rfl,rfl,hp.perm (by first|exact pm0|exact .swap _ _ _)⟩)
  case rest =>
  clear hp SA SB
  obtain ⟨gx,gy,rfl,rfl,hp⟩ := hcut
  go_upto_region 2 with fail
  go_cut [7,8] (fun s7 s8 wx => ∃ gp gq,s7 = .pointer (some ⟨gp,0,none⟩) ∧ s8 = .pointer (some ⟨gq,0,none⟩) ∧ Hp [] w [⟨gq,28,[.int .u64 (lb (q) 0),.int .u64 (lb (q) 1),.int .u64 (lb (q) 2),.int .u64 (lb (q) 3),.int .u64 (lb (q) 4),.int .u64 (lb (q) 5),.int .u64 (lb (q) 6),.int .u64 (lb (q) 7)]⟩,⟨gp,28,[.int .u64 (lb (p) 0),.int .u64 (lb (p) 1),.int .u64 (lb (p) 2),.int .u64 (lb (p) 3),.int .u64 (lb (p) 4),.int .u64 (lb (p) 5),.int .u64 (lb (p) 6),.int .u64 (lb (p) 7)]⟩,⟨gy,28,[.int .u64 (lb (y) 0),.int .u64 (lb (y) 1),.int .u64 (lb (y) 2),.int .u64 (lb (y) 3),.int .u64 (lb (y) 4),.int .u64 (lb (y) 5),.int .u64 (lb (y) 6),.int .u64 (lb (y) 7)]⟩,⟨gx,28,[.int .u64 (lb (x) 0),.int .u64 (lb (x) 1),.int .u64 (lb (x) 2),.int .u64 (lb (x) 3),.int .u64 (lb (x) 4),.int .u64 (lb (x) 5),.int .u64 (lb (x) 6),.int .u64 (lb (x) 7)]⟩] wx)
  case first =>
    skip
    have hq := hp
    refine Qac hp hq [13] (.q 0 (.q 1 (.q 2 (.q 3 (.q 5 (.q 6 (.q 7 (.q 8 (.b3 4 (.b3 9 (.b2 10 (.l 11 (.l 12 (.l 13 .nil))) 11 (.l 10 (.l 12 (.l 13 .nil)))) 10 (.b2 9 (.l 11 (.l 12 (.l 13 .nil))) 11 (.l 9 (.l 12 (.l 13 .nil)))) 11 (.b2 9 (.l 10 (.l 12 (.l 13 .nil))) 10 (.l 9 (.l 12 (.l 13 .nil))))) 10 (.b2 4 (.b2 9 (.l 11 (.l 12 (.l 13 .nil))) 11 (.l 9 (.l 12 (.l 13 .nil)))) 11 (.l 4 (.l 9 (.l 12 (.l 13 .nil))))) 11 (.b2 4 (.b2 9 (.l 10 (.l 12 (.l 13 .nil))) 10 (.l 9 (.l 12 (.l 13 .nil)))) 10 (.l 4 (.l 9 (.l 12 (.l 13 .nil)))))))))))))) (by kernel_rfl) (by kernel_rfl) ?_
    clear hp hq;(try clear w1);intro w1 hp hq
    repeat' (first|(((with_reducible apply sd_q);exact zo rfl);(first|((with_reducible apply Qah hp);exact rfl;exact zt rfl;exact ii;exact ii;(exact zl rfl);(simp only [n0,Nat.reduceAdd,nn];try rfl);simp only [zp,zq,z0,z1])|((with_reducible apply Qai hp);exact rfl;(focus (intro _;go_simp;(try go_ints);try with_reducible rfl));simp only [zp,zq,z0,z1])))|(((with_reducible apply sd_l);exact zo rfl);(first|((with_reducible apply Qcq hq);(repeat (first|exact sb0|apply sb3));exact rfl;exact ii;exact rfl;clear hp hq;(try clear w1);intro g w1 hp hq;simp only [zp,zq,z0,z1])|((with_reducible apply Qao hp);exact rfl;(focus (intro _;go_simp;try first|with_reducible rfl|exact ⟨rfl,rfl⟩));(with_reducible first|exact fun w => TA.out w|exact fun w => TB.out w);exact hq;clear hp hq;(try clear w1);intro w1 hp hq;simp only [zp,zq,z0,z1])|((with_reducible apply Qar hq);exact rfl;exact zt rfl;(exact za rfl);exact rfl;(exact AggTy.size);exact rfl;exact ii;(simp only [n0,Nat.reduceAdd,nn];try rfl);(exact zl rfl);exact rfl;exact ii;(repeat (first|exact sb0|apply sb3));clear hp hq;(try clear w1);intro w1 hp hq)))|(with_reducible apply Qgi)|(with_reducible apply sd_b3)|((with_reducible apply Qam);clear hp;have hp := hq;clear hq))
    all_goals (go_wp2_with fail;go_meet;exact ⟨_,_,rfl,rfl,(hp.perm (by first|exact pm0|exact .swap _ _ _)).sub (.cons_cons _ (.cons_cons _ (.cons_cons _ (.cons_cons _ (List.nil_sublist _)))))⟩)
  case rest =>
    clear hp TA TB
    obtain ⟨gp,gq,rfl,rfl,hp⟩ := hcut
    go_wp2_with (fail)
    go_loopw [9] (fun tv wr => ∃ t x p y q : Int,(t = 1 ∨ t = -1) ∧ tv = .int .i64 t ∧ Hid (CmI x p y q ∧ r0 = t * cmp (x * q) (y * p)) ∧ Hp [] w [⟨gq,28,[.int .u64 (lb (q) 0),.int .u64 (lb (q) 1),.int .u64 (lb (q) 2),.int .u64 (lb (q) 3),.int .u64 (lb (q) 4),.int .u64 (lb (q) 5),.int .u64 (lb (q) 6),.int .u64 (lb (q) 7)]⟩,⟨gp,28,[.int .u64 (lb (p) 0),.int .u64 (lb (p) 1),.int .u64 (lb (p) 2),.int .u64 (lb (p) 3),.int .u64 (lb (p) 4),.int .u64 (lb (p) 5),.int .u64 (lb (p) 6),.int .u64 (lb (p) 7)]⟩,⟨gy,28,[.int .u64 (lb (y) 0),.int .u64 (lb (y) 1),.int .u64 (lb (y) 2),.int .u64 (lb (y) 3),.int .u64 (lb (y) 4),.int .u64 (lb (y) 5),.int .u64 (lb (y) 6),.int .u64 (lb (y) 7)]⟩,⟨gx,28,[.int .u64 (lb (x) 0),.int .u64 (lb (x) 1),.int .u64 (lb (x) 2),.int .u64 (lb (x) 3),.int .u64 (lb (x) 4),.int .u64 (lb (x) 5),.int .u64 (lb (x) 6),.int .u64 (lb (x) 7)]⟩] wr) (fun _ wr => bval gp wr)
    case atStart => exact ⟨1,x,p,y,q,.inl rfl,rfl,⟨HI.out,by rw [HR.out,Int.one_mul]⟩,hp⟩
    case round =>
      clear hp HI HR
      obtain ⟨t,x,p,y,q,ht,rfl,HC,hp⟩ := hrel
      obtain ⟨x0,xf,p0,pf,y0,yf,q0,qf⟩ := HC.out.1
      have hm := Qct (g := gp) (y := p) hp (Int.le_of_lt p0) (by unfold Fit M511 at pf;unfold M512;omega)
      have d1 := rdiv_any x p xf pf
      have d2 := rdiv_any y q yf qf
      rw [(Qhi x0 xf p0).1,(Qhi x0 xf p0).2] at d1
      rw [(Qhi y0 yf q0).1,(Qhi y0 yf q0).2] at d2
      have ex : x = x / p * p + x % p := by have := Int.mul_ediv_add_emod x p;rw [Int.mul_comm] at this;omega
      have ey : y = y / q * q + y % q := by have := Int.mul_ediv_add_emod y q;rw [Int.mul_comm] at this;omega
      have er0 := Int.emod_nonneg x (show p ≠ 0 by omega)
      have er1 := Int.emod_lt_of_pos x p0
      have es0 := Int.emod_nonneg y (show q ≠ 0 by omega)
      have es1 := Int.emod_lt_of_pos y q0
      have i0 : Fit (x / p) := by unfold Fit at *;have := Int.ediv_nonneg x0 (Int.le_of_lt p0);have := Int.ediv_le_self p x0;omega
      have k0 : Fit (y / q) := by unfold Fit at *;have := Int.ediv_nonneg y0 (Int.le_of_lt q0);have := Int.ediv_le_self q y0;omega
      generalize x / p = i at *
      generalize x % p = r at *
      generalize y / q = k at *
      generalize y % q = s at *
      have hst := Qov p0 q0 ex ey er0 er1 es0 es1
      have cp := fun w => Qnn i k i0 k0 w
      have rf : Fit r := by unfold Fit at *;omega
      have sf : Fit s := by unfold Fit at *;omega
      have D1 := Lib.hid d1
      have D2 := Lib.hid d2
      have HM := Lib.hid hm
      have hR := HC.out.2
      clear d1 d2 hm i0 k0
      rcases Int.lt_trichotomy i k with h|h|h
      · have CP := Lib.hid (fun w1 => by have := cp w1;rw [show sgn (i - k) = -1 from by unfold sgn;rw [if_pos (by omega)]] at this;exact this)
        rw [hst.1 h] at hR
        clear hst ex ey er0 er1 es0 es1 x0 xf p0 pf y0 yf q0 qf rf sf h cp
        rcases ht with rfl|rfl
        · obtain rfl : r0 = -1 := by omega
          clear hR
          go_wp2_with (first|((with_reducible apply Qag hp);exact ii;exact rfl;clear hp;(try clear w1);intro g w1 hp;simp only [zp,zq,z0,z1])|((with_reducible apply Qab hp);exact zt rfl;exact ii;exact ii;(exact zl rfl);(simp only [n0,Nat.reduceAdd,nn];try rfl);simp only [zp,zq,z0,z1])|((with_reducible apply Qaf hp);exact zt rfl;exact za rfl;exact rfl;(exact AggTy.size);exact rfl;exact ii;(simp only [n0,Nat.reduceAdd,nn];try rfl);(exact zl rfl);exact rfl;exact ii;clear hp;(try clear w1);intro w1 hp)|((with_reducible first|refine Qae hp (D1.out _) ?_|refine Qae hp (D2.out _) ?_|refine Qae hp (CP.out _) ?_);clear hp;(try clear w1);intro w1 hp))
          exact bodyPost_ret (Qaa rfl rfl) rfl ⟨rfl,hp.keep⟩
        · obtain rfl : r0 = 1 := by omega
          clear hR
          go_wp2_with (first|((with_reducible apply Qag hp);exact ii;exact rfl;clear hp;(try clear w1);intro g w1 hp;simp only [zp,zq,z0,z1])|((with_reducible apply Qab hp);exact zt rfl;exact ii;exact ii;(exact zl rfl);(simp only [n0,Nat.reduceAdd,nn];try rfl);simp only [zp,zq,z0,z1])|((with_reducible apply Qaf hp);exact zt rfl;exact za rfl;exact rfl;(exact AggTy.size);exact rfl;exact ii;(simp only [n0,Nat.reduceAdd,nn];try rfl);(exact zl rfl);exact rfl;exact ii;clear hp;(try clear w1);intro w1 hp)|((with_reducible first|refine Qae hp (D1.out _) ?_|refine Qae hp (D2.out _) ?_|refine Qae hp (CP.out _) ?_);clear hp;(try clear w1);intro w1 hp))
          exact bodyPost_ret (Qaa rfl rfl) rfl ⟨rfl,hp.keep⟩
      · have CP := Lib.hid (fun w1 => by have := cp w1;rw [show sgn (i - k) = 0 from by unfold sgn;rw [if_neg (by omega),if_pos (by omega)]] at this;exact this)
        rw [hst.2.2 h] at hR
        clear hst ex ey h cp
        rcases Int.lt_or_eq_of_le er0 with hr|hr
        · have S1 := Lib.hid (fun w1 => by have := Qdt r rf w1;rw [show sgn r = 1 from by unfold sgn;rw [if_neg (by omega),if_neg (by omega)]] at this;exact this)
          rcases Int.lt_or_eq_of_le es0 with hs|hs
          · have S2 := Lib.hid (fun w1 => by have := Qdt s sf w1;rw [show sgn s = 1 from by unfold sgn;rw [if_neg (by omega),if_neg (by omega)]] at this;exact this)
            have HZ : Hid (CmI p r q s ∧ r0 = -t * cmp (p * s) (q * r) ∧ r < p) := ⟨⟨Int.le_of_lt p0,pf,hr,rf,Int.le_of_lt q0,qf,hs,sf⟩,by rw [hR,cmp_flip];grind,er1⟩
            clear hR er0 er1 es0 es1 x0 xf p0 pf y0 yf q0 qf rf sf hr hs HC
            go_upto_region 9 with (first|((with_reducible apply Qag hp);exact ii;exact rfl;clear hp;(try clear w1);intro g w1 hp;simp only [zp,zq,z0,z1])|((with_reducible apply Qab hp);exact zt rfl;exact ii;exact ii;(exact zl rfl);(simp only [n0,Nat.reduceAdd,nn];try rfl);simp only [zp,zq,z0,z1])|((with_reducible apply Qaf hp);exact zt rfl;exact za rfl;exact rfl;(exact AggTy.size);exact rfl;exact ii;(simp only [n0,Nat.reduceAdd,nn];try rfl);(exact zl rfl);exact rfl;exact ii;clear hp;(try clear w1);intro w1 hp)|((with_reducible first|refine Qae hp (D1.out _) ?_|refine Qae hp (D2.out _) ?_|refine Qae hp (CP.out _) ?_);clear hp;(try clear w1);intro w1 hp))
            have hq := hp
            refine Qac hp hq [] (.q 0 (.q 2 (.l 1 (.l 3 (.q 4 (.q 5 .nil)))))) (by kernel_rfl) (by kernel_rfl) ?_
            clear hp hq;(try clear w1);intro w1 hp hq
            repeat' (first|(((with_reducible apply sd_q);exact zo rfl);(first|((with_reducible apply Qah hp);exact rfl;exact zt rfl;exact ii;exact ii;(exact zl rfl);(simp only [n0,Nat.reduceAdd,nn];try rfl);simp only [zp,zq,z0,z1])|((with_reducible apply Qan hp);exact zi rfl;simp only [zp,zq,z0,z1])|((with_reducible apply Qai hp);exact rfl;(focus (intro _;go_simp;(try go_ints);try with_reducible rfl));simp only [zp,zq,z0,z1])))|(((with_reducible apply sd_l);exact zo rfl);((with_reducible apply Qao hp);exact rfl;(focus (intro _;go_simp;try first|with_reducible rfl|exact ⟨rfl,rfl⟩));(with_reducible first|exact fun w => S1.out w|exact fun w => S2.out w);exact hq;clear hp hq;(try clear w1);intro w1 hp hq;simp only [zp,zq,z0,z1]))|((with_reducible apply Qam);clear hp;have hp := hq;clear hq))
            rcases ht with rfl|rfl
            all_goals
              go_upto_region 12 with (first|((with_reducible apply Qab hp);exact zt rfl;exact ii;exact ii;(exact zl rfl);(simp only [n0,Nat.reduceAdd,nn];try rfl);simp only [zp,zq,z0,z1])|((with_reducible refine Qae hp (S1.out _) ?_);clear hp;(try clear w1);intro w1 hp)|((with_reducible apply Qbt);exact rfl))
              have hq := hp
              clear hp
              have hp := hq.sub (.cons_cons _ (.cons _ (.cons_cons _ (.cons _ (List.Sublist.refl _)))))
              clear hq
              go_wp2_with (first|((with_reducible apply Qab hp);exact zt rfl;exact ii;exact ii;(exact zl rfl);(simp only [n0,Nat.reduceAdd,nn];try rfl);simp only [zp,zq,z0,z1])|((with_reducible apply Qaf hp);exact zt rfl;exact za rfl;exact rfl;(exact AggTy.size);exact rfl;exact ii;(simp only [n0,Nat.reduceAdd,nn];try rfl);(exact zl rfl);exact rfl;exact ii;clear hp;(try clear w1);intro w1 hp))
              go_roundw
            all_goals
              first
                | (case' rel =>
                    exact ⟨_,p,r,q,s,(by first|exact .inl rfl|exact .inr rfl),rfl,⟨HZ.out.1,by have := HZ.out.2.1;omega⟩,hp.sub (by repeat (first|exact sb0|apply sb3))⟩)
                | (case' measure =>
                    rw [HM.out,Qct (g := gp) (y := r) hp (Int.le_of_lt HZ.out.1.p0) (by have := HZ.out.1.pf;unfold Fit M511 at this;unfold M512;omega)]
                    have := HZ.out.2.2
                    have := HZ.out.1.p0
                    omega)
          · subst hs
            have S2 := Lib.hid (fun w1 => by have := Qdt 0 sf w1;rw [show sgn 0 = 0 from rfl] at this;exact this)
            rw [Qnj q0 hr] at hR
            clear er0 er1 es0 es1 x0 xf p0 pf y0 yf q0 qf rf sf hr HC
            rcases ht with rfl|rfl
            · obtain rfl : r0 = 1 := by omega
              clear hR
              go_upto_region 9 with (first|((with_reducible apply Qag hp);exact ii;exact rfl;clear hp;(try clear w1);intro g w1 hp;simp only [zp,zq,z0,z1])|((with_reducible apply Qab hp);exact zt rfl;exact ii;exact ii;(exact zl rfl);(simp only [n0,Nat.reduceAdd,nn];try rfl);simp only [zp,zq,z0,z1])|((with_reducible apply Qaf hp);exact zt rfl;exact za rfl;exact rfl;(exact AggTy.size);exact rfl;exact ii;(simp only [n0,Nat.reduceAdd,nn];try rfl);(exact zl rfl);exact rfl;exact ii;clear hp;(try clear w1);intro w1 hp)|((with_reducible first|refine Qae hp (D1.out _) ?_|refine Qae hp (D2.out _) ?_|refine Qae hp (CP.out _) ?_);clear hp;(try clear w1);intro w1 hp))
              have hq := hp
              refine Qac hp hq [] (.q 0 (.q 2 (.l 1 (.l 3 (.q 4 (.q 5 .nil)))))) (by kernel_rfl) (by kernel_rfl) ?_
              clear hp hq;(try clear w1);intro w1 hp hq
              repeat' (first|(((with_reducible apply sd_q);exact zo rfl);(first|((with_reducible apply Qah hp);exact rfl;exact zt rfl;exact ii;exact ii;(exact zl rfl);(simp only [n0,Nat.reduceAdd,nn];try rfl);simp only [zp,zq,z0,z1])|((with_reducible apply Qan hp);exact zi rfl;simp only [zp,zq,z0,z1])|((with_reducible apply Qai hp);exact rfl;(focus (intro _;go_simp;(try go_ints);try with_reducible rfl));simp only [zp,zq,z0,z1])))|(((with_reducible apply sd_l);exact zo rfl);((with_reducible apply Qao hp);exact rfl;(focus (intro _;go_simp;try first|with_reducible rfl|exact ⟨rfl,rfl⟩));(with_reducible first|exact fun w => S1.out w|exact fun w => S2.out w);exact hq;clear hp hq;(try clear w1);intro w1 hp hq;simp only [zp,zq,z0,z1]))|((with_reducible apply Qam);clear hp;have hp := hq;clear hq))
              go_wp2_with (fail)
              exact bodyPost_ret (Qaa rfl rfl) rfl ⟨rfl,hp.keep⟩
            · obtain rfl : r0 = -1 := by omega
              clear hR
              go_upto_region 9 with (first|((with_reducible apply Qag hp);exact ii;exact rfl;clear hp;(try clear w1);intro g w1 hp;simp only [zp,zq,z0,z1])|((with_reducible apply Qab hp);exact zt rfl;exact ii;exact ii;(exact zl rfl);(simp only [n0,Nat.reduceAdd,nn];try rfl);simp only [zp,zq,z0,z1])|((with_reducible apply Qaf hp);exact zt rfl;exact za rfl;exact rfl;(exact AggTy.size);exact rfl;exact ii;(simp only [n0,Nat.reduceAdd,nn];try rfl);(exact zl rfl);exact rfl;exact ii;clear hp;(try clear w1);intro w1 hp)|((with_reducible first|refine Qae hp (D1.out _) ?_|refine Qae hp (D2.out _) ?_|refine Qae hp (CP.out _) ?_);clear hp;(try clear w1);intro w1 hp))
              have hq := hp
              refine Qac hp hq [] (.q 0 (.q 2 (.l 1 (.l 3 (.q 4 (.q 5 .nil)))))) (by kernel_rfl) (by kernel_rfl) ?_
              clear hp hq;(try clear w1);intro w1 hp hq
              repeat' (first|(((with_reducible apply sd_q);exact zo rfl);(first|((with_reducible apply Qah hp);exact rfl;exact zt rfl;exact ii;exact ii;(exact zl rfl);(simp only [n0,Nat.reduceAdd,nn];try rfl);simp only [zp,zq,z0,z1])|((with_reducible apply Qan hp);exact zi rfl;simp only [zp,zq,z0,z1])|((with_reducible apply Qai hp);exact rfl;(focus (intro _;go_simp;(try go_ints);try with_reducible rfl));simp only [zp,zq,z0,z1])))|(((with_reducible apply sd_l);exact zo rfl);((with_reducible apply Qao hp);exact rfl;(focus (intro _;go_simp;try first|with_reducible rfl|exact ⟨rfl,rfl⟩));(with_reducible first|exact fun w => S1.out w|exact fun w => S2.out w);exact hq;clear hp hq;(try clear w1);intro w1 hp hq;simp only [zp,zq,z0,z1]))|((with_reducible apply Qam);clear hp;have hp := hq;clear hq))
              go_wp2_with (fail)
              exact bodyPost_ret (Qaa rfl rfl) rfl ⟨rfl,hp.keep⟩
        · subst hr
          have S1 := Lib.hid (fun w1 => by have := Qdt 0 rf w1;rw [show sgn 0 = 0 from rfl] at this;exact this)
          rcases Int.lt_or_eq_of_le es0 with hs|hs
          · have S2 := Lib.hid (fun w1 => by have := Qdt s sf w1;rw [show sgn s = 1 from by unfold sgn;rw [if_neg (by omega),if_neg (by omega)]] at this;exact this)
            rw [Qoy p0 hs] at hR
            clear er0 er1 es0 es1 x0 xf p0 pf y0 yf q0 qf rf sf hs HC
            rcases ht with rfl|rfl
            · obtain rfl : r0 = -1 := by omega
              clear hR
              go_upto_region 9 with (first|((with_reducible apply Qag hp);exact ii;exact rfl;clear hp;(try clear w1);intro g w1 hp;simp only [zp,zq,z0,z1])|((with_reducible apply Qab hp);exact zt rfl;exact ii;exact ii;(exact zl rfl);(simp only [n0,Nat.reduceAdd,nn];try rfl);simp only [zp,zq,z0,z1])|((with_reducible apply Qaf hp);exact zt rfl;exact za rfl;exact rfl;(exact AggTy.size);exact rfl;exact ii;(simp only [n0,Nat.reduceAdd,nn];try rfl);(exact zl rfl);exact rfl;exact ii;clear hp;(try clear w1);intro w1 hp)|((with_reducible first|refine Qae hp (D1.out _) ?_|refine Qae hp (D2.out _) ?_|refine Qae hp (CP.out _) ?_);clear hp;(try clear w1);intro w1 hp))
              have hq := hp
              refine Qac hp hq [] (.q 0 (.q 2 (.l 1 (.l 3 (.q 4 (.q 5 .nil)))))) (by kernel_rfl) (by kernel_rfl) ?_
              clear hp hq;(try clear w1);intro w1 hp hq
              repeat' (first|(((with_reducible apply sd_q);exact zo rfl);(first|((with_reducible apply Qah hp);exact rfl;exact zt rfl;exact ii;exact ii;(exact zl rfl);(simp only [n0,Nat.reduceAdd,nn];try rfl);simp only [zp,zq,z0,z1])|((with_reducible apply Qan hp);exact zi rfl;simp only [zp,zq,z0,z1])|((with_reducible apply Qai hp);exact rfl;(focus (intro _;go_simp;(try go_ints);try with_reducible rfl));simp only [zp,zq,z0,z1])))|(((with_reducible apply sd_l);exact zo rfl);((with_reducible apply Qao hp);exact rfl;(focus (intro _;go_simp;try first|with_reducible rfl|exact ⟨rfl,rfl⟩));(with_reducible first|exact fun w => S1.out w|exact fun w => S2.out w);exact hq;clear hp hq;(try clear w1);intro w1 hp hq;simp only [zp,zq,z0,z1]))|((with_reducible apply Qam);clear hp;have hp := hq;clear hq))
              go_wp2_with (fail)
              exact bodyPost_ret (Qaa rfl rfl) rfl ⟨rfl,hp.keep⟩
            · obtain rfl : r0 = 1 := by omega
              clear hR
              go_upto_region 9 with (first|((with_reducible apply Qag hp);exact ii;exact rfl;clear hp;(try clear w1);intro g w1 hp;simp only [zp,zq,z0,z1])|((with_reducible apply Qab hp);exact zt rfl;exact ii;exact ii;(exact zl rfl);(simp only [n0,Nat.reduceAdd,nn];try rfl);simp only [zp,zq,z0,z1])|((with_reducible apply Qaf hp);exact zt rfl;exact za rfl;exact rfl;(exact AggTy.size);exact rfl;exact ii;(simp only [n0,Nat.reduceAdd,nn];try rfl);(exact zl rfl);exact rfl;exact ii;clear hp;(try clear w1);intro w1 hp)|((with_reducible first|refine Qae hp (D1.out _) ?_|refine Qae hp (D2.out _) ?_|refine Qae hp (CP.out _) ?_);clear hp;(try clear w1);intro w1 hp))
              have hq := hp
              refine Qac hp hq [] (.q 0 (.q 2 (.l 1 (.l 3 (.q 4 (.q 5 .nil)))))) (by kernel_rfl) (by kernel_rfl) ?_
              clear hp hq;(try clear w1);intro w1 hp hq
              repeat' (first|(((with_reducible apply sd_q);exact zo rfl);(first|((with_reducible apply Qah hp);exact rfl;exact zt rfl;exact ii;exact ii;(exact zl rfl);(simp only [n0,Nat.reduceAdd,nn];try rfl);simp only [zp,zq,z0,z1])|((with_reducible apply Qan hp);exact zi rfl;simp only [zp,zq,z0,z1])|((with_reducible apply Qai hp);exact rfl;(focus (intro _;go_simp;(try go_ints);try with_reducible rfl));simp only [zp,zq,z0,z1])))|(((with_reducible apply sd_l);exact zo rfl);((with_reducible apply Qao hp);exact rfl;(focus (intro _;go_simp;try first|with_reducible rfl|exact ⟨rfl,rfl⟩));(with_reducible first|exact fun w => S1.out w|exact fun w => S2.out w);exact hq;clear hp hq;(try clear w1);intro w1 hp hq;simp only [zp,zq,z0,z1]))|((with_reducible apply Qam);clear hp;have hp := hq;clear hq))
              go_wp2_with (fail)
              exact bodyPost_ret (Qaa rfl rfl) rfl ⟨rfl,hp.keep⟩
          · subst hs
            have S2 := Lib.hid (fun w1 => by have := Qdt 0 sf w1;rw [show sgn 0 = 0 from rfl] at this;exact this)
            rw [cmp_nil] at hR
            obtain rfl : r0 = 0 := by rcases ht with rfl|rfl <;> omega
            clear er0 er1 es0 es1 x0 xf p0 pf y0 yf q0 qf rf sf HC hR
            go_upto_region 9 with (first|((with_reducible apply Qag hp);exact ii;exact rfl;clear hp;(try clear w1);intro g w1 hp;simp only [zp,zq,z0,z1])|((with_reducible apply Qab hp);exact zt rfl;exact ii;exact ii;(exact zl rfl);(simp only [n0,Nat.reduceAdd,nn];try rfl);simp only [zp,zq,z0,z1])|((with_reducible apply Qaf hp);exact zt rfl;exact za rfl;exact rfl;(exact AggTy.size);exact rfl;exact ii;(simp only [n0,Nat.reduceAdd,nn];try rfl);(exact zl rfl);exact rfl;exact ii;clear hp;(try clear w1);intro w1 hp)|((with_reducible first|refine Qae hp (D1.out _) ?_|refine Qae hp (D2.out _) ?_|refine Qae hp (CP.out _) ?_);clear hp;(try clear w1);intro w1 hp))
            have hq := hp
            refine Qac hp hq [] (.q 0 (.q 2 (.l 1 (.l 3 (.q 4 (.q 5 .nil)))))) (by kernel_rfl) (by kernel_rfl) ?_
            clear hp hq;(try clear w1);intro w1 hp hq
            repeat' (first|(((with_reducible apply sd_q);exact zo rfl);(first|((with_reducible apply Qah hp);exact rfl;exact zt rfl;exact ii;exact ii;(exact zl rfl);(simp only [n0,Nat.reduceAdd,nn];try rfl);simp only [zp,zq,z0,z1])|((with_reducible apply Qan hp);exact zi rfl;simp only [zp,zq,z0,z1])|((with_reducible apply Qai hp);exact rfl;(focus (intro _;go_simp;(try go_ints);try with_reducible rfl));simp only [zp,zq,z0,z1])))|(((with_reducible apply sd_l);exact zo rfl);((with_reducible apply Qao hp);exact rfl;(focus (intro _;go_simp;try first|with_reducible rfl|exact ⟨rfl,rfl⟩));(with_reducible first|exact fun w => S1.out w|exact fun w => S2.out w);exact hq;clear hp hq;(try clear w1);intro w1 hp hq;simp only [zp,zq,z0,z1]))|((with_reducible apply Qam);clear hp;have hp := hq;clear hq))
            go_wp2_with (first|((with_reducible apply Qab hp);exact zt rfl;exact ii;exact ii;(exact zl rfl);(simp only [n0,Nat.reduceAdd,nn];try rfl);simp only [zp,zq,z0,z1])|((with_reducible refine Qae hp (S1.out _) ?_);clear hp;(try clear w1);intro w1 hp)|((with_reducible apply Qbt);exact rfl))
            exact bodyPost_ret (Qaa rfl rfl) rfl ⟨rfl,hp.keep⟩
      · have CP := Lib.hid (fun w1 => by have := cp w1;rw [show sgn (i - k) = 1 from by unfold sgn;rw [if_neg (by omega),if_neg (by omega)]] at this;exact this)
        rw [hst.2.1 h] at hR
        clear hst ex ey er0 er1 es0 es1 x0 xf p0 pf y0 yf q0 qf rf sf h cp
        rcases ht with rfl|rfl
        · obtain rfl : r0 = 1 := by omega
          clear hR
          go_wp2_with (first|((with_reducible apply Qag hp);exact ii;exact rfl;clear hp;(try clear w1);intro g w1 hp;simp only [zp,zq,z0,z1])|((with_reducible apply Qab hp);exact zt rfl;exact ii;exact ii;(exact zl rfl);(simp only [n0,Nat.reduceAdd,nn];try rfl);simp only [zp,zq,z0,z1])|((with_reducible apply Qaf hp);exact zt rfl;exact za rfl;exact rfl;(exact AggTy.size);exact rfl;exact ii;(simp only [n0,Nat.reduceAdd,nn];try rfl);(exact zl rfl);exact rfl;exact ii;clear hp;(try clear w1);intro w1 hp)|((with_reducible first|refine Qae hp (D1.out _) ?_|refine Qae hp (D2.out _) ?_|refine Qae hp (CP.out _) ?_);clear hp;(try clear w1);intro w1 hp))
          exact bodyPost_ret (Qaa rfl rfl) rfl ⟨rfl,hp.keep⟩
        · obtain rfl : r0 = -1 := by omega
          clear hR
          go_wp2_with (first|((with_reducible apply Qag hp);exact ii;exact rfl;clear hp;(try clear w1);intro g w1 hp;simp only [zp,zq,z0,z1])|((with_reducible apply Qab hp);exact zt rfl;exact ii;exact ii;(exact zl rfl);(simp only [n0,Nat.reduceAdd,nn];try rfl);simp only [zp,zq,z0,z1])|((with_reducible apply Qaf hp);exact zt rfl;exact za rfl;exact rfl;(exact AggTy.size);exact rfl;exact ii;(simp only [n0,Nat.reduceAdd,nn];try rfl);(exact zl rfl);exact rfl;exact ii;clear hp;(try clear w1);intro w1 hp)|((with_reducible first|refine Qae hp (D1.out _) ?_|refine Qae hp (D2.out _) ?_|refine Qae hp (CP.out _) ?_);clear hp;(try clear w1);intro w1 hp))
          exact bodyPost_ret (Qaa rfl rfl) rfl ⟨rfl,hp.keep⟩
/-- The reference Cmp of two that Past takes: of the squares, by those of the divisors. -/
theorem r15cmp_any {N M : P3} {d e : Int} (h : Nb N d) (h' : Nb M e) (sa sb : Value) (w : World) : Calls Try.prog 13 #[NrV N.x N.y N.z d sa,NrV M.x M.y M.z e sb] w (Ret (.int .i64 (cmp (N.dot N * (e * e)) (M.dot M * (d * d)))) w) := by
  have f := h.fit
  have f' := h'.fit
  have hc := nb_cm h h'
  refine Qog N.x N.y N.z d M.x M.y M.z e sa sb (N.dot N) (d * d) (M.dot M) (e * e) _ hc rfl ?_ ?_ ?_ ?_ w
  · intro w1
    have := Qfd N.x N.y N.z f.1 f.2.1 f.2.2.1 w1
    rwa [(Qii h).1] at this
  · intro w1
    have := Qfd M.x M.y M.z f'.1 f'.2.1 f'.2.2.1 w1
    rwa [(Qii h').1] at this
  · intro w1
    have := Qdb d d f.2.2.2 f.2.2.2 w1
    rwa [show fz (d * d) = d * d from if_pos hc.pf] at this
  · intro w1
    have := Qdb e e f'.2.2.2 f'.2.2.2 w1
    rwa [show fz (e * e) = e * e from if_pos hc.qf] at this
end Go.Proofs.Ytdfdmeoalbpcdaa
