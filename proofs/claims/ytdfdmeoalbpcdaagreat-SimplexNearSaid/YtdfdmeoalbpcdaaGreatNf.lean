/-
  ninepinref15: times, plus, Square, Past (contracts).
  ninepinref15: dot, less, two, axis, size (contracts).
-/
import Derived.Test.YtdfdmeoalbpcdaaGreatQo
import Derived.Test.YtdfdmeoalbpcdaaGreatBn
import Derived.Test.YtdfdmeoalbpcdaaGreatQa
import Derived.Test.YtdfdmeoalbpcdaaGreatFi
set_option linter.unusedSimpArgs false
set_option linter.unusedVariables false
set_option maxRecDepth 100000
namespace Go.Proofs.YtdfdmeoalbpcdaaGreat
open Go Go.RowKit
set_option maxHeartbeats 1000000 in
theorem Qca (a b : Int) (ha : Fit a) (hb : Fit b) (w : World) : Calls Tryz.prog 65 #[W a,W b] w (Ret (W (fz (a * b))) w) := by
  have HC := Lib.hid (Qjh a b ha hb)
  clear ha hb
  go_enter Tryz.func65,Tryz.ntmps65
  have hp := Hp.start [] w
  go_wp2_with (first|((with_reducible apply Qau hp);exact za rfl;exact rfl;clear hp;(try clear w1);intro g w1 hp;simp only [zp,zq,z0,z1])|((with_reducible apply Qag hp);exact ii;exact rfl;clear hp;(try clear w1);intro g w1 hp;simp only [zp,zq,z0,z1])|((with_reducible apply Qab hp);exact zt rfl;exact ii;exact ii;(exact zl rfl);(simp only [n0,Nat.reduceAdd,nn];try rfl);simp only [zp,zq,z0,z1])|((with_reducible apply Qae hp);exact zt rfl;exact za rfl;exact rfl;(exact AggTy.size);exact rfl;exact ii;(simp only [n0,Nat.reduceAdd,nn];try rfl);(exact zl rfl);exact rfl;exact ii;clear hp;(try clear w1);intro w1 hp)|((with_reducible refine Qaf hp (HC.out _) ?_);clear hp;(try clear w1);intro w1 hp))
  exact bodyPost_ret (Qaa rfl ⟨_,rfl,Qac hp (Nat.le_of_ble_eq_true rfl)⟩) rfl ⟨rfl,hp.keep⟩
set_option maxHeartbeats 1000000 in
theorem Qfw (a b : Int) (ha : Fit a) (hb : Fit b) (w : World) : Calls Tryz.prog 64 #[W a,W b] w (Ret (W (fz (a + b))) w) := by
  have HC := Lib.hid (Qmb a b ha hb)
  clear ha hb
  go_enter Tryz.func64,Tryz.ntmps64
  have hp := Hp.start [] w
  go_wp2_with (first|((with_reducible apply Qau hp);exact za rfl;exact rfl;clear hp;(try clear w1);intro g w1 hp;simp only [zp,zq,z0,z1])|((with_reducible apply Qag hp);exact ii;exact rfl;clear hp;(try clear w1);intro g w1 hp;simp only [zp,zq,z0,z1])|((with_reducible apply Qab hp);exact zt rfl;exact ii;exact ii;(exact zl rfl);(simp only [n0,Nat.reduceAdd,nn];try rfl);simp only [zp,zq,z0,z1])|((with_reducible apply Qae hp);exact zt rfl;exact za rfl;exact rfl;(exact AggTy.size);exact rfl;exact ii;(simp only [n0,Nat.reduceAdd,nn];try rfl);(exact zl rfl);exact rfl;exact ii;clear hp;(try clear w1);intro w1 hp)|((with_reducible refine Qaf hp (HC.out _) ?_);clear hp;(try clear w1);intro w1 hp))
  exact bodyPost_ret (Qaa rfl ⟨_,rfl,Qac hp (Nat.le_of_ble_eq_true rfl)⟩) rfl ⟨rfl,hp.keep⟩
set_option maxHeartbeats 2000000 in
theorem Qmr (x y z : Int) (hx : Fit x) (hy : Fit y) (hz0 : Fit z) (w : World) : Calls Tryz.prog 73 #[Sv x y z] w (Ret (W (sqF x y z)) w) := by
  unfold sqF
  have T1 := Lib.hid (Qca x x hx hx)
  have T2 := Lib.hid (Qca y y hy hy)
  have T3 := Lib.hid (Qca z z hz0 hz0)
  have P1 := Lib.hid (Qfw (fz (x * x)) (fz (y * y)) (Qbx _) (Qbx _))
  have P2 := Lib.hid (Qfw (fz (fz (x * x) + fz (y * y))) (fz (z * z)) (Qbx _) (Qbx _))
  clear hx hy hz0
  go_enter Tryz.func73,Tryz.ntmps73
  have hp := Hp.start [] w
  go_upto_region 1 with (first|((with_reducible apply Qau hp);(exact za rfl);exact rfl;clear hp;(try clear w1);intro g w1 hp;simp only [zp,zq,z0,z1])|((with_reducible apply Qag hp);exact ii;exact rfl;clear hp;(try clear w1);intro g w1 hp;simp only [zp,zq,z0,z1]))
  have hq := hp
  refine Qad hp hq [17] (.q 0 (.q 1 (.q 2 (.q 3 (.q 5 (.q 6 (.q 7 (.q 8 (.q 11 (.q 12 (.q 13 (.q 14 (.l 4 (.l 9 (.l 10 (.l 15 (.l 16 (.l 17 .nil)))))))))))))))))) (by kernel_rfl) (by kernel_rfl) ?_
  clear hp hq;(try clear w1);intro w1 hp hq
  repeat' (first|(((with_reducible apply sd_q);exact zo rfl);(first|((with_reducible apply Qah hp);exact rfl;exact zt rfl;exact ii;exact ii;(exact zl rfl);(simp only [n0,Nat.reduceAdd,nn];try rfl);simp only [zp,zq,z0,z1])|((with_reducible apply Qaj hp);exact rfl;(focus (intro _;go_simp;(try go_ints);try with_reducible rfl));simp only [zp,zq,z0,z1])))|(((with_reducible apply sd_l);exact zo rfl);(first|((with_reducible apply Qap hp);exact rfl;(focus (intro _;go_simp;try first|with_reducible rfl|exact ⟨rfl,rfl⟩));(with_reducible first|exact fun w => T1.out w|exact fun w => T2.out w|exact fun w => T3.out w|exact fun w => P1.out w|exact fun w => P2.out w);exact hq;clear hp hq;(try clear w1);intro w1 hp hq;simp only [zp,zq,z0,z1])|((with_reducible apply Qbb hq);exact rfl;exact zt rfl;(exact za rfl);exact rfl;(exact AggTy.size);exact rfl;exact ii;(simp only [n0,Nat.reduceAdd,nn];try rfl);(exact zl rfl);exact rfl;exact ii;exact rfl;clear hp hq;(try clear w1);intro w1 hq;have hp := True.intro)))|((with_reducible apply Qao);clear hp;have hp := hq;clear hq))
  go_wp2
  exact bodyPost_ret (Qaa rfl ⟨_,rfl,Qac hp (Nat.le_of_ble_eq_true rfl)⟩) rfl ⟨rfl,hp.keep⟩
set_option maxHeartbeats 4000000 in
theorem Qov (x y z d : Int) (p : P3) (al pd sq cc : Int) (ok : Bool) (AL : Hid (∀ w,Calls Tryz.prog 71 #[Sv x y z,Pv p.x p.y p.z] w (Ret (.tuple #[W al,.bool ok]) w))) (T1 : Hid (∀ w,Calls Tryz.prog 65 #[W al,W d] w (Ret (W pd) w)))
    (S1 : Hid (∀ w,Calls Tryz.prog 73 #[Sv x y z] w (Ret (W sq) w))) (C1 : Hid (∀ w,Calls Tryz.prog 72 #[W pd,W sq] w (Ret (.int .i64 cc) w))) (w : World) :
    Calls Tryz.prog 33 #[Sv x y z,W d,PV p] w (Ret (.bool (decide (cc < 0))) w) := by
  go_enter Tryz.func33,Tryz.ntmps33
  have hp := Hp.start [] w
  go_wp2_with (first|((with_reducible apply Qau hp);exact za rfl;exact rfl;clear hp;(try clear w1);intro g w1 hp;simp only [zp,zq,z0,z1])|((with_reducible apply Qag hp);exact ii;exact rfl;clear hp;(try clear w1);intro g w1 hp;simp only [zp,zq,z0,z1])|((with_reducible apply Qab hp);exact zt rfl;exact ii;exact ii;(exact zl rfl);(simp only [n0,Nat.reduceAdd,nn];try rfl);simp only [zp,zq,z0,z1])|((with_reducible apply Qae hp);exact zt rfl;exact za rfl;exact rfl;(exact AggTy.size);exact rfl;exact ii;(simp only [n0,Nat.reduceAdd,nn];try rfl);(exact zl rfl);exact rfl;exact ii;clear hp;(try clear w1);intro w1 hp)|((with_reducible refine Qaf hp (AL.out _) ?_);clear hp;(try clear w1);intro w1 hp))
  have hq := hp
  refine Qad hp hq [] (.q 0 (.q 1 (.q 3 (.l 2 (.l 4 (.l 5 (.q 6 (.q 7 .nil)))))))) (by kernel_rfl) (by kernel_rfl) ?_
  clear hp hq;(try clear w1);intro w1 hp hq
  repeat' (first|(((with_reducible apply sd_q);exact zo rfl);(first|((with_reducible apply Qah hp);exact rfl;exact zt rfl;exact ii;exact ii;(exact zl rfl);(simp only [n0,Nat.reduceAdd,nn];try rfl);simp only [zp,zq,z0,z1])|((with_reducible apply Qat hp);exact zb rfl;simp only [zp,zq,z0,z1])|((with_reducible apply Qaj hp);exact rfl;(focus (intro _;go_simp;(try go_ints);try with_reducible rfl));simp only [zp,zq,z0,z1])))|(((with_reducible apply sd_l);exact zo rfl);((with_reducible apply Qap hp);exact rfl;(focus (intro _;go_simp;try first|with_reducible rfl|exact ⟨rfl,rfl⟩));(with_reducible first|exact fun w => T1.out w|exact fun w => S1.out w|exact fun w => C1.out w);exact hq;clear hp hq;(try clear w1);intro w1 hp hq;simp only [zp,zq,z0,z1]))|((with_reducible apply Qao);clear hp;have hp := hq;clear hq))
  go_wp2
  exact bodyPost_ret (Qaa rfl rfl) rfl ⟨rfl,hp.keep⟩
theorem r15past_any {N : P3} {d : Int} (h : Nb N d) {p : P3} (hp : p.may) (w : World) : Calls Tryz.prog 33 #[Sv N.x N.y N.z,W d,PV p] w (Ret (.bool (!decide (Nopast N d [p]))) w) := by
  have hf := h.fit
  have hi := Qaz (Qew hp)
  have := Qov N.x N.y N.z d p _ _ _ _ _ (Lib.hid (ralong_any N.x N.y N.z p.x p.y p.z hf.1 hf.2.1 hf.2.2.1 hi.1 hi.2.1 hi.2.2)) (Lib.hid (Qca _ _ (alF_fit N.x N.y N.z p) hf.2.2.2)) (Lib.hid (Qmr N.x N.y N.z hf.1 hf.2.1 hf.2.2.1)) (Lib.hid (rcmp1_any _ _ (Qbx _) (sqF_fit N.x N.y N.z))) w
  have e : decide (sgn (fz (alF N.x N.y N.z p * d) - sqF N.x N.y N.z) < 0) = pastF N.x N.y N.z d p := by
    unfold pastF
    congr 1
    unfold sgn cmp
    apply propext
    split <;> split <;> (try split) <;> (try split) <;> omega
  unfold alF at this e
  rw [e,pastF_eq h hp] at this
  exact this
end Go.Proofs.YtdfdmeoalbpcdaaGreat

set_option linter.unusedSimpArgs false
set_option linter.unusedVariables false
set_option maxRecDepth 100000
namespace Go.Proofs.YtdfdmeoalbpcdaaGreat
open Go Go.RowKit
set_option maxHeartbeats 1000000 in
theorem Qfb (a b : Int) (ha : Fit a) (hb : Fit b) (w : World) : Calls Tryz.prog 62 #[W a,W b] w (Ret (W (fz (a - b))) w) := by
  have HC := Lib.hid (Qls a b ha hb)
  clear ha hb
  go_enter Tryz.func62,Tryz.ntmps62
  have hp := Hp.start [] w
  go_wp2_with (first|((with_reducible apply Qau hp);exact za rfl;exact rfl;clear hp;(try clear w1);intro g w1 hp;simp only [zp,zq,z0,z1])|((with_reducible apply Qag hp);exact ii;exact rfl;clear hp;(try clear w1);intro g w1 hp;simp only [zp,zq,z0,z1])|((with_reducible apply Qab hp);exact zt rfl;exact ii;exact ii;(exact zl rfl);(simp only [n0,Nat.reduceAdd,nn];try rfl);simp only [zp,zq,z0,z1])|((with_reducible apply Qae hp);exact zt rfl;exact za rfl;exact rfl;(exact AggTy.size);exact rfl;exact ii;(simp only [n0,Nat.reduceAdd,nn];try rfl);(exact zl rfl);exact rfl;exact ii;clear hp;(try clear w1);intro w1 hp)|((with_reducible refine Qaf hp (HC.out _) ?_);clear hp;(try clear w1);intro w1 hp))
  exact bodyPost_ret (Qaa rfl ⟨_,rfl,Qac hp (Nat.le_of_ble_eq_true rfl)⟩) rfl ⟨rfl,hp.keep⟩
set_option maxHeartbeats 1000000 in
theorem Qly (a b : P3) (ha : a.i64) (hb : b.i64) (w : World) : Calls Tryz.prog 97 #[PV a,PV b] w (Ret (W (a.dot b)) w) := by
  have HC := Lib.hid (rdot_any a b ha hb)
  clear ha hb
  go_enter Tryz.func97,Tryz.ntmps97
  have hp := Hp.start [] w
  go_wp2_with (first|((with_reducible apply Qau hp);exact za rfl;exact rfl;clear hp;(try clear w1);intro g w1 hp;simp only [zp,zq,z0,z1])|((with_reducible apply Qag hp);exact ii;exact rfl;clear hp;(try clear w1);intro g w1 hp;simp only [zp,zq,z0,z1])|((with_reducible apply Qab hp);exact zt rfl;exact ii;exact ii;(exact zl rfl);(simp only [n0,Nat.reduceAdd,nn];try rfl);simp only [zp,zq,z0,z1])|((with_reducible apply Qae hp);exact zt rfl;exact za rfl;exact rfl;(exact AggTy.size);exact rfl;exact ii;(simp only [n0,Nat.reduceAdd,nn];try rfl);(exact zl rfl);exact rfl;exact ii;clear hp;(try clear w1);intro w1 hp)|((with_reducible refine Qaf hp (HC.out _) ?_);clear hp;(try clear w1);intro w1 hp))
  exact bodyPost_ret (Qaa rfl ⟨_,rfl,Qac hp (Nat.le_of_ble_eq_true rfl)⟩) rfl ⟨rfl,hp.keep⟩
set_option maxHeartbeats 2000000 in
theorem Qgp (a b c d : Int) (ha : Fit a) (hb : Fit b) (hc : Fit c) (hd : Fit d) (w : World) : Calls Tryz.prog 95 #[W a,W b,W c,W d] w (Ret (W (tw2 a d b c)) w) := by
  unfold tw2
  have T1 := Lib.hid (Qca a d ha hd)
  have T2 := Lib.hid (Qca b c hb hc)
  have L1 := Lib.hid (Qfb (fz (a * d)) (fz (b * c)) (Qbx _) (Qbx _))
  clear ha hb hc hd
  go_enter Tryz.func95,Tryz.ntmps95
  have hp := Hp.start [] w
  go_upto_region 1 with (first|((with_reducible apply Qau hp);(exact za rfl);exact rfl;clear hp;(try clear w1);intro g w1 hp;simp only [zp,zq,z0,z1])|((with_reducible apply Qag hp);exact ii;exact rfl;clear hp;(try clear w1);intro g w1 hp;simp only [zp,zq,z0,z1]))
  have hq := hp
  refine Qad hp hq [7] (.q 0 (.q 1 (.q 3 (.q 4 (.l 2 (.l 5 (.l 6 (.l 7 .nil)))))))) (by kernel_rfl) (by kernel_rfl) ?_
  clear hp hq;(try clear w1);intro w1 hp hq
  repeat' (first|(((with_reducible apply sd_q);exact zo rfl);((with_reducible apply Qah hp);exact rfl;exact zt rfl;exact ii;exact ii;(exact zl rfl);(simp only [n0,Nat.reduceAdd,nn];try rfl);simp only [zp,zq,z0,z1]))|(((with_reducible apply sd_l);exact zo rfl);(first|((with_reducible apply Qap hp);exact rfl;(focus (intro _;go_simp;try first|with_reducible rfl|exact ⟨rfl,rfl⟩));(with_reducible first|exact fun w => T1.out w|exact fun w => T2.out w|exact fun w => L1.out w);exact hq;clear hp hq;(try clear w1);intro w1 hp hq;simp only [zp,zq,z0,z1])|((with_reducible apply Qbb hq);exact rfl;exact zt rfl;(exact za rfl);exact rfl;(exact AggTy.size);exact rfl;exact ii;(simp only [n0,Nat.reduceAdd,nn];try rfl);(exact zl rfl);exact rfl;exact ii;exact rfl;clear hp hq;(try clear w1);intro w1 hq;have hp := True.intro)))|((with_reducible apply Qao);clear hp;have hp := hq;clear hq))
  go_wp2
  exact bodyPost_ret (Qaa rfl ⟨_,rfl,Qac hp (Nat.le_of_ble_eq_true rfl)⟩) rfl ⟨rfl,hp.keep⟩
def axv3 (p : P3) (k : Nat) : Int := if k = 0 then p.x else if k = 1 then p.y else p.z
set_option maxHeartbeats 1000000 in
theorem Qhd (p : P3) (k : Nat) (hk : k = 0 ∨ k = 1 ∨ k = 2) (w : World) : Calls Tryz.prog 67 #[PV p,.int .i64 (k : Int)] w (Ret (.int .i64 (axv3 p k)) w) := by
  rcases hk with rfl|rfl|rfl
  all_goals
    unfold axv3
    go_enter Tryz.func67,Tryz.ntmps67
    have hp := Hp.start [] w
    go_wp2_with (first|((with_reducible apply Qau hp);exact za rfl;exact rfl;clear hp;(try clear w1);intro g w1 hp;simp only [zp,zq,z0,z1])|((with_reducible apply Qai hp);exact zt rfl;exact ii;exact ii;(exact zio rfl);simp only [zp,zq,z0,z1]))
    exact bodyPost_ret (Qaa rfl rfl) rfl ⟨rfl,hp.keep⟩
set_option maxHeartbeats 1000000 in
theorem Qhh (n : Int) (hn : Fit n) (hn' : Fit (-n)) (w : World) : Calls Tryz.prog 69 #[W n] w (Ret (W (ab n)) w) := by
  have HB := Qel n hn
  have HL := Qfb 0 n Qbp hn
  rw [show fz (0 - n) = -n by rw [Int.zero_sub];exact if_pos hn'] at HL
  unfold ab
  by_cases h : n < 0
  · rw [decide_eq_true h] at HB
    rw [if_pos h]
    have HB := Lib.hid HB
    have HL := Lib.hid HL
    clear hn hn' h
    simp only [W,Qcy] at HL
    go_enter Tryz.func69,Tryz.ntmps69
    have hp := Hp.start [] w
    go_wp2_with (first|((with_reducible apply Qau hp);exact za rfl;exact rfl;clear hp;(try clear w1);intro g w1 hp;simp only [zp,zq,z0,z1])|((with_reducible apply Qag hp);exact ii;exact rfl;clear hp;(try clear w1);intro g w1 hp;simp only [zp,zq,z0,z1])|((with_reducible apply Qab hp);exact zt rfl;exact ii;exact ii;(exact zl rfl);(simp only [n0,Nat.reduceAdd,nn];try rfl);simp only [zp,zq,z0,z1])|((with_reducible apply Qae hp);exact zt rfl;exact za rfl;exact rfl;(exact AggTy.size);exact rfl;exact ii;(simp only [n0,Nat.reduceAdd,nn];try rfl);(exact zl rfl);exact rfl;exact ii;clear hp;(try clear w1);intro w1 hp)|((with_reducible first|refine Qaf hp (HB.out _) ?_|refine Qaf hp (HL.out _) ?_);clear hp;(try clear w1);intro w1 hp))
    exact bodyPost_ret (Qaa rfl ⟨_,rfl,Qac hp (Nat.le_of_ble_eq_true rfl)⟩) rfl ⟨rfl,hp.keep⟩
  · rw [decide_eq_false h] at HB
    rw [if_neg h]
    have HB := Lib.hid HB
    clear hn hn' h HL
    go_enter Tryz.func69,Tryz.ntmps69
    have hp := Hp.start [] w
    go_wp2_with (first|((with_reducible apply Qau hp);exact za rfl;exact rfl;clear hp;(try clear w1);intro g w1 hp;simp only [zp,zq,z0,z1])|((with_reducible apply Qag hp);exact ii;exact rfl;clear hp;(try clear w1);intro g w1 hp;simp only [zp,zq,z0,z1])|((with_reducible apply Qab hp);exact zt rfl;exact ii;exact ii;(exact zl rfl);(simp only [n0,Nat.reduceAdd,nn];try rfl);simp only [zp,zq,z0,z1])|((with_reducible apply Qae hp);exact zt rfl;exact za rfl;exact rfl;(exact AggTy.size);exact rfl;exact ii;(simp only [n0,Nat.reduceAdd,nn];try rfl);(exact zl rfl);exact rfl;exact ii;clear hp;(try clear w1);intro w1 hp)|((with_reducible refine Qaf hp (HB.out _) ?_);clear hp;(try clear w1);intro w1 hp))
    exact bodyPost_ret (Qaa rfl ⟨_,rfl,Qac hp (Nat.le_of_ble_eq_true rfl)⟩) rfl ⟨rfl,hp.keep⟩
end Go.Proofs.YtdfdmeoalbpcdaaGreat
