/-
  ninepinref15: times, plus, Square, Past (contracts).
-/
import Derived.Test.YtdfdmeoalbpcdaaQo
import Derived.Test.YtdfdmeoalbpcdaaGb
import Derived.Test.YtdfdmeoalbpcdaaPa
import Derived.Test.YtdfdmeoalbpcdaaFi
set_option linter.unusedSimpArgs false
set_option linter.unusedVariables false
set_option maxRecDepth 100000
namespace Go.Proofs.Ytdfdmeoalbpcdaa
open Go Go.RowKit
set_option maxHeartbeats 1000000 in
theorem Qdb (a b : Int) (ha : Fit a) (hb : Fit b) (w : World) : Calls Try.prog 31 #[W a,W b] w (Ret (W (fz (a * b))) w) := by
  have HC := Lib.hid (Qom a b ha hb)
  clear ha hb
  go_enter Try.func31,Try.ntmps31
  have hp := Hp.start [] w
  go_wp2_with (first|((with_reducible apply Qav hp);exact za rfl;exact rfl;clear hp;(try clear w1);intro g w1 hp;simp only [zp,zq,z0,z1])|((with_reducible apply Qag hp);exact ii;exact rfl;clear hp;(try clear w1);intro g w1 hp;simp only [zp,zq,z0,z1])|((with_reducible apply Qab hp);exact zt rfl;exact ii;exact ii;(exact zl rfl);(simp only [n0,Nat.reduceAdd,nn];try rfl);simp only [zp,zq,z0,z1])|((with_reducible apply Qaf hp);exact zt rfl;exact za rfl;exact rfl;(exact AggTy.size);exact rfl;exact ii;(simp only [n0,Nat.reduceAdd,nn];try rfl);(exact zl rfl);exact rfl;exact ii;clear hp;(try clear w1);intro w1 hp)|((with_reducible refine Qae hp (HC.out _) ?_);clear hp;(try clear w1);intro w1 hp))
  exact bodyPost_ret (Qaa rfl ⟨_,rfl,Qad hp (Nat.le_of_ble_eq_true rfl)⟩) rfl ⟨rfl,hp.keep⟩
set_option maxHeartbeats 1000000 in
theorem Qit (a b : Int) (ha : Fit a) (hb : Fit b) (w : World) : Calls Try.prog 57 #[W a,W b] w (Ret (W (fz (a + b))) w) := by
  have HC := Lib.hid (r3plus_any a b ha hb)
  clear ha hb
  go_enter Try.func57,Try.ntmps57
  have hp := Hp.start [] w
  go_wp2_with (first|((with_reducible apply Qav hp);exact za rfl;exact rfl;clear hp;(try clear w1);intro g w1 hp;simp only [zp,zq,z0,z1])|((with_reducible apply Qag hp);exact ii;exact rfl;clear hp;(try clear w1);intro g w1 hp;simp only [zp,zq,z0,z1])|((with_reducible apply Qab hp);exact zt rfl;exact ii;exact ii;(exact zl rfl);(simp only [n0,Nat.reduceAdd,nn];try rfl);simp only [zp,zq,z0,z1])|((with_reducible apply Qaf hp);exact zt rfl;exact za rfl;exact rfl;(exact AggTy.size);exact rfl;exact ii;(simp only [n0,Nat.reduceAdd,nn];try rfl);(exact zl rfl);exact rfl;exact ii;clear hp;(try clear w1);intro w1 hp)|((with_reducible refine Qae hp (HC.out _) ?_);clear hp;(try clear w1);intro w1 hp))
  exact bodyPost_ret (Qaa rfl ⟨_,rfl,Qad hp (Nat.le_of_ble_eq_true rfl)⟩) rfl ⟨rfl,hp.keep⟩
set_option maxHeartbeats 2000000 in
theorem Qfd (x y z : Int) (hx : Fit x) (hy : Fit y) (hz0 : Fit z) (w : World) : Calls Try.prog 32 #[Sv x y z] w (Ret (W (sqF x y z)) w) := by
  unfold sqF
  have T1 := Lib.hid (Qdb x x hx hx)
  have T2 := Lib.hid (Qdb y y hy hy)
  have T3 := Lib.hid (Qdb z z hz0 hz0)
  have P1 := Lib.hid (Qit (fz (x * x)) (fz (y * y)) (Qca _) (Qca _))
  have P2 := Lib.hid (Qit (fz (fz (x * x) + fz (y * y))) (fz (z * z)) (Qca _) (Qca _))
  clear hx hy hz0
  go_enter Try.func32,Try.ntmps32
  have hp := Hp.start [] w
  go_upto_region 1 with (first|((with_reducible apply Qav hp);(exact za rfl);exact rfl;clear hp;(try clear w1);intro g w1 hp;simp only [zp,zq,z0,z1])|((with_reducible apply Qag hp);exact ii;exact rfl;clear hp;(try clear w1);intro g w1 hp;simp only [zp,zq,z0,z1]))
  have hq := hp
  refine Qac hp hq [17] (.q 0 (.q 1 (.q 2 (.q 3 (.q 5 (.q 6 (.q 7 (.q 8 (.q 11 (.q 12 (.q 13 (.q 14 (.l 4 (.l 9 (.l 10 (.l 15 (.l 16 (.l 17 .nil)))))))))))))))))) (by kernel_rfl) (by kernel_rfl) ?_
  clear hp hq;(try clear w1);intro w1 hp hq
  repeat' (first|(((with_reducible apply sd_q);exact zo rfl);(first|((with_reducible apply Qah hp);exact rfl;exact zt rfl;exact ii;exact ii;(exact zl rfl);(simp only [n0,Nat.reduceAdd,nn];try rfl);simp only [zp,zq,z0,z1])|((with_reducible apply Qai hp);exact rfl;(focus (intro _;go_simp;(try go_ints);try with_reducible rfl));simp only [zp,zq,z0,z1])))|(((with_reducible apply sd_l);exact zo rfl);(first|((with_reducible apply Qao hp);exact rfl;(focus (intro _;go_simp;try first|with_reducible rfl|exact ⟨rfl,rfl⟩));(with_reducible first|exact fun w => T1.out w|exact fun w => T2.out w|exact fun w => T3.out w|exact fun w => P1.out w|exact fun w => P2.out w);exact hq;clear hp hq;(try clear w1);intro w1 hp hq;simp only [zp,zq,z0,z1])|((with_reducible apply Qba hq);exact rfl;exact zt rfl;(exact za rfl);exact rfl;(exact AggTy.size);exact rfl;exact ii;(simp only [n0,Nat.reduceAdd,nn];try rfl);(exact zl rfl);exact rfl;exact ii;exact rfl;clear hp hq;(try clear w1);intro w1 hq;have hp := True.intro)))|((with_reducible apply Qam);clear hp;have hp := hq;clear hq))
  go_wp2
  exact bodyPost_ret (Qaa rfl ⟨_,rfl,Qad hp (Nat.le_of_ble_eq_true rfl)⟩) rfl ⟨rfl,hp.keep⟩
set_option maxHeartbeats 4000000 in
theorem Qmh (x y z d : Int) (p : P3) (al pd sq cc : Int) (ok : Bool) (AL : Hid (∀ w,Calls Try.prog 29 #[Sv x y z,Pv p.x p.y p.z] w (Ret (.tuple #[W al,.bool ok]) w))) (T1 : Hid (∀ w,Calls Try.prog 31 #[W al,W d] w (Ret (W pd) w)))
    (S1 : Hid (∀ w,Calls Try.prog 32 #[Sv x y z] w (Ret (W sq) w))) (C1 : Hid (∀ w,Calls Try.prog 30 #[W pd,W sq] w (Ret (.int .i64 cc) w))) (w : World) :
    Calls Try.prog 11 #[Sv x y z,W d,PV p] w (Ret (.bool (decide (cc < 0))) w) := by
  go_enter Try.func11,Try.ntmps11
  have hp := Hp.start [] w
  go_wp2_with (first|((with_reducible apply Qav hp);exact za rfl;exact rfl;clear hp;(try clear w1);intro g w1 hp;simp only [zp,zq,z0,z1])|((with_reducible apply Qag hp);exact ii;exact rfl;clear hp;(try clear w1);intro g w1 hp;simp only [zp,zq,z0,z1])|((with_reducible apply Qab hp);exact zt rfl;exact ii;exact ii;(exact zl rfl);(simp only [n0,Nat.reduceAdd,nn];try rfl);simp only [zp,zq,z0,z1])|((with_reducible apply Qaf hp);exact zt rfl;exact za rfl;exact rfl;(exact AggTy.size);exact rfl;exact ii;(simp only [n0,Nat.reduceAdd,nn];try rfl);(exact zl rfl);exact rfl;exact ii;clear hp;(try clear w1);intro w1 hp)|((with_reducible refine Qae hp (AL.out _) ?_);clear hp;(try clear w1);intro w1 hp))
  have hq := hp
  refine Qac hp hq [] (.q 0 (.q 1 (.q 3 (.l 2 (.l 4 (.l 5 (.q 6 (.q 7 .nil)))))))) (by kernel_rfl) (by kernel_rfl) ?_
  clear hp hq;(try clear w1);intro w1 hp hq
  repeat' (first|(((with_reducible apply sd_q);exact zo rfl);(first|((with_reducible apply Qah hp);exact rfl;exact zt rfl;exact ii;exact ii;(exact zl rfl);(simp only [n0,Nat.reduceAdd,nn];try rfl);simp only [zp,zq,z0,z1])|((with_reducible apply Qan hp);exact zb rfl;simp only [zp,zq,z0,z1])|((with_reducible apply Qai hp);exact rfl;(focus (intro _;go_simp;(try go_ints);try with_reducible rfl));simp only [zp,zq,z0,z1])))|(((with_reducible apply sd_l);exact zo rfl);((with_reducible apply Qao hp);exact rfl;(focus (intro _;go_simp;try first|with_reducible rfl|exact ⟨rfl,rfl⟩));(with_reducible first|exact fun w => T1.out w|exact fun w => S1.out w|exact fun w => C1.out w);exact hq;clear hp hq;(try clear w1);intro w1 hp hq;simp only [zp,zq,z0,z1]))|((with_reducible apply Qam);clear hp;have hp := hq;clear hq))
  go_wp2
  exact bodyPost_ret (Qaa rfl rfl) rfl ⟨rfl,hp.keep⟩
theorem Qos {N : P3} {d : Int} (h : Nb N d) {p : P3} (hp : p.may) (w : World) : Calls Try.prog 11 #[Sv N.x N.y N.z,W d,PV p] w (Ret (.bool (!decide (Nopast N d [p]))) w) := by
  have hf := h.fit
  have hi := Qax (Qfv hp)
  have := Qmh N.x N.y N.z d p _ _ _ _ _ (Lib.hid (ralong_any N.x N.y N.z p.x p.y p.z hf.1 hf.2.1 hf.2.2.1 hi.1 hi.2.1 hi.2.2)) (Lib.hid (Qdb _ _ (alF_fit N.x N.y N.z p) hf.2.2.2)) (Lib.hid (Qfd N.x N.y N.z hf.1 hf.2.1 hf.2.2.1)) (Lib.hid (Qnn _ _ (Qca _) (sqF_fit N.x N.y N.z))) w
  have e : decide (sgn (fz (alF N.x N.y N.z p * d) - sqF N.x N.y N.z) < 0) = pastF N.x N.y N.z d p := by
    unfold pastF
    congr 1
    unfold sgn cmp
    apply propext
    split <;> split <;> (try split) <;> (try split) <;> omega
  unfold alF at this e
  rw [e,pastF_eq h hp] at this
  exact this
end Go.Proofs.Ytdfdmeoalbpcdaa
