/-
  Package ninepinref02: Mul; package ninepinref03: Raw, Twice, Exact, Add, Sub, Scale, Dot, minor, Cross (contracts).
-/
import Derived.Test.YtblffafmkpnjdaaGreatVb
import Derived.Test.YtblffafmkpnjdaaGreatBn
import Derived.Test.YtblffafmkpnjdaaGreatEr
import Derived.Test.YtblffafmkpnjdaaGreatPd
set_option linter.unusedSimpArgs false
set_option linter.unusedVariables false
set_option maxRecDepth 100000
namespace Go.Proofs.YtblffafmkpnjdaaGreat
open Go Go.RowKit
attribute [local irreducible] wpList
set_option maxHeartbeats 2000000 in
theorem r2mul_any (a b : Int) (up : Bool) (ha : I64 a) (hb : I64 b) (w : World) : Calls Tryz.prog 46 #[.int .i64 a,.int .i64 b,.bool up] w (Ret (.int .i64 (cl (qv (a * b) 4294967296 up))) w) := by
  have A1 := Lib.hid (Qfk a ha)
  have A2 := Lib.hid (Qfk b hb)
  have hpr := Qho ha hb
  have hm := rmul_any a b (Qcs ha) (Qcs hb)
  rw [show fz (a * b) = a * b from if_pos hpr] at hm
  have A3 := Lib.hid hm
  obtain ⟨e,hf⟩ := dvq_32 (Qcu ha hb)
  have hb2 := Qcu ha hb
  have hq1 : Fit (dvq (a * b) 4294967296 + 1) := by rw [e];unfold Fit M511;omega
  have A4 := Lib.hid (rquot_any (a * b) 4294967296 up hpr Qoc hq1)
  have hqf : Fit (qv (a * b) 4294967296 up) := by
    unfold qv
    split
    · exact hq1
    · exact dvq_fit _ _
  have A5 := Lib.hid fun w => Qdw _ hqf w
  have A6 := Lib.hid fun w => Qem 4294967296 (by omega) (by omega) w
  clear ha hb hpr hm e hf hb2 hq1 hqf
  generalize decide (Fit (a * b)) = o at *
  generalize a * b = s at *
  generalize qv s 4294967296 up = q at *
  generalize cl q = r at *
  go_enter Tryz.func46,Tryz.ntmps46
  have hp := Hp.start [] w
  go_upto_region 2 with (first | ((with_reducible apply Qag hp);exact ii;exact rfl;clear hp;(try clear w1);intro g w1 hp;simp only [zp,zq,z0,z1]) | ((with_reducible apply Qaa hp);exact zt rfl;exact ii;exact ii;(first | exact zl rfl | exact Qad (by omega));(first | (with_reducible exact Qab (by omega)) | (simp only [n0,Nat.reduceAdd,n1,n2,n3,n4,n5,n6,n7,n8,n9];try rfl));simp only [zp,zq,z0,z1]) | ((with_reducible apply Qah hp);exact zt rfl;exact za rfl;exact rfl;exact Sz.z;exact rfl;exact ii;(first | (with_reducible exact Qab (by omega)) | (simp only [n0,Nat.reduceAdd,n1,n2,n3,n4,n5,n6,n7,n8,n9];try rfl));(first | exact zl rfl | exact Qad (by omega));exact rfl;exact ii;clear hp;(try clear w1);intro w1 hp) | ((with_reducible first | refine Qak hp (A1.out _) ?_ | refine Qak hp (A2.out _) ?_ | refine Qak hp (A3.out _) ?_);clear hp;(try clear w1);intro w1 hp))
  have hq := hp
  refine Qaq hp hq [] (.q 0 (.q 2 (.l 1 (.l 3 (.l 4 (.q 5 .nil)))))) (by kernel_rfl) (by kernel_rfl) ?_
  clear hp hq;(try clear w1);intro w1 hp hq
  repeat' (first | (((with_reducible apply sd_q);exact zo rfl);(first | ((with_reducible apply Qas hp);exact rfl;exact zt rfl;exact ii;exact ii;(first | exact zl rfl | exact Qad (by omega));(first | (with_reducible exact Qab (by omega)) | (simp only [n0,Nat.reduceAdd,n1,n2,n3,n4,n5,n6,n7,n8,n9];try rfl));simp only [zp,zq,z0,z1]) | ((with_reducible apply Qbh hp);exact zb rfl;simp only [zp,zq,z0,z1]) | ((with_reducible apply Qbo hp);exact zi rfl;simp only [zp,zq,z0,z1]) | ((with_reducible apply Qav hp);exact rfl;(focus (intro _;go_simp;(try go_ints);try with_reducible rfl));simp only [zp,zq,z0,z1]))) | (((with_reducible apply sd_l);exact zo rfl);((with_reducible apply Qbf hp);exact rfl;(focus (intro _;go_simp;try first | with_reducible rfl | exact ⟨rfl,rfl⟩));(with_reducible first | exact fun w => A4.out w | exact fun w => A5.out w | exact fun w => A6.out w);exact hq;clear hp hq;(try clear w1);intro w1 hp hq;simp only [zp,zq,z0,z1])) | ((with_reducible apply Qba);clear hp;have hp := hq;clear hq))
  go_wp2
  exact bodyPost_ret (Qaf rfl rfl) rfl ⟨rfl,hp.keep⟩
theorem qv_down (a b : Int) : qv a b false = dvq a b := by unfold qv;simp
/-- A number times 2^64, brought in. -/
theorem inv_64 (n : Int) : inv n 64 = cl (n / 4294967296) := by
  unfold inv
  rw [if_pos (by omega)]
  rfl
theorem inv_32 (n : Int) : inv n 32 = cl n := by
  unfold inv
  rw [if_pos (by omega)]
  unfold shv
  rw [if_neg (by omega),show min ((32 : Int) - 32).toNat 511 = 0 from rfl,Int.pow_zero,Int.ediv_one]
set_option maxHeartbeats 1000000 in
theorem Qdb (n : Int) (h : I64 n) (w : World) : Calls Tryz.prog 66 #[.int .i64 n] w (Ret (W n) w) := by
  have HO := Lib.hid fun w => rsmall_i64 n h w
  clear h
  go_enter Tryz.func66,Tryz.ntmps66
  have hp := Hp.start [] w
  go_wp2_with (first | ((with_reducible apply Qag hp);exact ii;exact rfl;clear hp;(try clear w1);intro g w1 hp;simp only [zp,zq,z0,z1]) | ((with_reducible apply Qah hp);exact zt rfl;exact za rfl;exact rfl;exact Sz.z;exact rfl;exact ii;(first | (with_reducible exact Qab (by omega)) | (simp only [n0,Nat.reduceAdd,n1,n2,n3,n4,n5,n6,n7,n8,n9];try rfl));(first | exact zl rfl | exact Qad (by omega));exact rfl;exact ii;clear hp;(try clear w1);intro w1 hp) | ((with_reducible refine Qak hp (HO.out _) ?_);clear hp;(try clear w1);intro w1 hp))
  exact bodyPost_ret (Qaf rfl ⟨_,rfl,Qal hp (Nat.le_of_ble_eq_true rfl)⟩) rfl ⟨rfl,hp.keep⟩
theorem dot_bd {a b : P3} (ha : a.i64) (hb : b.i64) : -255211775190703847597530955573826158592 ≤ a.dot b ∧ a.dot b ≤ 255211775190703847597530955573826158592 := by
  have h1 := Qcu ha.1 hb.1
  have h2 := Qcu ha.2.1 hb.2.1
  have h3 := Qcu ha.2.2 hb.2.2
  unfold P3.dot
  omega
set_option maxHeartbeats 2000000 in
theorem exact_any (a b : P3) (ha : a.i64) (hb : b.i64) (w : World) : Calls Tryz.prog 125 #[PV a,PV b] w (Ret (W (a.dot b)) w) := by
  have h1 := Qcu ha.1 hb.1
  have h2 := Qcu ha.2.1 hb.2.1
  have h3 := Qcu ha.2.2 hb.2.2
  have X1 := Lib.hid (Qdb a.x ha.1)
  have X2 := Lib.hid (Qdb a.y ha.2.1)
  have X3 := Lib.hid (Qdb a.z ha.2.2)
  have Y1 := Lib.hid (Qdb b.x hb.1)
  have Y2 := Lib.hid (Qdb b.y hb.2.1)
  have Y3 := Lib.hid (Qdb b.z hb.2.2)
  have T1 := Lib.hid (Qfc a.x b.x ha.1 hb.1)
  have T2 := Lib.hid (Qfc a.y b.y ha.2.1 hb.2.1)
  have T3 := Lib.hid (Qfc a.z b.z ha.2.2 hb.2.2)
  have P1 := Lib.hid (Qhs (a.x * b.x) (a.y * b.y) (by unfold Fit M511;omega) (by unfold Fit M511;omega) (by unfold Fit M511;omega))
  have P2 := Lib.hid (Qhs (a.x * b.x + a.y * b.y) (a.z * b.z) (by unfold Fit M511;omega) (by unfold Fit M511;omega) (by unfold Fit M511;omega))
  clear ha hb h1 h2 h3
  unfold P3.dot
  generalize a.x * b.x = p at *
  generalize a.y * b.y = q at *
  generalize a.z * b.z = r at *
  go_enter Tryz.func125,Tryz.ntmps125
  have hp := Hp.start [] w
  go_upto_region 1 with (first | ((with_reducible apply Qao hp);(first | exact za rfl | exact zu rfl | exact zi rfl | exact zb rfl | exact zr rfl | exact zs rfl | exact zf rfl | exact zg rfl | exact zn rfl | exact zv rfl | exact zw rfl);exact rfl;clear hp;(try clear w1);intro g w1 hp;simp only [zp,zq,z0,z1]) | ((with_reducible apply Qag hp);exact ii;exact rfl;clear hp;(try clear w1);intro g w1 hp;simp only [zp,zq,z0,z1]))
  have hq := hp
  refine Qaq hp hq [23] (.q 0 (.q 1 (.q 3 (.q 4 (.q 7 (.q 8 (.q 10 (.q 11 (.q 15 (.q 16 (.q 18 (.q 19 (.l 2 (.l 5 (.l 6 (.l 9 (.l 12 (.l 13 (.l 14 (.l 17 (.l 20 (.l 21 (.l 22 (.l 23 .nil)))))))))))))))))))))))) (by kernel_rfl) (by kernel_rfl) ?_
  clear hp hq;(try clear w1);intro w1 hp hq
  repeat' (first | (((with_reducible apply sd_q);exact zo rfl);(first | ((with_reducible apply Qaw hp);exact rfl;exact zt rfl;exact ii;exact ii;(first | exact zio rfl | exact Qae (by omega));simp only [zp,zq,z0,z1]) | ((with_reducible apply Qav hp);exact rfl;(focus (intro _;go_simp;(try go_ints);try with_reducible rfl));simp only [zp,zq,z0,z1]))) | (((with_reducible apply sd_l);exact zo rfl);(first | ((with_reducible apply Qbf hp);exact rfl;(focus (intro _;go_simp;try first | with_reducible rfl | exact ⟨rfl,rfl⟩));(with_reducible first | exact fun w => X1.out w | exact fun w => X2.out w | exact fun w => X3.out w | exact fun w => Y1.out w | exact fun w => Y2.out w | exact fun w => Y3.out w | exact fun w => T1.out w | exact fun w => T2.out w | exact fun w => T3.out w | exact fun w => P1.out w | exact fun w => P2.out w);exact hq;clear hp hq;(try clear w1);intro w1 hp hq;simp only [zp,zq,z0,z1]) | ((with_reducible apply Qax hq);exact rfl;exact zt rfl;(first | exact za rfl | exact zu rfl | exact zi rfl | exact zb rfl | exact zr rfl | exact zs rfl | exact zf rfl | exact zg rfl | exact zn rfl | exact zv rfl | exact zw rfl);exact rfl;exact Sz.z;exact rfl;exact ii;(first | (with_reducible exact Qab (by omega)) | (simp only [n0,Nat.reduceAdd,n1,n2,n3,n4,n5,n6,n7,n8,n9];try rfl));(first | exact zl rfl | exact Qad (by omega));exact rfl;exact ii;(repeat (first | exact List.Sublist.refl _ | apply List.Sublist.cons));clear hp hq;(try clear w1);intro w1 hp hq) | ((with_reducible apply Qbn hq);exact rfl;exact zt rfl;(first | exact za rfl | exact zu rfl | exact zi rfl | exact zb rfl | exact zr rfl | exact zs rfl | exact zf rfl | exact zg rfl | exact zn rfl | exact zv rfl | exact zw rfl);exact rfl;exact Sz.z;exact rfl;exact ii;(first | (with_reducible exact Qab (by omega)) | (simp only [n0,Nat.reduceAdd,n1,n2,n3,n4,n5,n6,n7,n8,n9];try rfl));(first | exact zl rfl | exact Qad (by omega));exact rfl;exact ii;exact rfl;clear hp hq;(try clear w1);intro w1 hq;have hp := True.intro))) | ((with_reducible apply Qba);clear hp;have hp := hq;clear hq))
  go_wp2
  exact bodyPost_ret (Qaf rfl ⟨_,rfl,Qal hp (Nat.le_of_ble_eq_true rfl)⟩) rfl ⟨rfl,hp.keep⟩
/-- Vectors: sums, differences, times a number. -/
def P3.cadd (a b : P3) : P3 := ⟨cl (a.x + b.x),cl (a.y + b.y),cl (a.z + b.z)⟩
def P3.csub (a b : P3) : P3 := ⟨cl (a.x - b.x),cl (a.y - b.y),cl (a.z - b.z)⟩
def P3.cscale (a : P3) (k : Int) : P3 := ⟨cl (a.x * k / 4294967296),cl (a.y * k / 4294967296),cl (a.z * k / 4294967296)⟩
set_option maxHeartbeats 2000000 in
theorem Qfd (a b : P3) (ha : a.i64) (hb : b.i64) (w : World) : Calls Tryz.prog 34 #[PV a,PV b] w (Ret (PV (a.cadd b)) w) := by
  have X1 := Lib.hid (Qhv a.x b.x ha.1 hb.1)
  have X2 := Lib.hid (Qhv a.y b.y ha.2.1 hb.2.1)
  have X3 := Lib.hid (Qhv a.z b.z ha.2.2 hb.2.2)
  clear ha hb
  unfold P3.cadd
  generalize cl (a.x + b.x) = p at *
  generalize cl (a.y + b.y) = q at *
  generalize cl (a.z + b.z) = r at *
  go_enter Tryz.func34,Tryz.ntmps34
  have hp := Hp.start [] w
  go_upto_region 1 with (first | ((with_reducible apply Qao hp);(first | exact za rfl | exact zu rfl | exact zi rfl | exact zb rfl | exact zr rfl | exact zs rfl | exact zf rfl | exact zg rfl | exact zn rfl | exact zv rfl | exact zw rfl);exact rfl;clear hp;(try clear w1);intro g w1 hp;simp only [zp,zq,z0,z1]) | ((with_reducible apply Qag hp);exact ii;exact rfl;clear hp;(try clear w1);intro g w1 hp;simp only [zp,zq,z0,z1]))
  have hq := hp
  refine Qaq hp hq [16] (.q 0 (.q 1 (.q 2 (.q 3 (.q 5 (.q 6 (.q 7 (.q 8 (.q 10 (.q 11 (.q 12 (.q 13 (.l 4 (.l 9 (.l 14 (.q 15 (.l 16 .nil))))))))))))))))) (by kernel_rfl) (by kernel_rfl) ?_
  clear hp hq;(try clear w1);intro w1 hp hq
  repeat' (first | (((with_reducible apply sd_q);exact zo rfl);(first | ((with_reducible apply Qaw hp);exact rfl;exact zt rfl;exact ii;exact ii;(first | exact zio rfl | exact Qae (by omega));simp only [zp,zq,z0,z1]) | ((with_reducible apply Qav hp);exact rfl;(focus (intro _;go_simp;(try go_ints);try with_reducible rfl));simp only [zp,zq,z0,z1]))) | (((with_reducible apply sd_l);exact zo rfl);(first | ((with_reducible apply Qbf hp);exact rfl;(focus (intro _;go_simp;try first | with_reducible rfl | exact ⟨rfl,rfl⟩));(with_reducible first | exact fun w => X1.out w | exact fun w => X2.out w | exact fun w => X3.out w);exact hq;clear hp hq;(try clear w1);intro w1 hp hq;simp only [zp,zq,z0,z1]) | ((with_reducible apply Qax hq);exact rfl;exact zt rfl;(first | exact za rfl | exact zu rfl | exact zi rfl | exact zb rfl | exact zr rfl | exact zs rfl | exact zf rfl | exact zg rfl | exact zn rfl | exact zv rfl | exact zw rfl);exact rfl;exact Sz.z;exact rfl;exact ii;(first | (with_reducible exact Qab (by omega)) | (simp only [n0,Nat.reduceAdd,n1,n2,n3,n4,n5,n6,n7,n8,n9];try rfl));(first | exact zl rfl | exact Qad (by omega));exact rfl;exact ii;(repeat (first | exact List.Sublist.refl _ | apply List.Sublist.cons));clear hp hq;(try clear w1);intro w1 hp hq) | ((with_reducible apply Qbn hq);exact rfl;exact zt rfl;(first | exact za rfl | exact zu rfl | exact zi rfl | exact zb rfl | exact zr rfl | exact zs rfl | exact zf rfl | exact zg rfl | exact zn rfl | exact zv rfl | exact zw rfl);exact rfl;exact Sz.z;exact rfl;exact ii;(first | (with_reducible exact Qab (by omega)) | (simp only [n0,Nat.reduceAdd,n1,n2,n3,n4,n5,n6,n7,n8,n9];try rfl));(first | exact zl rfl | exact Qad (by omega));exact rfl;exact ii;exact rfl;clear hp hq;(try clear w1);intro w1 hq;have hp := True.intro))) | ((with_reducible apply Qba);clear hp;have hp := hq;clear hq))
  go_wp2
  exact bodyPost_ret (Qaf rfl ⟨_,rfl,Qal hp (Nat.le_of_ble_eq_true rfl)⟩) rfl ⟨rfl,hp.keep⟩
set_option maxHeartbeats 2000000 in
theorem r3vsub_any (a b : P3) (ha : a.i64) (hb : b.i64) (w : World) : Calls Tryz.prog 130 #[PV a,PV b] w (Ret (PV (a.csub b)) w) := by
  have X1 := Lib.hid (Qdr a.x b.x ha.1 hb.1)
  have X2 := Lib.hid (Qdr a.y b.y ha.2.1 hb.2.1)
  have X3 := Lib.hid (Qdr a.z b.z ha.2.2 hb.2.2)
  clear ha hb
  unfold P3.csub
  generalize cl (a.x - b.x) = p at *
  generalize cl (a.y - b.y) = q at *
  generalize cl (a.z - b.z) = r at *
  go_enter Tryz.func130,Tryz.ntmps130
  have hp := Hp.start [] w
  go_upto_region 1 with (first | ((with_reducible apply Qao hp);(first | exact za rfl | exact zu rfl | exact zi rfl | exact zb rfl | exact zr rfl | exact zs rfl | exact zf rfl | exact zg rfl | exact zn rfl | exact zv rfl | exact zw rfl);exact rfl;clear hp;(try clear w1);intro g w1 hp;simp only [zp,zq,z0,z1]) | ((with_reducible apply Qag hp);exact ii;exact rfl;clear hp;(try clear w1);intro g w1 hp;simp only [zp,zq,z0,z1]))
  have hq := hp
  refine Qaq hp hq [16] (.q 0 (.q 1 (.q 2 (.q 3 (.q 5 (.q 6 (.q 7 (.q 8 (.q 10 (.q 11 (.q 12 (.q 13 (.l 4 (.l 9 (.l 14 (.q 15 (.l 16 .nil))))))))))))))))) (by kernel_rfl) (by kernel_rfl) ?_
  clear hp hq;(try clear w1);intro w1 hp hq
  repeat' (first | (((with_reducible apply sd_q);exact zo rfl);(first | ((with_reducible apply Qaw hp);exact rfl;exact zt rfl;exact ii;exact ii;(first | exact zio rfl | exact Qae (by omega));simp only [zp,zq,z0,z1]) | ((with_reducible apply Qav hp);exact rfl;(focus (intro _;go_simp;(try go_ints);try with_reducible rfl));simp only [zp,zq,z0,z1]))) | (((with_reducible apply sd_l);exact zo rfl);(first | ((with_reducible apply Qbf hp);exact rfl;(focus (intro _;go_simp;try first | with_reducible rfl | exact ⟨rfl,rfl⟩));(with_reducible first | exact fun w => X1.out w | exact fun w => X2.out w | exact fun w => X3.out w);exact hq;clear hp hq;(try clear w1);intro w1 hp hq;simp only [zp,zq,z0,z1]) | ((with_reducible apply Qax hq);exact rfl;exact zt rfl;(first | exact za rfl | exact zu rfl | exact zi rfl | exact zb rfl | exact zr rfl | exact zs rfl | exact zf rfl | exact zg rfl | exact zn rfl | exact zv rfl | exact zw rfl);exact rfl;exact Sz.z;exact rfl;exact ii;(first | (with_reducible exact Qab (by omega)) | (simp only [n0,Nat.reduceAdd,n1,n2,n3,n4,n5,n6,n7,n8,n9];try rfl));(first | exact zl rfl | exact Qad (by omega));exact rfl;exact ii;(repeat (first | exact List.Sublist.refl _ | apply List.Sublist.cons));clear hp hq;(try clear w1);intro w1 hp hq) | ((with_reducible apply Qbn hq);exact rfl;exact zt rfl;(first | exact za rfl | exact zu rfl | exact zi rfl | exact zb rfl | exact zr rfl | exact zs rfl | exact zf rfl | exact zg rfl | exact zn rfl | exact zv rfl | exact zw rfl);exact rfl;exact Sz.z;exact rfl;exact ii;(first | (with_reducible exact Qab (by omega)) | (simp only [n0,Nat.reduceAdd,n1,n2,n3,n4,n5,n6,n7,n8,n9];try rfl));(first | exact zl rfl | exact Qad (by omega));exact rfl;exact ii;exact rfl;clear hp hq;(try clear w1);intro w1 hq;have hp := True.intro))) | ((with_reducible apply Qba);clear hp;have hp := hq;clear hq))
  go_wp2
  exact bodyPost_ret (Qaf rfl ⟨_,rfl,Qal hp (Nat.le_of_ble_eq_true rfl)⟩) rfl ⟨rfl,hp.keep⟩
theorem Qdv (a b : Int) (ha : I64 a) (hb : I64 b) (w : World) : Calls Tryz.prog 46 #[.int .i64 a,.int .i64 b,.bool false] w (Ret (.int .i64 (cl (a * b / 4294967296))) w) := by
  have := r2mul_any a b false ha hb w
  rwa [qv_down,(dvq_32 (Qcu ha hb)).1] at this
set_option maxHeartbeats 2000000 in
theorem Qer (a : P3) (k : Int) (ha : a.i64) (hk : I64 k) (w : World) : Calls Tryz.prog 35 #[PV a,.int .i64 k] w (Ret (PV (a.cscale k)) w) := by
  have X1 := Lib.hid (Qdv a.x k ha.1 hk)
  have X2 := Lib.hid (Qdv a.y k ha.2.1 hk)
  have X3 := Lib.hid (Qdv a.z k ha.2.2 hk)
  clear ha hk
  unfold P3.cscale
  generalize cl (a.x * k / 4294967296) = p at *
  generalize cl (a.y * k / 4294967296) = q at *
  generalize cl (a.z * k / 4294967296) = r at *
  go_enter Tryz.func35,Tryz.ntmps35
  have hp := Hp.start [] w
  go_upto_region 1 with (first | ((with_reducible apply Qao hp);(first | exact za rfl | exact zu rfl | exact zi rfl | exact zb rfl | exact zr rfl | exact zs rfl | exact zf rfl | exact zg rfl | exact zn rfl | exact zv rfl | exact zw rfl);exact rfl;clear hp;(try clear w1);intro g w1 hp;simp only [zp,zq,z0,z1]) | ((with_reducible apply Qag hp);exact ii;exact rfl;clear hp;(try clear w1);intro g w1 hp;simp only [zp,zq,z0,z1]))
  have hq := hp
  refine Qaq hp hq [13] (.q 0 (.q 1 (.q 2 (.q 4 (.q 5 (.q 6 (.q 8 (.q 9 (.q 10 (.l 3 (.l 7 (.l 11 (.q 12 (.l 13 .nil)))))))))))))) (by kernel_rfl) (by kernel_rfl) ?_
  clear hp hq;(try clear w1);intro w1 hp hq
  repeat' (first | (((with_reducible apply sd_q);exact zo rfl);(first | ((with_reducible apply Qaw hp);exact rfl;exact zt rfl;exact ii;exact ii;(first | exact zio rfl | exact Qae (by omega));simp only [zp,zq,z0,z1]) | ((with_reducible apply Qbh hp);exact zi rfl;simp only [zp,zq,z0,z1]) | ((with_reducible apply Qav hp);exact rfl;(focus (intro _;go_simp;(try go_ints);try with_reducible rfl));simp only [zp,zq,z0,z1]))) | (((with_reducible apply sd_l);exact zo rfl);(first | ((with_reducible apply Qbf hp);exact rfl;(focus (intro _;go_simp;try first | with_reducible rfl | exact ⟨rfl,rfl⟩));(with_reducible first | exact fun w => X1.out w | exact fun w => X2.out w | exact fun w => X3.out w);exact hq;clear hp hq;(try clear w1);intro w1 hp hq;simp only [zp,zq,z0,z1]) | ((with_reducible apply Qax hq);exact rfl;exact zt rfl;(first | exact za rfl | exact zu rfl | exact zi rfl | exact zb rfl | exact zr rfl | exact zs rfl | exact zf rfl | exact zg rfl | exact zn rfl | exact zv rfl | exact zw rfl);exact rfl;exact Sz.z;exact rfl;exact ii;(first | (with_reducible exact Qab (by omega)) | (simp only [n0,Nat.reduceAdd,n1,n2,n3,n4,n5,n6,n7,n8,n9];try rfl));(first | exact zl rfl | exact Qad (by omega));exact rfl;exact ii;(repeat (first | exact List.Sublist.refl _ | apply List.Sublist.cons));clear hp hq;(try clear w1);intro w1 hp hq) | ((with_reducible apply Qbn hq);exact rfl;exact zt rfl;(first | exact za rfl | exact zu rfl | exact zi rfl | exact zb rfl | exact zr rfl | exact zs rfl | exact zf rfl | exact zg rfl | exact zn rfl | exact zv rfl | exact zw rfl);exact rfl;exact Sz.z;exact rfl;exact ii;(first | (with_reducible exact Qab (by omega)) | (simp only [n0,Nat.reduceAdd,n1,n2,n3,n4,n5,n6,n7,n8,n9];try rfl));(first | exact zl rfl | exact Qad (by omega));exact rfl;exact ii;exact rfl;clear hp hq;(try clear w1);intro w1 hq;have hp := True.intro))) | ((with_reducible apply Qba);clear hp;have hp := hq;clear hq))
  go_wp2
  exact bodyPost_ret (Qaf rfl ⟨_,rfl,Qal hp (Nat.le_of_ble_eq_true rfl)⟩) rfl ⟨rfl,hp.keep⟩
theorem i64_64 : I64 64 := by unfold I64;omega
set_option maxHeartbeats 1000000 in
theorem Qge (a b : P3) (ha : a.i64) (hb : b.i64) (w : World) : Calls Tryz.prog 82 #[PV a,PV b] w (Ret (.int .i64 (cl (a.dot b / 4294967296))) w) := by
  have hd := dot_bd ha hb
  have X1 := Lib.hid (exact_any a b ha hb)
  have X2 := Lib.hid fun w => r2in_any (a.dot b) 64 (by unfold Fit M511;omega) i64_64 w
  rw [inv_64] at X2
  clear ha hb hd
  generalize cl (a.dot b / 4294967296) = r at *
  generalize a.dot b = s at *
  go_enter Tryz.func82,Tryz.ntmps82
  have hp := Hp.start [] w
  go_wp2_with (first | ((with_reducible apply Qao hp);exact za rfl;exact rfl;clear hp;(try clear w1);intro g w1 hp;simp only [zp,zq,z0,z1]) | ((with_reducible apply Qaa hp);exact zt rfl;exact ii;exact ii;(first | exact zl rfl | exact Qad (by omega));(first | (with_reducible exact Qab (by omega)) | (simp only [n0,Nat.reduceAdd,n1,n2,n3,n4,n5,n6,n7,n8,n9];try rfl));simp only [zp,zq,z0,z1]) | ((with_reducible first | refine Qak hp (X1.out _) ?_ | refine Qak hp (X2.out _) ?_);clear hp;(try clear w1);intro w1 hp))
  exact bodyPost_ret (Qaf rfl rfl) rfl ⟨rfl,hp.keep⟩
set_option maxHeartbeats 1000000 in
theorem Qhg (a b c d : Int) (ha : I64 a) (hb : I64 b) (hc : I64 c) (hd : I64 d) (w : World) : Calls Tryz.prog 83 #[.int .i64 a,.int .i64 b,.int .i64 c,.int .i64 d] w (Ret (.int .i64 (cl ((a * b - c * d) / 4294967296))) w) := by
  have h1 := Qcu ha hb
  have h2 := Qcu hc hd
  have X1 := Lib.hid (Qdb a ha)
  have X2 := Lib.hid (Qdb b hb)
  have X3 := Lib.hid (Qdb c hc)
  have X4 := Lib.hid (Qdb d hd)
  have T1 := Lib.hid (Qfc a b ha hb)
  have T2 := Lib.hid (Qfc c d hc hd)
  have L1 := Lib.hid (rless_fit (a * b) (c * d) (by unfold Fit M511;omega) (by unfold Fit M511;omega) (by unfold Fit M511;omega))
  have I1 := Lib.hid fun w => r2in_any (a * b - c * d) 64 (by unfold Fit M511;omega) i64_64 w
  rw [inv_64] at I1
  clear ha hb hc hd h1 h2
  generalize cl ((a * b - c * d) / 4294967296) = r at *
  generalize a * b - c * d = s at *
  generalize a * b = p at *
  generalize c * d = q at *
  go_enter Tryz.func83,Tryz.ntmps83
  have hp := Hp.start [] w
  go_wp2_with (first | ((with_reducible first | refine Qak hp (X1.out _) ?_ | refine Qak hp (X2.out _) ?_ | refine Qak hp (X3.out _) ?_ | refine Qak hp (X4.out _) ?_ | refine Qak hp (T1.out _) ?_ | refine Qak hp (T2.out _) ?_ | refine Qak hp (L1.out _) ?_ | refine Qak hp (I1.out _) ?_);clear hp;(try clear w1);intro w1 hp))
  exact bodyPost_ret (Qaf rfl rfl) rfl ⟨rfl,hp.keep⟩
/-- The vector product. -/
def P3.ccross (a b : P3) : P3 := ⟨cl ((a.y * b.z - a.z * b.y) / 4294967296),cl ((a.z * b.x - a.x * b.z) / 4294967296),cl ((a.x * b.y - a.y * b.x) / 4294967296)⟩
set_option maxHeartbeats 2000000 in
theorem Qjf (a b : P3) (ha : a.i64) (hb : b.i64) (w : World) : Calls Tryz.prog 37 #[PV a,PV b] w (Ret (PV (a.ccross b)) w) := by
  have X1 := Lib.hid (Qhg a.y b.z a.z b.y ha.2.1 hb.2.2 ha.2.2 hb.2.1)
  have X2 := Lib.hid (Qhg a.z b.x a.x b.z ha.2.2 hb.1 ha.1 hb.2.2)
  have X3 := Lib.hid (Qhg a.x b.y a.y b.x ha.1 hb.2.1 ha.2.1 hb.1)
  clear ha hb
  unfold P3.ccross
  generalize cl ((a.y * b.z - a.z * b.y) / 4294967296) = p at *
  generalize cl ((a.z * b.x - a.x * b.z) / 4294967296) = q at *
  generalize cl ((a.x * b.y - a.y * b.x) / 4294967296) = r at *
  go_enter Tryz.func37,Tryz.ntmps37
  have hp := Hp.start [] w
  go_upto_region 1 with (first | ((with_reducible apply Qao hp);(first | exact za rfl | exact zu rfl | exact zi rfl | exact zb rfl | exact zr rfl | exact zs rfl | exact zf rfl | exact zg rfl | exact zn rfl | exact zv rfl | exact zw rfl);exact rfl;clear hp;(try clear w1);intro g w1 hp;simp only [zp,zq,z0,z1]) | ((with_reducible apply Qag hp);exact ii;exact rfl;clear hp;(try clear w1);intro g w1 hp;simp only [zp,zq,z0,z1]))
  have hq := hp
  refine Qaq hp hq [28] (.q 0 (.q 1 (.q 2 (.q 3 (.q 4 (.q 5 (.q 6 (.q 7 (.q 9 (.q 10 (.q 11 (.q 12 (.q 13 (.q 14 (.q 15 (.q 16 (.q 18 (.q 19 (.q 20 (.q 21 (.q 22 (.q 23 (.q 24 (.q 25 (.l 8 (.l 17 (.l 26 (.q 27 (.l 28 .nil))))))))))))))))))))))))))))) (by kernel_rfl) (by kernel_rfl) ?_
  clear hp hq;(try clear w1);intro w1 hp hq
  repeat' (first | (((with_reducible apply sd_q);exact zo rfl);(first | ((with_reducible apply Qaw hp);exact rfl;exact zt rfl;exact ii;exact ii;(first | exact zio rfl | exact Qae (by omega));simp only [zp,zq,z0,z1]) | ((with_reducible apply Qav hp);exact rfl;(focus (intro _;go_simp;(try go_ints);try with_reducible rfl));simp only [zp,zq,z0,z1]))) | (((with_reducible apply sd_l);exact zo rfl);(first | ((with_reducible apply Qbf hp);exact rfl;(focus (intro _;go_simp;try first | with_reducible rfl | exact ⟨rfl,rfl⟩));(with_reducible first | exact fun w => X1.out w | exact fun w => X2.out w | exact fun w => X3.out w);exact hq;clear hp hq;(try clear w1);intro w1 hp hq;simp only [zp,zq,z0,z1]) | ((with_reducible apply Qax hq);exact rfl;exact zt rfl;(first | exact za rfl | exact zu rfl | exact zi rfl | exact zb rfl | exact zr rfl | exact zs rfl | exact zf rfl | exact zg rfl | exact zn rfl | exact zv rfl | exact zw rfl);exact rfl;exact Sz.z;exact rfl;exact ii;(first | (with_reducible exact Qab (by omega)) | (simp only [n0,Nat.reduceAdd,n1,n2,n3,n4,n5,n6,n7,n8,n9];try rfl));(first | exact zl rfl | exact Qad (by omega));exact rfl;exact ii;(repeat (first | exact List.Sublist.refl _ | apply List.Sublist.cons));clear hp hq;(try clear w1);intro w1 hp hq) | ((with_reducible apply Qbn hq);exact rfl;exact zt rfl;(first | exact za rfl | exact zu rfl | exact zi rfl | exact zb rfl | exact zr rfl | exact zs rfl | exact zf rfl | exact zg rfl | exact zn rfl | exact zv rfl | exact zw rfl);exact rfl;exact Sz.z;exact rfl;exact ii;(first | (with_reducible exact Qab (by omega)) | (simp only [n0,Nat.reduceAdd,n1,n2,n3,n4,n5,n6,n7,n8,n9];try rfl));(first | exact zl rfl | exact Qad (by omega));exact rfl;exact ii;exact rfl;clear hp hq;(try clear w1);intro w1 hq;have hp := True.intro))) | ((with_reducible apply Qba);clear hp;have hp := hq;clear hq))
  go_wp2
  exact bodyPost_ret (Qaf rfl ⟨_,rfl,Qal hp (Nat.le_of_ble_eq_true rfl)⟩) rfl ⟨rfl,hp.keep⟩
end Go.Proofs.YtblffafmkpnjdaaGreat
