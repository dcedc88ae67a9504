/-
  Package ninepinref03: Plus, Less, Times; ninepinref01.Small (contracts).
-/
import Derived.Test.YtblffafmkpnjdaaGreatBg
import Derived.Test.YtblffafmkpnjdaaGreatGx
set_option linter.unusedSimpArgs false
set_option linter.unusedVariables false
set_option maxRecDepth 100000
namespace Go.Proofs.YtblffafmkpnjdaaGreat
open Go Go.RowKit
set_option maxHeartbeats 1000000 in
theorem r3plus_any (a b : Int) (ha : Fit a) (hb : Fit b) (w : World) : Calls Tryz.prog 25 #[W a,W b] w (Ret (W (fz (a + b))) w) := by
  have Ha := Lib.hid ha
  have Hb := Lib.hid hb
  clear ha hb
  go_enter Tryz.func25,Tryz.ntmps25
  have hp := Hp.start [] w
  go_wp2_with (first | ((with_reducible apply Qao hp);exact za rfl;exact rfl;clear hp;(try clear w1);intro g w1 hp;simp only [zp,zq,z0,z1]) | ((with_reducible apply Qag hp);exact ii;exact rfl;clear hp;(try clear w1);intro g w1 hp;simp only [zp,zq,z0,z1]) | ((with_reducible apply Qaa hp);exact zt rfl;exact ii;exact ii;(first | exact zl rfl | exact Qad (by omega));(first | (with_reducible exact Qab (by omega)) | (simp only [n0,Nat.reduceAdd,n1,n2,n3,n4,n5,n6,n7,n8,n9];try rfl));simp only [zp,zq,z0,z1]) | ((with_reducible apply Qah hp);exact zt rfl;exact za rfl;exact rfl;exact Sz.z;exact rfl;exact ii;(first | (with_reducible exact Qab (by omega)) | (simp only [n0,Nat.reduceAdd,n1,n2,n3,n4,n5,n6,n7,n8,n9];try rfl));(first | exact zl rfl | exact Qad (by omega));exact rfl;exact ii;clear hp;(try clear w1);intro w1 hp) | ((with_reducible refine Qak hp (Qmu _ _ Ha.out Hb.out _) ?_);clear hp;(try clear w1);intro w1 hp))
  exact bodyPost_ret (Qaf rfl ⟨_,rfl,Qal hp (Nat.le_of_ble_eq_true rfl)⟩) rfl ⟨rfl,hp.keep⟩
theorem Qhs (a b : Int) (ha : Fit a) (hb : Fit b) (h : Fit (a + b)) (w : World) : Calls Tryz.prog 25 #[W a,W b] w (Ret (W (a + b)) w) := by
  have := r3plus_any a b ha hb w
  rw [fz,if_pos h] at this
  exact this
set_option maxHeartbeats 1000000 in
theorem r3less_any (a b : Int) (ha : Fit a) (hb : Fit b) (w : World) : Calls Tryz.prog 126 #[W a,W b] w (Ret (W (fz (a - b))) w) := by
  have Ha := Lib.hid ha
  have Hb := Lib.hid hb
  clear ha hb
  go_enter Tryz.func126,Tryz.ntmps126
  have hp := Hp.start [] w
  go_wp2_with (first | ((with_reducible apply Qao hp);exact za rfl;exact rfl;clear hp;(try clear w1);intro g w1 hp;simp only [zp,zq,z0,z1]) | ((with_reducible apply Qag hp);exact ii;exact rfl;clear hp;(try clear w1);intro g w1 hp;simp only [zp,zq,z0,z1]) | ((with_reducible apply Qaa hp);exact zt rfl;exact ii;exact ii;(first | exact zl rfl | exact Qad (by omega));(first | (with_reducible exact Qab (by omega)) | (simp only [n0,Nat.reduceAdd,n1,n2,n3,n4,n5,n6,n7,n8,n9];try rfl));simp only [zp,zq,z0,z1]) | ((with_reducible apply Qah hp);exact zt rfl;exact za rfl;exact rfl;exact Sz.z;exact rfl;exact ii;(first | (with_reducible exact Qab (by omega)) | (simp only [n0,Nat.reduceAdd,n1,n2,n3,n4,n5,n6,n7,n8,n9];try rfl));(first | exact zl rfl | exact Qad (by omega));exact rfl;exact ii;clear hp;(try clear w1);intro w1 hp) | ((with_reducible refine Qak hp (rsub_any _ _ Ha.out Hb.out _) ?_);clear hp;(try clear w1);intro w1 hp))
  exact bodyPost_ret (Qaf rfl ⟨_,rfl,Qal hp (Nat.le_of_ble_eq_true rfl)⟩) rfl ⟨rfl,hp.keep⟩
theorem rless_fit (a b : Int) (ha : Fit a) (hb : Fit b) (h : Fit (a - b)) (w : World) : Calls Tryz.prog 126 #[W a,W b] w (Ret (W (a - b)) w) := by
  have := r3less_any a b ha hb w
  rw [fz,if_pos h] at this
  exact this
set_option maxHeartbeats 1000000 in
theorem Qpe (a b : Int) (ha : Fit a) (hb : Fit b) (w : World) : Calls Tryz.prog 65 #[W a,W b] w (Ret (W (fz (a * b))) w) := by
  have Ha := Lib.hid ha
  have Hb := Lib.hid hb
  clear ha hb
  go_enter Tryz.func65,Tryz.ntmps65
  have hp := Hp.start [] w
  go_wp2_with (first | ((with_reducible apply Qao hp);exact za rfl;exact rfl;clear hp;(try clear w1);intro g w1 hp;simp only [zp,zq,z0,z1]) | ((with_reducible apply Qag hp);exact ii;exact rfl;clear hp;(try clear w1);intro g w1 hp;simp only [zp,zq,z0,z1]) | ((with_reducible apply Qaa hp);exact zt rfl;exact ii;exact ii;(first | exact zl rfl | exact Qad (by omega));(first | (with_reducible exact Qab (by omega)) | (simp only [n0,Nat.reduceAdd,n1,n2,n3,n4,n5,n6,n7,n8,n9];try rfl));simp only [zp,zq,z0,z1]) | ((with_reducible apply Qah hp);exact zt rfl;exact za rfl;exact rfl;exact Sz.z;exact rfl;exact ii;(first | (with_reducible exact Qab (by omega)) | (simp only [n0,Nat.reduceAdd,n1,n2,n3,n4,n5,n6,n7,n8,n9];try rfl));(first | exact zl rfl | exact Qad (by omega));exact rfl;exact ii;clear hp;(try clear w1);intro w1 hp) | ((with_reducible refine Qak hp (rmul_any _ _ Ha.out Hb.out _) ?_);clear hp;(try clear w1);intro w1 hp))
  exact bodyPost_ret (Qaf rfl ⟨_,rfl,Qal hp (Nat.le_of_ble_eq_true rfl)⟩) rfl ⟨rfl,hp.keep⟩
theorem Qhz (a b : Int) (ha : Fit a) (hb : Fit b) (h : Fit (a * b)) (w : World) : Calls Tryz.prog 65 #[W a,W b] w (Ret (W (a * b)) w) := by
  have := Qpe a b ha hb w
  rw [fz,if_pos h] at this
  exact this
theorem rsmall_i64 (n : Int) (h : I64 n) (w : World) : Calls Tryz.prog 95 #[.int .i64 n] w (Ret (W n) w) := Qem n h.1 h.2 w
theorem Qfc (a b : Int) (ha : I64 a) (hb : I64 b) (w : World) : Calls Tryz.prog 65 #[W a,W b] w (Ret (W (a * b)) w) := by
  have := Qcu ha hb
  exact Qhz a b (Qcs ha) (Qcs hb) (by unfold Fit M511;omega) w
end Go.Proofs.YtblffafmkpnjdaaGreat
