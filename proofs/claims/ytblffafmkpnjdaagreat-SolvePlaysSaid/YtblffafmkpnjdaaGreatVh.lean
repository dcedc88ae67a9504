/-
  Package vec: raw, product, sum, less, times, dot, Dot, Cross, whole (contracts).
  Package vec: ceiling, Len, LenUp, each, Add, Sub, Scale, Move (contracts).
-/
import Derived.Test.YtblffafmkpnjdaaGreatVf
set_option linter.unusedSimpArgs false
set_option linter.unusedVariables false
set_option maxRecDepth 100000
namespace Go.Proofs.YtblffafmkpnjdaaGreat
open Go Go.RowKit
attribute [local irreducible] wpList
set_option maxHeartbeats 1000000 in
theorem vraw_any (n : Int) (h : I64 n) (w : World) : Calls Tryz.prog 123 #[.int .i64 n] w (Ret (W n) w) := by
  have HO := Lib.hid fun w => Qol n h w
  clear h
  go_enter Tryz.func123,Tryz.ntmps123
  have hp := Hp.start [] w
  go_wp2_with (first | ((with_reducible apply Qag hp);exact ii;exact rfl;clear hp;(try clear w1);intro g w1 hp;simp only [zp,zq,z0,z1]) | ((with_reducible apply Qah hp);exact zt rfl;exact za rfl;exact rfl;exact Sz.z;exact rfl;exact ii;(first | (with_reducible exact Qab (by omega)) | (simp only [n0,Nat.reduceAdd,n1,n2,n3,n4,n5,n6,n7,n8,n9];try rfl));(first | exact zl rfl | exact Qad (by omega));exact rfl;exact ii;clear hp;(try clear w1);intro w1 hp) | ((with_reducible refine Qak hp (HO.out _) ?_);clear hp;(try clear w1);intro w1 hp))
  exact bodyPost_ret (Qaf rfl ⟨_,rfl,Qal hp (Nat.le_of_ble_eq_true rfl)⟩) rfl ⟨rfl,hp.keep⟩
set_option maxHeartbeats 1000000 in
theorem Qof (a b : Int) (ha : Fit a) (hb : Fit b) (h : Fit (a * b)) (w : World) : Calls Tryz.prog 122 #[W a,W b] w (Ret (W (a * b)) w) := by
  have hc := Qlw a b ha hb
  rw [show fz (a * b) = a * b from if_pos h] at hc
  have HC := Lib.hid hc
  clear hc ha hb h
  generalize a * b = m at *
  go_enter Tryz.func122,Tryz.ntmps122
  have hp := Hp.start [] w
  go_wp2_with (first | ((with_reducible apply Qao hp);exact za rfl;exact rfl;clear hp;(try clear w1);intro g w1 hp;simp only [zp,zq,z0,z1]) | ((with_reducible apply Qag hp);exact ii;exact rfl;clear hp;(try clear w1);intro g w1 hp;simp only [zp,zq,z0,z1]) | ((with_reducible apply Qaa hp);exact zt rfl;exact ii;exact ii;(first | exact zl rfl | exact Qad (by omega));(first | (with_reducible exact Qab (by omega)) | (simp only [n0,Nat.reduceAdd,n1,n2,n3,n4,n5,n6,n7,n8,n9];try rfl));simp only [zp,zq,z0,z1]) | ((with_reducible apply Qah hp);exact zt rfl;exact za rfl;exact rfl;exact Sz.z;exact rfl;exact ii;(first | (with_reducible exact Qab (by omega)) | (simp only [n0,Nat.reduceAdd,n1,n2,n3,n4,n5,n6,n7,n8,n9];try rfl));(first | exact zl rfl | exact Qad (by omega));exact rfl;exact ii;clear hp;(try clear w1);intro w1 hp) | ((with_reducible refine Qak hp (HC.out _) ?_);clear hp;(try clear w1);intro w1 hp))
  exact bodyPost_ret (Qaf rfl ⟨_,rfl,Qal hp (Nat.le_of_ble_eq_true rfl)⟩) rfl ⟨rfl,hp.keep⟩
set_option maxHeartbeats 1000000 in
theorem vless_any (a b : Int) (ha : Fit a) (hb : Fit b) (h : Fit (a - b)) (w : World) : Calls Tryz.prog 78 #[W a,W b] w (Ret (W (a - b)) w) := by
  have hc := sub_any a b ha hb
  rw [show fz (a - b) = a - b from if_pos h] at hc
  have HC := Lib.hid hc
  clear hc ha hb h
  generalize a - b = m at *
  go_enter Tryz.func78,Tryz.ntmps78
  have hp := Hp.start [] w
  go_wp2_with (first | ((with_reducible apply Qao hp);exact za rfl;exact rfl;clear hp;(try clear w1);intro g w1 hp;simp only [zp,zq,z0,z1]) | ((with_reducible apply Qag hp);exact ii;exact rfl;clear hp;(try clear w1);intro g w1 hp;simp only [zp,zq,z0,z1]) | ((with_reducible apply Qaa hp);exact zt rfl;exact ii;exact ii;(first | exact zl rfl | exact Qad (by omega));(first | (with_reducible exact Qab (by omega)) | (simp only [n0,Nat.reduceAdd,n1,n2,n3,n4,n5,n6,n7,n8,n9];try rfl));simp only [zp,zq,z0,z1]) | ((with_reducible apply Qah hp);exact zt rfl;exact za rfl;exact rfl;exact Sz.z;exact rfl;exact ii;(first | (with_reducible exact Qab (by omega)) | (simp only [n0,Nat.reduceAdd,n1,n2,n3,n4,n5,n6,n7,n8,n9];try rfl));(first | exact zl rfl | exact Qad (by omega));exact rfl;exact ii;clear hp;(try clear w1);intro w1 hp) | ((with_reducible refine Qak hp (HC.out _) ?_);clear hp;(try clear w1);intro w1 hp))
  exact bodyPost_ret (Qaf rfl ⟨_,rfl,Qal hp (Nat.le_of_ble_eq_true rfl)⟩) rfl ⟨rfl,hp.keep⟩
set_option maxHeartbeats 1000000 in
theorem Qfb (a b : Int) (ha : I64 a) (hb : I64 b) (w : World) : Calls Tryz.prog 79 #[.int .i64 a,.int .i64 b] w (Ret (W (a * b)) w) := by
  have X1 := Lib.hid (vraw_any a ha)
  have X2 := Lib.hid (vraw_any b hb)
  have T1 := Lib.hid (Qof a b (Qcs ha) (Qcs hb) (Qho ha hb))
  clear ha hb
  generalize a * b = m at *
  go_enter Tryz.func79,Tryz.ntmps79
  have hp := Hp.start [] w
  go_wp2_with (first | ((with_reducible apply Qag hp);exact ii;exact rfl;clear hp;(try clear w1);intro g w1 hp;simp only [zp,zq,z0,z1]) | ((with_reducible apply Qah hp);exact zt rfl;exact za rfl;exact rfl;exact Sz.z;exact rfl;exact ii;(first | (with_reducible exact Qab (by omega)) | (simp only [n0,Nat.reduceAdd,n1,n2,n3,n4,n5,n6,n7,n8,n9];try rfl));(first | exact zl rfl | exact Qad (by omega));exact rfl;exact ii;clear hp;(try clear w1);intro w1 hp) | ((with_reducible first | refine Qak hp (X1.out _) ?_ | refine Qak hp (X2.out _) ?_ | refine Qak hp (T1.out _) ?_);clear hp;(try clear w1);intro w1 hp))
  exact bodyPost_ret (Qaf rfl ⟨_,rfl,Qal hp (Nat.le_of_ble_eq_true rfl)⟩) rfl ⟨rfl,hp.keep⟩
/-- The sum of the first of some numbers. -/
def psm (f : Nat → Int) : Nat → Int
  | 0 => 0
  | k + 1 => psm f k + f k
set_option maxHeartbeats 4000000 in
theorem vsum_any (n : Nat) (hn : n ≤ 1000) (f : Nat → Int) (hf : ∀ i,i < n → Fit (f i)) (hs : ∀ k,k ≤ n → Fit (psm f k)) (w : World) (g cap : Nat) (bc : List Value) (t : TypeId) (z : Nat × Nat)
    (hb : w.heap[g]? = some (.cells bc.toArray t z)) (hc : ∀ i,i < n → (bc.drop (i * 8)).take 8 = LB (lb (f i))) : Calls Tryz.prog 135 #[.slice (some ⟨g,0,none⟩) n cap] w (Ret (W (psm f n)) w) := by
  have HF := Lib.hid hf
  have HS := Lib.hid hs
  have HC := Lib.hid hc
  clear hf hs hc
  go_enter Tryz.func135,Tryz.ntmps135
  have hp := Hp.start [] w
  go_wp2_with (first | ((with_reducible apply Qag hp);exact ii;exact rfl;clear hp;(try clear w1);intro g w1 hp;simp only [zp,zq,z0,z1]) | ((with_reducible apply Qaa hp);exact zt rfl;exact ii;exact ii;(first | exact zl rfl | exact Qad (by omega));(first | (with_reducible exact Qab (by omega)) | (simp only [n0,Nat.reduceAdd,n1,n2,n3,n4,n5,n6,n7,n8,n9];try rfl));simp only [zp,zq,z0,z1]) | ((with_reducible apply Qah hp);exact zt rfl;exact za rfl;exact rfl;exact Sz.z;exact rfl;exact ii;(first | (with_reducible exact Qab (by omega)) | (simp only [n0,Nat.reduceAdd,n1,n2,n3,n4,n5,n6,n7,n8,n9];try rfl));(first | exact zl rfl | exact Qad (by omega));exact rfl;exact ii;clear hp;(try clear w1);intro w1 hp) | ((with_reducible apply Qaj);exact zx rfl;exact zk rfl;exact ii;exact Sz.z;omega;omega;((try simp only [m0,Int.reduceToNat,m1,m2,Nat.reduceMul,Nat.reduceAdd,m3,m4,m5,n0]);exact rfl);simp only [zp,zq,z0,z1]) | ((with_reducible apply Qam hp);exact zt rfl;assumption;exact ii;assumption;(first | exact zl rfl | omega);simp only [zp,zq,z0,z1]))
  rename_i gr K hK
  obtain ⟨ga,rfl⟩ : ∃ k : Nat,k = g := ⟨_,rfl⟩
  go_loopw [8] (fun iv wr => ∃ k : Nat,k ≤ n ∧ iv = .int .i64 k ∧ Hp [] w [⟨ga,48,[.int .u64 (lb (psm f k) 0),.int .u64 (lb (psm f k) 1),.int .u64 (lb (psm f k) 2),.int .u64 (lb (psm f k) 3),.int .u64 (lb (psm f k) 4),.int .u64 (lb (psm f k) 5),.int .u64 (lb (psm f k) 6),.int .u64 (lb (psm f k) 7)]⟩,⟨gr,48,[.int .u64 0,.int .u64 0,.int .u64 0,.int .u64 0,.int .u64 0,.int .u64 0,.int .u64 0,.int .u64 0]⟩] wr) (fun iv _ => n - (intOf iv).toNat)
  case atStart =>
    refine ⟨0,by omega,rfl,?_⟩
    rw [show psm f 0 = 0 from rfl]
    simp only [Qgj]
    exact hp
  case round =>
    clear hp
    obtain ⟨k,hk,rfl,hp⟩ := hrel
    by_cases hk1 : k < n
    · have hk2 : (k : Int) < n := by omega
      have hck : (bc.drop (k * 8)).take 8 = [.int .u64 (lb (f k) 0),.int .u64 (lb (f k) 1),.int .u64 (lb (f k) 2),.int .u64 (lb (f k) 3),.int .u64 (lb (f k) 4),.int .u64 (lb (f k) 5),.int .u64 (lb (f k) 6),.int .u64 (lb (f k) 7)] := HC.out k hk1
      have hlen : k * 8 + 8 ≤ bc.length := by
        have := congrArg List.length hck
        simp only [List.length_take,List.length_drop,List.length_cons,List.length_nil] at this
        omega
      have hadd := Qpg (psm f k) (f k) (HS.out k (by omega)) (HF.out k hk1)
      rw [show psm f k + f k = psm f (k + 1) from rfl,show fz (psm f (k + 1)) = psm f (k + 1) from if_pos (HS.out (k + 1) (by omega))] at hadd
      have HA := Lib.hid hadd
      clear hadd
      generalize decide (Fit (psm f (k + 1))) = o at *
      obtain ⟨s1,hs1⟩ : ∃ s,s = psm f (k + 1) := ⟨_,rfl⟩
      rw [← hs1] at HA
      have HS1 := Lib.hid hs1
      clear hs1
      generalize psm f k = s0 at *
      generalize f k = fk at *
      go_wp2_with (first | ((with_reducible apply Qag hp);exact ii;exact rfl;clear hp;(try clear w1);intro g w1 hp;simp only [zp,zq,z0,z1]) | ((with_reducible apply Qaa hp);exact zt rfl;exact ii;exact ii;(first | exact zl rfl | exact Qad (by omega));(first | (with_reducible exact Qab (by omega)) | (simp only [n0,Nat.reduceAdd,n1,n2,n3,n4,n5,n6,n7,n8,n9];try rfl));simp only [zp,zq,z0,z1]) | ((with_reducible apply Qah hp);exact zt rfl;exact za rfl;exact rfl;exact Sz.z;exact rfl;exact ii;(first | (with_reducible exact Qab (by omega)) | (simp only [n0,Nat.reduceAdd,n1,n2,n3,n4,n5,n6,n7,n8,n9];try rfl));(first | exact zl rfl | exact Qad (by omega));exact rfl;exact ii;clear hp;(try clear w1);intro w1 hp) | ((with_reducible apply Qaj);exact zx rfl;exact zk rfl;exact ii;exact Sz.z;omega;omega;((try simp only [m0,Int.reduceToNat,m1,m2,Nat.reduceMul,Nat.reduceAdd,m3,m4,m5,n0]);exact rfl);simp only [zp,zq,z0,z1]) | ((with_reducible apply Qam hp);exact zt rfl;assumption;exact ii;assumption;(first | exact zl rfl | omega);simp only [zp,zq,z0,z1]) | ((with_reducible refine Qak hp (HA.out _) ?_);clear hp;(try clear w1);intro w1 hp))
      refine ⟨⟨k + 1,by omega,rfl,?_⟩,?_⟩
      · rw [← HS1.out]
        exact hp.sub (List.sublist_cons_self _ _)
      · simp [intOf]
        omega
    · obtain rfl : k = n := by omega
      go_wp2_with (first | ((with_reducible apply Qag hp);exact ii;exact rfl;clear hp;(try clear w1);intro g w1 hp;simp only [zp,zq,z0,z1]) | ((with_reducible apply Qaa hp);exact zt rfl;exact ii;exact ii;(first | exact zl rfl | exact Qad (by omega));(first | (with_reducible exact Qab (by omega)) | (simp only [n0,Nat.reduceAdd,n1,n2,n3,n4,n5,n6,n7,n8,n9];try rfl));simp only [zp,zq,z0,z1]) | ((with_reducible apply Qah hp);exact zt rfl;exact za rfl;exact rfl;exact Sz.z;exact rfl;exact ii;(first | (with_reducible exact Qab (by omega)) | (simp only [n0,Nat.reduceAdd,n1,n2,n3,n4,n5,n6,n7,n8,n9];try rfl));(first | exact zl rfl | exact Qad (by omega));exact rfl;exact ii;clear hp;(try clear w1);intro w1 hp) | ((with_reducible apply Qaj);exact zx rfl;exact zk rfl;exact ii;exact Sz.z;omega;omega;((try simp only [m0,Int.reduceToNat,m1,m2,Nat.reduceMul,Nat.reduceAdd,m3,m4,m5,n0]);exact rfl);simp only [zp,zq,z0,z1]) | ((with_reducible apply Qam hp);exact zt rfl;assumption;exact ii;assumption;(first | exact zl rfl | omega);simp only [zp,zq,z0,z1]))
      exact bodyPost_ret (Qaf rfl ⟨_,rfl,Qal hp (Nat.le_of_ble_eq_true rfl)⟩) rfl ⟨rfl,hp.keep⟩
theorem vsum3 (p q r : Int) (hp' : Fit p) (hq : Fit q) (hr : Fit r) (hpq : Fit (p + q)) (hpqr : Fit (p + q + r)) (w : World) (g cap : Nat) (junk : List Value) (h : w.heap[g]? = some (.cells (([.int .u64 (lb (p) 0),.int .u64 (lb (p) 1),.int .u64 (lb (p) 2),.int .u64 (lb (p) 3),.int .u64 (lb (p) 4),.int .u64 (lb (p) 5),.int .u64 (lb (p) 6),.int .u64 (lb (p) 7),.int .u64 (lb (q) 0),.int .u64 (lb (q) 1),.int .u64 (lb (q) 2),.int .u64 (lb (q) 3),.int .u64 (lb (q) 4),.int .u64 (lb (q) 5),.int .u64 (lb (q) 6),.int .u64 (lb (q) 7),.int .u64 (lb (r) 0),.int .u64 (lb (r) 1),.int .u64 (lb (r) 2),.int .u64 (lb (r) 3),.int .u64 (lb (r) 4),.int .u64 (lb (r) 5),.int .u64 (lb (r) 6),.int .u64 (lb (r) 7)] : List Value) ++ junk).toArray 48 (0,0))) :
    Calls Tryz.prog 135 #[.slice (some ⟨g,0,none⟩) 3 cap] w (Ret (W (p + q + r)) w) := by
  have := vsum_any 3 (by omega) (fun i => if i = 0 then p else if i = 1 then q else r) (fun i hi => by split <;> (try split) <;> assumption) (fun k hk => by
    rcases (show k = 0 ∨ k = 1 ∨ k = 2 ∨ k = 3 by omega) with rfl | rfl | rfl | rfl
    · exact Qct
    · simpa [psm] using hp'
    · simpa [psm] using hpq
    · simpa [psm] using hpqr) w g cap _ _ _ h (fun i hi => by
    rcases (show i = 0 ∨ i = 1 ∨ i = 2 by omega) with rfl | rfl | rfl <;> rfl)
  simpa [psm] using this
theorem vsum3' (p q r : Int) (hp' : Fit p) (hq : Fit q) (hr : Fit r) (hpq : Fit (p + q)) (hpqr : Fit (p + q + r)) (w : World) (g cap : Nat) (h : w.heap[g]? = some (.cells [.int .u64 (lb (p) 0),.int .u64 (lb (p) 1),.int .u64 (lb (p) 2),.int .u64 (lb (p) 3),.int .u64 (lb (p) 4),.int .u64 (lb (p) 5),.int .u64 (lb (p) 6),.int .u64 (lb (p) 7),.int .u64 (lb (q) 0),.int .u64 (lb (q) 1),.int .u64 (lb (q) 2),.int .u64 (lb (q) 3),.int .u64 (lb (q) 4),.int .u64 (lb (q) 5),.int .u64 (lb (q) 6),.int .u64 (lb (q) 7),.int .u64 (lb (r) 0),.int .u64 (lb (r) 1),.int .u64 (lb (r) 2),.int .u64 (lb (r) 3),.int .u64 (lb (r) 4),.int .u64 (lb (r) 5),.int .u64 (lb (r) 6),.int .u64 (lb (r) 7)].toArray 48 (0,0))) :
    Calls Tryz.prog 135 #[.slice (some ⟨g,0,none⟩) 3 cap] w (Ret (W (p + q + r)) w) := vsum3 p q r hp' hq hr hpq hpqr w g cap [] (by rw [List.append_nil];exact h)
set_option maxHeartbeats 4000000 in
theorem vdot_any (a b : P3) (ha : a.i64) (hb : b.i64) (w : World) : Calls Tryz.prog 120 #[PV a,PV b] w (Ret (W (a.dot b)) w) := by
  have h1 := Qcu ha.1 hb.1
  have h2 := Qcu ha.2.1 hb.2.1
  have h3 := Qcu ha.2.2 hb.2.2
  have T1 := Lib.hid (Qfb a.x b.x ha.1 hb.1)
  have T2 := Lib.hid (Qfb a.y b.y ha.2.1 hb.2.1)
  have T3 := Lib.hid (Qfb a.z b.z ha.2.2 hb.2.2)
  have VS := Lib.hid (vsum3' (a.x * b.x) (a.y * b.y) (a.z * b.z) (by unfold Fit M511;omega) (by unfold Fit M511;omega) (by unfold Fit M511;omega) (by unfold Fit M511;omega) (by unfold Fit M511;omega))
  clear ha hb h1 h2 h3
  unfold P3.dot
  generalize a.x * b.x + a.y * b.y + a.z * b.z = s at *
  generalize a.x * b.x = p at *
  generalize a.y * b.y = q at *
  generalize a.z * b.z = r at *
  go_enter Tryz.func120,Tryz.ntmps120
  have hp := Hp.start [] w
  go_upto_region 1 with (first | ((with_reducible apply Qao hp);(first | exact za rfl | exact zu rfl | exact zi rfl | exact zb rfl | exact zr rfl | exact zs rfl | exact zf rfl | exact zg rfl | exact zn rfl | exact zv rfl | exact zw rfl);exact rfl;clear hp;(try clear w1);intro g w1 hp;simp only [zp,zq,z0,z1]) | ((with_reducible apply Qag hp);exact ii;exact rfl;clear hp;(try clear w1);intro g w1 hp;simp only [zp,zq,z0,z1]))
  have hq := hp
  refine Qaq hp hq [17] (.q 0 (.q 1 (.q 2 (.q 3 (.q 5 (.q 6 (.q 7 (.q 8 (.q 10 (.q 11 (.q 12 (.q 13 (.l 4 (.l 9 (.l 14 (.l 15 (.l 16 (.l 17 .nil)))))))))))))))))) (by kernel_rfl) (by kernel_rfl) ?_
  clear hp hq;(try clear w1);intro w1 hp hq
  repeat' (first | (((with_reducible apply sd_q);exact zo rfl);(first | ((with_reducible apply Qaw hp);exact rfl;exact zt rfl;exact ii;exact ii;(first | exact zio rfl | exact Qae (by omega));simp only [zp,zq,z0,z1]) | ((with_reducible apply Qav hp);exact rfl;(focus (intro _;go_simp;(try go_ints);try with_reducible rfl));simp only [zp,zq,z0,z1]))) | (((with_reducible apply sd_l);exact zo rfl);(first | ((with_reducible apply Qbf hp);exact rfl;(focus (intro _;go_simp;try first | with_reducible rfl | exact ⟨rfl,rfl⟩));(with_reducible first | exact fun w => T1.out w | exact fun w => T2.out w | exact fun w => T3.out w);exact hq;clear hp hq;(try clear w1);intro w1 hp hq;simp only [zp,zq,z0,z1]) | ((with_reducible apply Qdh hp);exact rfl;(focus (intro _;go_simp;try first | with_reducible rfl | exact ⟨rfl,rfl⟩));(with_reducible exact VS.out _ _ _ hq.blk);exact hq;clear hp hq;(try clear w1);intro w1 hp hq;simp only [zp,zq,z0,z1]) | ((with_reducible apply Qax hq);exact rfl;exact zt rfl;(first | exact za rfl | exact zu rfl | exact zi rfl | exact zb rfl | exact zr rfl | exact zs rfl | exact zf rfl | exact zg rfl | exact zn rfl | exact zv rfl | exact zw rfl);exact rfl;exact Sz.z;exact rfl;exact ii;(first | (with_reducible exact Qab (by omega)) | (simp only [n0,Nat.reduceAdd,n1,n2,n3,n4,n5,n6,n7,n8,n9];try rfl));(first | exact zl rfl | exact Qad (by omega));exact rfl;exact ii;(repeat (first | exact List.Sublist.refl _ | apply List.Sublist.cons));clear hp hq;(try clear w1);intro w1 hp hq) | ((with_reducible apply Qbn hq);exact rfl;exact zt rfl;(first | exact za rfl | exact zu rfl | exact zi rfl | exact zb rfl | exact zr rfl | exact zs rfl | exact zf rfl | exact zg rfl | exact zn rfl | exact zv rfl | exact zw rfl);exact rfl;exact Sz.z;exact rfl;exact ii;(first | (with_reducible exact Qab (by omega)) | (simp only [n0,Nat.reduceAdd,n1,n2,n3,n4,n5,n6,n7,n8,n9];try rfl));(first | exact zl rfl | exact Qad (by omega));exact rfl;exact ii;exact rfl;clear hp hq;(try clear w1);intro w1 hq;have hp := True.intro) | ((with_reducible apply Qhq hq);(repeat (first | exact List.Sublist.refl _ | apply List.Sublist.cons));exact rfl;exact ii;exact Sz.z;exact ii;exact zl rfl;decide;(first | exact (rfl : _ = Qan 0 [_]) | exact (rfl : _ = Qan 0 [_,_]) | exact (rfl : _ = Qan 0 [_,_,_]) | exact (rfl : _ = Qan 0 [_,_,_,_]));exact rfl;(first | exact (rfl : _ = List.map (fun x : List Value => x.toArray) [_]) | exact (rfl : _ = List.map (fun x : List Value => x.toArray) [_,_]) | exact (rfl : _ = List.map (fun x : List Value => x.toArray) [_,_,_]) | exact (rfl : _ = List.map (fun x : List Value => x.toArray) [_,_,_,_]));(intro l hl <;> simp only [List.mem_cons,List.not_mem_nil,or_false] at hl <;> rcases hl with rfl | rfl | rfl | rfl <;> rfl);exact rfl;clear hp hq;(try clear w1);intro g w1 hp hq;simp only [zp,zq,z0,z1]))) | ((with_reducible apply Qba);clear hp;have hp := hq;clear hq))
  go_wp2
  exact bodyPost_ret (Qaf rfl ⟨_,rfl,Qal hp (Nat.le_of_ble_eq_true rfl)⟩) rfl ⟨rfl,hp.keep⟩
set_option maxHeartbeats 1000000 in
theorem Qgv (a b : P3) (ha : a.i64) (hb : b.i64) (w : World) : Calls Tryz.prog 76 #[PV a,PV b] w (Ret (.int .i64 (cl (a.dot b / 4294967296))) w) := by
  have hd := dot_bd ha hb
  have X1 := Lib.hid (vdot_any a b ha hb)
  have X2 := Lib.hid fun w => in_any (a.dot b) 64 (by unfold Fit M511;omega) i64_64 w
  rw [inv_64] at X2
  clear ha hb hd
  generalize cl (a.dot b / 4294967296) = r at *
  generalize a.dot b = s at *
  go_enter Tryz.func76,Tryz.ntmps76
  have hp := Hp.start [] w
  go_wp2_with (first | ((with_reducible apply Qao hp);exact za rfl;exact rfl;clear hp;(try clear w1);intro g w1 hp;simp only [zp,zq,z0,z1]) | ((with_reducible apply Qaa hp);exact zt rfl;exact ii;exact ii;(first | exact zl rfl | exact Qad (by omega));(first | (with_reducible exact Qab (by omega)) | (simp only [n0,Nat.reduceAdd,n1,n2,n3,n4,n5,n6,n7,n8,n9];try rfl));simp only [zp,zq,z0,z1]) | ((with_reducible first | refine Qak hp (X1.out _) ?_ | refine Qak hp (X2.out _) ?_);clear hp;(try clear w1);intro w1 hp))
  exact bodyPost_ret (Qaf rfl rfl) rfl ⟨rfl,hp.keep⟩
set_option maxHeartbeats 1000000 in
theorem Qhx (a b c d : Int) (ha : I64 a) (hb : I64 b) (hc : I64 c) (hd : I64 d) (w : World) : Calls Tryz.prog 77 #[.int .i64 a,.int .i64 b,.int .i64 c,.int .i64 d] w (Ret (.int .i64 (cl ((a * b - c * d) / 4294967296))) w) := by
  have h1 := Qcu ha hb
  have h2 := Qcu hc hd
  have T1 := Lib.hid (Qfb a b ha hb)
  have T2 := Lib.hid (Qfb c d hc hd)
  have L1 := Lib.hid (vless_any (a * b) (c * d) (by unfold Fit M511;omega) (by unfold Fit M511;omega) (by unfold Fit M511;omega))
  have I1 := Lib.hid fun w => in_any (a * b - c * d) 64 (by unfold Fit M511;omega) i64_64 w
  rw [inv_64] at I1
  clear ha hb hc hd h1 h2
  generalize cl ((a * b - c * d) / 4294967296) = r at *
  generalize a * b - c * d = s at *
  generalize a * b = p at *
  generalize c * d = q at *
  go_enter Tryz.func77,Tryz.ntmps77
  have hp := Hp.start [] w
  go_wp2_with (first | ((with_reducible first | refine Qak hp (T1.out _) ?_ | refine Qak hp (T2.out _) ?_ | refine Qak hp (L1.out _) ?_ | refine Qak hp (I1.out _) ?_);clear hp;(try clear w1);intro w1 hp))
  exact bodyPost_ret (Qaf rfl rfl) rfl ⟨rfl,hp.keep⟩
set_option maxHeartbeats 2000000 in
theorem Qlk (a b : P3) (ha : a.i64) (hb : b.i64) (w : World) : Calls Tryz.prog 32 #[PV a,PV b] w (Ret (PV (a.ccross b)) w) := by
  have X1 := Lib.hid (Qhx a.y b.z a.z b.y ha.2.1 hb.2.2 ha.2.2 hb.2.1)
  have X2 := Lib.hid (Qhx a.z b.x a.x b.z ha.2.2 hb.1 ha.1 hb.2.2)
  have X3 := Lib.hid (Qhx a.x b.y a.y b.x ha.1 hb.2.1 ha.2.1 hb.1)
  clear ha hb
  unfold P3.ccross
  generalize cl ((a.y * b.z - a.z * b.y) / 4294967296) = p at *
  generalize cl ((a.z * b.x - a.x * b.z) / 4294967296) = q at *
  generalize cl ((a.x * b.y - a.y * b.x) / 4294967296) = r at *
  go_enter Tryz.func32,Tryz.ntmps32
  have hp := Hp.start [] w
  go_upto_region 2 with (first | ((with_reducible apply Qao hp);exact za rfl;exact rfl;clear hp;(try clear w1);intro g w1 hp;simp only [zp,zq,z0,z1]) | ((with_reducible apply Qag hp);exact ii;exact rfl;clear hp;(try clear w1);intro g w1 hp;simp only [zp,zq,z0,z1]) | ((with_reducible apply Qac hp);exact zt rfl;exact ii;exact ii;(first | exact zio rfl | exact Qae (by omega));simp only [zp,zq,z0,z1]) | ((with_reducible apply Qah hp);exact zt rfl;exact za rfl;exact rfl;exact Sz.z;exact rfl;exact ii;(first | (with_reducible exact Qab (by omega)) | (simp only [n0,Nat.reduceAdd,n1,n2,n3,n4,n5,n6,n7,n8,n9];try rfl));(first | exact zl rfl | exact Qad (by omega));exact rfl;exact ii;clear hp;(try clear w1);intro w1 hp))
  have hq := hp
  refine Qaq hp hq [31] (.q 0 (.q 1 (.q 2 (.q 3 (.q 4 (.q 5 (.q 6 (.q 7 (.q 8 (.q 10 (.q 11 (.q 12 (.q 13 (.q 14 (.q 15 (.q 16 (.q 17 (.q 18 (.q 20 (.q 21 (.q 22 (.q 23 (.q 24 (.q 25 (.q 26 (.q 27 (.q 28 (.l 9 (.l 19 (.l 29 (.q 30 (.l 31 .nil)))))))))))))))))))))))))))))))) (by kernel_rfl) (by kernel_rfl) ?_
  clear hp hq;(try clear w1);intro w1 hp hq
  repeat' (first | (((with_reducible apply sd_q);exact zo rfl);(first | ((with_reducible apply Qaw hp);exact rfl;exact zt rfl;exact ii;exact ii;(first | exact zio rfl | exact Qae (by omega));simp only [zp,zq,z0,z1]) | ((with_reducible apply Qbh hp);(first | exact zf rfl | exact zn rfl);simp only [zp,zq,z0,z1]) | ((with_reducible apply Qav hp);exact rfl;(focus (intro _;go_simp;(try go_ints);try with_reducible rfl));simp only [zp,zq,z0,z1]))) | (((with_reducible apply sd_l);exact zo rfl);(first | ((with_reducible apply Qbf hp);exact rfl;(focus (intro _;go_simp;try first | with_reducible rfl | exact ⟨rfl,rfl⟩));(with_reducible first | exact fun w => X1.out w | exact fun w => X2.out w | exact fun w => X3.out w);exact hq;clear hp hq;(try clear w1);intro w1 hp hq;simp only [zp,zq,z0,z1]) | ((with_reducible apply Qax hq);exact rfl;exact zt rfl;(first | exact za rfl | exact zu rfl | exact zi rfl | exact zb rfl | exact zr rfl | exact zs rfl | exact zf rfl | exact zg rfl | exact zn rfl | exact zv rfl | exact zw rfl);exact rfl;exact Sz.z;exact rfl;exact ii;(first | (with_reducible exact Qab (by omega)) | (simp only [n0,Nat.reduceAdd,n1,n2,n3,n4,n5,n6,n7,n8,n9];try rfl));(first | exact zl rfl | exact Qad (by omega));exact rfl;exact ii;(repeat (first | exact List.Sublist.refl _ | apply List.Sublist.cons));clear hp hq;(try clear w1);intro w1 hp hq) | ((with_reducible apply Qbn hq);exact rfl;exact zt rfl;(first | exact za rfl | exact zu rfl | exact zi rfl | exact zb rfl | exact zr rfl | exact zs rfl | exact zf rfl | exact zg rfl | exact zn rfl | exact zv rfl | exact zw rfl);exact rfl;exact Sz.z;exact rfl;exact ii;(first | (with_reducible exact Qab (by omega)) | (simp only [n0,Nat.reduceAdd,n1,n2,n3,n4,n5,n6,n7,n8,n9];try rfl));(first | exact zl rfl | exact Qad (by omega));exact rfl;exact ii;exact rfl;clear hp hq;(try clear w1);intro w1 hq;have hp := True.intro))) | ((with_reducible apply Qba);clear hp;have hp := hq;clear hq))
  go_wp2
  exact bodyPost_ret (Qaf rfl ⟨_,rfl,Qal hp (Nat.le_of_ble_eq_true rfl)⟩) rfl ⟨rfl,hp.keep⟩
end Go.Proofs.YtblffafmkpnjdaaGreat
set_option linter.unusedSimpArgs false
set_option linter.unusedVariables false
set_option maxRecDepth 100000
namespace Go.Proofs.YtblffafmkpnjdaaGreat
open Go Go.RowKit
attribute [local irreducible] wpList
theorem sqrt_pos (n : Int) (hn : Fit n) (h0 : 0 ≤ n) (w : World) : Calls Tryz.prog 22 #[W n] w (Ret (.tuple #[W (rt n),.bool true]) w) := by
  have := sqrt_any n hn w
  unfold sqv at this
  rwa [if_pos h0,decide_eq_true h0] at this
/-! ### Each number -/
set_option maxHeartbeats 2000000 in
theorem each0 (F : FuncId) (hF : ∀ args w,(callFunc F args).run Tryz.prog w = .ok (.enter F args) w) (a b : P3) (p q r : Int) (w : World)
    (X1 : Hid (∀ w1,Keep [] w w1 → Calls Tryz.prog F #[.int .i64 a.x,.int .i64 b.x] w1 (Ret (.int .i64 p) w1)))
    (X2 : Hid (∀ w1,Keep [] w w1 → Calls Tryz.prog F #[.int .i64 a.y,.int .i64 b.y] w1 (Ret (.int .i64 q) w1)))
    (X3 : Hid (∀ w1,Keep [] w w1 → Calls Tryz.prog F #[.int .i64 a.z,.int .i64 b.z] w1 (Ret (.int .i64 r) w1))) :
    Calls Tryz.prog 73 #[PV a,PV b,.func (.func F) #[] #[]] w (Ret (.agg #[.int .i64 p,.int .i64 q,.int .i64 r]) w) := by
  go_enter Tryz.func73,Tryz.ntmps73
  have hp := Hp.start [] w
  go_upto_region 1 with (first | ((with_reducible apply Qao hp);(first | exact za rfl | exact zu rfl | exact zi rfl | exact zb rfl | exact zr rfl | exact zs rfl | exact zf rfl | exact zg rfl | exact zn rfl | exact zv rfl | exact zw rfl);exact rfl;clear hp;(try clear w1);intro g w1 hp;simp only [zp,zq,z0,z1]) | ((with_reducible apply Qag hp);exact ii;exact rfl;clear hp;(try clear w1);intro g w1 hp;simp only [zp,zq,z0,z1]))
  have hq := hp
  refine Qaq hp hq [19] (.q 0 (.q 1 (.q 2 (.q 3 (.q 4 (.q 6 (.q 7 (.q 8 (.q 9 (.q 10 (.q 12 (.q 13 (.q 14 (.q 15 (.q 16 (.l 5 (.l 11 (.l 17 (.q 18 (.l 19 .nil)))))))))))))))))))) (by kernel_rfl) (by kernel_rfl) ?_
  clear hp hq;(try clear w1);intro w1 hp hq
  repeat' (first | (((with_reducible apply sd_q);exact zo rfl);(first | ((with_reducible apply Qaw hp);exact rfl;exact zt rfl;exact ii;exact ii;(first | exact zio rfl | exact Qae (by omega));simp only [zp,zq,z0,z1]) | ((with_reducible apply Qbh hp);(first | exact zf rfl | exact zn rfl);simp only [zp,zq,z0,z1]) | ((with_reducible apply Qav hp);exact rfl;(focus (intro _;go_simp;(try go_ints);try with_reducible rfl));simp only [zp,zq,z0,z1]))) | (((with_reducible apply sd_l);exact zo rfl);(first | ((with_reducible apply Qdh hp);exact rfl;(focus (intro _;go_simp;try first | with_reducible rfl | exact ⟨rfl,rfl⟩));(with_reducible exact X1.out _ hp.keep);exact hq;clear hp hq;(try clear w1);intro w1 hp hq;simp only [zp,zq,z0,z1]) | ((with_reducible apply Qdh hp);exact rfl;(focus (intro _;go_simp;try first | with_reducible rfl | exact ⟨rfl,rfl⟩));(with_reducible exact X2.out _ hp.keep);exact hq;clear hp hq;(try clear w1);intro w1 hp hq;simp only [zp,zq,z0,z1]) | ((with_reducible apply Qdh hp);exact rfl;(focus (intro _;go_simp;try first | with_reducible rfl | exact ⟨rfl,rfl⟩));(with_reducible exact X3.out _ hp.keep);exact hq;clear hp hq;(try clear w1);intro w1 hp hq;simp only [zp,zq,z0,z1]) | ((with_reducible apply Qax hq);exact rfl;exact zt rfl;(first | exact za rfl | exact zu rfl | exact zi rfl | exact zb rfl | exact zr rfl | exact zs rfl | exact zf rfl | exact zg rfl | exact zn rfl | exact zv rfl | exact zw rfl);exact rfl;exact Sz.z;exact rfl;exact ii;(first | (with_reducible exact Qab (by omega)) | (simp only [n0,Nat.reduceAdd,n1,n2,n3,n4,n5,n6,n7,n8,n9];try rfl));(first | exact zl rfl | exact Qad (by omega));exact rfl;exact ii;(repeat (first | exact List.Sublist.refl _ | apply List.Sublist.cons));clear hp hq;(try clear w1);intro w1 hp hq) | ((with_reducible apply Qbn hq);exact rfl;exact zt rfl;(first | exact za rfl | exact zu rfl | exact zi rfl | exact zb rfl | exact zr rfl | exact zs rfl | exact zf rfl | exact zg rfl | exact zn rfl | exact zv rfl | exact zw rfl);exact rfl;exact Sz.z;exact rfl;exact ii;(first | (with_reducible exact Qab (by omega)) | (simp only [n0,Nat.reduceAdd,n1,n2,n3,n4,n5,n6,n7,n8,n9];try rfl));(first | exact zl rfl | exact Qad (by omega));exact rfl;exact ii;exact rfl;clear hp hq;(try clear w1);intro w1 hq;have hp := True.intro))) | ((with_reducible apply Qba);clear hp;have hp := hq;clear hq))
  go_wp2
  exact bodyPost_ret (Qaf rfl ⟨_,rfl,Qal hp (Nat.le_of_ble_eq_true rfl)⟩) rfl ⟨rfl,hp.keep⟩
set_option maxHeartbeats 2000000 in
theorem each1 (F : FuncId) (hF : ∀ args w,(callFunc F args).run Tryz.prog w = .ok (.enter F args) w) (c : Value) (a b : P3) (p q r : Int) (w : World)
    (X1 : Hid (∀ w1,Keep [] w w1 → Calls Tryz.prog F #[.int .i64 a.x,.int .i64 b.x,c] w1 (Ret (.int .i64 p) w1)))
    (X2 : Hid (∀ w1,Keep [] w w1 → Calls Tryz.prog F #[.int .i64 a.y,.int .i64 b.y,c] w1 (Ret (.int .i64 q) w1)))
    (X3 : Hid (∀ w1,Keep [] w w1 → Calls Tryz.prog F #[.int .i64 a.z,.int .i64 b.z,c] w1 (Ret (.int .i64 r) w1))) :
    Calls Tryz.prog 73 #[PV a,PV b,.func (.func F) #[] #[c]] w (Ret (.agg #[.int .i64 p,.int .i64 q,.int .i64 r]) w) := by
  go_enter Tryz.func73,Tryz.ntmps73
  have hp := Hp.start [] w
  go_upto_region 1 with (first | ((with_reducible apply Qao hp);(first | exact za rfl | exact zu rfl | exact zi rfl | exact zb rfl | exact zr rfl | exact zs rfl | exact zf rfl | exact zg rfl | exact zn rfl | exact zv rfl | exact zw rfl);exact rfl;clear hp;(try clear w1);intro g w1 hp;simp only [zp,zq,z0,z1]) | ((with_reducible apply Qag hp);exact ii;exact rfl;clear hp;(try clear w1);intro g w1 hp;simp only [zp,zq,z0,z1]))
  have hq := hp
  refine Qaq hp hq [19] (.q 0 (.q 1 (.q 2 (.q 3 (.q 4 (.q 6 (.q 7 (.q 8 (.q 9 (.q 10 (.q 12 (.q 13 (.q 14 (.q 15 (.q 16 (.l 5 (.l 11 (.l 17 (.q 18 (.l 19 .nil)))))))))))))))))))) (by kernel_rfl) (by kernel_rfl) ?_
  clear hp hq;(try clear w1);intro w1 hp hq
  repeat' (first | (((with_reducible apply sd_q);exact zo rfl);(first | ((with_reducible apply Qaw hp);exact rfl;exact zt rfl;exact ii;exact ii;(first | exact zio rfl | exact Qae (by omega));simp only [zp,zq,z0,z1]) | ((with_reducible apply Qbh hp);(first | exact zf rfl | exact zn rfl);simp only [zp,zq,z0,z1]) | ((with_reducible apply Qav hp);exact rfl;(focus (intro _;go_simp;(try go_ints);try with_reducible rfl));simp only [zp,zq,z0,z1]))) | (((with_reducible apply sd_l);exact zo rfl);(first | ((with_reducible apply Qdh hp);exact rfl;(focus (intro _;go_simp;try first | with_reducible rfl | exact ⟨rfl,rfl⟩));(with_reducible exact X1.out _ hp.keep);exact hq;clear hp hq;(try clear w1);intro w1 hp hq;simp only [zp,zq,z0,z1]) | ((with_reducible apply Qdh hp);exact rfl;(focus (intro _;go_simp;try first | with_reducible rfl | exact ⟨rfl,rfl⟩));(with_reducible exact X2.out _ hp.keep);exact hq;clear hp hq;(try clear w1);intro w1 hp hq;simp only [zp,zq,z0,z1]) | ((with_reducible apply Qdh hp);exact rfl;(focus (intro _;go_simp;try first | with_reducible rfl | exact ⟨rfl,rfl⟩));(with_reducible exact X3.out _ hp.keep);exact hq;clear hp hq;(try clear w1);intro w1 hp hq;simp only [zp,zq,z0,z1]) | ((with_reducible apply Qax hq);exact rfl;exact zt rfl;(first | exact za rfl | exact zu rfl | exact zi rfl | exact zb rfl | exact zr rfl | exact zs rfl | exact zf rfl | exact zg rfl | exact zn rfl | exact zv rfl | exact zw rfl);exact rfl;exact Sz.z;exact rfl;exact ii;(first | (with_reducible exact Qab (by omega)) | (simp only [n0,Nat.reduceAdd,n1,n2,n3,n4,n5,n6,n7,n8,n9];try rfl));(first | exact zl rfl | exact Qad (by omega));exact rfl;exact ii;(repeat (first | exact List.Sublist.refl _ | apply List.Sublist.cons));clear hp hq;(try clear w1);intro w1 hp hq) | ((with_reducible apply Qbn hq);exact rfl;exact zt rfl;(first | exact za rfl | exact zu rfl | exact zi rfl | exact zb rfl | exact zr rfl | exact zs rfl | exact zf rfl | exact zg rfl | exact zn rfl | exact zv rfl | exact zw rfl);exact rfl;exact Sz.z;exact rfl;exact ii;(first | (with_reducible exact Qab (by omega)) | (simp only [n0,Nat.reduceAdd,n1,n2,n3,n4,n5,n6,n7,n8,n9];try rfl));(first | exact zl rfl | exact Qad (by omega));exact rfl;exact ii;exact rfl;clear hp hq;(try clear w1);intro w1 hq;have hp := True.intro))) | ((with_reducible apply Qba);clear hp;have hp := hq;clear hq))
  go_wp2
  exact bodyPost_ret (Qaf rfl ⟨_,rfl,Qal hp (Nat.le_of_ble_eq_true rfl)⟩) rfl ⟨rfl,hp.keep⟩
set_option maxHeartbeats 1000000 in
theorem Qhk (a b : P3) (ha : a.i64) (hb : b.i64) (w : World) : Calls Tryz.prog 29 #[PV a,PV b] w (Ret (PV (a.cadd b)) w) := by
  have EA := Lib.hid fun w => each0 74 (fun args w => by go_simp) a b _ _ _ w (Lib.hid fun w1 _ => Qir a.x b.x ha.1 hb.1 w1) (Lib.hid fun w1 _ => Qir a.y b.y ha.2.1 hb.2.1 w1) (Lib.hid fun w1 _ => Qir a.z b.z ha.2.2 hb.2.2 w1)
  clear ha hb
  unfold P3.cadd
  generalize cl (a.x + b.x) = p at *
  generalize cl (a.y + b.y) = q at *
  generalize cl (a.z + b.z) = r at *
  go_enter Tryz.func29,Tryz.ntmps29
  have hp := Hp.start [] w
  go_wp2_with (first | ((with_reducible apply Qao hp);exact za rfl;exact rfl;clear hp;(try clear w1);intro g w1 hp;simp only [zp,zq,z0,z1]) | ((with_reducible apply Qag hp);exact ii;exact rfl;clear hp;(try clear w1);intro g w1 hp;simp only [zp,zq,z0,z1]) | ((with_reducible apply Qaa hp);exact zt rfl;exact ii;exact ii;(first | exact zl rfl | exact Qad (by omega));(first | (with_reducible exact Qab (by omega)) | (simp only [n0,Nat.reduceAdd,n1,n2,n3,n4,n5,n6,n7,n8,n9];try rfl));simp only [zp,zq,z0,z1]) | ((with_reducible apply Qah hp);exact zt rfl;exact za rfl;exact rfl;exact Sz.z;exact rfl;exact ii;(first | (with_reducible exact Qab (by omega)) | (simp only [n0,Nat.reduceAdd,n1,n2,n3,n4,n5,n6,n7,n8,n9];try rfl));(first | exact zl rfl | exact Qad (by omega));exact rfl;exact ii;clear hp;(try clear w1);intro w1 hp) | ((with_reducible refine Qak hp (EA.out _) ?_);clear hp;(try clear w1);intro w1 hp))
  exact bodyPost_ret (Qaf rfl ⟨_,rfl,Qal hp (Nat.le_of_ble_eq_true rfl)⟩) rfl ⟨rfl,hp.keep⟩
set_option maxHeartbeats 1000000 in
theorem vsub_any (a b : P3) (ha : a.i64) (hb : b.i64) (w : World) : Calls Tryz.prog 128 #[PV a,PV b] w (Ret (PV (a.csub b)) w) := by
  have EA := Lib.hid fun w => each0 87 (fun args w => by go_simp) a b _ _ _ w (Lib.hid fun w1 _ => Qek a.x b.x ha.1 hb.1 w1) (Lib.hid fun w1 _ => Qek a.y b.y ha.2.1 hb.2.1 w1) (Lib.hid fun w1 _ => Qek a.z b.z ha.2.2 hb.2.2 w1)
  clear ha hb
  unfold P3.csub
  generalize cl (a.x - b.x) = p at *
  generalize cl (a.y - b.y) = q at *
  generalize cl (a.z - b.z) = r at *
  go_enter Tryz.func128,Tryz.ntmps128
  have hp := Hp.start [] w
  go_wp2_with (first | ((with_reducible apply Qao hp);exact za rfl;exact rfl;clear hp;(try clear w1);intro g w1 hp;simp only [zp,zq,z0,z1]) | ((with_reducible apply Qag hp);exact ii;exact rfl;clear hp;(try clear w1);intro g w1 hp;simp only [zp,zq,z0,z1]) | ((with_reducible apply Qaa hp);exact zt rfl;exact ii;exact ii;(first | exact zl rfl | exact Qad (by omega));(first | (with_reducible exact Qab (by omega)) | (simp only [n0,Nat.reduceAdd,n1,n2,n3,n4,n5,n6,n7,n8,n9];try rfl));simp only [zp,zq,z0,z1]) | ((with_reducible apply Qah hp);exact zt rfl;exact za rfl;exact rfl;exact Sz.z;exact rfl;exact ii;(first | (with_reducible exact Qab (by omega)) | (simp only [n0,Nat.reduceAdd,n1,n2,n3,n4,n5,n6,n7,n8,n9];try rfl));(first | exact zl rfl | exact Qad (by omega));exact rfl;exact ii;clear hp;(try clear w1);intro w1 hp) | ((with_reducible refine Qak hp (EA.out _) ?_);clear hp;(try clear w1);intro w1 hp))
  exact bodyPost_ret (Qaf rfl ⟨_,rfl,Qal hp (Nat.le_of_ble_eq_true rfl)⟩) rfl ⟨rfl,hp.keep⟩
end Go.Proofs.YtblffafmkpnjdaaGreat
