/-
  Package solve: times, plus, square, outside, Cone, clamped, Push (contracts).
  A region that draws its order: what comes last, by whatever way, need keep nothing.
  Package solve: the solver's methods: pushes, speed, slides (contracts).
  Package solve: the solver's methods: turn, warm, each (contracts).
  Lists of bodies and rows, in memory one behind the other (plain); the model of the solver's steps.
  Package solve: the solver's methods, on lists (contracts).
  Package solve: turn, warm, each, on lists (contracts).
  Package solve: warm and each, on lists (contracts).
  Slices of bodies and rows: what came in, and clones (contracts).
  Package solve: Check (printed by gen_uj.py).
  Package solve: Solve (printed by gen_uk.py).
  Package solve: Solve (contract).
-/
import Derived.Test.YtblffafmkpnjdaaGreatYl
import Derived.Test.YtblffafmkpnjdaaGreatDraw
import Derived.Lib.SliceRun
import Derived.Test.YtblffafmkpnjdaaGreatSg
set_option linter.unusedSimpArgs false
set_option linter.unusedVariables false
set_option maxRecDepth 100000
namespace Go.Proofs.YtblffafmkpnjdaaGreat
open Go Go.RowKit
attribute [local irreducible] wpList
set_option maxHeartbeats 1000000 in
theorem Qlc (a b : Int) (ha : Fit a) (hb : Fit b) (h : Fit (a * b)) (w : World) : Calls Tryz.prog 21 #[W a,W b] w (Ret (W (a * b)) w) := by
  have hc := Qlw a b ha hb
  rw [show fz (a * b) = a * b from if_pos h] at hc
  have HC := Lib.hid hc
  clear hc ha hb h
  generalize a * b = m at *
  go_enter Tryz.func21,Tryz.ntmps21
  have hp := Hp.start [] w
  go_wp2_with (first | ((with_reducible apply Qao hp);exact za rfl;exact rfl;clear hp;(try clear w1);intro g w1 hp;simp only [zp,zq,z0,z1]) | ((with_reducible apply Qag hp);exact ii;exact rfl;clear hp;(try clear w1);intro g w1 hp;simp only [zp,zq,z0,z1]) | ((with_reducible apply Qaa hp);exact zt rfl;exact ii;exact ii;(first | exact zl rfl | exact Qad (by omega));(first | (with_reducible exact Qab (by omega)) | (simp only [n0,Nat.reduceAdd,n1,n2,n3,n4,n5,n6,n7,n8,n9];try rfl));simp only [zp,zq,z0,z1]) | ((with_reducible apply Qah hp);exact zt rfl;exact za rfl;exact rfl;exact Sz.z;exact rfl;exact ii;(first | (with_reducible exact Qab (by omega)) | (simp only [n0,Nat.reduceAdd,n1,n2,n3,n4,n5,n6,n7,n8,n9];try rfl));(first | exact zl rfl | exact Qad (by omega));exact rfl;exact ii;clear hp;(try clear w1);intro w1 hp) | ((with_reducible refine Qak hp (HC.out _) ?_);clear hp;(try clear w1);intro w1 hp))
  exact bodyPost_ret (Qaf rfl ⟨_,rfl,Qal hp (Nat.le_of_ble_eq_true rfl)⟩) rfl ⟨rfl,hp.keep⟩
set_option maxHeartbeats 1000000 in
theorem Qob (a b : Int) (ha : Fit a) (hb : Fit b) (h : Fit (a + b)) (w : World) : Calls Tryz.prog 17 #[W a,W b] w (Ret (W (a + b)) w) := by
  have hc := Qpg a b ha hb
  rw [show fz (a + b) = a + b from if_pos h] at hc
  have HC := Lib.hid hc
  clear hc ha hb h
  generalize a + b = m at *
  go_enter Tryz.func17,Tryz.ntmps17
  have hp := Hp.start [] w
  go_wp2_with (first | ((with_reducible apply Qao hp);exact za rfl;exact rfl;clear hp;(try clear w1);intro g w1 hp;simp only [zp,zq,z0,z1]) | ((with_reducible apply Qag hp);exact ii;exact rfl;clear hp;(try clear w1);intro g w1 hp;simp only [zp,zq,z0,z1]) | ((with_reducible apply Qaa hp);exact zt rfl;exact ii;exact ii;(first | exact zl rfl | exact Qad (by omega));(first | (with_reducible exact Qab (by omega)) | (simp only [n0,Nat.reduceAdd,n1,n2,n3,n4,n5,n6,n7,n8,n9];try rfl));simp only [zp,zq,z0,z1]) | ((with_reducible apply Qah hp);exact zt rfl;exact za rfl;exact rfl;exact Sz.z;exact rfl;exact ii;(first | (with_reducible exact Qab (by omega)) | (simp only [n0,Nat.reduceAdd,n1,n2,n3,n4,n5,n6,n7,n8,n9];try rfl));(first | exact zl rfl | exact Qad (by omega));exact rfl;exact ii;clear hp;(try clear w1);intro w1 hp) | ((with_reducible refine Qak hp (HC.out _) ?_);clear hp;(try clear w1);intro w1 hp))
  exact bodyPost_ret (Qaf rfl ⟨_,rfl,Qal hp (Nat.le_of_ble_eq_true rfl)⟩) rfl ⟨rfl,hp.keep⟩
set_option maxHeartbeats 1000000 in
theorem Qdi (a : Int) (ha : I64 a) (w : World) : Calls Tryz.prog 18 #[.int .i64 a] w (Ret (W (a * a)) w) := by
  have O1 := Lib.hid (Qol a ha)
  have T1 := Lib.hid (Qlc a a (Qcs ha) (Qcs ha) (Qho ha ha))
  clear ha
  generalize a * a = m at *
  go_enter Tryz.func18,Tryz.ntmps18
  have hp := Hp.start [] w
  go_wp2_with (first | ((with_reducible apply Qag hp);exact ii;exact rfl;clear hp;(try clear w1);intro g w1 hp;simp only [zp,zq,z0,z1]) | ((with_reducible apply Qah hp);exact zt rfl;exact za rfl;exact rfl;exact Sz.z;exact rfl;exact ii;(first | (with_reducible exact Qab (by omega)) | (simp only [n0,Nat.reduceAdd,n1,n2,n3,n4,n5,n6,n7,n8,n9];try rfl));(first | exact zl rfl | exact Qad (by omega));exact rfl;exact ii;clear hp;(try clear w1);intro w1 hp) | ((with_reducible first | refine Qak hp (O1.out _) ?_ | refine Qak hp (T1.out _) ?_);clear hp;(try clear w1);intro w1 hp))
  exact bodyPost_ret (Qaf rfl ⟨_,rfl,Qal hp (Nat.le_of_ble_eq_true rfl)⟩) rfl ⟨rfl,hp.keep⟩
/-- Is a pair outside of a cone? -/
def outv (t u c : Int) : Bool := decide (c * c < t * t + u * u)
theorem Qeh {a : Int} (ha : I64 a) : 0 ≤ a * a ∧ a * a ≤ 85070591730234615865843651857942052864 := ⟨sq_nn a,(Qcu ha ha).2⟩
theorem cmp_pos {a b : Int} : 0 < cmp a b ↔ b < a := by
  unfold cmp
  split <;> (try split) <;> omega
set_option maxHeartbeats 1000000 in
theorem Qkb (t u c : Int) (ht : I64 t) (hu : I64 u) (hc : I64 c) (w : World) : Calls Tryz.prog 16 #[.int .i64 t,.int .i64 u,.int .i64 c] w (Ret (.bool (outv t u c)) w) := by
  have h1 := Qeh ht
  have h2 := Qeh hu
  have h3 := Qeh hc
  have S1 := Lib.hid (Qdi t ht)
  have S2 := Lib.hid (Qdi u hu)
  have S3 := Lib.hid (Qdi c hc)
  have P1 := Lib.hid (Qob (t * t) (u * u) (by unfold Fit M511;omega) (by unfold Fit M511;omega) (by unfold Fit M511;omega))
  have C1 := Lib.hid (Qpc (t * t + u * u) (c * c) (by unfold Fit M511;omega) (by unfold Fit M511;omega))
  have e : outv t u c = decide (0 < cmp (t * t + u * u) (c * c)) := decide_eq_decide.2 cmp_pos.symm
  rw [e]
  clear ht hu hc h1 h2 h3 e
  generalize cmp (t * t + u * u) (c * c) = k at *
  generalize t * t + u * u = s at *
  generalize t * t = p at *
  generalize u * u = q at *
  generalize c * c = r at *
  go_enter Tryz.func16,Tryz.ntmps16
  have hp := Hp.start [] w
  go_wp2_with (first | ((with_reducible first | refine Qak hp (S1.out _) ?_ | refine Qak hp (S2.out _) ?_ | refine Qak hp (S3.out _) ?_ | refine Qak hp (P1.out _) ?_ | refine Qak hp (C1.out _) ?_);clear hp;(try clear w1);intro w1 hp))
  exact bodyPost_ret (Qaf rfl rfl) rfl ⟨rfl,hp.keep⟩
set_option maxHeartbeats 4000000 in
theorem cone1_core (a c s aa cc pr q r9 rq n : Int) (o : Bool)
    (SA : Hid (∀ w,Calls Tryz.prog 18 #[.int .i64 a] w (Ret (W aa) w))) (SC : Hid (∀ w,Calls Tryz.prog 18 #[.int .i64 c] w (Ret (W cc) w)))
    (TM : Hid (∀ w,Calls Tryz.prog 21 #[W aa,W cc] w (Ret (W pr) w))) (DV : Hid (∀ w,Calls Tryz.prog 20 #[W pr,W s] w (Ret (.tuple #[W q,W r9,.bool o]) w)))
    (SQ : Hid (∀ w,Calls Tryz.prog 22 #[W q] w (Ret (.tuple #[W rq,.bool true]) w))) (IN : Hid (∀ w,Calls Tryz.prog 23 #[W rq,.int .i64 32] w (Ret (.int .i64 n) w)))
    (w : World) (g1 g2 : Nat) (t1 t2 : TypeId) (y1 y2 : Nat × Nat) (hb1 : w.heap[g1]? = some (.cells [Value.int .i64 c].toArray t1 y1)) (hb2 : w.heap[g2]? = some (.cells [.int .u64 (lb (s) 0),.int .u64 (lb (s) 1),.int .u64 (lb (s) 2),.int .u64 (lb (s) 3),.int .u64 (lb (s) 4),.int .u64 (lb (s) 5),.int .u64 (lb (s) 6),.int .u64 (lb (s) 7)].toArray t2 y2)) :
    Calls Tryz.prog 19 #[.int .i64 a,.pointer (some ⟨g1,0,none⟩),.pointer (some ⟨g2,0,none⟩)] w (Ret (.int .i64 (if a < 0 then wrap64 (-n) else n)) w) := by
  have hW : (([.int .u64 (lb (s) 0),.int .u64 (lb (s) 1),.int .u64 (lb (s) 2),.int .u64 (lb (s) 3),.int .u64 (lb (s) 4),.int .u64 (lb (s) 5),.int .u64 (lb (s) 6),.int .u64 (lb (s) 7)] : List Value).drop 0).take 8 = [.int .u64 (lb (s) 0),.int .u64 (lb (s) 1),.int .u64 (lb (s) 2),.int .u64 (lb (s) 3),.int .u64 (lb (s) 4),.int .u64 (lb (s) 5),.int .u64 (lb (s) 6),.int .u64 (lb (s) 7)] := rfl
  by_cases h0 : a < 0
  · rw [if_pos h0]
    go_enter Tryz.func19,Tryz.ntmps19
    have hp := Hp.start [] w
    go_upto_region 1 with (first | ((with_reducible apply Qao hp);(first | exact za rfl | exact zu rfl | exact zi rfl | exact zb rfl | exact zr rfl | exact zs rfl | exact zf rfl | exact zg rfl | exact zn rfl | exact zv rfl | exact zw rfl);exact rfl;clear hp;(try clear w1);intro g w1 hp;simp only [zp,zq,z0,z1]) | ((with_reducible apply Qag hp);exact ii;exact rfl;clear hp;(try clear w1);intro g w1 hp;simp only [zp,zq,z0,z1]))
    have hq := hp
    refine Qau hp hq [] (.q 0 (.q 2 (.q 5 (.p 1 (.p 3 (.p 4 (.p 6 (.q 7 (.q 8 (.q 9 (.q 10 (.alt 11 (.l 12 (.l 13 (.l 14 (.q 15 .nil)))) (.l 12 (.l 11 (.l 13 (.l 14 (.q 15 .nil))))))))))))))))) (by kernel_rfl) (by kernel_rfl) ?_
    clear hp hq;(try clear w1);intro w1 hp hq
    repeat' (first | (((with_reducible apply sg_q);exact zo rfl);(first | ((with_reducible apply Qbg hp);exact rfl;exact zt rfl;exact ii;exact ii;(first | exact zl rfl | exact Qad (by omega));(first | (with_reducible exact Qab (by omega)) | (simp only [n0,Nat.reduceAdd,n1,n2,n3,n4,n5,n6,n7,n8,n9];try rfl));simp only [zp,zq,z0,z1]) | ((with_reducible apply Qcd hp);exact rfl;exact zt rfl;assumption;exact ii;assumption;(first | exact zl rfl | omega);simp only [zp,zq,z0,z1]) | ((with_reducible apply Qbb hp);exact rfl;exact zt rfl;exact ii;exact ii;(first | exact zio rfl | exact Qae (by omega));simp only [zp,zq,z0,z1]) | ((with_reducible apply Qbe hp);exact rfl;exact zt rfl;assumption;exact ii;(first | assumption | (first | exact zio rfl | exact Qae (by omega)));simp only [zp,zq,z0,z1]) | ((with_reducible apply Qbv hp);(first | exact zi rfl | exact zu rfl);simp only [zp,zq,z0,z1]) | ((with_reducible apply Qcz hp);exact zb rfl;simp only [zp,zq,z0,z1]) | ((with_reducible apply Qbm hp);exact rfl;(focus (intro _;go_simp;(try go_ints);try with_reducible rfl));simp only [zp,zq,z0,z1]))) | (((with_reducible apply sg_p);exact zo rfl);((with_reducible apply Qbp hp);exact rfl;(focus (intro _;go_simp;try first | with_reducible rfl | exact ⟨rfl,rfl⟩));(with_reducible first | exact fun w => SA.out w | exact fun w => SC.out w | exact fun w => TM.out w | exact fun w => DV.out w);simp only [zp,zq,z0,z1])) | (((with_reducible apply sg_l);exact zo rfl);(first | ((with_reducible apply Qfp hq);(repeat (first | exact List.Sublist.refl _ | apply List.Sublist.cons));exact rfl;exact ii;exact rfl;clear hp hq;(try clear w1);intro g w1 hp hq;simp only [zp,zq,z0,z1]) | ((with_reducible apply Qbi hq);exact rfl;exact zt rfl;(first | exact za rfl | exact zu rfl | exact zi rfl | exact zb rfl | exact zr rfl | exact zs rfl | exact zf rfl | exact zg rfl | exact zn rfl | exact zv rfl | exact zw rfl);exact rfl;exact Sz.z;exact rfl;exact ii;(first | (with_reducible exact Qab (by omega)) | (simp only [n0,Nat.reduceAdd,n1,n2,n3,n4,n5,n6,n7,n8,n9];try rfl));(first | exact zl rfl | exact Qad (by omega));exact rfl;exact ii;(repeat (first | exact List.Sublist.refl _ | apply List.Sublist.cons));clear hp hq;(try clear w1);intro w1 hp hq))) | (with_reducible apply Qoe) | ((with_reducible apply Qbt hq);clear hp hq;(try clear w1);intro w1 hp))
    all_goals
      go_wp2_with (first | ((with_reducible apply Qag hp);exact ii;exact rfl;clear hp;(try clear w1);intro g w1 hp;simp only [zp,zq,z0,z1]) | ((with_reducible apply Qaa hp);exact zt rfl;exact ii;exact ii;(first | exact zl rfl | exact Qad (by omega));(first | (with_reducible exact Qab (by omega)) | (simp only [n0,Nat.reduceAdd,n1,n2,n3,n4,n5,n6,n7,n8,n9];try rfl));simp only [zp,zq,z0,z1]) | ((with_reducible apply Qac hp);exact zt rfl;exact ii;exact ii;(first | exact zio rfl | exact Qae (by omega));simp only [zp,zq,z0,z1]) | ((with_reducible apply Qah hp);exact zt rfl;exact za rfl;exact rfl;exact Sz.z;exact rfl;exact ii;(first | (with_reducible exact Qab (by omega)) | (simp only [n0,Nat.reduceAdd,n1,n2,n3,n4,n5,n6,n7,n8,n9];try rfl));(first | exact zl rfl | exact Qad (by omega));exact rfl;exact ii;clear hp;(try clear w1);intro w1 hp) | ((with_reducible first | refine Qak hp (SQ.out _) ?_ | refine Qak hp (IN.out _) ?_);clear hp;(try clear w1);intro w1 hp))
      exact bodyPost_ret (Qaf rfl rfl) rfl ⟨rfl,hp.keep⟩
  · rw [if_neg h0]
    go_enter Tryz.func19,Tryz.ntmps19
    have hp := Hp.start [] w
    go_upto_region 1 with (first | ((with_reducible apply Qao hp);(first | exact za rfl | exact zu rfl | exact zi rfl | exact zb rfl | exact zr rfl | exact zs rfl | exact zf rfl | exact zg rfl | exact zn rfl | exact zv rfl | exact zw rfl);exact rfl;clear hp;(try clear w1);intro g w1 hp;simp only [zp,zq,z0,z1]) | ((with_reducible apply Qag hp);exact ii;exact rfl;clear hp;(try clear w1);intro g w1 hp;simp only [zp,zq,z0,z1]))
    have hq := hp
    refine Qau hp hq [] (.q 0 (.q 2 (.q 5 (.p 1 (.p 3 (.p 4 (.p 6 (.q 7 (.q 8 (.q 9 (.q 10 (.alt 11 (.l 12 (.l 13 (.l 14 (.q 15 .nil)))) (.l 12 (.l 11 (.l 13 (.l 14 (.q 15 .nil))))))))))))))))) (by kernel_rfl) (by kernel_rfl) ?_
    clear hp hq;(try clear w1);intro w1 hp hq
    repeat' (first | (((with_reducible apply sg_q);exact zo rfl);(first | ((with_reducible apply Qbg hp);exact rfl;exact zt rfl;exact ii;exact ii;(first | exact zl rfl | exact Qad (by omega));(first | (with_reducible exact Qab (by omega)) | (simp only [n0,Nat.reduceAdd,n1,n2,n3,n4,n5,n6,n7,n8,n9];try rfl));simp only [zp,zq,z0,z1]) | ((with_reducible apply Qcd hp);exact rfl;exact zt rfl;assumption;exact ii;assumption;(first | exact zl rfl | omega);simp only [zp,zq,z0,z1]) | ((with_reducible apply Qbb hp);exact rfl;exact zt rfl;exact ii;exact ii;(first | exact zio rfl | exact Qae (by omega));simp only [zp,zq,z0,z1]) | ((with_reducible apply Qbe hp);exact rfl;exact zt rfl;assumption;exact ii;(first | assumption | (first | exact zio rfl | exact Qae (by omega)));simp only [zp,zq,z0,z1]) | ((with_reducible apply Qbv hp);(first | exact zi rfl | exact zu rfl);simp only [zp,zq,z0,z1]) | ((with_reducible apply Qcz hp);exact zb rfl;simp only [zp,zq,z0,z1]) | ((with_reducible apply Qbm hp);exact rfl;(focus (intro _;go_simp;(try go_ints);try with_reducible rfl));simp only [zp,zq,z0,z1]))) | (((with_reducible apply sg_p);exact zo rfl);((with_reducible apply Qbp hp);exact rfl;(focus (intro _;go_simp;try first | with_reducible rfl | exact ⟨rfl,rfl⟩));(with_reducible first | exact fun w => SA.out w | exact fun w => SC.out w | exact fun w => TM.out w | exact fun w => DV.out w);simp only [zp,zq,z0,z1])) | (((with_reducible apply sg_l);exact zo rfl);(first | ((with_reducible apply Qfp hq);(repeat (first | exact List.Sublist.refl _ | apply List.Sublist.cons));exact rfl;exact ii;exact rfl;clear hp hq;(try clear w1);intro g w1 hp hq;simp only [zp,zq,z0,z1]) | ((with_reducible apply Qbi hq);exact rfl;exact zt rfl;(first | exact za rfl | exact zu rfl | exact zi rfl | exact zb rfl | exact zr rfl | exact zs rfl | exact zf rfl | exact zg rfl | exact zn rfl | exact zv rfl | exact zw rfl);exact rfl;exact Sz.z;exact rfl;exact ii;(first | (with_reducible exact Qab (by omega)) | (simp only [n0,Nat.reduceAdd,n1,n2,n3,n4,n5,n6,n7,n8,n9];try rfl));(first | exact zl rfl | exact Qad (by omega));exact rfl;exact ii;(repeat (first | exact List.Sublist.refl _ | apply List.Sublist.cons));clear hp hq;(try clear w1);intro w1 hp hq))) | (with_reducible apply Qoe) | ((with_reducible apply Qbt hq);clear hp hq;(try clear w1);intro w1 hp))
    all_goals
      go_wp2_with (first | ((with_reducible apply Qag hp);exact ii;exact rfl;clear hp;(try clear w1);intro g w1 hp;simp only [zp,zq,z0,z1]) | ((with_reducible apply Qaa hp);exact zt rfl;exact ii;exact ii;(first | exact zl rfl | exact Qad (by omega));(first | (with_reducible exact Qab (by omega)) | (simp only [n0,Nat.reduceAdd,n1,n2,n3,n4,n5,n6,n7,n8,n9];try rfl));simp only [zp,zq,z0,z1]) | ((with_reducible apply Qac hp);exact zt rfl;exact ii;exact ii;(first | exact zio rfl | exact Qae (by omega));simp only [zp,zq,z0,z1]) | ((with_reducible apply Qah hp);exact zt rfl;exact za rfl;exact rfl;exact Sz.z;exact rfl;exact ii;(first | (with_reducible exact Qab (by omega)) | (simp only [n0,Nat.reduceAdd,n1,n2,n3,n4,n5,n6,n7,n8,n9];try rfl));(first | exact zl rfl | exact Qad (by omega));exact rfl;exact ii;clear hp;(try clear w1);intro w1 hp) | ((with_reducible first | refine Qak hp (SQ.out _) ?_ | refine Qak hp (IN.out _) ?_);clear hp;(try clear w1);intro w1 hp))
      exact bodyPost_ret (Qaf rfl rfl) rfl ⟨rfl,hp.keep⟩
/-- A number of a pair that is brought into a cone. -/
def nar (a c s : Int) : Int := if a < 0 then -(rt (a * a * (c * c) / s)) else rt (a * a * (c * c) / s)
theorem nar_bd {a c s : Int} (ha : I64 a) (hc : I64 c) (hs : c * c < s) : 0 ≤ rt (a * a * (c * c) / s) ∧ rt (a * a * (c * c) / s) ≤ 9223372036854775807 ∧ rt (a * a * (c * c) / s) * rt (a * a * (c * c) / s) ≤ a * a := by
  have h1 := Qeh ha
  have h2 := Qeh hc
  have hs0 : 0 < s := by omega
  have hq0 : 0 ≤ a * a * (c * c) / s := Int.ediv_nonneg (Int.mul_nonneg h1.1 h2.1) (Int.le_of_lt hs0)
  have hq1 : a * a * (c * c) / s ≤ a * a := by
    refine Int.ediv_le_of_le_mul hs0 (Int.mul_le_mul_of_nonneg_left (Int.le_of_lt hs) h1.1)
  have hq2 : a * a * (c * c) / s < a * a ∨ a * a = 0 := by
    by_cases hz : a * a = 0
    · exact .inr hz
    · refine .inl (Int.ediv_lt_of_lt_mul hs0 ?_)
      exact Int.mul_lt_mul_of_pos_left hs (by omega)
  obtain ⟨r1,r2⟩ := Qjy hq0
  have r0 := Qeq (a * a * (c * c) / s)
  generalize rt (a * a * (c * c) / s) = r at *
  refine ⟨r0,?_,by omega⟩
  by_cases h : r ≤ 9223372036854775807
  · exact h
  · have := Qmp (a := 9223372036854775808) (b := r) (by omega) (by omega)
    omega
theorem Qnj (a c s : Int) (ha : I64 a) (hc : I64 c) (hs : c * c < s) (hsf : Fit s) (w : World) (g1 g2 : Nat) (t1 t2 : TypeId) (y1 y2 : Nat × Nat) (hb1 : w.heap[g1]? = some (.cells [Value.int .i64 c].toArray t1 y1)) (hb2 : w.heap[g2]? = some (.cells [.int .u64 (lb (s) 0),.int .u64 (lb (s) 1),.int .u64 (lb (s) 2),.int .u64 (lb (s) 3),.int .u64 (lb (s) 4),.int .u64 (lb (s) 5),.int .u64 (lb (s) 6),.int .u64 (lb (s) 7)].toArray t2 y2)) :
    Calls Tryz.prog 19 #[.int .i64 a,.pointer (some ⟨g1,0,none⟩),.pointer (some ⟨g2,0,none⟩)] w (Ret (.int .i64 (nar a c s)) w) := by
  have h1 := Qeh ha
  have h2 := Qeh hc
  have hs0 : 0 < s := by omega
  have hpr : 0 ≤ a * a * (c * c) ∧ a * a * (c * c) ≤ 85070591730234615865843651857942052864 * 85070591730234615865843651857942052864 := ⟨Int.mul_nonneg h1.1 h2.1,Int.mul_le_mul h1.2 h2.2 h2.1 (by omega)⟩
  have hpf : Fit (a * a * (c * c)) := by unfold Fit M511;omega
  obtain ⟨d1,d2,d3,d4,d5,d6⟩ := dvq_pos hpr.1 hpf hs0
  have hdv := div_any (a * a * (c * c)) s hpf hsf
  rw [d1] at hdv
  obtain ⟨b0,b1,_⟩ := nar_bd ha hc hs
  have hin := in_any (rt (a * a * (c * c) / s)) 32 (by unfold Fit M511;omega) (by unfold I64;omega)
  rw [inv_32,cl_id (by unfold I64;omega)] at hin
  have k := cone1_core a c s _ _ _ _ _ _ _ _ (Lib.hid (Qdi a ha)) (Lib.hid (Qdi c hc)) (Lib.hid (Qlc (a * a) (c * c) (by unfold Fit M511;omega) (by unfold Fit M511;omega) hpf)) (Lib.hid hdv) (Lib.hid (sqrt_pos _ d6 d4)) (Lib.hid hin) w g1 g2 t1 t2 y1 y2 hb1 hb2
  unfold nar
  rwa [show wrap64 (-(rt (a * a * (c * c) / s))) = -(rt (a * a * (c * c) / s)) by unfold wrap64;omega] at k
/-- A pair, brought into a cone. -/
def Qet (t u c : Int) : Int × Int := if outv t u (if c < 0 then 0 else c) = true then (nar t (if c < 0 then 0 else c) (t * t + u * u),nar u (if c < 0 then 0 else c) (t * t + u * u)) else (t,u)
theorem run_max0 {P : Program} (ts : Array TypeId) (t : TypeId) (a : Int) : ∀ w,(Builtin.max_ ts t #[.int .i64 a,.int .i64 0]).run P w = .ok (.int .i64 (if a < 0 then 0 else a)) w := by
  intro w
  simp [Builtin.max_,Builtin.max2]
set_option maxHeartbeats 4000000 in
theorem cone_in (t u c d : Int) (hmx : ∀ w,(Builtin.max_ #[22,22] 22 #[.int .i64 c,.int .i64 0]).run Tryz.prog w = .ok (.int .i64 d) w)
    (OU : Hid (∀ w,Calls Tryz.prog 16 #[.int .i64 t,.int .i64 u,.int .i64 d] w (Ret (.bool false) w))) (w : World) :
    Calls Tryz.prog 5 #[.int .i64 t,.int .i64 u,.int .i64 c] w (Ret (.tuple #[.int .i64 t,.int .i64 u]) w) := by
  go_enter Tryz.func5,Tryz.ntmps5
  have hp := Hp.start [] w
  go_wp2_with (first | ((with_reducible apply Qao hp);exact zi rfl;exact rfl;clear hp;(try clear w1);intro g w1 hp;simp only [zp,zq,z0,z1]) | ((with_reducible apply Qag hp);exact ii;exact rfl;clear hp;(try clear w1);intro g w1 hp;simp only [zp,zq,z0,z1]) | ((with_reducible apply Qac hp);exact zt rfl;exact ii;exact ii;(first | exact zio rfl | exact Qae (by omega));simp only [zp,zq,z0,z1]) | ((with_reducible apply Qah hp);exact zt rfl;(first | exact za rfl | exact zi rfl);exact rfl;exact Sz.z;exact rfl;exact ii;(first | (with_reducible exact Qab (by omega)) | (simp only [n0,Nat.reduceAdd,n1,n2,n3,n4,n5,n6,n7,n8,n9];try rfl));(first | exact zl rfl | exact Qad (by omega));exact rfl;exact ii;clear hp;(try clear w1);intro w1 hp) | ((with_reducible refine Qak hp (OU.out _) ?_);clear hp;(try clear w1);intro w1 hp))
  exact bodyPost_ret (Qaz rfl rfl rfl) rfl ⟨rfl,hp.keep⟩
set_option maxHeartbeats 4000000 in
theorem cone_out (t u c d tt uu s p q : Int) (hmx : ∀ w,(Builtin.max_ #[22,22] 22 #[.int .i64 c,.int .i64 0]).run Tryz.prog w = .ok (.int .i64 d) w)
    (OU : Hid (∀ w,Calls Tryz.prog 16 #[.int .i64 t,.int .i64 u,.int .i64 d] w (Ret (.bool true) w)))
    (S1 : Hid (∀ w,Calls Tryz.prog 18 #[.int .i64 t] w (Ret (W tt) w))) (S2 : Hid (∀ w,Calls Tryz.prog 18 #[.int .i64 u] w (Ret (W uu) w)))
    (P1 : Hid (∀ w,Calls Tryz.prog 17 #[W tt,W uu] w (Ret (W s) w)))
    (K1 : Hid (∀ (w : World) (g1 g2 : Nat) (t1 t2 : TypeId) (y1 y2 : Nat × Nat),w.heap[g1]? = some (.cells [Value.int .i64 d].toArray t1 y1) → w.heap[g2]? = some (.cells [.int .u64 (lb (s) 0),.int .u64 (lb (s) 1),.int .u64 (lb (s) 2),.int .u64 (lb (s) 3),.int .u64 (lb (s) 4),.int .u64 (lb (s) 5),.int .u64 (lb (s) 6),.int .u64 (lb (s) 7)].toArray t2 y2) → Calls Tryz.prog 19 #[.int .i64 t,.pointer (some ⟨g1,0,none⟩),.pointer (some ⟨g2,0,none⟩)] w (Ret (.int .i64 p) w)))
    (K2 : Hid (∀ (w : World) (g1 g2 : Nat) (t1 t2 : TypeId) (y1 y2 : Nat × Nat),w.heap[g1]? = some (.cells [Value.int .i64 d].toArray t1 y1) → w.heap[g2]? = some (.cells [.int .u64 (lb (s) 0),.int .u64 (lb (s) 1),.int .u64 (lb (s) 2),.int .u64 (lb (s) 3),.int .u64 (lb (s) 4),.int .u64 (lb (s) 5),.int .u64 (lb (s) 6),.int .u64 (lb (s) 7)].toArray t2 y2) → Calls Tryz.prog 19 #[.int .i64 u,.pointer (some ⟨g1,0,none⟩),.pointer (some ⟨g2,0,none⟩)] w (Ret (.int .i64 q) w))) (w : World) :
    Calls Tryz.prog 5 #[.int .i64 t,.int .i64 u,.int .i64 c] w (Ret (.tuple #[.int .i64 p,.int .i64 q]) w) := by
  go_enter Tryz.func5,Tryz.ntmps5
  have hp := Hp.start [] w
  go_wp2_with (first | ((with_reducible apply Qao hp);exact zi rfl;exact rfl;clear hp;(try clear w1);intro g w1 hp;simp only [zp,zq,z0,z1]) | ((with_reducible apply Qag hp);exact ii;exact rfl;clear hp;(try clear w1);intro g w1 hp;simp only [zp,zq,z0,z1]) | ((with_reducible apply Qac hp);exact zt rfl;exact ii;exact ii;(first | exact zio rfl | exact Qae (by omega));simp only [zp,zq,z0,z1]) | ((with_reducible apply Qah hp);exact zt rfl;(first | exact za rfl | exact zi rfl);exact rfl;exact Sz.z;exact rfl;exact ii;(first | (with_reducible exact Qab (by omega)) | (simp only [n0,Nat.reduceAdd,n1,n2,n3,n4,n5,n6,n7,n8,n9];try rfl));(first | exact zl rfl | exact Qad (by omega));exact rfl;exact ii;clear hp;(try clear w1);intro w1 hp) | ((with_reducible first | refine Qak hp (OU.out _) ?_ | refine Qak hp (S1.out _) ?_ | refine Qak hp (S2.out _) ?_ | refine Qak hp (P1.out _) ?_);clear hp;(try clear w1);intro w1 hp) | ((with_reducible refine Qak hp (K1.out _ _ _ _ _ _ _ hp.blk hp.blk) ?_);clear hp;(try clear w1);intro w1 hp) | ((with_reducible refine Qak hp (K2.out _ _ _ _ _ _ _ hp.blk hp.blk) ?_);clear hp;(try clear w1);intro w1 hp))
  exact bodyPost_ret (Qaz rfl rfl rfl) rfl ⟨rfl,hp.keep⟩
theorem cone_any (t u c : Int) (ht : I64 t) (hu : I64 u) (hc : I64 c) (w : World) : Calls Tryz.prog 5 #[.int .i64 t,.int .i64 u,.int .i64 c] w (Ret (.tuple #[.int .i64 (Qet t u c).1,.int .i64 (Qet t u c).2]) w) := by
  have hmx := run_max0 (P := Tryz.prog) #[22,22] 22 c
  have hd : I64 (if c < 0 then 0 else c) := by
    split
    · unfold I64;omega
    · exact hc
  unfold Qet
  generalize (if c < 0 then 0 else c) = d at *
  have OU := Qkb t u d ht hu hd
  have h1 := Qeh ht
  have h2 := Qeh hu
  cases h : outv t u d with
  | false =>
    rw [h] at OU
    rw [if_neg (by simp)]
    exact cone_in t u c d hmx (Lib.hid OU) w
  | true =>
    rw [h] at OU
    rw [if_pos rfl]
    have hs : d * d < t * t + u * u := of_decide_eq_true h
    have hsf : Fit (t * t + u * u) := by unfold Fit M511;omega
    exact cone_out t u c d _ _ _ _ _ hmx (Lib.hid OU) (Lib.hid (Qdi t ht)) (Lib.hid (Qdi u hu)) (Lib.hid (Qob _ _ (by unfold Fit M511;omega) (by unfold Fit M511;omega) hsf))
      (Lib.hid fun w g1 g2 t1 t2 y1 y2 b1 b2 => Qnj t d _ ht hd hs hsf w g1 g2 t1 t2 y1 y2 b1 b2) (Lib.hid fun w g1 g2 t1 t2 y1 y2 b1 b2 => Qnj u d _ hu hd hs hsf w g1 g2 t1 t2 y1 y2 b1 b2) w
/-! ### Push -/
def P3.clam (v : P3) : P3 := ⟨Qdf v.x (-1099511627776) 1099511627776,Qdf v.y (-1099511627776) 1099511627776,Qdf v.z (-1099511627776) 1099511627776⟩
theorem Qjj (a : Int) (w : World) : Calls Tryz.prog 71 #[.int .i64 a] w (Ret (.int .i64 (Qdf a (-1099511627776) 1099511627776)) w) := by
  have C1 := Lib.hid (fclamp_any a (-1099511627776) 1099511627776)
  generalize Qdf a (-1099511627776) 1099511627776 = r at *
  go_enter Tryz.func71,Tryz.ntmps71
  have hp := Hp.start [] w
  go_wp2_with (first | ((with_reducible refine Qak hp (C1.out _) ?_);clear hp;(try clear w1);intro w1 hp))
  exact bodyPost_ret (Qaf rfl rfl) rfl ⟨rfl,hp.keep⟩
set_option maxHeartbeats 2000000 in
theorem Qka (v : P3) (w : World) : Calls Tryz.prog 28 #[PV v] w (Ret (PV v.clam) w) := by
  have C1 := Lib.hid (Qjj v.x)
  have C2 := Lib.hid (Qjj v.y)
  have C3 := Lib.hid (Qjj v.z)
  unfold P3.clam
  generalize Qdf v.x (-1099511627776) 1099511627776 = p at *
  generalize Qdf v.y (-1099511627776) 1099511627776 = q at *
  generalize Qdf v.z (-1099511627776) 1099511627776 = r at *
  go_enter Tryz.func28,Tryz.ntmps28
  have hp := Hp.start [] w
  go_upto_region 2 with (first | ((with_reducible apply Qao hp);(first | exact za rfl | exact zu rfl | exact zi rfl | exact zb rfl | exact zr rfl | exact zs rfl | exact zf rfl | exact zg rfl | exact zn rfl | exact zv rfl | exact zw rfl);exact rfl;clear hp;(try clear w1);intro g w1 hp;simp only [zp,zq,z0,z1]) | ((with_reducible apply Qag hp);exact ii;exact rfl;clear hp;(try clear w1);intro g w1 hp;simp only [zp,zq,z0,z1]))
  have hq := hp
  refine Qau hp hq [13] (.q 0 (.q 1 (.q 2 (.q 4 (.q 5 (.q 6 (.q 8 (.q 9 (.q 10 (.p 3 (.p 7 (.p 11 (.q 12 (.l 13 .nil)))))))))))))) (by kernel_rfl) (by kernel_rfl) ?_
  clear hp hq;(try clear w1);intro w1 hp hq
  repeat' (first | (((with_reducible apply sg_q);exact zo rfl);(first | ((with_reducible apply Qbb hp);exact rfl;exact zt rfl;exact ii;exact ii;(first | exact zio rfl | exact Qae (by omega));simp only [zp,zq,z0,z1]) | ((with_reducible apply Qbv hp);(first | exact zf rfl | exact zn rfl);simp only [zp,zq,z0,z1]) | ((with_reducible apply Qbm hp);exact rfl;(focus (intro _;go_simp;(try go_ints);try with_reducible rfl));simp only [zp,zq,z0,z1]))) | (((with_reducible apply sg_p);exact zo rfl);((with_reducible apply Qbp hp);exact rfl;(focus (intro _;go_simp;try first | with_reducible rfl | exact ⟨rfl,rfl⟩));(with_reducible first | exact fun w => C1.out w | exact fun w => C2.out w | exact fun w => C3.out w);simp only [zp,zq,z0,z1])) | (((with_reducible apply sg_l);exact zo rfl);(first | ((with_reducible apply Qbi hq);exact rfl;exact zt rfl;(first | exact za rfl | exact zu rfl | exact zi rfl | exact zb rfl | exact zr rfl | exact zs rfl | exact zf rfl | exact zg rfl | exact zn rfl | exact zv rfl | exact zw rfl);exact rfl;exact Sz.z;exact rfl;exact ii;(first | (with_reducible exact Qab (by omega)) | (simp only [n0,Nat.reduceAdd,n1,n2,n3,n4,n5,n6,n7,n8,n9];try rfl));(first | exact zl rfl | exact Qad (by omega));exact rfl;exact ii;(repeat (first | exact List.Sublist.refl _ | apply List.Sublist.cons));clear hp hq;(try clear w1);intro w1 hp hq) | ((with_reducible apply Qcg hq);exact rfl;exact zt rfl;(first | exact za rfl | exact zu rfl | exact zi rfl | exact zb rfl | exact zr rfl | exact zs rfl | exact zf rfl | exact zg rfl | exact zn rfl | exact zv rfl | exact zw rfl);exact rfl;exact Sz.z;exact rfl;exact ii;(first | (with_reducible exact Qab (by omega)) | (simp only [n0,Nat.reduceAdd,n1,n2,n3,n4,n5,n6,n7,n8,n9];try rfl));(first | exact zl rfl | exact Qad (by omega));exact rfl;exact ii;exact rfl;clear hp hq;(try clear w1);intro w1 hq;have hp := True.intro))) | ((with_reducible apply Qbt hq);clear hp hq;(try clear w1);intro w1 hp))
  go_wp2
  exact bodyPost_ret (Qaf rfl ⟨_,rfl,Qal hp (Nat.le_of_ble_eq_true rfl)⟩) rfl ⟨rfl,hp.keep⟩
theorem Qoh {a l h : Int} (hlh : l ≤ h) : l ≤ Qdf a l h ∧ Qdf a l h ≤ h := by
  unfold Qdf
  split
  · omega
  · split <;> omega
theorem clam_i64 (v : P3) : v.clam.i64 := by
  have h : ∀ a,I64 (Qdf a (-1099511627776) 1099511627776) := fun a => by
    have := Qoh (a := a) (l := -1099511627776) (h := 1099511627776) (by omega)
    unfold I64
    omega
  exact ⟨h _,h _,h _⟩
/-- A body, pushed at an arm. -/
def Inr.push (b : Inr) (r p : P3) : Inr := ⟨b.m,b.p,b.q,b.r,(b.v.cadd (p.cscale b.m)).clam,(b.s.cadd ⟨b.p.cdot (r.ccross p),b.q.cdot (r.ccross p),b.r.cdot (r.ccross p)⟩).clam⟩
theorem Qfw (a b : P3) : (a.cadd b).i64 := ⟨Qbu _,Qbu _,Qbu _⟩
theorem csub_i64 (a b : P3) : (a.csub b).i64 := ⟨Qbu _,Qbu _,Qbu _⟩
theorem Qda (a : P3) (k : Int) : (a.cscale k).i64 := ⟨Qbu _,Qbu _,Qbu _⟩
theorem Qja {b : Inr} (r p : P3) (h : b.i64) : (b.push r p).i64 := ⟨h.1,h.2.1,h.2.2.1,h.2.2.2.1,clam_i64 _,clam_i64 _⟩
set_option maxHeartbeats 8000000 in
theorem push_core (b : Inr) (r p s1 a1 v1 c1 m1 a2 v2 : P3)
    (S1 : Hid (∀ w,Calls Tryz.prog 30 #[PV p,.int .i64 b.m] w (Ret (PV s1) w))) (A1 : Hid (∀ w,Calls Tryz.prog 29 #[PV b.v,PV s1] w (Ret (PV a1) w))) (K1 : Hid (∀ w,Calls Tryz.prog 28 #[PV a1] w (Ret (PV v1) w)))
    (C1 : Hid (∀ w,Calls Tryz.prog 32 #[PV r,PV p] w (Ret (PV c1) w))) (M1 : Hid (∀ w,Calls Tryz.prog 31 #[MV b.p b.q b.r,PV c1] w (Ret (PV m1) w))) (A2 : Hid (∀ w,Calls Tryz.prog 29 #[PV b.s,PV m1] w (Ret (PV a2) w))) (K2 : Hid (∀ w,Calls Tryz.prog 28 #[PV a2] w (Ret (PV v2) w))) (w : World) :
    Calls Tryz.prog 7 #[NV b,PV r,PV p] w (Ret (NV ⟨b.m,b.p,b.q,b.r,v1,v2⟩) w) := by
  go_enter Tryz.func7,Tryz.ntmps7
  have hp := Hp.start [] w
  go_upto_region 1 with (first | ((with_reducible apply Qao hp);(first | exact za rfl | exact zu rfl | exact zi rfl | exact zb rfl | exact zr rfl | exact zs rfl | exact zf rfl | exact zg rfl | exact zn rfl | exact zv rfl | exact zw rfl);exact rfl;clear hp;(try clear w1);intro g w1 hp;simp only [zp,zq,z0,z1]) | ((with_reducible apply Qag hp);exact ii;exact rfl;clear hp;(try clear w1);intro g w1 hp;simp only [zp,zq,z0,z1]))
  have hq := hp
  refine Qau hp hq [9] (.q 0 (.q 1 (.q 2 (.q 3 (.q 4 (.p 5 (.p 6 (.p 7 (.q 8 (.l 9 .nil)))))))))) (by kernel_rfl) (by kernel_rfl) ?_
  clear hp hq;(try clear w1);intro w1 hp hq
  repeat' (first | (((with_reducible apply sg_q);exact zo rfl);(first | ((with_reducible apply Qbg hp);exact rfl;exact zt rfl;exact ii;exact ii;(first | exact zl rfl | exact Qad (by omega));(first | (with_reducible exact Qab (by omega)) | (simp only [n0,Nat.reduceAdd,n1,n2,n3,n4,n5,n6,n7,n8,n9];try rfl));simp only [zp,zq,z0,z1]) | ((with_reducible apply Qbb hp);exact rfl;exact zt rfl;exact ii;exact ii;(first | exact zio rfl | exact Qae (by omega));simp only [zp,zq,z0,z1]) | ((with_reducible apply Qbm hp);exact rfl;(focus (intro _;go_simp;(try go_ints);try with_reducible rfl));simp only [zp,zq,z0,z1]))) | (((with_reducible apply sg_p);exact zo rfl);((with_reducible apply Qbp hp);exact rfl;(focus (intro _;go_simp;try first | with_reducible rfl | exact ⟨rfl,rfl⟩));(with_reducible first | exact fun w => S1.out w | exact fun w => A1.out w | exact fun w => K1.out w);simp only [zp,zq,z0,z1])) | (((with_reducible apply sg_l);exact zo rfl);(first | ((with_reducible apply Qbi hq);exact rfl;exact zt rfl;(first | exact za rfl | exact zu rfl | exact zi rfl | exact zb rfl | exact zr rfl | exact zs rfl | exact zf rfl | exact zg rfl | exact zn rfl | exact zv rfl | exact zw rfl);exact rfl;exact Sz.z;exact rfl;exact ii;(first | (with_reducible exact Qab (by omega)) | (simp only [n0,Nat.reduceAdd,n1,n2,n3,n4,n5,n6,n7,n8,n9];try rfl));(first | exact zl rfl | exact Qad (by omega));exact rfl;exact ii;(repeat (first | exact List.Sublist.refl _ | apply List.Sublist.cons));clear hp hq;(try clear w1);intro w1 hp hq) | ((with_reducible apply Qcg hq);exact rfl;exact zt rfl;(first | exact za rfl | exact zu rfl | exact zi rfl | exact zb rfl | exact zr rfl | exact zs rfl | exact zf rfl | exact zg rfl | exact zn rfl | exact zv rfl | exact zw rfl);exact rfl;exact Sz.z;exact rfl;exact ii;(first | (with_reducible exact Qab (by omega)) | (simp only [n0,Nat.reduceAdd,n1,n2,n3,n4,n5,n6,n7,n8,n9];try rfl));(first | exact zl rfl | exact Qad (by omega));exact rfl;exact ii;exact rfl;clear hp hq;(try clear w1);intro w1 hq;have hp := True.intro))) | ((with_reducible apply Qbt hq);clear hp hq;(try clear w1);intro w1 hp))
  go_upto_region 2 with fail
  have hq := hp
  refine Qau hp hq [11] (.q 0 (.q 1 (.q 2 (.q 3 (.q 4 (.q 5 (.p 6 (.p 7 (.p 8 (.p 9 (.q 10 (.l 11 .nil)))))))))))) (by kernel_rfl) (by kernel_rfl) ?_
  clear hp hq;(try clear w1);intro w1 hp hq
  repeat' (first | (((with_reducible apply sg_q);exact zo rfl);(first | ((with_reducible apply Qbg hp);exact rfl;exact zt rfl;exact ii;exact ii;(first | exact zl rfl | exact Qad (by omega));(first | (with_reducible exact Qab (by omega)) | (simp only [n0,Nat.reduceAdd,n1,n2,n3,n4,n5,n6,n7,n8,n9];try rfl));simp only [zp,zq,z0,z1]) | ((with_reducible apply Qbm hp);exact rfl;(focus (intro _;go_simp;(try go_ints);try with_reducible rfl));simp only [zp,zq,z0,z1]))) | (((with_reducible apply sg_p);exact zo rfl);((with_reducible apply Qbp hp);exact rfl;(focus (intro _;go_simp;try first | with_reducible rfl | exact ⟨rfl,rfl⟩));(with_reducible first | exact fun w => C1.out w | exact fun w => M1.out w | exact fun w => A2.out w | exact fun w => K2.out w);simp only [zp,zq,z0,z1])) | (((with_reducible apply sg_l);exact zo rfl);(first | ((with_reducible apply Qbi hq);exact rfl;exact zt rfl;(first | exact za rfl | exact zu rfl | exact zi rfl | exact zb rfl | exact zr rfl | exact zs rfl | exact zf rfl | exact zg rfl | exact zn rfl | exact zv rfl | exact zw rfl);exact rfl;exact Sz.z;exact rfl;exact ii;(first | (with_reducible exact Qab (by omega)) | (simp only [n0,Nat.reduceAdd,n1,n2,n3,n4,n5,n6,n7,n8,n9];try rfl));(first | exact zl rfl | exact Qad (by omega));exact rfl;exact ii;(repeat (first | exact List.Sublist.refl _ | apply List.Sublist.cons));clear hp hq;(try clear w1);intro w1 hp hq) | ((with_reducible apply Qcg hq);exact rfl;exact zt rfl;(first | exact za rfl | exact zu rfl | exact zi rfl | exact zb rfl | exact zr rfl | exact zs rfl | exact zf rfl | exact zg rfl | exact zn rfl | exact zv rfl | exact zw rfl);exact rfl;exact Sz.z;exact rfl;exact ii;(first | (with_reducible exact Qab (by omega)) | (simp only [n0,Nat.reduceAdd,n1,n2,n3,n4,n5,n6,n7,n8,n9];try rfl));(first | exact zl rfl | exact Qad (by omega));exact rfl;exact ii;exact rfl;clear hp hq;(try clear w1);intro w1 hq;have hp := True.intro))) | ((with_reducible apply Qbt hq);clear hp hq;(try clear w1);intro w1 hp))
  go_wp2_with (first | ((with_reducible apply Qao hp);exact za rfl;exact rfl;clear hp;(try clear w1);intro g w1 hp;simp only [zp,zq,z0,z1]) | ((with_reducible apply Qag hp);exact ii;exact rfl;clear hp;(try clear w1);intro g w1 hp;simp only [zp,zq,z0,z1]) | ((with_reducible apply Qaa hp);exact zt rfl;exact ii;exact ii;(first | exact zl rfl | exact Qad (by omega));(first | (with_reducible exact Qab (by omega)) | (simp only [n0,Nat.reduceAdd,n1,n2,n3,n4,n5,n6,n7,n8,n9];try rfl));simp only [zp,zq,z0,z1]) | ((with_reducible apply Qac hp);exact zt rfl;exact ii;exact ii;(first | exact zio rfl | exact Qae (by omega));simp only [zp,zq,z0,z1]) | ((with_reducible apply Qah hp);exact zt rfl;exact za rfl;exact rfl;exact Sz.z;exact rfl;exact ii;(first | (with_reducible exact Qab (by omega)) | (simp only [n0,Nat.reduceAdd,n1,n2,n3,n4,n5,n6,n7,n8,n9];try rfl));(first | exact zl rfl | exact Qad (by omega));exact rfl;exact ii;clear hp;(try clear w1);intro w1 hp))
  exact bodyPost_ret (Qaf rfl ⟨_,rfl,Qal hp (Nat.le_of_ble_eq_true rfl)⟩) rfl ⟨rfl,hp.keep⟩
theorem push_any (b : Inr) (r p : P3) (hb : b.i64) (hr : r.i64) (hp' : p.i64) (w : World) : Calls Tryz.prog 7 #[NV b,PV r,PV p] w (Ret (NV (b.push r p)) w) :=
  push_core b r p _ _ _ _ _ _ _ (Lib.hid (Qfh p b.m hp' hb.1)) (Lib.hid (Qhk b.v _ hb.2.2.2.2.1 (Qda _ _))) (Lib.hid (Qka _)) (Lib.hid (Qlk r p hr hp')) (Lib.hid (apply_any b.p b.q b.r _ hb.2.1 hb.2.2.1 hb.2.2.2.1 (Qnb _ _)))
    (Lib.hid (Qhk b.s _ hb.2.2.2.2.2 ⟨Qgp _ _,Qgp _ _,Qgp _ _⟩)) (Lib.hid (Qka _)) w
end Go.Proofs.YtblffafmkpnjdaaGreat
set_option linter.unusedVariables false
namespace Go.Proofs.YtblffafmkpnjdaaGreat
open Go Go.RowKit
section
variable {P : Program} {ops : Array Oper} {Q : Exit → Act → World → Prop} {md : Region.Mode} {S : World → Prop} {N : List Nat}
/-- Operation j Qkz for operation i, by way of others. -/
def Qkz (md : Region.Mode) (ops : Array Oper) : Nat → Nat → Nat → Bool
  | 0,_,_ => false
  | f + 1,i,j => match ops[j]? with
    | some oj => oj.after.any fun e => Region.binds md e && (e.on == i || Qkz md ops f i e.on)
    | none => false
/-- What is listed has all that it Qkz for listed. -/
def Qjq (md : Region.Mode) (ops : Array Oper) (listed : Array Bool) : Prop := ∀ (j : Nat) (oj : Oper),ops[j]? = some oj → listed[j]? = some true → ∀ e ∈ oj.after,Region.binds md e = true → listed[e.on]? = some true
theorem Qij {listed : Array Bool} (hc : Qjq md ops listed) : ∀ (f i j : Nat),Qkz md ops f i j = true → listed[j]? = some true → listed[i]? = some true
  | 0,_,_,h,_ => by cases h
  | f + 1,i,j,h,hj => by
    unfold Qkz at h
    split at h
    · rename_i oj hoj
      obtain ⟨e,he,hb⟩ := Array.any_eq_true'.1 h
      simp only [Bool.and_eq_true,Bool.or_eq_true,beq_iff_eq] at hb
      have hl := hc j oj hoj hj e he hb.1
      rcases hb.2 with h1 | h1
      · rw [← h1];exact hl
      · exact Qij hc f i e.on h1 hl
    · cases h
theorem ready_waits {listed : Array Bool} (hc : Qjq md ops listed) {f i j : Nat} (h : Qkz md ops f i j = true) (hr : j ∈ Region.ready md ops listed) : listed[i]? = some true := by
  cases f with
  | zero => cases h
  | succ f =>
    obtain ⟨_,oj,hoj,hall⟩ := mem_ready.1 hr
    unfold Qkz at h
    rw [hoj] at h
    obtain ⟨e,he,hb⟩ := Array.any_eq_true'.1 h
    simp only [Bool.and_eq_true,Bool.or_eq_true,beq_iff_eq] at hb
    have hl : listed[e.on]? = some true := by
      have := hall e he hb.1
      rcases Nat.lt_or_ge e.on listed.size with h' | h'
      · simp [h'] at this ⊢;exact this
      · simp [Array.getElem?_eq_none h'] at this
    rcases hb.2 with h1 | h1
    · rw [← h1];exact hl
    · exact Qij hc f i e.on h1 hl
theorem Qdl {listed : Array Bool} (hc : Qjq md ops listed) {j : Nat} (hr : j ∈ Region.ready md ops listed) : Qjq md ops (listed.setIfInBounds j true) := by
  obtain ⟨_,oj,hoj,hall⟩ := mem_ready.1 hr
  have up : ∀ k : Nat,listed[k]? = some true → (listed.setIfInBounds j true)[k]? = some true := fun k hk => by
    rw [Array.getElem?_setIfInBounds]
    split
    · rename_i e
      rw [if_pos]
      subst e
      rcases Nat.lt_or_ge j listed.size with h' | h'
      · exact h'
      · rw [Array.getElem?_eq_none h'] at hk;cases hk
    · exact hk
  intro k ok hk hl e he hb
  by_cases hkj : k = j
  · subst hkj
    obtain rfl := Option.some.inj (hoj.symm.trans hk)
    have := hall e he hb
    refine up _ ?_
    rcases Nat.lt_or_ge e.on listed.size with h' | h'
    · simp [h'] at this ⊢;exact this
    · simp [Array.getElem?_eq_none h'] at this
  · refine up _ (hc k ok hk ?_ e he hb)
    rw [Array.getElem?_setIfInBounds,if_neg (Ne.symm hkj)] at hl
    exact hl
def lateT (md : Region.Mode) (ops : Array Oper) (N : List Nat) (listed : Array Bool) (i : Nat) : Bool :=
  N.all fun j => j != i && (listed.getD j true || Qkz md ops ops.size i j)
theorem Qnw {i : Nat} {oi : Oper} {v : Value} (hi : ops[i]? = some oi) (hsel : ∀ (j : Nat) (o : Oper) cs b,ops[j]? = some o → o.op ≠ .select cs b)
    (hQ : ∀ c a w,Q (.panic c) (a.put oi.dst v) w → Q (.panic c) a w) :
    ∀ (fuel : Nat) (listed : Array Bool) (a : Act) (w : World),Qjq md ops listed →
      (∀ j oj,ops[j]? = some oj → j ≠ i → listed.getD j true = false → (∀ e ∈ oj.after,Region.binds md e = true → e.on ≠ i) → oi.apart ops oj = true) →
      (∀ j,j ∈ N → j ≠ i ∧ (listed.getD j true = false → ∃ f,Qkz md ops f i j = true)) →
      i ∈ Region.ready md ops listed → YieldsIf P ops S oi v a → S w →
      Qhn P md ops Q S N fuel (listed.setIfInBounds i true) (a.put oi.dst v) w → Qhn P md ops Q S N (fuel + 1) listed a w := by
  intro fuel
  induction fuel with
  | zero =>
    intro listed a w _ _ _ hr hy hS H
    refine ⟨fun h => (by rw [h] at hr;cases hr),fun j hj => ?_⟩
    by_cases hji : j = i
    · subst hji;exact hy.wpOp hi hS ⟨fun _ => hS,H⟩
    · have := ready_mono hj hji
      rw [H.1] at this
      cases this
  | succ fuel ih =>
    intro listed a w hcl hfree hlate hr hy hS H
    refine ⟨fun h => (by rw [h] at hr;cases hr),fun j hj => ?_⟩
    by_cases hji : j = i
    · subst hji;exact hy.wpOp hi hS ⟨fun _ => hS,H⟩
    · have h1 := H.2 j (ready_mono hj hji)
      obtain ⟨hjun,oj,hoj,hall⟩ := mem_ready.1 hj
      have hnot : ∀ e ∈ oj.after,Region.binds md e = true → e.on ≠ i := fun e he hb heq => by
        have h1 := hall e he hb
        have h0 := (mem_ready.1 hr).1
        rw [heq] at h1
        rcases Nat.lt_or_ge i listed.size with h' | h'
        · simp [h'] at h0 h1;rw [h0] at h1;cases h1
        · simp [Array.getElem?_eq_none h'] at h1
      have hN : j ∉ N := fun hm => by
        obtain ⟨_,h⟩ := hlate j hm
        obtain ⟨f,hf⟩ := h hjun
        have hl := ready_waits hcl hf hj
        have h0 := (mem_ready.1 hr).1
        rcases Nat.lt_or_ge i listed.size with h' | h'
        · simp [h'] at h0 hl;rw [h0] at hl;cases hl
        · simp [Array.getElem?_eq_none h'] at hl
      have h2 := wpOp_putIf hoj (hfree j oj hoj hji hjun hnot) (fun cs b => hsel i oi cs b hi) (fun cs b => hsel j oj cs b hoj) hQ hy h1
      have hfree' : ∀ k ok,ops[k]? = some ok → k ≠ i → (listed.setIfInBounds j true).getD k true = false →
          (∀ e ∈ ok.after,Region.binds md e = true → e.on ≠ i) → oi.apart ops ok = true := fun k ok hk hki hun hno => by
        refine hfree k ok hk hki ?_ hno
        by_cases hjk : j = k
        · subst hjk;exact hjun
        · rw [getD_set_ne true hjk] at hun;exact hun
      have hlate' : ∀ k,k ∈ N → k ≠ i ∧ ((listed.setIfInBounds j true).getD k true = false → ∃ f,Qkz md ops f i k = true) := fun k hk => by
        refine ⟨(hlate k hk).1,fun hun => (hlate k hk).2 ?_⟩
        by_cases hjk : j = k
        · subst hjk;exact absurd hk hN
        · rw [getD_set_ne true hjk] at hun;exact hun
      refine wpOp_mono (fun a' w' h3 => ⟨h3.2.1,ih (listed.setIfInBounds j true) a' w' (Qdl hcl hj) hfree' hlate' (ready_mono hr (Ne.symm hji)) h3.1 (h3.2.1 hN) ?_⟩) h2
      rw [Array.setIfInBounds_comm _ _ hji]
      exact h3.2.2
def Qeu (md : Region.Mode) (ops : Array Oper) (N : List Nat) : Sc → Nat → Array Bool → Bool
  | .nil,n,listed => n == 0 && (Region.ready md ops listed).isEmpty
  | .q i t,n,listed => (Region.ready md ops listed).contains i && Region.free md ops listed i && lateT md ops N listed i && n != 0 && Qeu md ops N t (n - 1) (listed.setIfInBounds i true)
  | .l i t,n,listed => Region.ready md ops listed == [i] && n != 0 && Qeu md ops N t (n - 1) (listed.setIfInBounds i true)
  | .b2 i t j u,n,listed => Region.ready md ops listed == [i,j] && n != 0 && Qeu md ops N t (n - 1) (listed.setIfInBounds i true) && Qeu md ops N u (n - 1) (listed.setIfInBounds j true)
  | .b3 i t j u k v,n,listed => Region.ready md ops listed == [i,j,k] && n != 0 && Qeu md ops N t (n - 1) (listed.setIfInBounds i true) && Qeu md ops N u (n - 1) (listed.setIfInBounds j true) && Qeu md ops N v (n - 1) (listed.setIfInBounds k true)
theorem Qce (hs : Region.noSelect ops = true) (hQ : ∀ (i : Nat) (o : Oper),ops[i]? = some o → ∀ c a v w,Q (.panic c) (Act.put a o.dst v) w → Q (.panic c) a w) :
    ∀ (sched : Sc) (n : Nat) (listed : Array Bool) (a : Act) (w : World),Qjq md ops listed → Qeu md ops N sched n listed = true → Qbk P ops Q S N sched a w → Qhn P md ops Q S N n listed a w
  | .nil,n,listed,a,w,_,hc,h => by
    simp only [Qeu,Bool.and_eq_true,beq_iff_eq,List.isEmpty_iff] at hc
    obtain ⟨rfl,hc⟩ := hc
    exact ⟨hc,h⟩
  | .q i t,n,listed,a,w,hcl,hc,h => by
    simp only [Qeu,Bool.and_eq_true,bne_iff_ne,ne_eq] at hc
    obtain ⟨⟨⟨⟨hr,hf⟩,hl⟩,hn⟩,hrest⟩ := hc
    obtain ⟨m,rfl⟩ : ∃ m,n = m + 1 := ⟨n - 1,by omega⟩
    obtain ⟨o,v,ho,hS,hy,hw⟩ := h
    have hri : i ∈ Region.ready md ops listed := by simpa using hr
    refine Qnw ho (Region.noSelect_spec hs) (fun c a w => hQ i o ho c a _ w) m listed a w hcl (Region.free_spec ho hf) ?_ hri hy hS (Qce hs hQ t _ _ _ _ (Qdl hcl hri) hrest hw)
    intro j hj
    have := List.all_eq_true.1 hl j hj
    simp only [Bool.and_eq_true,bne_iff_ne,ne_eq,Bool.or_eq_true] at this
    refine ⟨this.1,fun hun => ?_⟩
    rcases this.2 with h1 | h1
    · rw [hun] at h1;cases h1
    · exact ⟨_,h1⟩
  | .l i t,n,listed,a,w,hcl,hc,h => by
    simp only [Qeu,Bool.and_eq_true,beq_iff_eq,bne_iff_ne,ne_eq] at hc
    obtain ⟨m,rfl⟩ : ∃ m,n = m + 1 := ⟨n - 1,by omega⟩
    refine ⟨fun h0 => absurd h0 (by rw [hc.1.1];simp),fun j hj => ?_⟩
    have hj0 := hj
    rw [hc.1.1] at hj
    have : j = i := by simpa using hj
    subst this
    exact wpOp_mono (fun a' w' h' => ⟨h'.1,Qce hs hQ t _ _ _ _ (Qdl hcl hj0) hc.2 h'.2⟩) h
  | .b2 i t j u,n,listed,a,w,hcl,hc,h => by
    simp only [Qeu,Bool.and_eq_true,beq_iff_eq,bne_iff_ne,ne_eq] at hc
    obtain ⟨⟨⟨hr,hn⟩,h1⟩,h2⟩ := hc
    obtain ⟨m,rfl⟩ : ∃ m,n = m + 1 := ⟨n - 1,by omega⟩
    refine ⟨fun h0 => absurd h0 (by rw [hr];simp),fun l hl => ?_⟩
    have hl0 := hl
    rw [hr] at hl
    simp only [List.mem_cons,List.not_mem_nil,or_false] at hl
    rcases hl with rfl | rfl
    · exact wpOp_mono (fun a' w' h' => ⟨h'.1,Qce hs hQ t _ _ _ _ (Qdl hcl hl0) h1 h'.2⟩) h.1
    · exact wpOp_mono (fun a' w' h' => ⟨h'.1,Qce hs hQ u _ _ _ _ (Qdl hcl hl0) h2 h'.2⟩) h.2
  | .b3 i t j u k v,n,listed,a,w,hcl,hc,h => by
    simp only [Qeu,Bool.and_eq_true,beq_iff_eq,bne_iff_ne,ne_eq] at hc
    obtain ⟨⟨⟨⟨hr,hn⟩,h1⟩,h2⟩,h3⟩ := hc
    obtain ⟨m,rfl⟩ : ∃ m,n = m + 1 := ⟨n - 1,by omega⟩
    refine ⟨fun h0 => absurd h0 (by rw [hr];simp),fun l hl => ?_⟩
    have hl0 := hl
    rw [hr] at hl
    simp only [List.mem_cons,List.not_mem_nil,or_false] at hl
    rcases hl with rfl | rfl | rfl
    · exact wpOp_mono (fun a' w' h' => ⟨h'.1,Qce hs hQ t _ _ _ _ (Qdl hcl hl0) h1 h'.2⟩) h.1
    · exact wpOp_mono (fun a' w' h' => ⟨h'.1,Qce hs hQ u _ _ _ _ (Qdl hcl hl0) h2 h'.2⟩) h.2.1
    · exact wpOp_mono (fun a' w' h' => ⟨h'.1,Qce hs hQ v _ _ _ _ (Qdl hcl hl0) h3 h'.2⟩) h.2.2
theorem closed_none (n : Nat) : Qjq md ops (Array.replicate n false) := by
  intro j oj _ h
  rw [Array.getElem?_replicate] at h
  split at h <;> cases h
theorem Qcq {Q : Exit → Act → World → Prop} {id : Nat} {a : Act} {w w0 : World} {X : List Nat} {H Hq : List Bk} {l : List Oper} (hp : Hp X w0 H w) (hq : Hp X w0 Hq w) (N : List Nat) (sched : Sc) (hm : P.follows .mixedOrders = true)
    (hc : (Qeu .any l.toArray N sched l.length (Array.replicate l.length false) && Region.noSelect l.toArray) = true)
    (h : ∀ w1,Hp X w0 H w1 → Hp X w0 Hq w1 → Qbk P l.toArray (NoPanic Q) (Hp X w0 H) N sched a w1) : (Code.region id l.toArray true).wp P Q a w := by
  simp only [Bool.and_eq_true] at hc
  refine wp_region_noPanic (wp_region_any hm (Qgq (S := Hp X w0 H) (N := N) _ _ _ _ ?_))
  have hX := Qce (P := P) (Q := NoPanic Q) (S := Hp X w0 H) (md := .any) hc.2 (fun _ _ _ _ _ _ _ h => h) sched l.length (Array.replicate l.length false) a _ (closed_none _) hc.1 (h { w with drawn := w.drawn + 1 } hp.bump hq.bump)
  simp only [List.size_toArray]
  exact hX
end
section
variable {P : Program} {ops : Array Oper} {Q : Exit → Act → World → Prop} {N : List Nat} {S : World → Prop} {w : World} {a : Act} {i : Nat} {rest : Sc} {d : Tmp} {tp : TypeId} {pos : String} {af : Array Edge} {gd : Option (Nat × Bool)}
/-- A call that comes last, of which it is told what holds behind it. -/
theorem Qej {c : Call} {f : FuncId} {args : Array Value} {v : Value} {T : World → Prop} (hN : N.contains i = true) (hw : Region.wanted ⟨some d,.call c,tp,pos,af,gd⟩ (yielded ops a.tmps) = true)
    (he : ∀ w,(execOp a.eval ⟨some d,.call c,tp,pos,af,gd⟩).run P w = .ok (.enter f args) w) (hc : Calls P f args w (fun e w1 => e = .returned v ∧ T w1))
    (hk : ∀ w1,T w1 → Qbk P ops Q S N rest (a.put (some d) v) w1) : wpL P ops Q S N i rest ⟨some d,.call c,tp,pos,af,gd⟩ a w := by
  refine Qdp hw ?_
  unfold Oper.wp
  simp only [he,Oper.upon]
  exact hc.mono fun e w1 ⟨he,hw1⟩ => by subst he;exact ⟨fun h => absurd (by simpa using hN) h,hk _ hw1⟩
end
end Go.Proofs.YtblffafmkpnjdaaGreat
set_option linter.unusedSimpArgs false
set_option linter.unusedVariables false
set_option maxRecDepth 100000
namespace Go.Proofs.YtblffafmkpnjdaaGreat
open Go Go.RowKit
attribute [local irreducible] wpList
section
variable {X : List Nat} {w0 : World}
set_option maxHeartbeats 8000000 in
theorem Qpf (gs gb nb cb : Nat) (sr : Value) (R : List Bk) (ka kb : Nat) (r : Rw) (n t u : Int) (pn1 pt1 ps1 pu1 p p2 : P3) (a a2 b b2 : Inr) (cs c1 c2 : List Value)
    (hka : ka < nb) (hkb : kb < nb) (hA : (cs.drop (ka * 16)).take 16 = ([.int .i64 a.m,.int .i64 a.p.x,.int .i64 a.p.y,.int .i64 a.p.z,.int .i64 a.q.x,.int .i64 a.q.y,.int .i64 a.q.z,.int .i64 a.r.x,.int .i64 a.r.y,.int .i64 a.r.z,.int .i64 a.v.x,.int .i64 a.v.y,.int .i64 a.v.z,.int .i64 a.s.x,.int .i64 a.s.y,.int .i64 a.s.z] : List Value)) (hlA : ka * 16 + 16 ≤ cs.length) (set1 : cs.take (ka * 16) ++ ([.int .i64 a2.m,.int .i64 a2.p.x,.int .i64 a2.p.y,.int .i64 a2.p.z,.int .i64 a2.q.x,.int .i64 a2.q.y,.int .i64 a2.q.z,.int .i64 a2.r.x,.int .i64 a2.r.y,.int .i64 a2.r.z,.int .i64 a2.v.x,.int .i64 a2.v.y,.int .i64 a2.v.z,.int .i64 a2.s.x,.int .i64 a2.s.y,.int .i64 a2.s.z] : List Value) ++ cs.drop (ka * 16 + 16) = c1)
    (hB : (c1.drop (kb * 16)).take 16 = ([.int .i64 b.m,.int .i64 b.p.x,.int .i64 b.p.y,.int .i64 b.p.z,.int .i64 b.q.x,.int .i64 b.q.y,.int .i64 b.q.z,.int .i64 b.r.x,.int .i64 b.r.y,.int .i64 b.r.z,.int .i64 b.v.x,.int .i64 b.v.y,.int .i64 b.v.z,.int .i64 b.s.x,.int .i64 b.s.y,.int .i64 b.s.z] : List Value)) (hlB : kb * 16 + 16 ≤ c1.length) (set2 : c1.take (kb * 16) ++ ([.int .i64 b2.m,.int .i64 b2.p.x,.int .i64 b2.p.y,.int .i64 b2.p.z,.int .i64 b2.q.x,.int .i64 b2.q.y,.int .i64 b2.q.z,.int .i64 b2.r.x,.int .i64 b2.r.y,.int .i64 b2.r.z,.int .i64 b2.v.x,.int .i64 b2.v.y,.int .i64 b2.v.z,.int .i64 b2.s.x,.int .i64 b2.s.y,.int .i64 b2.s.z] : List Value) ++ c1.drop (kb * 16 + 16) = c2)
    (S1 : Hid (∀ w,Calls Tryz.prog 30 #[PV r.n,.int .i64 n] w (Ret (PV pn1) w)))
    (S2 : Hid (∀ w,Calls Tryz.prog 30 #[PV r.t,.int .i64 t] w (Ret (PV pt1) w)))
    (A1 : Hid (∀ w,Calls Tryz.prog 29 #[PV pn1,PV pt1] w (Ret (PV ps1) w)))
    (S3 : Hid (∀ w,Calls Tryz.prog 30 #[PV r.u,.int .i64 u] w (Ret (PV pu1) w)))
    (A2 : Hid (∀ w,Calls Tryz.prog 29 #[PV ps1,PV pu1] w (Ret (PV p) w)))
    (P1 : Hid (∀ w,Calls Tryz.prog 7 #[NV a,PV r.ra,PV p] w (Ret (NV a2) w)))
    (S4 : Hid (∀ w,Calls Tryz.prog 30 #[PV p,.int .i64 (-4294967296)] w (Ret (PV p2) w)))
    (P2 : Hid (∀ w,Calls Tryz.prog 7 #[NV b,PV r.rb,PV p2] w (Ret (NV b2) w))) (w : World) (hst : Hp X w0 (⟨gs,68,[.slice (some ⟨gb,0,none⟩) nb cb,sr]⟩ :: ⟨gb,29,cs⟩ :: R) w) :
    Calls Tryz.prog 84 #[.pointer (some ⟨gs,0,none⟩),.agg #[.int .i64 (ka : Int),.int .i64 (kb : Int),.int .i64 r.n.x,.int .i64 r.n.y,.int .i64 r.n.z,.int .i64 r.t.x,.int .i64 r.t.y,.int .i64 r.t.z,.int .i64 r.u.x,.int .i64 r.u.y,.int .i64 r.u.z,.int .i64 r.ra.x,.int .i64 r.ra.y,.int .i64 r.ra.z,.int .i64 r.rb.x,.int .i64 r.rb.y,.int .i64 r.rb.z,.int .i64 r.mn,.int .i64 r.mt,.int .i64 r.mu,.int .i64 r.aim,.int .i64 r.rub,.int .i64 r.pn,.int .i64 r.pt,.int .i64 r.pu],.int .i64 n,.int .i64 t,.int .i64 u] w (fun e w1 => e = .returned (.tuple #[]) ∧ Hp X w0 (⟨gs,68,[.slice (some ⟨gb,0,none⟩) nb cb,sr]⟩ :: ⟨gb,29,c2⟩ :: R) w1) := by
  have hka' : (ka : Int) < nb := by omega
  have hkb' : (kb : Int) < nb := by omega
  have hst' := Lib.hid hst
  clear hst hka hkb
  go_enter Tryz.func84,Tryz.ntmps84
  have hp := Hp.start [] w
  clear hp
  have hp := hst'.out
  clear hst'
  go_upto_region 1 with (first | ((with_reducible apply Qao hp);(first | exact za rfl | exact zu rfl | exact zi rfl | exact zb rfl | exact zr rfl | exact zs rfl | exact zf rfl | exact zg rfl | exact zn rfl | exact zv rfl | exact zw rfl);exact rfl;clear hp;(try clear w1);intro g w1 hp;simp only [zp,zq,z0,z1]) | ((with_reducible apply Qag hp);exact ii;exact rfl;clear hp;(try clear w1);intro g w1 hp;simp only [zp,zq,z0,z1]))
  have hq := hp
  refine Qau hp hq [15] (.q 0 (.q 1 (.q 2 (.q 4 (.q 5 (.q 6 (.q 9 (.q 10 (.q 11 (.p 3 (.p 7 (.p 8 (.p 12 (.p 13 (.l 14 (.l 15 .nil)))))))))))))))) (by kernel_rfl) (by kernel_rfl) ?_
  clear hp hq;(try clear w1);intro w1 hp hq
  repeat' (first | (((with_reducible apply sg_q);exact zo rfl);(first | ((with_reducible apply Qbg hp);exact rfl;exact zt rfl;exact ii;exact ii;(first | exact zl rfl | exact Qad (by omega));(first | (with_reducible exact Qab (by omega)) | (simp only [n0,Nat.reduceAdd,n1,n2,n3,n4,n5,n6,n7,n8,n9];try rfl));simp only [zp,zq,z0,z1]) | ((with_reducible apply Qcd hp);exact rfl;exact zt rfl;assumption;exact ii;assumption;(first | exact zl rfl | omega);simp only [zp,zq,z0,z1]) | ((with_reducible apply Qbv hp);exact zi rfl;simp only [zp,zq,z0,z1]) | ((with_reducible apply Qbm hp);exact rfl;(focus (intro _;go_simp;(try go_ints);try with_reducible rfl));simp only [zp,zq,z0,z1]))) | (((with_reducible apply sg_p);exact zo rfl);((with_reducible apply Qbp hp);exact rfl;(focus (intro _;go_simp;try first | with_reducible rfl | exact ⟨rfl,rfl⟩));(with_reducible first | exact fun w => S1.out w | exact fun w => S2.out w | exact fun w => A1.out w | exact fun w => S3.out w | exact fun w => A2.out w);simp only [zp,zq,z0,z1])) | (((with_reducible apply sg_l);exact zo rfl);(first | ((with_reducible apply Qfp hq);(repeat (first | exact List.Sublist.refl _ | apply List.Sublist.cons));exact rfl;exact ii;exact rfl;clear hp hq;(try clear w1);intro g w1 hp hq;simp only [zp,zq,z0,z1]) | ((with_reducible apply Qbi hq);exact rfl;exact zt rfl;(first | exact za rfl | exact zu rfl | exact zi rfl | exact zb rfl | exact zr rfl | exact zs rfl | exact zf rfl | exact zg rfl | exact zn rfl | exact zv rfl | exact zw rfl);exact rfl;exact Sz.z;exact rfl;exact ii;(first | (with_reducible exact Qab (by omega)) | (simp only [n0,Nat.reduceAdd,n1,n2,n3,n4,n5,n6,n7,n8,n9];try rfl));(first | exact zl rfl | exact Qad (by omega));exact rfl;exact ii;(repeat (first | exact List.Sublist.refl _ | apply List.Sublist.cons));clear hp hq;(try clear w1);intro w1 hp hq) | ((with_reducible apply Qcg hq);exact rfl;exact zt rfl;(first | exact za rfl | exact zu rfl | exact zi rfl | exact zb rfl | exact zr rfl | exact zs rfl | exact zf rfl | exact zg rfl | exact zn rfl | exact zv rfl | exact zw rfl);exact rfl;exact Sz.z;exact rfl;exact ii;(first | (with_reducible exact Qab (by omega)) | (simp only [n0,Nat.reduceAdd,n1,n2,n3,n4,n5,n6,n7,n8,n9];try rfl));(first | exact zl rfl | exact Qad (by omega));exact rfl;exact ii;exact rfl;clear hp hq;(try clear w1);intro w1 hq;have hp := True.intro))) | ((with_reducible apply Qbt hq);clear hp hq;(try clear w1);intro w1 hp))
  go_upto_region 2 with fail
  have hq := hp
  refine Qau hp hq [19] (.q 0 (.q 1 (.q 2 (.q 3 (.q 4 (.q 5 (.q 6 (.q 7 (.q 8 (.q 9 (.q 10 (.q 11 (.q 12 (.q 13 (.q 14 (.q 15 (.q 16 (.p 17 (.q 18 (.l 19 .nil)))))))))))))))))))) (by kernel_rfl) (by kernel_rfl) ?_
  clear hp hq;(try clear w1);intro w1 hp hq
  repeat' (first | (((with_reducible apply sg_q);exact zo rfl);(first | ((with_reducible apply Qbg hp);exact rfl;exact zt rfl;exact ii;exact ii;(first | exact zl rfl | assumption | exact Qad (by omega));(first | assumption | (with_reducible exact Qab (by omega)) | (simp only [n0,Nat.reduceAdd,n1,n2,n3,n4,n5,n6,n7,n8,n9];try rfl));simp only [zp,zq,z0,z1]) | ((with_reducible apply Qcd hp);exact rfl;exact zt rfl;assumption;exact ii;assumption;(first | exact zl rfl | omega);simp only [zp,zq,z0,z1]) | ((with_reducible apply Qbb hp);exact rfl;exact zt rfl;exact ii;exact ii;(first | exact zio rfl | exact zso rfl | exact Qae (by omega) | assumption);simp only [zp,zq,z0,z1]) | ((with_reducible apply Qbe hp);exact rfl;exact zt rfl;assumption;exact ii;(first | assumption | (first | exact zio rfl | exact zso rfl | exact Qae (by omega) | assumption));simp only [zp,zq,z0,z1]) | ((with_reducible apply Qbv hp);exact zr rfl;simp only [zp,zq,z0,z1]) | ((with_reducible apply Qci hp);exact rfl;exact zx rfl;exact zk rfl;exact ii;exact Sz.z;omega;omega;((try simp only [m0,Int.reduceToNat,m1,m2,Nat.reduceMul,Nat.reduceAdd,m3,m4,m5,n0]);exact rfl);simp only [zp,zq,z0,z1]) | ((with_reducible apply Qbm hp);exact rfl;(focus (intro _;go_simp;(try go_ints);try with_reducible rfl));simp only [zp,zq,z0,z1]))) | (((with_reducible apply sg_p);exact zo rfl);((with_reducible apply Qbp hp);exact rfl;(focus (intro _;go_simp;try first | with_reducible rfl | exact ⟨rfl,rfl⟩));(with_reducible first | exact fun w => P1.out w);simp only [zp,zq,z0,z1])) | (((with_reducible apply sg_l);exact zo rfl);(first | ((with_reducible apply Qbi hq);exact rfl;exact zt rfl;(first | exact za rfl | exact zu rfl | exact zi rfl | exact zb rfl | exact zr rfl | exact zs rfl | exact zf rfl | exact zg rfl | exact zn rfl | exact zv rfl | exact zw rfl);exact rfl;exact Sz.z;exact rfl;exact ii;(first | assumption | (with_reducible exact Qab (by omega)) | (simp only [n0,Nat.reduceAdd,n1,n2,n3,n4,n5,n6,n7,n8,n9];try rfl));(first | exact zl rfl | assumption | exact Qad (by omega));exact rfl;exact ii;(repeat (first | exact List.Sublist.refl _ | apply List.Sublist.cons));clear hp hq;(try clear w1);intro w1 hp hq) | ((with_reducible apply Qcg hq);exact rfl;exact zt rfl;(first | exact za rfl | exact zu rfl | exact zi rfl | exact zb rfl | exact zr rfl | exact zs rfl | exact zf rfl | exact zg rfl | exact zn rfl | exact zv rfl | exact zw rfl);exact rfl;exact Sz.z;exact rfl;exact ii;(first | assumption | (with_reducible exact Qab (by omega)) | (simp only [n0,Nat.reduceAdd,n1,n2,n3,n4,n5,n6,n7,n8,n9];try rfl));(first | exact zl rfl | assumption | exact Qad (by omega));exact rfl;exact ii;exact rfl;clear hp hq;(try clear w1);intro w1 hq;have hp := True.intro))) | ((with_reducible apply Qbt hq);clear hp hq;(try clear w1);intro w1 hp))
  go_upto_region 3 with fail
  have hq := hp
  refine Qau hp hq [20] (.q 0 (.q 1 (.q 2 (.q 3 (.q 4 (.q 5 (.q 6 (.q 7 (.q 8 (.q 9 (.q 10 (.q 11 (.q 12 (.q 13 (.q 14 (.q 15 (.q 16 (.p 17 (.p 18 (.q 19 (.l 20 .nil))))))))))))))))))))) (by kernel_rfl) (by kernel_rfl) ?_
  clear hp hq;(try clear w1);intro w1 hp hq
  repeat' (first | (((with_reducible apply sg_q);exact zo rfl);(first | ((with_reducible apply Qbg hp);exact rfl;exact zt rfl;exact ii;exact ii;(first | exact zl rfl | assumption | exact Qad (by omega));(first | assumption | (with_reducible exact Qab (by omega)) | (simp only [n0,Nat.reduceAdd,n1,n2,n3,n4,n5,n6,n7,n8,n9];try rfl));simp only [zp,zq,z0,z1]) | ((with_reducible apply Qcd hp);exact rfl;exact zt rfl;assumption;exact ii;assumption;(first | exact zl rfl | omega);simp only [zp,zq,z0,z1]) | ((with_reducible apply Qbb hp);exact rfl;exact zt rfl;exact ii;exact ii;(first | exact zio rfl | exact zso rfl | exact Qae (by omega) | assumption);simp only [zp,zq,z0,z1]) | ((with_reducible apply Qbe hp);exact rfl;exact zt rfl;assumption;exact ii;(first | assumption | (first | exact zio rfl | exact zso rfl | exact Qae (by omega) | assumption));simp only [zp,zq,z0,z1]) | ((with_reducible apply Qbv hp);exact zr rfl;simp only [zp,zq,z0,z1]) | ((with_reducible apply Qci hp);exact rfl;exact zx rfl;exact zk rfl;exact ii;exact Sz.z;omega;omega;((try simp only [m0,Int.reduceToNat,m1,m2,Nat.reduceMul,Nat.reduceAdd,m3,m4,m5,n0]);exact rfl);simp only [zp,zq,z0,z1]) | ((with_reducible apply Qbm hp);exact rfl;(focus (intro _;go_simp;(try go_ints);try with_reducible rfl));simp only [zp,zq,z0,z1]))) | (((with_reducible apply sg_p);exact zo rfl);((with_reducible apply Qbp hp);exact rfl;(focus (intro _;go_simp;try first | with_reducible rfl | exact ⟨rfl,rfl⟩));(with_reducible first | exact fun w => S4.out w | exact fun w => P2.out w);simp only [zp,zq,z0,z1])) | (((with_reducible apply sg_l);exact zo rfl);(first | ((with_reducible apply Qbi hq);exact rfl;exact zt rfl;(first | exact za rfl | exact zu rfl | exact zi rfl | exact zb rfl | exact zr rfl | exact zs rfl | exact zf rfl | exact zg rfl | exact zn rfl | exact zv rfl | exact zw rfl);exact rfl;exact Sz.z;exact rfl;exact ii;(first | assumption | (with_reducible exact Qab (by omega)) | (simp only [n0,Nat.reduceAdd,n1,n2,n3,n4,n5,n6,n7,n8,n9];try rfl));(first | exact zl rfl | assumption | exact Qad (by omega));exact rfl;exact ii;(repeat (first | exact List.Sublist.refl _ | apply List.Sublist.cons));clear hp hq;(try clear w1);intro w1 hp hq) | ((with_reducible apply Qcg hq);exact rfl;exact zt rfl;(first | exact za rfl | exact zu rfl | exact zi rfl | exact zb rfl | exact zr rfl | exact zs rfl | exact zf rfl | exact zg rfl | exact zn rfl | exact zv rfl | exact zw rfl);exact rfl;exact Sz.z;exact rfl;exact ii;(first | assumption | (with_reducible exact Qab (by omega)) | (simp only [n0,Nat.reduceAdd,n1,n2,n3,n4,n5,n6,n7,n8,n9];try rfl));(first | exact zl rfl | assumption | exact Qad (by omega));exact rfl;exact ii;exact rfl;clear hp hq;(try clear w1);intro w1 hq;have hp := True.intro))) | ((with_reducible apply Qbt hq);clear hp hq;(try clear w1);intro w1 hp))
  go_wp2
  exact bodyPost_end (results_none rfl _ _ _) rfl ⟨rfl,hp.sub (.cons _ (.cons _ (List.Sublist.refl _)))⟩
set_option maxHeartbeats 2000000 in
theorem at_any (b : Inr) (r : P3) (hb : b.i64) (hr : r.i64) (w : World) : Calls Tryz.prog 127 #[NV b,PV r] w (Ret (PV (b.v.cadd (b.s.ccross r))) w) := by
  have C1 := Lib.hid (Qlk b.s r hb.2.2.2.2.2 hr)
  have A1 := Lib.hid (Qhk b.v (b.s.ccross r) hb.2.2.2.2.1 (Qnb _ _))
  clear hb hr
  generalize b.v.cadd (b.s.ccross r) = x at *
  generalize b.s.ccross r = c at *
  go_enter Tryz.func127,Tryz.ntmps127
  have hp := Hp.start [] w
  go_upto_region 1 with (first | ((with_reducible apply Qao hp);(first | exact za rfl | exact zu rfl | exact zi rfl | exact zb rfl | exact zr rfl | exact zs rfl | exact zf rfl | exact zg rfl | exact zn rfl | exact zv rfl | exact zw rfl);exact rfl;clear hp;(try clear w1);intro g w1 hp;simp only [zp,zq,z0,z1]) | ((with_reducible apply Qag hp);exact ii;exact rfl;clear hp;(try clear w1);intro g w1 hp;simp only [zp,zq,z0,z1]))
  have hq := hp
  refine Qau hp hq [7] (.q 0 (.q 1 (.q 2 (.q 3 (.q 4 (.p 5 (.p 6 (.l 7 .nil)))))))) (by kernel_rfl) (by kernel_rfl) ?_
  clear hp hq;(try clear w1);intro w1 hp hq
  repeat' (first | (((with_reducible apply sg_q);exact zo rfl);(first | ((with_reducible apply Qbg hp);exact rfl;exact zt rfl;exact ii;exact ii;(first | exact zl rfl | exact Qad (by omega));(first | (with_reducible exact Qab (by omega)) | (simp only [n0,Nat.reduceAdd,n1,n2,n3,n4,n5,n6,n7,n8,n9];try rfl));simp only [zp,zq,z0,z1]) | ((with_reducible apply Qbm hp);exact rfl;(focus (intro _;go_simp;(try go_ints);try with_reducible rfl));simp only [zp,zq,z0,z1]))) | (((with_reducible apply sg_p);exact zo rfl);((with_reducible apply Qbp hp);exact rfl;(focus (intro _;go_simp;try first | with_reducible rfl | exact ⟨rfl,rfl⟩));(with_reducible first | exact fun w => C1.out w | exact fun w => A1.out w);simp only [zp,zq,z0,z1])) | (((with_reducible apply sg_l);exact zo rfl);(first | ((with_reducible apply Qbi hq);exact rfl;exact zt rfl;(first | exact za rfl | exact zu rfl | exact zi rfl | exact zb rfl | exact zr rfl | exact zs rfl | exact zf rfl | exact zg rfl | exact zn rfl | exact zv rfl | exact zw rfl);exact rfl;exact Sz.z;exact rfl;exact ii;(first | (with_reducible exact Qab (by omega)) | (simp only [n0,Nat.reduceAdd,n1,n2,n3,n4,n5,n6,n7,n8,n9];try rfl));(first | exact zl rfl | exact Qad (by omega));exact rfl;exact ii;(repeat (first | exact List.Sublist.refl _ | apply List.Sublist.cons));clear hp hq;(try clear w1);intro w1 hp hq) | ((with_reducible apply Qcg hq);exact rfl;exact zt rfl;(first | exact za rfl | exact zu rfl | exact zi rfl | exact zb rfl | exact zr rfl | exact zs rfl | exact zf rfl | exact zg rfl | exact zn rfl | exact zv rfl | exact zw rfl);exact rfl;exact Sz.z;exact rfl;exact ii;(first | (with_reducible exact Qab (by omega)) | (simp only [n0,Nat.reduceAdd,n1,n2,n3,n4,n5,n6,n7,n8,n9];try rfl));(first | exact zl rfl | exact Qad (by omega));exact rfl;exact ii;exact rfl;clear hp hq;(try clear w1);intro w1 hq;have hp := True.intro))) | ((with_reducible apply Qbt hq);clear hp hq;(try clear w1);intro w1 hp))
  go_wp2
  exact bodyPost_ret (Qaf rfl ⟨_,rfl,Qal hp (Nat.le_of_ble_eq_true rfl)⟩) rfl ⟨rfl,hp.keep⟩
set_option maxHeartbeats 4000000 in
theorem speed_core (ka kb : Nat) (r : Rw) (a b : Inr) (va vb v : P3) (nb cb gb : Nat) (sr : Value) (cs : List Value) (hka : ka < nb) (hkb : kb < nb) (hA : (cs.drop (ka * 16)).take 16 = ([.int .i64 a.m,.int .i64 a.p.x,.int .i64 a.p.y,.int .i64 a.p.z,.int .i64 a.q.x,.int .i64 a.q.y,.int .i64 a.q.z,.int .i64 a.r.x,.int .i64 a.r.y,.int .i64 a.r.z,.int .i64 a.v.x,.int .i64 a.v.y,.int .i64 a.v.z,.int .i64 a.s.x,.int .i64 a.s.y,.int .i64 a.s.z] : List Value)) (hlA : ka * 16 + 16 ≤ cs.length) (hB : (cs.drop (kb * 16)).take 16 = ([.int .i64 b.m,.int .i64 b.p.x,.int .i64 b.p.y,.int .i64 b.p.z,.int .i64 b.q.x,.int .i64 b.q.y,.int .i64 b.q.z,.int .i64 b.r.x,.int .i64 b.r.y,.int .i64 b.r.z,.int .i64 b.v.x,.int .i64 b.v.y,.int .i64 b.v.z,.int .i64 b.s.x,.int .i64 b.s.y,.int .i64 b.s.z] : List Value)) (hlB : kb * 16 + 16 ≤ cs.length)
    (K1 : Hid (∀ w,Calls Tryz.prog 127 #[NV a,PV r.ra] w (Ret (PV va) w))) (K2 : Hid (∀ w,Calls Tryz.prog 127 #[NV b,PV r.rb] w (Ret (PV vb) w))) (S1 : Hid (∀ w,Calls Tryz.prog 128 #[PV va,PV vb] w (Ret (PV v) w))) (w : World) (gs : Nat) (ts tb : TypeId) (ys yb : Nat × Nat) (hs : w.heap[gs]? = some (.cells ([.slice (some ⟨gb,0,none⟩) nb cb,sr] : List Value).toArray ts ys)) (hb : w.heap[gb]? = some (.cells cs.toArray tb yb)) :
    Calls Tryz.prog 85 #[.pointer (some ⟨gs,0,none⟩),.agg #[.int .i64 (ka : Int),.int .i64 (kb : Int),.int .i64 r.n.x,.int .i64 r.n.y,.int .i64 r.n.z,.int .i64 r.t.x,.int .i64 r.t.y,.int .i64 r.t.z,.int .i64 r.u.x,.int .i64 r.u.y,.int .i64 r.u.z,.int .i64 r.ra.x,.int .i64 r.ra.y,.int .i64 r.ra.z,.int .i64 r.rb.x,.int .i64 r.rb.y,.int .i64 r.rb.z,.int .i64 r.mn,.int .i64 r.mt,.int .i64 r.mu,.int .i64 r.aim,.int .i64 r.rub,.int .i64 r.pn,.int .i64 r.pt,.int .i64 r.pu]] w (Ret (PV v) w) := by
  have hka' : (ka : Int) < nb := by omega
  have hkb' : (kb : Int) < nb := by omega
  clear hka hkb
  go_enter Tryz.func85,Tryz.ntmps85
  have hp := Hp.start [] w
  go_upto_region 2 with (first | ((with_reducible apply Qao hp);(first | exact za rfl | exact zu rfl | exact zi rfl | exact zb rfl | exact zr rfl | exact zs rfl | exact zf rfl | exact zg rfl | exact zn rfl | exact zv rfl | exact zw rfl);exact rfl;clear hp;(try clear w1);intro g w1 hp;simp only [zp,zq,z0,z1]) | ((with_reducible apply Qag hp);exact ii;exact rfl;clear hp;(try clear w1);intro g w1 hp;simp only [zp,zq,z0,z1]))
  have hq := hp
  refine Qau hp hq [25] (.q 0 (.q 1 (.q 2 (.q 3 (.q 4 (.q 5 (.q 6 (.q 7 (.q 8 (.q 9 (.q 10 (.q 12 (.q 13 (.q 14 (.q 15 (.q 16 (.q 17 (.q 18 (.q 19 (.q 20 (.q 21 (.q 22 (.p 11 (.p 23 (.p 24 (.l 25 .nil)))))))))))))))))))))))))) (by kernel_rfl) (by kernel_rfl) ?_
  clear hp hq;(try clear w1);intro w1 hp hq
  repeat' (first | (((with_reducible apply sg_q);exact zo rfl);(first | ((with_reducible apply Qbg hp);exact rfl;exact zt rfl;exact ii;exact ii;(first | exact zl rfl | assumption | exact Qad (by omega));(first | assumption | (with_reducible exact Qab (by omega)) | (simp only [n0,Nat.reduceAdd,n1,n2,n3,n4,n5,n6,n7,n8,n9];try rfl));simp only [zp,zq,z0,z1]) | ((with_reducible apply Qcd hp);exact rfl;exact zt rfl;assumption;exact ii;assumption;(first | exact zl rfl | omega);simp only [zp,zq,z0,z1]) | ((with_reducible apply Qbb hp);exact rfl;exact zt rfl;exact ii;exact ii;(first | exact zio rfl | exact zso rfl | exact Qae (by omega) | assumption);simp only [zp,zq,z0,z1]) | ((with_reducible apply Qbe hp);exact rfl;exact zt rfl;assumption;exact ii;(first | assumption | (first | exact zio rfl | exact zso rfl | exact Qae (by omega) | assumption));simp only [zp,zq,z0,z1]) | ((with_reducible apply Qbv hp);(first | exact zf rfl | exact zn rfl | exact zr rfl);simp only [zp,zq,z0,z1]) | ((with_reducible apply Qci hp);exact rfl;exact zx rfl;exact zk rfl;exact ii;exact Sz.z;omega;omega;((try simp only [m0,Int.reduceToNat,m1,m2,Nat.reduceMul,Nat.reduceAdd,m3,m4,m5,n0]);exact rfl);simp only [zp,zq,z0,z1]) | ((with_reducible apply Qbm hp);exact rfl;(focus (intro _;go_simp;(try go_ints);try with_reducible rfl));simp only [zp,zq,z0,z1]))) | (((with_reducible apply sg_p);exact zo rfl);((with_reducible apply Qbp hp);exact rfl;(focus (intro _;go_simp;try first | with_reducible rfl | exact ⟨rfl,rfl⟩));(with_reducible first | exact fun w => K1.out w | exact fun w => K2.out w | exact fun w => S1.out w);simp only [zp,zq,z0,z1])) | (((with_reducible apply sg_l);exact zo rfl);(first | ((with_reducible apply Qbi hq);exact rfl;exact zt rfl;(first | exact za rfl | exact zu rfl | exact zi rfl | exact zb rfl | exact zr rfl | exact zs rfl | exact zf rfl | exact zg rfl | exact zn rfl | exact zv rfl | exact zw rfl);exact rfl;exact Sz.z;exact rfl;exact ii;(first | assumption | (with_reducible exact Qab (by omega)) | (simp only [n0,Nat.reduceAdd,n1,n2,n3,n4,n5,n6,n7,n8,n9];try rfl));(first | exact zl rfl | assumption | exact Qad (by omega));exact rfl;exact ii;(repeat (first | exact List.Sublist.refl _ | apply List.Sublist.cons));clear hp hq;(try clear w1);intro w1 hp hq) | ((with_reducible apply Qcg hq);exact rfl;exact zt rfl;(first | exact za rfl | exact zu rfl | exact zi rfl | exact zb rfl | exact zr rfl | exact zs rfl | exact zf rfl | exact zg rfl | exact zn rfl | exact zv rfl | exact zw rfl);exact rfl;exact Sz.z;exact rfl;exact ii;(first | assumption | (with_reducible exact Qab (by omega)) | (simp only [n0,Nat.reduceAdd,n1,n2,n3,n4,n5,n6,n7,n8,n9];try rfl));(first | exact zl rfl | assumption | exact Qad (by omega));exact rfl;exact ii;exact rfl;clear hp hq;(try clear w1);intro w1 hq;have hp := True.intro))) | ((with_reducible apply Qbt hq);clear hp hq;(try clear w1);intro w1 hp))
  go_wp2
  exact bodyPost_ret (Qaf rfl ⟨_,rfl,Qal hp (Nat.le_of_ble_eq_true rfl)⟩) rfl ⟨rfl,hp.keep⟩
set_option maxHeartbeats 8000000 in
theorem Qos (gs gb nb cb gr o : Nat) (sr : Value) (R : List Bk) (ka kb : Nat) (r : Rw) (t u m x y dt du : Int) (cs c2 rs r1 r2 : List Value)
    (hro : (rs.drop o).take 25 = ([.int .i64 (ka : Int),.int .i64 (kb : Int),.int .i64 r.n.x,.int .i64 r.n.y,.int .i64 r.n.z,.int .i64 r.t.x,.int .i64 r.t.y,.int .i64 r.t.z,.int .i64 r.u.x,.int .i64 r.u.y,.int .i64 r.u.z,.int .i64 r.ra.x,.int .i64 r.ra.y,.int .i64 r.ra.z,.int .i64 r.rb.x,.int .i64 r.rb.y,.int .i64 r.rb.z,.int .i64 r.mn,.int .i64 r.mt,.int .i64 r.mu,.int .i64 r.aim,.int .i64 r.rub,.int .i64 r.pn,.int .i64 r.pt,.int .i64 r.pu] : List Value)) (hrl : o + 25 ≤ rs.length)
    (f21 : rs[o + 21]? = some (.int .i64 r.rub)) (f22 : rs[o + 22]? = some (.int .i64 r.pn)) (f23 : rs[o + 23]? = some (.int .i64 r.pt)) (f24 : rs[o + 24]? = some (.int .i64 r.pu))
    (set1 : rs.take (o + 23) ++ ([.int .i64 x] : List Value) ++ rs.drop (o + 23 + 1) = r1) (set2 : r1.take (o + 24) ++ ([.int .i64 y] : List Value) ++ r1.drop (o + 24 + 1) = r2) (l1 : o + 23 + 1 ≤ rs.length) (l2 : o + 24 + 1 ≤ r1.length)
    (MU : Hid (∀ w,Calls Tryz.prog 45 #[.int .i64 r.rub,.int .i64 r.pn] w (Ret (.int .i64 m) w))) (CO : Hid (∀ w,Calls Tryz.prog 5 #[.int .i64 t,.int .i64 u,.int .i64 m] w (Ret (.tuple #[.int .i64 x,.int .i64 y]) w))) (S1 : Hid (∀ w,Calls Tryz.prog 87 #[.int .i64 x,.int .i64 r.pt] w (Ret (.int .i64 dt) w))) (S2 : Hid (∀ w,Calls Tryz.prog 87 #[.int .i64 y,.int .i64 r.pu] w (Ret (.int .i64 du) w)))
    (PU : Hid (∀ (R : List Bk) (w : World),Hp X w0 (⟨gs,68,[.slice (some ⟨gb,0,none⟩) nb cb,sr]⟩ :: ⟨gb,29,cs⟩ :: R) w → Calls Tryz.prog 84 #[.pointer (some ⟨gs,0,none⟩),.agg #[.int .i64 (ka : Int),.int .i64 (kb : Int),.int .i64 r.n.x,.int .i64 r.n.y,.int .i64 r.n.z,.int .i64 r.t.x,.int .i64 r.t.y,.int .i64 r.t.z,.int .i64 r.u.x,.int .i64 r.u.y,.int .i64 r.u.z,.int .i64 r.ra.x,.int .i64 r.ra.y,.int .i64 r.ra.z,.int .i64 r.rb.x,.int .i64 r.rb.y,.int .i64 r.rb.z,.int .i64 r.mn,.int .i64 r.mt,.int .i64 r.mu,.int .i64 r.aim,.int .i64 r.rub,.int .i64 r.pn,.int .i64 r.pt,.int .i64 r.pu],.int .i64 0,.int .i64 dt,.int .i64 du] w (fun e w1 => e = .returned (.tuple #[]) ∧ Hp X w0 (⟨gs,68,[.slice (some ⟨gb,0,none⟩) nb cb,sr]⟩ :: ⟨gb,29,c2⟩ :: R) w1)))
    (w : World) (hst : Hp X w0 (⟨gs,68,[.slice (some ⟨gb,0,none⟩) nb cb,sr]⟩ :: ⟨gb,29,cs⟩ :: ⟨gr,63,rs⟩ :: R) w) :
    Calls Tryz.prog 86 #[.pointer (some ⟨gs,0,none⟩),.pointer (some ⟨gr,o,none⟩),.int .i64 t,.int .i64 u] w (fun e w1 => e = .returned (.tuple #[]) ∧ Hp X w0 (⟨gs,68,[.slice (some ⟨gb,0,none⟩) nb cb,sr]⟩ :: ⟨gb,29,c2⟩ :: ⟨gr,63,r2⟩ :: R) w1) := by
  have hst' := Lib.hid hst
  clear hst
  go_enter Tryz.func86,Tryz.ntmps86
  have hp := Hp.start [] w
  clear hp
  have hp := hst'.out
  clear hst'
  go_upto_region 0 with fail
  have hq := hp
  refine Qau hp hq [] (.q 0 (.q 1 (.q 2 (.q 3 (.q 4 (.q 5 (.q 6 (.q 7 (.q 8 (.q 9 (.p 10 (.p 11 (.q 12 (.q 13 (.q 14 (.q 15 (.q 16 .nil))))))))))))))))) (by kernel_rfl) (by kernel_rfl) ?_
  clear hp hq;(try clear w1);intro w1 hp hq
  repeat' (first | (((with_reducible apply sg_q);exact zo rfl);(first | ((with_reducible apply Qbb hp);exact rfl;exact zt rfl;exact ii;exact ii;(first | exact zio rfl | exact Qae (by omega) | assumption);simp only [zp,zq,z0,z1]) | ((with_reducible apply Qbe hp);exact rfl;exact zt rfl;assumption;exact ii;(first | assumption | (first | exact zio rfl | exact Qae (by omega) | assumption));simp only [zp,zq,z0,z1]) | ((with_reducible apply Qbv hp);(first | exact zi rfl | exact zr rfl | exact zu rfl);simp only [zp,zq,z0,z1]) | ((with_reducible apply Qcz hp);exact zi rfl;simp only [zp,zq,z0,z1]) | ((with_reducible apply Qbm hp);exact rfl;(focus (intro _;go_simp;(try go_ints);try with_reducible rfl));simp only [zp,zq,z0,z1]))) | (((with_reducible apply sg_p);exact zo rfl);((with_reducible apply Qbp hp);exact rfl;(focus (intro _;go_simp;try first | with_reducible rfl | exact ⟨rfl,rfl⟩));(with_reducible first | exact fun w => MU.out w | exact fun w => CO.out w);simp only [zp,zq,z0,z1])) | ((with_reducible apply Qbt hq);clear hp hq;(try clear w1);intro w1 hp))
  go_upto_region 1 with fail
  have hq := hp
  refine Qcq hp hq [16] (.q 0 (.q 1 (.q 2 (.q 3 (.q 4 (.q 5 (.q 6 (.q 7 (.q 8 (.q 10 (.q 11 (.q 12 (.q 13 (.q 14 (.l 9 (.l 15 (.l 16 .nil))))))))))))))))) (by kernel_rfl) (by kernel_rfl) ?_
  clear hp hq;(try clear w1);intro w1 hp hq
  repeat' (first | (((with_reducible apply sd_q);exact zo rfl);(first | ((with_reducible apply Qas hp);exact rfl;exact zt rfl;exact ii;exact ii;(first | exact zl rfl | assumption | exact Qad (by omega));(first | assumption | (with_reducible exact Qab (by omega)) | (simp only [n0,Nat.reduceAdd,n1,n2,n3,n4,n5,n6,n7,n8,n9];try rfl));simp only [zp,zq,z0,z1]) | ((with_reducible apply Qbw hp);exact rfl;exact zt rfl;assumption;exact ii;assumption;(first | exact zl rfl | omega);simp only [zp,zq,z0,z1]) | ((with_reducible apply Qaw hp);exact rfl;exact zt rfl;exact ii;exact ii;(first | exact zio rfl | exact Qae (by omega) | assumption);simp only [zp,zq,z0,z1]) | ((with_reducible apply Qbr hp);exact rfl;exact zt rfl;assumption;exact ii;(first | assumption | (first | exact zio rfl | exact Qae (by omega) | assumption));simp only [zp,zq,z0,z1]) | ((with_reducible apply Qbh hp);(first | exact zi rfl | exact zr rfl);simp only [zp,zq,z0,z1]) | ((with_reducible apply Qav hp);exact rfl;(focus (intro _;go_simp;(try go_ints);try with_reducible rfl));simp only [zp,zq,z0,z1]))) | (((with_reducible apply sd_l);exact zo rfl);(first | ((with_reducible apply Qbf hp);exact rfl;(focus (intro _;go_simp;try first | with_reducible rfl | exact ⟨rfl,rfl⟩));(with_reducible first | exact fun w => S1.out w | exact fun w => S2.out w);exact hq;clear hp hq;(try clear w1);intro w1 hp hq;simp only [zp,zq,z0,z1]) | ((with_reducible apply Qej);exact rfl;exact rfl;(focus (intro _;go_simp;try first | with_reducible rfl | exact ⟨rfl,rfl⟩));(with_reducible exact PU.out _ _ hq);clear hp hq;(try clear w1);intro w1 hq;have hp := True.intro;simp only [zp,zq,z0,z1]))) | ((with_reducible apply Qba);clear hp;have hp := hq;clear hq))
  go_wp2_with (first | ((with_reducible apply Qaa hp);exact zt rfl;exact ii;exact ii;(first | exact zl rfl | assumption | exact Qad (by omega));(first | assumption | (with_reducible exact Qab (by omega)) | (simp only [n0,Nat.reduceAdd,n1,n2,n3,n4,n5,n6,n7,n8,n9];try rfl));simp only [zp,zq,z0,z1]) | ((with_reducible apply Qac hp);exact zt rfl;exact ii;exact ii;(first | exact zio rfl | exact Qae (by omega) | assumption);simp only [zp,zq,z0,z1]) | ((with_reducible apply Qah hp);exact zt rfl;exact zi rfl;exact rfl;exact Sz.z;exact rfl;exact ii;(first | assumption | (with_reducible exact Qab (by omega)) | (simp only [n0,Nat.reduceAdd,n1,n2,n3,n4,n5,n6,n7,n8,n9];try rfl));(first | exact zl rfl | assumption | exact Qad (by omega));exact rfl;exact ii;clear hp;(try clear w1);intro w1 hp) | ((with_reducible apply Qam hp);exact zt rfl;assumption;exact ii;assumption;(first | exact zl rfl | omega);simp only [zp,zq,z0,z1]) | ((with_reducible apply Qai hp);exact zt rfl;assumption;exact ii;(first | assumption | (first | exact zio rfl | exact Qae (by omega) | assumption));simp only [zp,zq,z0,z1]))
  exact bodyPost_end (results_none rfl _ _ _) rfl ⟨rfl,hp⟩
end
end Go.Proofs.YtblffafmkpnjdaaGreat
set_option linter.unusedSimpArgs false
set_option linter.unusedVariables false
set_option maxRecDepth 100000
namespace Go.Proofs.YtblffafmkpnjdaaGreat
open Go Go.RowKit
attribute [local irreducible] wpList
theorem pm4 {α : Type} {x y z a : α} {r : List α} : (a :: x :: y :: z :: r).Perm (x :: y :: z :: a :: r) := (List.perm_middle (l₁ := [x,y,z])).symm
section
variable {X : List Nat} {w0 : World}
set_option maxHeartbeats 16000000 in
theorem turn_core (gs gb nb cb gr o : Nat) (sr : Value) (R : List Bk) (ka kb : Nat) (r : Rw) (v v2 : P3) (d1 d2 d3 x y f1 f2 f3 e3 a3 nn dn b1 b2 : Int) (cs0 cs1 cs2 cs3 rs0 rs1 rs2 rs3 : List Value)
    (fro : (rs0.drop o).take 25 = ([.int .i64 (ka : Int),.int .i64 (kb : Int),.int .i64 r.n.x,.int .i64 r.n.y,.int .i64 r.n.z,.int .i64 r.t.x,.int .i64 r.t.y,.int .i64 r.t.z,.int .i64 r.u.x,.int .i64 r.u.y,.int .i64 r.u.z,.int .i64 r.ra.x,.int .i64 r.ra.y,.int .i64 r.ra.z,.int .i64 r.rb.x,.int .i64 r.rb.y,.int .i64 r.rb.z,.int .i64 r.mn,.int .i64 r.mt,.int .i64 r.mu,.int .i64 r.aim,.int .i64 r.rub,.int .i64 r.pn,.int .i64 r.pt,.int .i64 r.pu] : List Value)) (frl : o + 25 ≤ rs0.length) (f17 : rs0[o + 17]? = some (.int .i64 r.mn)) (f18 : rs0[o + 18]? = some (.int .i64 r.mt)) (f19 : rs0[o + 19]? = some (.int .i64 r.mu)) (f20 : rs0[o + 20]? = some (.int .i64 r.aim)) (f22 : rs0[o + 22]? = some (.int .i64 r.pn)) (f23 : rs0[o + 23]? = some (.int .i64 r.pt)) (f24 : rs0[o + 24]? = some (.int .i64 r.pu)) (fv2 : (rs0.drop (o + 2)).take 3 = ([.int .i64 r.n.x,.int .i64 r.n.y,.int .i64 r.n.z] : List Value)) (fw2 : o + 2 + 3 ≤ rs0.length) (fv5 : (rs0.drop (o + 5)).take 3 = ([.int .i64 r.t.x,.int .i64 r.t.y,.int .i64 r.t.z] : List Value)) (fw5 : o + 5 + 3 ≤ rs0.length) (fv8 : (rs0.drop (o + 8)).take 3 = ([.int .i64 r.u.x,.int .i64 r.u.y,.int .i64 r.u.z] : List Value)) (fw8 : o + 8 + 3 ≤ rs0.length)
    (gro : (rs1.drop o).take 25 = ([.int .i64 (ka : Int),.int .i64 (kb : Int),.int .i64 r.n.x,.int .i64 r.n.y,.int .i64 r.n.z,.int .i64 r.t.x,.int .i64 r.t.y,.int .i64 r.t.z,.int .i64 r.u.x,.int .i64 r.u.y,.int .i64 r.u.z,.int .i64 r.ra.x,.int .i64 r.ra.y,.int .i64 r.ra.z,.int .i64 r.rb.x,.int .i64 r.rb.y,.int .i64 r.rb.z,.int .i64 r.mn,.int .i64 r.mt,.int .i64 r.mu,.int .i64 r.aim,.int .i64 r.rub,.int .i64 r.pn,.int .i64 x,.int .i64 y] : List Value)) (grl : o + 25 ≤ rs1.length) (g17 : rs1[o + 17]? = some (.int .i64 r.mn)) (g18 : rs1[o + 18]? = some (.int .i64 r.mt)) (g19 : rs1[o + 19]? = some (.int .i64 r.mu)) (g20 : rs1[o + 20]? = some (.int .i64 r.aim)) (g22 : rs1[o + 22]? = some (.int .i64 r.pn)) (g23 : rs1[o + 23]? = some (.int .i64 x)) (g24 : rs1[o + 24]? = some (.int .i64 y)) (gv2 : (rs1.drop (o + 2)).take 3 = ([.int .i64 r.n.x,.int .i64 r.n.y,.int .i64 r.n.z] : List Value)) (gw2 : o + 2 + 3 ≤ rs1.length) (gv5 : (rs1.drop (o + 5)).take 3 = ([.int .i64 r.t.x,.int .i64 r.t.y,.int .i64 r.t.z] : List Value)) (gw5 : o + 5 + 3 ≤ rs1.length) (gv8 : (rs1.drop (o + 8)).take 3 = ([.int .i64 r.u.x,.int .i64 r.u.y,.int .i64 r.u.z] : List Value)) (gw8 : o + 8 + 3 ≤ rs1.length)
    (set1 : rs1.take (o + 22) ++ ([.int .i64 nn] : List Value) ++ rs1.drop (o + 22 + 1) = rs2) (l1 : o + 22 + 1 ≤ rs1.length)
    (h23 : rs2[o + 23]? = some (.int .i64 x)) (h24 : rs2[o + 24]? = some (.int .i64 y))
    (hmx : ∀ w,(Builtin.max_ #[22,22] 22 #[.int .i64 a3,.int .i64 0]).run Tryz.prog w = .ok (.int .i64 nn) w)
    (SP1 : Hid (∀ (w : World) (ts tb : TypeId) (ys yb : Nat × Nat),w.heap[gs]? = some (.cells ([.slice (some ⟨gb,0,none⟩) nb cb,sr] : List Value).toArray ts ys) → w.heap[gb]? = some (.cells cs0.toArray tb yb) → Calls Tryz.prog 85 #[.pointer (some ⟨gs,0,none⟩),.agg #[.int .i64 (ka : Int),.int .i64 (kb : Int),.int .i64 r.n.x,.int .i64 r.n.y,.int .i64 r.n.z,.int .i64 r.t.x,.int .i64 r.t.y,.int .i64 r.t.z,.int .i64 r.u.x,.int .i64 r.u.y,.int .i64 r.u.z,.int .i64 r.ra.x,.int .i64 r.ra.y,.int .i64 r.ra.z,.int .i64 r.rb.x,.int .i64 r.rb.y,.int .i64 r.rb.z,.int .i64 r.mn,.int .i64 r.mt,.int .i64 r.mu,.int .i64 r.aim,.int .i64 r.rub,.int .i64 r.pn,.int .i64 r.pt,.int .i64 r.pu]] w (Ret (PV v) w)))
    (D1 : Hid (∀ w,Calls Tryz.prog 76 #[PV v,PV r.t] w (Ret (.int .i64 d1) w))) (M1 : Hid (∀ w,Calls Tryz.prog 45 #[.int .i64 r.mt,.int .i64 d1] w (Ret (.int .i64 f1) w))) (S1 : Hid (∀ w,Calls Tryz.prog 87 #[.int .i64 r.pt,.int .i64 f1] w (Ret (.int .i64 b1) w))) (D2 : Hid (∀ w,Calls Tryz.prog 76 #[PV v,PV r.u] w (Ret (.int .i64 d2) w))) (M2 : Hid (∀ w,Calls Tryz.prog 45 #[.int .i64 r.mu,.int .i64 d2] w (Ret (.int .i64 f2) w))) (S2 : Hid (∀ w,Calls Tryz.prog 87 #[.int .i64 r.pu,.int .i64 f2] w (Ret (.int .i64 b2) w)))
    (SL1 : Hid (∀ (R : List Bk) (w : World),Hp X w0 (⟨gs,68,[.slice (some ⟨gb,0,none⟩) nb cb,sr]⟩ :: ⟨gb,29,cs0⟩ :: ⟨gr,63,rs0⟩ :: R) w → Calls Tryz.prog 86 #[.pointer (some ⟨gs,0,none⟩),.pointer (some ⟨gr,o,none⟩),.int .i64 b1,.int .i64 b2] w (fun e w1 => e = .returned (.tuple #[]) ∧ Hp X w0 (⟨gs,68,[.slice (some ⟨gb,0,none⟩) nb cb,sr]⟩ :: ⟨gb,29,cs1⟩ :: ⟨gr,63,rs1⟩ :: R) w1)))
    (SP2 : Hid (∀ (w : World) (ts tb : TypeId) (ys yb : Nat × Nat),w.heap[gs]? = some (.cells ([.slice (some ⟨gb,0,none⟩) nb cb,sr] : List Value).toArray ts ys) → w.heap[gb]? = some (.cells cs1.toArray tb yb) → Calls Tryz.prog 85 #[.pointer (some ⟨gs,0,none⟩),.agg #[.int .i64 (ka : Int),.int .i64 (kb : Int),.int .i64 r.n.x,.int .i64 r.n.y,.int .i64 r.n.z,.int .i64 r.t.x,.int .i64 r.t.y,.int .i64 r.t.z,.int .i64 r.u.x,.int .i64 r.u.y,.int .i64 r.u.z,.int .i64 r.ra.x,.int .i64 r.ra.y,.int .i64 r.ra.z,.int .i64 r.rb.x,.int .i64 r.rb.y,.int .i64 r.rb.z,.int .i64 r.mn,.int .i64 r.mt,.int .i64 r.mu,.int .i64 r.aim,.int .i64 r.rub,.int .i64 r.pn,.int .i64 x,.int .i64 y]] w (Ret (PV v2) w)))
    (D3 : Hid (∀ w,Calls Tryz.prog 76 #[PV v2,PV r.n] w (Ret (.int .i64 d3) w))) (S3 : Hid (∀ w,Calls Tryz.prog 87 #[.int .i64 r.aim,.int .i64 d3] w (Ret (.int .i64 e3) w))) (M3 : Hid (∀ w,Calls Tryz.prog 45 #[.int .i64 r.mn,.int .i64 e3] w (Ret (.int .i64 f3) w))) (A3 : Hid (∀ w,Calls Tryz.prog 74 #[.int .i64 r.pn,.int .i64 f3] w (Ret (.int .i64 a3) w))) (S4 : Hid (∀ w,Calls Tryz.prog 87 #[.int .i64 nn,.int .i64 r.pn] w (Ret (.int .i64 dn) w)))
    (PU : Hid (∀ (R : List Bk) (w : World),Hp X w0 (⟨gs,68,[.slice (some ⟨gb,0,none⟩) nb cb,sr]⟩ :: ⟨gb,29,cs1⟩ :: R) w → Calls Tryz.prog 84 #[.pointer (some ⟨gs,0,none⟩),.agg #[.int .i64 (ka : Int),.int .i64 (kb : Int),.int .i64 r.n.x,.int .i64 r.n.y,.int .i64 r.n.z,.int .i64 r.t.x,.int .i64 r.t.y,.int .i64 r.t.z,.int .i64 r.u.x,.int .i64 r.u.y,.int .i64 r.u.z,.int .i64 r.ra.x,.int .i64 r.ra.y,.int .i64 r.ra.z,.int .i64 r.rb.x,.int .i64 r.rb.y,.int .i64 r.rb.z,.int .i64 r.mn,.int .i64 r.mt,.int .i64 r.mu,.int .i64 r.aim,.int .i64 r.rub,.int .i64 r.pn,.int .i64 x,.int .i64 y],.int .i64 dn,.int .i64 0,.int .i64 0] w (fun e w1 => e = .returned (.tuple #[]) ∧ Hp X w0 (⟨gs,68,[.slice (some ⟨gb,0,none⟩) nb cb,sr]⟩ :: ⟨gb,29,cs2⟩ :: R) w1)))
    (SL2 : Hid (∀ (R : List Bk) (w : World),Hp X w0 (⟨gs,68,[.slice (some ⟨gb,0,none⟩) nb cb,sr]⟩ :: ⟨gb,29,cs2⟩ :: ⟨gr,63,rs2⟩ :: R) w → Calls Tryz.prog 86 #[.pointer (some ⟨gs,0,none⟩),.pointer (some ⟨gr,o,none⟩),.int .i64 x,.int .i64 y] w (fun e w1 => e = .returned (.tuple #[]) ∧ Hp X w0 (⟨gs,68,[.slice (some ⟨gb,0,none⟩) nb cb,sr]⟩ :: ⟨gb,29,cs3⟩ :: ⟨gr,63,rs3⟩ :: R) w1)))
    (w : World) (hst : Hp X w0 (⟨gs,68,[.slice (some ⟨gb,0,none⟩) nb cb,sr]⟩ :: ⟨gb,29,cs0⟩ :: ⟨gr,63,rs0⟩ :: R) w) :
    Calls Tryz.prog 42 #[.pointer (some ⟨gs,0,none⟩),.pointer (some ⟨gr,o,none⟩)] w (fun e w1 => e = .returned (.tuple #[]) ∧ Hp X w0 (⟨gs,68,[.slice (some ⟨gb,0,none⟩) nb cb,sr]⟩ :: ⟨gb,29,cs3⟩ :: ⟨gr,63,rs3⟩ :: R) w1) := by
  have hst' := Lib.hid hst
  clear hst
  go_enter Tryz.func42,Tryz.ntmps42
  have hp := Hp.start [] w
  clear hp
  have hp := hst'.out
  clear hst'
  go_upto_region 1 with (first | ((with_reducible apply Qag hp);exact ii;exact rfl;clear hp;(try clear w1);intro g w1 hp;simp only [zp,zq,z0,z1]) | ((with_reducible apply Qaa hp);exact zt rfl;exact ii;exact ii;(first | exact zl rfl | assumption | exact Qad (by omega));(first | assumption | (with_reducible exact Qab (by omega)) | (simp only [n0,Nat.reduceAdd,n1,n2,n3,n4,n5,n6,n7,n8,n9];try rfl));simp only [zp,zq,z0,z1]) | ((with_reducible apply Qac hp);exact zt rfl;exact ii;exact ii;(first | exact zio rfl | exact Qae (by omega) | assumption);simp only [zp,zq,z0,z1]) | ((with_reducible apply Qah hp);exact zt rfl;(first | exact za rfl | exact zi rfl);exact rfl;exact Sz.z;exact rfl;exact ii;(first | assumption | (with_reducible exact Qab (by omega)) | (simp only [n0,Nat.reduceAdd,n1,n2,n3,n4,n5,n6,n7,n8,n9];try rfl));(first | exact zl rfl | assumption | exact Qad (by omega));exact rfl;exact ii;clear hp;(try clear w1);intro w1 hp) | ((with_reducible apply Qam hp);exact zt rfl;assumption;exact ii;assumption;(first | exact zl rfl | omega);simp only [zp,zq,z0,z1]) | ((with_reducible apply Qai hp);exact zt rfl;assumption;exact ii;(first | assumption | (first | exact zio rfl | exact Qae (by omega) | assumption));simp only [zp,zq,z0,z1]) | ((with_reducible refine Qak hp (SP1.out _ _ _ _ _ hp.blk hp.blk) ?_);clear hp;(try clear w1);intro w1 hp))
  replace hp := hp.perm pm4
  have hq := hp
  refine Qcq hp hq [34] (.q 0 (.q 1 (.q 2 (.q 3 (.q 4 (.q 5 (.q 6 (.q 7 (.q 8 (.q 9 (.q 10 (.q 11 (.q 12 (.q 13 (.q 14 (.q 18 (.q 19 (.q 20 (.q 21 (.q 22 (.q 23 (.q 24 (.q 25 (.q 26 (.q 27 (.q 28 (.q 29 (.q 30 (.l 15 (.l 16 (.l 17 (.l 31 (.l 32 (.l 33 (.l 34 .nil))))))))))))))))))))))))))))))))))) (by kernel_rfl) (by kernel_rfl) ?_
  clear hp hq;(try clear w1);intro w1 hp hq
  repeat' (first | (((with_reducible apply sd_q);exact zo rfl);(first | ((with_reducible apply Qas hp);exact rfl;exact zt rfl;exact ii;exact ii;(first | exact zl rfl | assumption | exact Qad (by omega));(first | assumption | (with_reducible exact Qab (by omega)) | (simp only [n0,Nat.reduceAdd,n1,n2,n3,n4,n5,n6,n7,n8,n9];try rfl));simp only [zp,zq,z0,z1]) | ((with_reducible apply Qbw hp);exact rfl;exact zt rfl;assumption;exact ii;assumption;(first | exact zl rfl | omega);simp only [zp,zq,z0,z1]) | ((with_reducible apply Qaw hp);exact rfl;exact zt rfl;exact ii;exact ii;(first | exact zio rfl | exact Qae (by omega) | assumption);simp only [zp,zq,z0,z1]) | ((with_reducible apply Qbr hp);exact rfl;exact zt rfl;assumption;exact ii;(first | assumption | (first | exact zio rfl | exact Qae (by omega) | assumption));simp only [zp,zq,z0,z1]) | ((with_reducible apply Qbh hp);exact zr rfl;simp only [zp,zq,z0,z1]) | ((with_reducible apply Qav hp);exact rfl;(focus (intro _;go_simp;(try go_ints);try with_reducible rfl));simp only [zp,zq,z0,z1]))) | (((with_reducible apply sd_l);exact zo rfl);(first | ((with_reducible apply Qbf hp);exact rfl;(focus (intro _;go_simp;try first | with_reducible rfl | exact ⟨rfl,rfl⟩));(with_reducible first | exact fun w => D1.out w | exact fun w => M1.out w | exact fun w => S1.out w | exact fun w => D2.out w | exact fun w => M2.out w | exact fun w => S2.out w);exact hq;clear hp hq;(try clear w1);intro w1 hp hq;simp only [zp,zq,z0,z1]) | ((with_reducible apply Qej);exact rfl;exact rfl;(focus (intro _;go_simp;try first | with_reducible rfl | exact ⟨rfl,rfl⟩));(with_reducible exact SL1.out _ _ hq);clear hp hq;(try clear w1);intro w1 hq;have hp := True.intro;simp only [zp,zq,z0,z1]))) | ((with_reducible apply Qba);clear hp;have hp := hq;clear hq))
  go_upto_region 2 with fail
  have hq := hp
  refine Qaq hp hq [] (.q 0 (.q 1 (.q 2 (.q 3 (.q 4 (.q 5 (.q 6 (.q 7 (.q 8 (.q 9 (.q 10 (.q 11 (.q 12 (.q 13 (.q 14 (.q 15 (.q 17 (.q 18 (.q 19 (.q 20 (.l 16 (.l 21 (.l 22 (.l 23 (.l 24 (.q 25 (.q 26 .nil))))))))))))))))))))))))))) (by kernel_rfl) (by kernel_rfl) ?_
  clear hp hq;(try clear w1);intro w1 hp hq
  repeat' (first | (((with_reducible apply sd_q);exact zo rfl);(first | ((with_reducible apply Qas hp);exact rfl;exact zt rfl;exact ii;exact ii;(first | exact zl rfl | assumption | exact Qad (by omega));(first | assumption | (with_reducible exact Qab (by omega)) | (simp only [n0,Nat.reduceAdd,n1,n2,n3,n4,n5,n6,n7,n8,n9];try rfl));simp only [zp,zq,z0,z1]) | ((with_reducible apply Qbw hp);exact rfl;exact zt rfl;assumption;exact ii;assumption;(first | exact zl rfl | omega);simp only [zp,zq,z0,z1]) | ((with_reducible apply Qaw hp);exact rfl;exact zt rfl;exact ii;exact ii;(first | exact zio rfl | exact Qae (by omega) | assumption);simp only [zp,zq,z0,z1]) | ((with_reducible apply Qbr hp);exact rfl;exact zt rfl;assumption;exact ii;(first | assumption | (first | exact zio rfl | exact Qae (by omega) | assumption));simp only [zp,zq,z0,z1]) | ((with_reducible apply Qbh hp);exact zr rfl;simp only [zp,zq,z0,z1]) | ((with_reducible apply Qbo hp);exact zi rfl;simp only [zp,zq,z0,z1]) | ((with_reducible apply Qav hp);exact rfl;(focus (intro _;go_simp;(try go_ints);try with_reducible rfl));simp only [zp,zq,z0,z1]))) | (((with_reducible apply sd_l);exact zo rfl);(first | ((with_reducible apply Qbf hp);exact rfl;(focus (intro _;go_simp;try first | with_reducible rfl | exact ⟨rfl,rfl⟩));(with_reducible first | exact fun w => D3.out w | exact fun w => S3.out w | exact fun w => M3.out w | exact fun w => A3.out w);exact hq;clear hp hq;(try clear w1);intro w1 hp hq;simp only [zp,zq,z0,z1]) | ((with_reducible apply Qdh hp);exact rfl;(focus (intro _;go_simp;try first | with_reducible rfl | exact ⟨rfl,rfl⟩));(with_reducible exact SP2.out _ _ _ _ _ hq.blk hq.blk);exact hq;clear hp hq;(try clear w1);intro w1 hp hq;simp only [zp,zq,z0,z1]))) | ((with_reducible apply Qba);clear hp;have hp := hq;clear hq))
  go_upto_region 3 with fail
  have hq := hp
  refine Qcq hp hq [10] (.q 0 (.q 1 (.q 2 (.q 3 (.q 4 (.q 5 (.q 6 (.q 7 (.q 8 (.l 9 (.l 10 .nil))))))))))) (by kernel_rfl) (by kernel_rfl) ?_
  clear hp hq;(try clear w1);intro w1 hp hq
  repeat' (first | (((with_reducible apply sd_q);exact zo rfl);(first | ((with_reducible apply Qas hp);exact rfl;exact zt rfl;exact ii;exact ii;(first | exact zl rfl | assumption | exact Qad (by omega));(first | assumption | (with_reducible exact Qab (by omega)) | (simp only [n0,Nat.reduceAdd,n1,n2,n3,n4,n5,n6,n7,n8,n9];try rfl));simp only [zp,zq,z0,z1]) | ((with_reducible apply Qbw hp);exact rfl;exact zt rfl;assumption;exact ii;assumption;(first | exact zl rfl | omega);simp only [zp,zq,z0,z1]) | ((with_reducible apply Qaw hp);exact rfl;exact zt rfl;exact ii;exact ii;(first | exact zio rfl | exact Qae (by omega) | assumption);simp only [zp,zq,z0,z1]) | ((with_reducible apply Qbr hp);exact rfl;exact zt rfl;assumption;exact ii;(first | assumption | (first | exact zio rfl | exact Qae (by omega) | assumption));simp only [zp,zq,z0,z1]) | ((with_reducible apply Qbh hp);(first | exact zi rfl | exact zr rfl);simp only [zp,zq,z0,z1]) | ((with_reducible apply Qav hp);exact rfl;(focus (intro _;go_simp;(try go_ints);try with_reducible rfl));simp only [zp,zq,z0,z1]))) | (((with_reducible apply sd_l);exact zo rfl);(first | ((with_reducible apply Qbf hp);exact rfl;(focus (intro _;go_simp;try first | with_reducible rfl | exact ⟨rfl,rfl⟩));(with_reducible exact fun w => S4.out w);exact hq;clear hp hq;(try clear w1);intro w1 hp hq;simp only [zp,zq,z0,z1]) | ((with_reducible apply Qej);exact rfl;exact rfl;(focus (intro _;go_simp;try first | with_reducible rfl | exact ⟨rfl,rfl⟩));(with_reducible exact PU.out _ _ hq);clear hp hq;(try clear w1);intro w1 hq;have hp := True.intro;simp only [zp,zq,z0,z1]))) | ((with_reducible apply Qba);clear hp;have hp := hq;clear hq))
  go_upto_region 4 with fail
  go_upto_region 5 with (first | ((with_reducible apply Qag hp);exact ii;exact rfl;clear hp;(try clear w1);intro g w1 hp;simp only [zp,zq,z0,z1]) | ((with_reducible apply Qaa hp);exact zt rfl;exact ii;exact ii;(first | exact zl rfl | assumption | exact Qad (by omega));(first | assumption | (with_reducible exact Qab (by omega)) | (simp only [n0,Nat.reduceAdd,n1,n2,n3,n4,n5,n6,n7,n8,n9];try rfl));simp only [zp,zq,z0,z1]) | ((with_reducible apply Qac hp);exact zt rfl;exact ii;exact ii;(first | exact zio rfl | exact Qae (by omega) | assumption);simp only [zp,zq,z0,z1]) | ((with_reducible apply Qah hp);exact zt rfl;(first | exact za rfl | exact zi rfl);exact rfl;exact Sz.z;exact rfl;exact ii;(first | assumption | (with_reducible exact Qab (by omega)) | (simp only [n0,Nat.reduceAdd,n1,n2,n3,n4,n5,n6,n7,n8,n9];try rfl));(first | exact zl rfl | assumption | exact Qad (by omega));exact rfl;exact ii;clear hp;(try clear w1);intro w1 hp) | ((with_reducible apply Qam hp);exact zt rfl;assumption;exact ii;assumption;(first | exact zl rfl | omega);simp only [zp,zq,z0,z1]) | ((with_reducible apply Qai hp);exact zt rfl;assumption;exact ii;(first | assumption | (first | exact zio rfl | exact Qae (by omega) | assumption));simp only [zp,zq,z0,z1]))
  have hq := hp
  refine Qcq hp hq [10] (.q 0 (.q 1 (.q 2 (.q 3 (.q 4 (.q 5 (.q 6 (.q 7 (.q 8 (.q 9 (.l 10 .nil))))))))))) (by kernel_rfl) (by kernel_rfl) ?_
  clear hp hq;(try clear w1);intro w1 hp hq
  repeat' (first | (((with_reducible apply sd_q);exact zo rfl);(first | ((with_reducible apply Qaw hp);exact rfl;exact zt rfl;exact ii;exact ii;(first | exact zio rfl | exact Qae (by omega) | assumption);simp only [zp,zq,z0,z1]) | ((with_reducible apply Qbr hp);exact rfl;exact zt rfl;assumption;exact ii;(first | assumption | (first | exact zio rfl | exact Qae (by omega) | assumption));simp only [zp,zq,z0,z1]) | ((with_reducible apply Qbh hp);exact zr rfl;simp only [zp,zq,z0,z1]) | ((with_reducible apply Qav hp);exact rfl;(focus (intro _;go_simp;(try go_ints);try with_reducible rfl));simp only [zp,zq,z0,z1]))) | (((with_reducible apply sd_l);exact zo rfl);((with_reducible apply Qej);exact rfl;exact rfl;(focus (intro _;go_simp;try first | with_reducible rfl | exact ⟨rfl,rfl⟩));(with_reducible exact SL2.out _ _ hq);clear hp hq;(try clear w1);intro w1 hq;have hp := True.intro;simp only [zp,zq,z0,z1])) | ((with_reducible apply Qba);clear hp;have hp := hq;clear hq))
  go_wp2
  exact bodyPost_end (results_none rfl _ _ _) rfl ⟨rfl,hp.sub (.cons_cons _ (.cons_cons _ (.cons_cons _ (.cons _ (List.Sublist.refl _)))))⟩
set_option maxHeartbeats 4000000 in
theorem warm_core (gs gb nb cb gr o : Nat) (sr : Value) (R : List Bk) (ka kb : Nat) (r : Rw) (cs0 cs1 rs : List Value)
    (fro : (rs.drop o).take 25 = ([.int .i64 (ka : Int),.int .i64 (kb : Int),.int .i64 r.n.x,.int .i64 r.n.y,.int .i64 r.n.z,.int .i64 r.t.x,.int .i64 r.t.y,.int .i64 r.t.z,.int .i64 r.u.x,.int .i64 r.u.y,.int .i64 r.u.z,.int .i64 r.ra.x,.int .i64 r.ra.y,.int .i64 r.ra.z,.int .i64 r.rb.x,.int .i64 r.rb.y,.int .i64 r.rb.z,.int .i64 r.mn,.int .i64 r.mt,.int .i64 r.mu,.int .i64 r.aim,.int .i64 r.rub,.int .i64 r.pn,.int .i64 r.pt,.int .i64 r.pu] : List Value)) (frl : o + 25 ≤ rs.length) (f22 : rs[o + 22]? = some (.int .i64 r.pn)) (f23 : rs[o + 23]? = some (.int .i64 r.pt)) (f24 : rs[o + 24]? = some (.int .i64 r.pu))
    (PU : Hid (∀ (R : List Bk) (w : World),Hp X w0 (⟨gs,68,[.slice (some ⟨gb,0,none⟩) nb cb,sr]⟩ :: ⟨gb,29,cs0⟩ :: R) w → Calls Tryz.prog 84 #[.pointer (some ⟨gs,0,none⟩),.agg #[.int .i64 (ka : Int),.int .i64 (kb : Int),.int .i64 r.n.x,.int .i64 r.n.y,.int .i64 r.n.z,.int .i64 r.t.x,.int .i64 r.t.y,.int .i64 r.t.z,.int .i64 r.u.x,.int .i64 r.u.y,.int .i64 r.u.z,.int .i64 r.ra.x,.int .i64 r.ra.y,.int .i64 r.ra.z,.int .i64 r.rb.x,.int .i64 r.rb.y,.int .i64 r.rb.z,.int .i64 r.mn,.int .i64 r.mt,.int .i64 r.mu,.int .i64 r.aim,.int .i64 r.rub,.int .i64 r.pn,.int .i64 r.pt,.int .i64 r.pu],.int .i64 r.pn,.int .i64 r.pt,.int .i64 r.pu] w (fun e w1 => e = .returned (.tuple #[]) ∧ Hp X w0 (⟨gs,68,[.slice (some ⟨gb,0,none⟩) nb cb,sr]⟩ :: ⟨gb,29,cs1⟩ :: R) w1)))
    (w : World) (hst : Hp X w0 (⟨gs,68,[.slice (some ⟨gb,0,none⟩) nb cb,sr]⟩ :: ⟨gb,29,cs0⟩ :: ⟨gr,63,rs⟩ :: R) w) :
    Calls Tryz.prog 41 #[.pointer (some ⟨gs,0,none⟩),.pointer (some ⟨gr,o,none⟩)] w (fun e w1 => e = .returned (.tuple #[]) ∧ Hp X w0 (⟨gs,68,[.slice (some ⟨gb,0,none⟩) nb cb,sr]⟩ :: ⟨gb,29,cs1⟩ :: ⟨gr,63,rs⟩ :: R) w1) := by
  have hst' := Lib.hid hst
  clear hst
  go_enter Tryz.func41,Tryz.ntmps41
  have hp := Hp.start [] w
  clear hp
  have hp := hst'.out
  clear hst'
  have hq := hp
  refine Qcq hp hq [16] (.q 0 (.q 1 (.q 2 (.q 3 (.q 4 (.q 5 (.q 6 (.q 7 (.q 8 (.q 9 (.q 10 (.q 11 (.q 12 (.q 13 (.q 14 (.q 15 (.l 16 .nil))))))))))))))))) (by kernel_rfl) (by kernel_rfl) ?_
  clear hp hq;(try clear w1);intro w1 hp hq
  repeat' (first | (((with_reducible apply sd_q);exact zo rfl);(first | ((with_reducible apply Qas hp);exact rfl;exact zt rfl;exact ii;exact ii;(first | exact zl rfl | assumption | exact Qad (by omega));(first | assumption | (with_reducible exact Qab (by omega)) | (simp only [n0,Nat.reduceAdd,n1,n2,n3,n4,n5,n6,n7,n8,n9];try rfl));simp only [zp,zq,z0,z1]) | ((with_reducible apply Qbw hp);exact rfl;exact zt rfl;assumption;exact ii;assumption;(first | exact zl rfl | omega);simp only [zp,zq,z0,z1]) | ((with_reducible apply Qaw hp);exact rfl;exact zt rfl;exact ii;exact ii;(first | exact zio rfl | exact Qae (by omega) | assumption);simp only [zp,zq,z0,z1]) | ((with_reducible apply Qbr hp);exact rfl;exact zt rfl;assumption;exact ii;(first | assumption | (first | exact zio rfl | exact Qae (by omega) | assumption));simp only [zp,zq,z0,z1]) | ((with_reducible apply Qbh hp);exact zr rfl;simp only [zp,zq,z0,z1]) | ((with_reducible apply Qav hp);exact rfl;(focus (intro _;go_simp;(try go_ints);try with_reducible rfl));simp only [zp,zq,z0,z1]))) | (((with_reducible apply sd_l);exact zo rfl);((with_reducible apply Qej);exact rfl;exact rfl;(focus (intro _;go_simp;try first | with_reducible rfl | exact ⟨rfl,rfl⟩));(with_reducible exact PU.out _ _ hq);clear hp hq;(try clear w1);intro w1 hq;have hp := True.intro;simp only [zp,zq,z0,z1])) | ((with_reducible apply Qba);clear hp;have hp := hq;clear hq))
  go_wp2
  exact bodyPost_end (results_none rfl _ _ _) rfl ⟨rfl,hp⟩
end
end Go.Proofs.YtblffafmkpnjdaaGreat
set_option linter.unusedSimpArgs false
set_option linter.unusedVariables false
set_option maxRecDepth 100000
namespace Go.Proofs.YtblffafmkpnjdaaGreat
open Go Go.RowKit
section
variable {α : Type} (f : α → List Value) (m : Nat)
theorem Qff (hf : ∀ x,(f x).length = m) (L : List α) : (L.flatMap f).length = L.length * m := by
  induction L with
  | nil => simp
  | cons x L ih => rw [List.flatMap_cons,List.length_append,hf,ih,List.length_cons,Nat.succ_mul];omega
/-- The cells, parted at one element. -/
theorem Qml (hf : ∀ x,(f x).length = m) (L : List α) (k : Nat) (h : k < L.length) (j : List Value) : ∃ pre post,pre.length = k * m ∧ L.flatMap f ++ j = pre ++ (f L[k] ++ post) ∧ ∀ x,(L.set k x).flatMap f ++ j = pre ++ (f x ++ post) := by
  refine ⟨(L.take k).flatMap f,(L.drop (k + 1)).flatMap f ++ j,by rw [Qff f m hf,List.length_take,Nat.min_eq_left (by omega)],?_,fun x => ?_⟩
  · have e : L = L.take k ++ (L[k] :: L.drop (k + 1)) := by rw [List.getElem_cons_drop];exact (List.take_append_drop k L).symm
    conv => lhs;rw [e]
    rw [List.flatMap_append,List.flatMap_cons]
    simp [List.append_assoc]
  · rw [List.set_eq_take_append_cons_drop,if_pos h,List.flatMap_append,List.flatMap_cons]
    simp [List.append_assoc]
end
theorem pre_drop {pre mid post : List Value} {o n : Nat} (h : pre.length = o) (hm : mid.length = n) : ((pre ++ (mid ++ post)).drop o).take n = mid := by
  subst h hm
  rw [List.drop_left,List.take_left]
theorem pre_sub {pre mid post vs : List Value} {o i n : Nat} (h : pre.length = o) (hv : (mid.drop i).take n = vs) (hn : i + n ≤ mid.length) : ((pre ++ (mid ++ post)).drop (o + i)).take n = vs := by
  subst h
  rw [← List.drop_drop,List.drop_left,List.drop_append_of_le_length (by omega),List.take_append_of_le_length (by rw [List.length_drop];omega)]
  exact hv
theorem pre_get {pre mid post : List Value} {o i : Nat} {v : Value} (h : pre.length = o) (hv : mid[i]? = some v) : (pre ++ (mid ++ post))[o + i]? = some v := by
  subst h
  have hi : i < mid.length := by
    by_cases h : i < mid.length
    · exact h
    · rw [List.getElem?_eq_none (by omega)] at hv;cases hv
  rw [List.getElem?_append_right (by omega),Nat.add_sub_cancel_left,List.getElem?_append_left hi]
  exact hv
theorem pre_put {pre mid post vs : List Value} {o n : Nat} (h : pre.length = o) (hm : mid.length = n) : (pre ++ (mid ++ post)).take o ++ vs ++ (pre ++ (mid ++ post)).drop (o + n) = pre ++ (vs ++ post) := by
  subst h hm
  rw [List.take_left,← List.drop_drop,List.drop_left,List.drop_left,List.append_assoc]
theorem pre_one {pre mid post : List Value} {o i : Nat} {v : Value} (h : pre.length = o) (hi : i < mid.length) : (pre ++ (mid ++ post)).take (o + i) ++ [v] ++ (pre ++ (mid ++ post)).drop (o + i + 1) = pre ++ (mid.set i v ++ post) := by
  subst h
  rw [List.take_length_add_append,List.take_append_of_le_length (by omega),show pre.length + i + 1 = pre.length + (i + 1) by omega,← List.drop_drop,List.drop_left,List.drop_append_of_le_length (by omega)]
  rw [List.set_eq_take_append_cons_drop,if_pos hi]
  simp [List.append_assoc]
def NVl (b : Inr) : List Value := [.int .i64 b.m,.int .i64 b.p.x,.int .i64 b.p.y,.int .i64 b.p.z,.int .i64 b.q.x,.int .i64 b.q.y,.int .i64 b.q.z,.int .i64 b.r.x,.int .i64 b.r.y,.int .i64 b.r.z,.int .i64 b.v.x,.int .i64 b.v.y,.int .i64 b.v.z,.int .i64 b.s.x,.int .i64 b.s.y,.int .i64 b.s.z]
def RVl (r : Rw) : List Value := [.int .i64 r.a,.int .i64 r.b,.int .i64 r.n.x,.int .i64 r.n.y,.int .i64 r.n.z,.int .i64 r.t.x,.int .i64 r.t.y,.int .i64 r.t.z,.int .i64 r.u.x,.int .i64 r.u.y,.int .i64 r.u.z,.int .i64 r.ra.x,.int .i64 r.ra.y,.int .i64 r.ra.z,.int .i64 r.rb.x,.int .i64 r.rb.y,.int .i64 r.rb.z,.int .i64 r.mn,.int .i64 r.mt,.int .i64 r.mu,.int .i64 r.aim,.int .i64 r.rub,.int .i64 r.pn,.int .i64 r.pt,.int .i64 r.pu]
theorem Qcc (b : Inr) : (NVl b).length = 16 := rfl
theorem Qbx (r : Rw) : (RVl r).length = 25 := rfl
def bl (L : List Inr) : List Value := L.flatMap NVl
def rl (L : List Rw) : List Value := L.flatMap RVl
theorem bl_split (L : List Inr) (k : Nat) (h : k < L.length) (j : List Value) : ∃ pre post,pre.length = k * 16 ∧ bl L ++ j = pre ++ (NVl L[k] ++ post) ∧ ∀ x,bl (L.set k x) ++ j = pre ++ (NVl x ++ post) := Qml NVl 16 Qcc L k h j
theorem rl_split (L : List Rw) (k : Nat) (h : k < L.length) (j : List Value) : ∃ pre post,pre.length = k * 25 ∧ rl L ++ j = pre ++ (RVl L[k] ++ post) ∧ ∀ x,rl (L.set k x) ++ j = pre ++ (RVl x ++ post) := Qml RVl 25 Qbx L k h j
theorem Qim (L : List Inr) (k : Nat) (h : k < L.length) (j : List Value) : ((bl L ++ j).drop (k * 16)).take 16 = NVl L[k] ∧ k * 16 + 16 ≤ (bl L ++ j).length ∧ ∀ x,(bl L ++ j).take (k * 16) ++ NVl x ++ (bl L ++ j).drop (k * 16 + 16) = bl (L.set k x) ++ j := by
  obtain ⟨pre,post,h1,h2,h3⟩ := bl_split L k h j
  rw [h2]
  refine ⟨pre_drop h1 rfl,?_,fun x => by rw [h3];exact pre_put h1 rfl⟩
  rw [List.length_append,List.length_append,Qcc]
  omega
/-! ### The model -/
def Rw.i64f (r : Rw) : Prop := (I64 r.a ∧ I64 r.b ∧ r.n.i64 ∧ r.t.i64 ∧ r.u.i64 ∧ r.ra.i64 ∧ r.rb.i64) ∧ (I64 r.mn ∧ I64 r.mt ∧ I64 r.mu ∧ I64 r.aim ∧ I64 r.rub ∧ I64 r.pn ∧ I64 r.pt ∧ I64 r.pu)
def zI : Inr := ⟨0,⟨0,0,0⟩,⟨0,0,0⟩,⟨0,0,0⟩,⟨0,0,0⟩,⟨0,0,0⟩⟩
def ik (n : Int) : Nat := n.toNat
/-- What a row pushes with. -/
def Rw.force (r : Rw) (n t u : Int) : P3 := ((r.n.cscale n).cadd (r.t.cscale t)).cadd (r.u.cscale u)
def Qfu (L : List Inr) (r : Rw) (n t u : Int) : List Inr :=
  let L1 := L.set (ik r.a) ((L.getD (ik r.a) zI).push r.ra (r.force n t u))
  L1.set (ik r.b) ((L1.getD (ik r.b) zI).push r.rb ((r.force n t u).cscale (-4294967296)))
def Inr.at (b : Inr) (r : P3) : P3 := b.v.cadd (b.s.ccross r)
def Qdu (L : List Inr) (r : Rw) : P3 := ((L.getD (ik r.a) zI).at r.ra).csub ((L.getD (ik r.b) zI).at r.rb)
def Qef (L : List Inr) (r : Rw) (t u : Int) : List Inr × Rw :=
  let c := Qet t u (cl (r.rub * r.pn / 4294967296))
  (Qfu L r 0 (cl (c.1 - r.pt)) (cl (c.2 - r.pu)),{ r with pt := c.1,pu := c.2 })
def max0 (a : Int) : Int := if a < 0 then 0 else a
def Qdd (L : List Inr) (r : Rw) : List Inr × Rw :=
  let v := Qdu L r
  let s := Qef L r (cl (r.pt - cl (r.mt * v.cdot r.t / 4294967296))) (cl (r.pu - cl (r.mu * v.cdot r.u / 4294967296)))
  let w := Qdu s.1 s.2
  let n := max0 (cl (r.pn + cl (r.mn * cl (r.aim - w.cdot r.n) / 4294967296)))
  Qef (Qfu s.1 s.2 (cl (n - r.pn)) 0 0) { s.2 with pn := n } s.2.pt s.2.pu
/-- A row names two bodies. -/
def Rw.names (r : Rw) (n : Nat) : Prop := 0 ≤ r.a ∧ r.a < n ∧ 0 ≤ r.b ∧ r.b < n
theorem Qee (L : List Inr) (r : Rw) (n t u : Int) : (Qfu L r n t u).length = L.length := by simp [Qfu]
theorem Qfn (L : List Inr) (r : Rw) (t u : Int) : (Qef L r t u).1.length = L.length := by simp [Qef,Qee]
theorem Qoj (L : List Inr) (r : Rw) : (Qdd L r).1.length = L.length := by simp [Qdd,Qfn,Qee]
def alli (L : List Inr) : Prop := ∀ b ∈ L,b.i64
theorem zI_i64 : zI.i64 := by
  have z : P3.i64 ⟨0,0,0⟩ := p3i4 (by omega)
  exact ⟨by unfold I64 zI;dsimp only;omega,z,z,z,z,z⟩
theorem alli_get {L : List Inr} (h : alli L) (k : Nat) : (L.getD k zI).i64 := by
  rw [List.getD_eq_getElem?_getD]
  cases e : L[k]? with
  | none => exact zI_i64
  | some x => exact h x (List.mem_of_getElem? e)
theorem Qix {L : List Inr} (h : alli L) (k : Nat) {x : Inr} (hx : x.i64) : alli (L.set k x) := fun b hb => by
  rcases List.mem_or_eq_of_mem_set hb with h1 | h1
  · exact h b h1
  · rw [h1];exact hx
theorem Qgk {L : List Inr} (h : alli L) (r : Rw) (n t u : Int) : alli (Qfu L r n t u) := by
  unfold Qfu
  dsimp only
  have h1 := Qix h (ik r.a) (Qja r.ra (r.force n t u) (alli_get h (ik r.a)))
  exact Qix h1 _ (Qja _ _ (alli_get h1 _))
theorem Qnp (r : Rw) (n t u : Int) : (r.force n t u).i64 := Qfw _ _
theorem nar_i64 {a c s : Int} (ha : I64 a) (hc : I64 c) (hs : c * c < s) : I64 (nar a c s) := by
  obtain ⟨h1,h2,_⟩ := nar_bd ha hc hs
  unfold nar I64
  split <;> omega
theorem Qjn {t u c : Int} (ht : I64 t) (hu : I64 u) (hc : I64 c) : I64 (Qet t u c).1 ∧ I64 (Qet t u c).2 := by
  have hd : I64 (if c < 0 then 0 else c) := by
    split
    · unfold I64;omega
    · exact hc
  unfold Qet
  generalize (if c < 0 then 0 else c) = d at *
  split
  · rename_i h
    have hs : d * d < t * t + u * u := of_decide_eq_true h
    exact ⟨nar_i64 ht hd hs,nar_i64 hu hd hs⟩
  · exact ⟨ht,hu⟩
end Go.Proofs.YtblffafmkpnjdaaGreat
set_option linter.unusedSimpArgs false
set_option linter.unusedVariables false
set_option maxRecDepth 100000
namespace Go.Proofs.YtblffafmkpnjdaaGreat
open Go Go.RowKit
theorem Qgn {L : List Inr} {k : Nat} (h : k < L.length) : L.getD k zI = L[k] := by
  rw [List.getD_eq_getElem?_getD,List.getElem?_eq_getElem h];rfl
section
variable {X : List Nat} {w0 : World}
theorem Qhc (gs gb nb cb : Nat) (sr : Value) (R : List Bk) (jb : List Value) (L : List Inr) (hL : alli L) (hnb : nb = L.length) (r : Rw) (hr : r.i64f) (hn : r.names L.length) (n t u : Int) (in' : I64 n) (it : I64 t) (iu : I64 u) (w : World) (hst : Hp X w0 (⟨gs,68,[.slice (some ⟨gb,0,none⟩) nb cb,sr]⟩ :: ⟨gb,29,bl L ++ jb⟩ :: R) w) :
    Calls Tryz.prog 84 #[.pointer (some ⟨gs,0,none⟩),RoV r,.int .i64 n,.int .i64 t,.int .i64 u] w (fun e w1 => e = .returned (.tuple #[]) ∧ Hp X w0 (⟨gs,68,[.slice (some ⟨gb,0,none⟩) nb cb,sr]⟩ :: ⟨gb,29,bl (Qfu L r n t u) ++ jb⟩ :: R) w1) := by
  obtain ⟨a,b,rn,rt',ru,ra,rb,mn,mt,mu,aim,rub,pn,pt,pu⟩ := r
  obtain ⟨h1,h2,h3,h4⟩ := hn
  dsimp only at h1 h2 h3 h4
  obtain ⟨ka,rfl⟩ : ∃ k : Nat,a = k := ⟨a.toNat,by omega⟩
  obtain ⟨kb,rfl⟩ : ∃ k : Nat,b = k := ⟨b.toNat,by omega⟩
  have hka : ka < L.length := by omega
  have hkb : kb < L.length := by omega
  obtain ⟨⟨_,_,i1,i2,i3,i4,i5⟩,_⟩ := hr
  dsimp only at i1 i2 i3 i4 i5
  obtain ⟨g1,g2,g3⟩ := Qim L ka hka jb
  have hf := Qnp ⟨ka,kb,rn,rt',ru,ra,rb,mn,mt,mu,aim,rub,pn,pt,pu⟩ n t u
  have hkb1 : kb < (L.set ka (L[ka].push ra (Rw.force ⟨ka,kb,rn,rt',ru,ra,rb,mn,mt,mu,aim,rub,pn,pt,pu⟩ n t u))).length := by rw [List.length_set];exact hkb
  obtain ⟨k1,k2,k3⟩ := Qim (L.set ka (L[ka].push ra (Rw.force ⟨ka,kb,rn,rt',ru,ra,rb,mn,mt,mu,aim,rub,pn,pt,pu⟩ n t u))) kb hkb1 jb
  have hL1 : alli (L.set ka (L[ka].push ra (Rw.force ⟨ka,kb,rn,rt',ru,ra,rb,mn,mt,mu,aim,rub,pn,pt,pu⟩ n t u))) := Qix hL _ (Qja _ _ (hL _ (List.getElem_mem hka)))
  have e : Qfu L ⟨ka,kb,rn,rt',ru,ra,rb,mn,mt,mu,aim,rub,pn,pt,pu⟩ n t u = (L.set ka (L[ka].push ra (Rw.force ⟨ka,kb,rn,rt',ru,ra,rb,mn,mt,mu,aim,rub,pn,pt,pu⟩ n t u))).set kb ((L.set ka (L[ka].push ra (Rw.force ⟨ka,kb,rn,rt',ru,ra,rb,mn,mt,mu,aim,rub,pn,pt,pu⟩ n t u)))[kb].push rb ((Rw.force ⟨ka,kb,rn,rt',ru,ra,rb,mn,mt,mu,aim,rub,pn,pt,pu⟩ n t u).cscale (-4294967296))) := by
    unfold Qfu ik
    dsimp only
    rw [Int.toNat_natCast,Int.toNat_natCast,Qgn hka,Qgn hkb1]
  rw [e]
  subst hnb
  exact Qpf gs gb _ cb sr R ka kb ⟨ka,kb,rn,rt',ru,ra,rb,mn,mt,mu,aim,rub,pn,pt,pu⟩ n t u _ _ _ _ _ _ _ _ _ _ _ _ _ hka hkb g1 g2 (g3 _) k1 k2 (k3 _)
    (Lib.hid (Qfh rn n i1 in')) (Lib.hid (Qfh rt' t i2 it)) (Lib.hid (Qhk _ _ (Qda _ _) (Qda _ _))) (Lib.hid (Qfh ru u i3 iu)) (Lib.hid (Qhk _ _ (Qfw _ _) (Qda _ _)))
    (Lib.hid (push_any _ ra _ (hL _ (List.getElem_mem hka)) i4 hf)) (Lib.hid (Qfh _ (-4294967296) hf (by unfold I64;omega))) (Lib.hid (push_any _ rb _ (hL1 _ (List.getElem_mem hkb1)) i5 (Qda _ _))) w hst
theorem Qln (gs gb nb cb : Nat) (sr : Value) (jb : List Value) (L : List Inr) (hL : alli L) (hnb : nb = L.length) (r : Rw) (hr : r.i64f) (hn : r.names L.length) (w : World) (ts tb : TypeId) (ys yb : Nat × Nat)
    (hs : w.heap[gs]? = some (.cells ([.slice (some ⟨gb,0,none⟩) nb cb,sr] : List Value).toArray ts ys)) (hb : w.heap[gb]? = some (.cells (bl L ++ jb).toArray tb yb)) :
    Calls Tryz.prog 85 #[.pointer (some ⟨gs,0,none⟩),RoV r] w (Ret (PV (Qdu L r)) w) := by
  obtain ⟨a,b,rn,rt',ru,ra,rb,mn,mt,mu,aim,rub,pn,pt,pu⟩ := r
  obtain ⟨h1,h2,h3,h4⟩ := hn
  dsimp only at h1 h2 h3 h4
  obtain ⟨ka,rfl⟩ : ∃ k : Nat,a = k := ⟨a.toNat,by omega⟩
  obtain ⟨kb,rfl⟩ : ∃ k : Nat,b = k := ⟨b.toNat,by omega⟩
  have hka : ka < L.length := by omega
  have hkb : kb < L.length := by omega
  obtain ⟨⟨_,_,i1,i2,i3,i4,i5⟩,_⟩ := hr
  dsimp only at i1 i2 i3 i4 i5
  obtain ⟨g1,g2,_⟩ := Qim L ka hka jb
  obtain ⟨k1,k2,_⟩ := Qim L kb hkb jb
  unfold Qdu ik
  dsimp only
  rw [Int.toNat_natCast,Int.toNat_natCast,Qgn hka,Qgn hkb]
  subst hnb
  exact speed_core ka kb ⟨ka,kb,rn,rt',ru,ra,rb,mn,mt,mu,aim,rub,pn,pt,pu⟩ _ _ _ _ _ _ cb gb sr _ hka hkb g1 g2 k1 k2 (Lib.hid (at_any _ ra (hL _ (List.getElem_mem hka)) i4)) (Lib.hid (at_any _ rb (hL _ (List.getElem_mem hkb)) i5)) (Lib.hid (vsub_any _ _ (Qfw _ _) (Qfw _ _))) w gs ts tb ys yb hs hb
/-- A row in memory. -/
theorem Qex (S : List Rw) (k : Nat) (h : k < S.length) (j : List Value) : ((rl S ++ j).drop (k * 25)).take 25 = RVl S[k] ∧ k * 25 + 25 ≤ (rl S ++ j).length ∧
    (∀ i v,(RVl S[k])[i]? = some v → (rl S ++ j)[k * 25 + i]? = some v) ∧ (∀ i n vs,((RVl S[k]).drop i).take n = vs → i + n ≤ 25 → ((rl S ++ j).drop (k * 25 + i)).take n = vs ∧ k * 25 + i + n ≤ (rl S ++ j).length) ∧
    (∀ (i : Nat) (v : Value) (x : Rw),i < 25 → (RVl S[k]).set i v = RVl x → (rl S ++ j).take (k * 25 + i) ++ [v] ++ (rl S ++ j).drop (k * 25 + i + 1) = rl (S.set k x) ++ j) := by
  obtain ⟨pre,post,h1,h2,h3⟩ := rl_split S k h j
  rw [h2]
  have hl : (pre ++ (RVl S[k] ++ post)).length = k * 25 + (25 + post.length) := by rw [List.length_append,List.length_append,Qbx,h1]
  exact ⟨pre_drop h1 rfl,by omega,fun i v hv => pre_get h1 hv,fun i n vs hv hi => ⟨pre_sub h1 hv hi,by omega⟩,fun i v x hi hx => by rw [h3,← hx];exact pre_one h1 hi⟩
theorem names_set {r r' : Rw} {n : Nat} (h : r.names n) (ha : r'.a = r.a) (hb : r'.b = r.b) : r'.names n := by
  unfold Rw.names at *
  rw [ha,hb]
  exact h
theorem Qjg (gs gb nb cb gr : Nat) (sr : Value) (R : List Bk) (jb jr : List Value) (L : List Inr) (hL : alli L) (hnb : nb = L.length) (S : List Rw) (k : Nat) (hk : k < S.length) (hr : S[k].i64f) (hn : S[k].names L.length) (t u : Int) (it : I64 t) (iu : I64 u) (w : World)
    (hst : Hp X w0 (⟨gs,68,[.slice (some ⟨gb,0,none⟩) nb cb,sr]⟩ :: ⟨gb,29,bl L ++ jb⟩ :: ⟨gr,63,rl S ++ jr⟩ :: R) w) :
    Calls Tryz.prog 86 #[.pointer (some ⟨gs,0,none⟩),.pointer (some ⟨gr,k * 25,none⟩),.int .i64 t,.int .i64 u] w (fun e w1 => e = .returned (.tuple #[]) ∧ Hp X w0 (⟨gs,68,[.slice (some ⟨gb,0,none⟩) nb cb,sr]⟩ :: ⟨gb,29,bl (Qef L S[k] t u).1 ++ jb⟩ :: ⟨gr,63,rl (S.set k (Qef L S[k] t u).2) ++ jr⟩ :: R) w1) := by
  have PL : ∀ n t u : Int,I64 n → I64 t → I64 u → ∀ (R : List Bk) (w : World),Hp X w0 (⟨gs,68,[.slice (some ⟨gb,0,none⟩) nb cb,sr]⟩ :: ⟨gb,29,bl L ++ jb⟩ :: R) w → _ := fun n t u a b c R w h => Qhc (X := X) (w0 := w0) gs gb nb cb sr R jb L hL hnb S[k] hr hn n t u a b c w h
  obtain ⟨q1,q2,q3,q4,q5⟩ := Qex S k hk jr
  generalize S[k] = r at *
  obtain ⟨⟨_,_,_,_,_,_,_⟩,_,_,_,_,j1,j2,j3,j4⟩ := hr
  have hm : I64 (cl (r.rub * r.pn / 4294967296)) := Qbu _
  obtain ⟨c1,c2⟩ := Qjn it iu hm
  have MU := Qgr r.rub r.pn j1 j2
  have CO := cone_any t u _ it iu hm
  unfold Qef
  dsimp only
  generalize Qet t u (cl (r.rub * r.pn / 4294967296)) = c at *
  obtain ⟨x,y⟩ := c
  dsimp only at *
  have q6 := q5 23 (.int .i64 x) { r with pt := x } (by omega) rfl
  have hk2 : k < (S.set k { r with pt := x }).length := by rw [List.length_set];exact hk
  obtain ⟨_,s2,_,_,s5⟩ := Qex (S.set k { r with pt := x }) k hk2 jr
  have e1 : (S.set k { r with pt := x })[k] = { r with pt := x } := List.getElem_set_self _
  rw [e1] at s5
  have s6 := s5 24 (.int .i64 y) { r with pt := x,pu := y } (by omega) rfl
  rw [List.set_set] at s6
  obtain ⟨ka,ea⟩ : ∃ k : Nat,r.a = k := ⟨r.a.toNat,by have := hn.1;omega⟩
  obtain ⟨kb,eb⟩ : ∃ k : Nat,r.b = k := ⟨r.b.toNat,by have := hn.2.2.1;omega⟩
  have q1' := q1
  unfold RVl at q1'
  rw [ea,eb] at q1'
  refine Qos gs gb nb cb gr (k * 25) sr R ka kb r t u _ x y _ _ _ _ _ _ _ q1' q2 (q3 21 _ rfl) (q3 22 _ rfl) (q3 23 _ rfl) (q3 24 _ rfl) q6 s6 (by omega) (by omega) (Lib.hid MU) (Lib.hid CO) (Lib.hid (Qek x r.pt c1 j3)) (Lib.hid (Qek y r.pu c2 j4)) (Lib.hid ?_) w hst
  intro R w h
  have := PL 0 (cl (x - r.pt)) (cl (y - r.pu)) (by unfold I64;omega) (Qbu _) (Qbu _) R w h
  unfold RoV at this
  rw [ea,eb] at this
  exact this
end
end Go.Proofs.YtblffafmkpnjdaaGreat
set_option linter.unusedSimpArgs false
set_option linter.unusedVariables false
set_option maxRecDepth 100000
namespace Go.Proofs.YtblffafmkpnjdaaGreat
open Go Go.RowKit
theorem Qmt {a : Int} (h : I64 a) : I64 (max0 a) := by
  unfold max0
  split
  · unfold I64;omega
  · exact h
theorem Qgx {L : List Inr} (hL : alli L) {r : Rw} (hr : r.i64f) {t u : Int} (it : I64 t) (iu : I64 u) : alli (Qef L r t u).1 ∧ (Qef L r t u).2.i64f := by
  obtain ⟨c1,c2⟩ := Qjn it iu (Qbu (r.rub * r.pn / 4294967296))
  obtain ⟨a1,a2,a3,a4,a5,a6,a7⟩ := hr
  exact ⟨Qgk hL _ _ _ _,a1,a2,a3,a4,a5,a6,a7.1,c1,c2⟩
theorem Qny {L : List Inr} (hL : alli L) {r : Rw} (hr : r.i64f) : alli (Qdd L r).1 ∧ (Qdd L r).2.i64f := by
  have s := Qgx hL hr (t := cl (r.pt - cl (r.mt * (Qdu L r).cdot r.t / 4294967296))) (u := cl (r.pu - cl (r.mu * (Qdu L r).cdot r.u / 4294967296))) (Qbu _) (Qbu _)
  unfold Qdd
  dsimp only
  generalize Qef L r (cl (r.pt - cl (r.mt * (Qdu L r).cdot r.t / 4294967296))) (cl (r.pu - cl (r.mu * (Qdu L r).cdot r.u / 4294967296))) = q at *
  obtain ⟨s1,s2,s3,s4,s5,s6,s7,s8,s9,s10⟩ := s
  have hn : I64 (max0 (cl (r.pn + cl (r.mn * cl (r.aim - (Qdu q.1 q.2).cdot r.n) / 4294967296)))) := Qmt (Qbu _)
  generalize max0 (cl (r.pn + cl (r.mn * cl (r.aim - (Qdu q.1 q.2).cdot r.n) / 4294967296))) = nn at *
  have hq : Rw.i64f { q.2 with pn := nn } := ⟨s2,s3,s4,s5,s6,s7,hn,s9,s10⟩
  exact Qgx (r := { q.2 with pn := nn }) (Qgk s1 _ _ _ _) hq s9 s10
section
variable {X : List Nat} {w0 : World}
set_option maxHeartbeats 4000000 in
theorem turn_list (gs gb nb cb gr : Nat) (sr : Value) (R : List Bk) (jb jr : List Value) (L : List Inr) (hL : alli L) (hnb : nb = L.length) (S : List Rw) (k : Nat) (hk : k < S.length) (hr : S[k].i64f) (hn : S[k].names L.length) (w : World) (hst : Hp X w0 (⟨gs,68,[.slice (some ⟨gb,0,none⟩) nb cb,sr]⟩ :: ⟨gb,29,bl L ++ jb⟩ :: ⟨gr,63,rl S ++ jr⟩ :: R) w) :
    Calls Tryz.prog 42 #[.pointer (some ⟨gs,0,none⟩),.pointer (some ⟨gr,k * 25,none⟩)] w (fun e w1 => e = .returned (.tuple #[]) ∧ Hp X w0 (⟨gs,68,[.slice (some ⟨gb,0,none⟩) nb cb,sr]⟩ :: ⟨gb,29,bl (Qdd L S[k]).1 ++ jb⟩ :: ⟨gr,63,rl (S.set k (Qdd L S[k]).2) ++ jr⟩ :: R) w1) := by
  have SP1 := Qln gs gb nb cb sr jb L hL hnb S[k] hr hn
  have SL1 := fun (t u : Int) (it : I64 t) (iu : I64 u) (R : List Bk) (w : World) h => Qjg (X := X) (w0 := w0) gs gb nb cb gr sr R jb jr L hL hnb S k hk hr hn t u it iu w h
  obtain ⟨q1,q2,q3,q4,_⟩ := Qex S k hk jr
  generalize S[k] = r at *
  obtain ⟨a,b,rn,rt',ru,ra,rb,mn,mt,mu,aim,rub,pn,pt,pu⟩ := r
  have hn0 := hn
  obtain ⟨h1,h2,h3,h4⟩ := hn
  dsimp only at h1 h2 h3 h4
  obtain ⟨ka,rfl⟩ : ∃ k : Nat,a = k := ⟨a.toNat,by omega⟩
  obtain ⟨kb,rfl⟩ : ∃ k : Nat,b = k := ⟨b.toNat,by omega⟩
  have hr0 := hr
  obtain ⟨⟨_,_,i1,i2,i3,i4,i5⟩,j1,j2,j3,j4,j5,j6,j7,j8⟩ := hr
  dsimp only at i1 i2 i3 i4 i5 j1 j2 j3 j4 j5 j6 j7 j8
  unfold Qdd
  dsimp only
  have hv : ∀ (L : List Inr) (r : Rw),(Qdu L r).i64 := fun _ _ => csub_i64 _ _
  have hv1 := hv L ⟨ka,kb,rn,rt',ru,ra,rb,mn,mt,mu,aim,rub,pn,pt,pu⟩
  generalize Qdu L ⟨ka,kb,rn,rt',ru,ra,rb,mn,mt,mu,aim,rub,pn,pt,pu⟩ = v at *
  have ib1 : I64 (cl (pt - cl (mt * v.cdot rt' / 4294967296))) := Qbu _
  have ib2 : I64 (cl (pu - cl (mu * v.cdot ru / 4294967296))) := Qbu _
  have SL1' := SL1 _ _ ib1 ib2
  have hs := Qgx hL hr0 ib1 ib2
  have hlen := Qfn L ⟨ka,kb,rn,rt',ru,ra,rb,mn,mt,mu,aim,rub,pn,pt,pu⟩ (cl (pt - cl (mt * v.cdot rt' / 4294967296))) (cl (pu - cl (mu * v.cdot ru / 4294967296)))
  have e2 : (Qef L ⟨ka,kb,rn,rt',ru,ra,rb,mn,mt,mu,aim,rub,pn,pt,pu⟩ (cl (pt - cl (mt * v.cdot rt' / 4294967296))) (cl (pu - cl (mu * v.cdot ru / 4294967296)))).2 = ⟨ka,kb,rn,rt',ru,ra,rb,mn,mt,mu,aim,rub,pn,(Qet (cl (pt - cl (mt * v.cdot rt' / 4294967296))) (cl (pu - cl (mu * v.cdot ru / 4294967296))) (cl (rub * pn / 4294967296))).1,(Qet (cl (pt - cl (mt * v.cdot rt' / 4294967296))) (cl (pu - cl (mu * v.cdot ru / 4294967296))) (cl (rub * pn / 4294967296))).2⟩ := rfl
  rw [e2] at hs SL1' ⊢
  clear e2 SL1
  generalize (Qef L ⟨ka,kb,rn,rt',ru,ra,rb,mn,mt,mu,aim,rub,pn,pt,pu⟩ (cl (pt - cl (mt * v.cdot rt' / 4294967296))) (cl (pu - cl (mu * v.cdot ru / 4294967296)))).1 = L1 at *
  generalize (Qet (cl (pt - cl (mt * v.cdot rt' / 4294967296))) (cl (pu - cl (mu * v.cdot ru / 4294967296))) (cl (rub * pn / 4294967296))).1 = x at *
  generalize (Qet (cl (pt - cl (mt * v.cdot rt' / 4294967296))) (cl (pu - cl (mu * v.cdot ru / 4294967296))) (cl (rub * pn / 4294967296))).2 = y at *
  obtain ⟨hL1,hr1⟩ := hs
  have ix : I64 x := hr1.2.2.2.2.2.2.2.1
  have iy : I64 y := hr1.2.2.2.2.2.2.2.2
  have hn1 : (Rw.mk ka kb rn rt' ru ra rb mn mt mu aim rub pn x y).names L1.length := by rw [hlen];exact hn0
  have SP2 := Qln gs gb nb cb sr jb L1 hL1 (hnb.trans hlen.symm) _ hr1 hn1
  have PU := fun (n : Int) (i : I64 n) (R : List Bk) (w : World) h => Qhc (X := X) (w0 := w0) gs gb nb cb sr R jb L1 hL1 (hnb.trans hlen.symm) _ hr1 hn1 n 0 0 i (by unfold I64;omega) (by unfold I64;omega) w h
  have hv2 := hv L1 ⟨ka,kb,rn,rt',ru,ra,rb,mn,mt,mu,aim,rub,pn,x,y⟩
  generalize Qdu L1 ⟨ka,kb,rn,rt',ru,ra,rb,mn,mt,mu,aim,rub,pn,x,y⟩ = v2 at *
  have hk1 : k < (S.set k ⟨ka,kb,rn,rt',ru,ra,rb,mn,mt,mu,aim,rub,pn,x,y⟩).length := by rw [List.length_set];exact hk
  obtain ⟨s1,s2,s3,s4,s5⟩ := Qex (S.set k ⟨ka,kb,rn,rt',ru,ra,rb,mn,mt,mu,aim,rub,pn,x,y⟩) k hk1 jr
  have e1 : (S.set k ⟨ka,kb,rn,rt',ru,ra,rb,mn,mt,mu,aim,rub,pn,x,y⟩)[k] = ⟨ka,kb,rn,rt',ru,ra,rb,mn,mt,mu,aim,rub,pn,x,y⟩ := List.getElem_set_self _
  rw [e1] at s1 s3 s4 s5
  have hmx := run_max0 (P := Tryz.prog) #[22,22] 22 (cl (pn + cl (mn * cl (aim - v2.cdot rn) / 4294967296)))
  have inn : I64 (max0 (cl (pn + cl (mn * cl (aim - v2.cdot rn) / 4294967296)))) := Qmt (Qbu _)
  have hmx' : ∀ w,(Builtin.max_ #[22,22] 22 #[.int .i64 (cl (pn + cl (mn * cl (aim - v2.cdot rn) / 4294967296))),.int .i64 0]).run Tryz.prog w = .ok (.int .i64 (max0 (cl (pn + cl (mn * cl (aim - v2.cdot rn) / 4294967296))))) w := hmx
  generalize max0 (cl (pn + cl (mn * cl (aim - v2.cdot rn) / 4294967296))) = nn at *
  have s6 := s5 22 (.int .i64 nn) ⟨ka,kb,rn,rt',ru,ra,rb,mn,mt,mu,aim,rub,nn,x,y⟩ (by omega) rfl
  rw [List.set_set] at s6
  have hk2 : k < (S.set k ⟨ka,kb,rn,rt',ru,ra,rb,mn,mt,mu,aim,rub,nn,x,y⟩).length := by rw [List.length_set];exact hk
  have e3 : (S.set k ⟨ka,kb,rn,rt',ru,ra,rb,mn,mt,mu,aim,rub,nn,x,y⟩)[k] = ⟨ka,kb,rn,rt',ru,ra,rb,mn,mt,mu,aim,rub,nn,x,y⟩ := List.getElem_set_self _
  obtain ⟨_,_,u3,_,_⟩ := Qex (S.set k ⟨ka,kb,rn,rt',ru,ra,rb,mn,mt,mu,aim,rub,nn,x,y⟩) k hk2 jr
  rw [e3] at u3
  have idn : I64 (cl (nn - pn)) := Qbu _
  have hL2 : alli (Qfu L1 ⟨ka,kb,rn,rt',ru,ra,rb,mn,mt,mu,aim,rub,pn,x,y⟩ (cl (nn - pn)) 0 0) := Qgk hL1 _ _ _ _
  have hlen2 := Qee L1 ⟨ka,kb,rn,rt',ru,ra,rb,mn,mt,mu,aim,rub,pn,x,y⟩ (cl (nn - pn)) 0 0
  have hr2 : (Rw.mk ka kb rn rt' ru ra rb mn mt mu aim rub nn x y).i64f := ⟨hr1.1,j1,j2,j3,j4,j5,inn,ix,iy⟩
  have PU' := PU _ idn
  generalize Qfu L1 ⟨ka,kb,rn,rt',ru,ra,rb,mn,mt,mu,aim,rub,pn,x,y⟩ (cl (nn - pn)) 0 0 = L2 at *
  have SL2 := fun (R : List Bk) (w : World) h => Qjg (X := X) (w0 := w0) gs gb nb cb gr sr R jb jr L2 hL2 (hnb.trans (hlen.symm.trans hlen2.symm)) (S.set k ⟨ka,kb,rn,rt',ru,ra,rb,mn,mt,mu,aim,rub,nn,x,y⟩) k hk2 (by rw [e3];exact hr2) (by rw [e3,hlen2,hlen];exact hn0) x y ix iy w h
  rw [e3,List.set_set] at SL2
  exact turn_core gs gb nb cb gr (k * 25) sr R ka kb ⟨ka,kb,rn,rt',ru,ra,rb,mn,mt,mu,aim,rub,pn,pt,pu⟩ v v2 _ _ _ x y _ _ _ _ _ nn _ _ _ _ _ _ _ _ _ _ _
    q1 q2 (q3 17 _ rfl) (q3 18 _ rfl) (q3 19 _ rfl) (q3 20 _ rfl) (q3 22 _ rfl) (q3 23 _ rfl) (q3 24 _ rfl) (q4 2 3 _ rfl (by omega)).1 (q4 2 3 _ rfl (by omega)).2 (q4 5 3 _ rfl (by omega)).1 (q4 5 3 _ rfl (by omega)).2 (q4 8 3 _ rfl (by omega)).1 (q4 8 3 _ rfl (by omega)).2
    s1 s2 (s3 17 _ rfl) (s3 18 _ rfl) (s3 19 _ rfl) (s3 20 _ rfl) (s3 22 _ rfl) (s3 23 _ rfl) (s3 24 _ rfl) (s4 2 3 _ rfl (by omega)).1 (s4 2 3 _ rfl (by omega)).2 (s4 5 3 _ rfl (by omega)).1 (s4 5 3 _ rfl (by omega)).2 (s4 8 3 _ rfl (by omega)).1 (s4 8 3 _ rfl (by omega)).2
    s6 (by omega) (u3 23 _ rfl) (u3 24 _ rfl) hmx' (Lib.hid SP1)
    (Lib.hid (Qgv v rt' hv1 i2)) (Lib.hid (Qgr mt _ j2 (Qbu _))) (Lib.hid (Qek pt _ j7 (Qbu _))) (Lib.hid (Qgv v ru hv1 i3)) (Lib.hid (Qgr mu _ j3 (Qbu _))) (Lib.hid (Qek pu _ j8 (Qbu _)))
    (Lib.hid SL1') (Lib.hid SP2)
    (Lib.hid (Qgv v2 rn hv2 i1)) (Lib.hid (Qek aim _ j4 (Qbu _))) (Lib.hid (Qgr mn _ j1 (Qbu _))) (Lib.hid (Qir pn _ j6 (Qbu _))) (Lib.hid (Qek nn pn inn j6))
    (Lib.hid PU') (Lib.hid SL2) w hst
end
end Go.Proofs.YtblffafmkpnjdaaGreat
set_option linter.unusedSimpArgs false
set_option linter.unusedVariables false
set_option maxRecDepth 100000
namespace Go.Proofs.YtblffafmkpnjdaaGreat
open Go Go.RowKit
attribute [local irreducible] wpList
def Qdt (L : List Inr) (r : Rw) : List Inr × Rw := (Qfu L r r.pn r.pt r.pu,r)
def zR : Rw := ⟨0,0,⟨0,0,0⟩,⟨0,0,0⟩,⟨0,0,0⟩,⟨0,0,0⟩,⟨0,0,0⟩,0,0,0,0,0,0,0,0⟩
/-- The first of the rows, one after the other. -/
def Qcb (F : List Inr → Rw → List Inr × Rw) : Nat → List Inr × List Rw → List Inr × List Rw
  | 0,st => st
  | k + 1,st => ((F (Qcb F k st).1 ((Qcb F k st).2.getD k zR)).1,(Qcb F k st).2.set k (F (Qcb F k st).1 ((Qcb F k st).2.getD k zR)).2)
/-- Bodies and rows as they may be. -/
def Okst (n m : Nat) (st : List Inr × List Rw) : Prop := alli st.1 ∧ st.1.length = n ∧ st.2.length = m ∧ ∀ r ∈ st.2,r.i64f ∧ r.names n
def Steps (F : List Inr → Rw → List Inr × Rw) : Prop := ∀ L r,alli L → r.i64f → alli (F L r).1 ∧ (F L r).1.length = L.length ∧ (F L r).2.i64f ∧ (F L r).2.a = r.a ∧ (F L r).2.b = r.b
theorem Qgy : Steps Qdt := fun L r hL hr => ⟨Qgk hL _ _ _ _,Qee _ _ _ _ _,hr,rfl,rfl⟩
theorem Qib : Steps Qdd := fun L r hL hr => ⟨(Qny hL hr).1,Qoj _ _,(Qny hL hr).2,rfl,rfl⟩
theorem Qlu {S : List Rw} {k : Nat} (h : k < S.length) : S.getD k zR = S[k] := by
  rw [List.getD_eq_getElem?_getD,List.getElem?_eq_getElem h];rfl
theorem Qfm {F : List Inr → Rw → List Inr × Rw} (hF : Steps F) {n m : Nat} {st : List Inr × List Rw} (h : Okst n m st) : ∀ k,k ≤ m → Okst n m (Qcb F k st)
  | 0,_ => h
  | k + 1,hk => by
    have ih := Qfm hF h k (by omega)
    unfold Qcb
    generalize Qcb F k st = q at *
    obtain ⟨i1,i2,i3,i4⟩ := ih
    have hkq : k < q.2.length := by omega
    rw [Qlu hkq]
    obtain ⟨j1,j2⟩ := i4 _ (List.getElem_mem hkq)
    obtain ⟨f1,f2,f3,f4,f5⟩ := hF q.1 q.2[k] i1 j1
    refine ⟨f1,f2.trans i2,by rw [List.length_set];exact i3,fun r hr => ?_⟩
    rcases List.mem_or_eq_of_mem_set hr with h1 | h1
    · exact i4 r h1
    · rw [h1]
      exact ⟨f3,names_set j2 f4 f5⟩
section
variable {X : List Nat} {w0 : World}
theorem warm_list (gs gb nb cb gr : Nat) (sr : Value) (R : List Bk) (jb jr : List Value) (L : List Inr) (hL : alli L) (hnb : nb = L.length) (S : List Rw) (k : Nat) (hk : k < S.length) (hr : S[k].i64f) (hn : S[k].names L.length) (w : World) (hst : Hp X w0 (⟨gs,68,[.slice (some ⟨gb,0,none⟩) nb cb,sr]⟩ :: ⟨gb,29,bl L ++ jb⟩ :: ⟨gr,63,rl S ++ jr⟩ :: R) w) :
    Calls Tryz.prog 41 #[.pointer (some ⟨gs,0,none⟩),.pointer (some ⟨gr,k * 25,none⟩)] w (fun e w1 => e = .returned (.tuple #[]) ∧ Hp X w0 (⟨gs,68,[.slice (some ⟨gb,0,none⟩) nb cb,sr]⟩ :: ⟨gb,29,bl (Qdt L S[k]).1 ++ jb⟩ :: ⟨gr,63,rl S ++ jr⟩ :: R) w1) := by
  have PL : ∀ n t u : Int,I64 n → I64 t → I64 u → ∀ (R : List Bk) (w : World),Hp X w0 (⟨gs,68,[.slice (some ⟨gb,0,none⟩) nb cb,sr]⟩ :: ⟨gb,29,bl L ++ jb⟩ :: R) w → _ := fun n t u a b c R w h => Qhc (X := X) (w0 := w0) gs gb nb cb sr R jb L hL hnb S[k] hr hn n t u a b c w h
  obtain ⟨q1,q2,q3,q4,q5⟩ := Qex S k hk jr
  generalize S[k] = r at *
  obtain ⟨_,_,_,_,_,_,j2,j3,j4⟩ := hr
  obtain ⟨ka,ea⟩ : ∃ k : Nat,r.a = k := ⟨r.a.toNat,by have := hn.1;omega⟩
  obtain ⟨kb,eb⟩ : ∃ k : Nat,r.b = k := ⟨r.b.toNat,by have := hn.2.2.1;omega⟩
  have q1' := q1
  unfold RVl at q1'
  rw [ea,eb] at q1'
  refine warm_core gs gb nb cb gr (k * 25) sr R ka kb r _ _ _ q1' q2 (q3 22 _ rfl) (q3 23 _ rfl) (q3 24 _ rfl) (Lib.hid ?_) w hst
  intro R w h
  have := PL r.pn r.pt r.pu j2 j3 j4 R w h
  unfold RoV at this
  rw [ea,eb] at this
  exact this
set_option maxHeartbeats 4000000 in
theorem each_list (G : FuncId) (hG : ∀ args w,(callFunc G args).run Tryz.prog w = .ok (.enter G args) w) (F : List Inr → Rw → List Inr × Rw) (hF : Steps F) (gs gb nb cb gr nr cr : Nat) (hnr : nr ≤ 4611686018427387904) (R : List Bk) (jb jr : List Value)
    (DO : Hid (∀ (st : List Inr × List Rw) (k : Nat) (hk : k < st.2.length) (R : List Bk) (w : World),Okst nb nr st → Hp X w0 (⟨gs,68,[.slice (some ⟨gb,0,none⟩) nb cb,.slice (some ⟨gr,0,none⟩) nr cr]⟩ :: ⟨gb,29,bl st.1 ++ jb⟩ :: ⟨gr,63,rl st.2 ++ jr⟩ :: R) w → Calls Tryz.prog G #[.pointer (some ⟨gs,0,none⟩),.pointer (some ⟨gr,k * 25,none⟩)] w (fun e w1 => e = .returned (.tuple #[]) ∧ Hp X w0 (⟨gs,68,[.slice (some ⟨gb,0,none⟩) nb cb,.slice (some ⟨gr,0,none⟩) nr cr]⟩ :: ⟨gb,29,bl ((F st.1 st.2[k]).1,st.2.set k (F st.1 st.2[k]).2).1 ++ jb⟩ :: ⟨gr,63,rl ((F st.1 st.2[k]).1,st.2.set k (F st.1 st.2[k]).2).2 ++ jr⟩ :: R) w1)))
    (st : List Inr × List Rw) (hst : Okst nb nr st) (w : World) (hh : Hp X w0 (⟨gs,68,[.slice (some ⟨gb,0,none⟩) nb cb,.slice (some ⟨gr,0,none⟩) nr cr]⟩ :: ⟨gb,29,bl st.1 ++ jb⟩ :: ⟨gr,63,rl st.2 ++ jr⟩ :: R) w) :
    Calls Tryz.prog 40 #[.pointer (some ⟨gs,0,none⟩),.func (.func G) #[.pointer (some ⟨gs,0,none⟩)] #[]] w (fun e w1 => e = .returned (.tuple #[]) ∧ Hp X w0 (⟨gs,68,[.slice (some ⟨gb,0,none⟩) nb cb,.slice (some ⟨gr,0,none⟩) nr cr]⟩ :: ⟨gb,29,bl (Qcb F nr st).1 ++ jb⟩ :: ⟨gr,63,rl (Qcb F nr st).2 ++ jr⟩ :: R) w1) := by
  have hnr' : (nr : Int) ≤ 4611686018427387904 := by omega
  have hh' := Lib.hid hh
  have HST := Lib.hid hst
  clear hh hst
  go_enter Tryz.func40,Tryz.ntmps40
  have hp := Hp.start [] w
  clear hp
  have hp := hh'.out
  clear hh'
  go_wp2_with (first | ((with_reducible apply Qac hp);exact zt rfl;exact ii;exact ii;(first | exact zso rfl | exact Qae (by omega));simp only [zp,zq,z0,z1]) | ((with_reducible apply Qaj);exact zx rfl;exact zk rfl;exact ii;exact Sz.z;omega;omega;((try simp only [m0,Int.reduceToNat,m1,m2,Nat.reduceMul,Nat.reduceAdd,m3,m4,m5,n0]);exact rfl);simp only [zp,zq,z0,z1]) | ((with_reducible apply Qai hp);exact zt rfl;assumption;exact ii;(first | assumption | (first | exact zso rfl | exact Qae (by omega)));simp only [zp,zq,z0,z1]))
  go_loopw [10] (fun i wr => ∃ k : Nat,k ≤ nr ∧ i = .int .i64 k ∧ Hp X w0 (⟨gs,68,[.slice (some ⟨gb,0,none⟩) nb cb,.slice (some ⟨gr,0,none⟩) nr cr]⟩ :: ⟨gb,29,bl (Qcb F k st).1 ++ jb⟩ :: ⟨gr,63,rl (Qcb F k st).2 ++ jr⟩ :: R) wr) (fun i _ => nr - (intOf i).toNat)
  case atStart => exact ⟨0,by omega,rfl,hp⟩
  case round =>
    clear hp
    obtain ⟨k,hk,rfl,hp⟩ := hrel
    have hok := Qfm hF HST.out k hk
    by_cases hk1 : k < nr
    · have hk2 : (k : Int) < nr := by omega
      have hkq : k < (Qcb F k st).2.length := by have := hok.2.2.1;omega
      have DK := Lib.hid (DO.out (Qcb F k st) k hkq)
      have e1 : Qcb F (k + 1) st = ((F (Qcb F k st).1 (Qcb F k st).2[k]).1,(Qcb F k st).2.set k (F (Qcb F k st).1 (Qcb F k st).2[k]).2) := by
        rw [Qcb,Qlu hkq]
      have HE := Lib.hid e1
      have HOK := Lib.hid hok
      clear e1 hok
      go_wp2_with (first | ((with_reducible apply Qac hp);exact zt rfl;exact ii;exact ii;(first | exact zso rfl | exact Qae (by omega));simp only [zp,zq,z0,z1]) | ((with_reducible apply Qaj);exact zx rfl;exact zk rfl;exact ii;exact Sz.z;omega;omega;((try simp only [m0,Int.reduceToNat,m1,m2,Nat.reduceMul,Nat.reduceAdd,m3,m4,m5,n0]);exact rfl);simp only [zp,zq,z0,z1]) | ((with_reducible apply Qai hp);exact zt rfl;assumption;exact ii;(first | assumption | (first | exact zso rfl | exact Qae (by omega)));simp only [zp,zq,z0,z1]) | ((with_reducible refine Qds (DK.out _ _ HOK.out hp) ?_);clear hp;rintro w1 hp))
      go_roundw
      case rel =>
        refine ⟨k + 1,by omega,rfl,?_⟩
        rw [HE.out]
        exact hp
      case measure => simp [intOf];omega
    · obtain rfl : k = nr := by omega
      go_wp2_with (first | ((with_reducible apply Qac hp);exact zt rfl;exact ii;exact ii;(first | exact zso rfl | exact Qae (by omega));simp only [zp,zq,z0,z1]) | ((with_reducible apply Qaj);exact zx rfl;exact zk rfl;exact ii;exact Sz.z;omega;omega;((try simp only [m0,Int.reduceToNat,m1,m2,Nat.reduceMul,Nat.reduceAdd,m3,m4,m5,n0]);exact rfl);simp only [zp,zq,z0,z1]) | ((with_reducible apply Qai hp);exact zt rfl;assumption;exact ii;(first | assumption | (first | exact zso rfl | exact Qae (by omega)));simp only [zp,zq,z0,z1]))
      exact bodyPost_end (results_none rfl _ _ _) rfl ⟨rfl,hp⟩
end
end Go.Proofs.YtblffafmkpnjdaaGreat
set_option linter.unusedSimpArgs false
set_option linter.unusedVariables false
set_option maxRecDepth 100000
namespace Go.Proofs.YtblffafmkpnjdaaGreat
open Go Go.RowKit
attribute [local irreducible] wpList
/-- A slice that reads as a list. -/
def FSl {α : Type} (f : α → List Value) (m : Nat) (w : World) (v : Value) (L : List α) : Prop :=
  (v = .slice none 0 0 ∧ L = []) ∨ ∃ g off cap bc t z,v = .slice (some ⟨g,off,none⟩) L.length cap ∧ w.heap[g]? = some (.cells (bc : List Value).toArray t z) ∧ (bc.drop off).take (L.length * m) = L.flatMap f
theorem FSl.keep {α : Type} {f : α → List Value} {m : Nat} {w w' : World} {v : Value} {L : List α} (h : FSl f m w v L) (hk : Keep [] w w') : FSl f m w' v L := by
  rcases h with h | ⟨g,off,cap,bc,t,z,h1,h2,h3⟩
  · exact .inl h
  · refine .inr ⟨g,off,cap,bc,t,z,h1,?_,h3⟩
    exact hk.blk h2
section
variable {P : Program} {ops : Array Oper} {Q : Exit → Act → World → Prop} {rest : List Oper} {a : Act} {X : List Nat} {w0 w : World} {H : List Bk} {d : Tmp} {tp t : TypeId} {pos : String} {af : Array Edge}
theorem Qfl {e : TypeId} {n : Nat} (hp : Hp X w0 H w) (ht : Qfg P t e) (hs : ∀ w,(sizeOf e).run P w = .ok n w)
    (hk : ∀ g w1,Hp X w0 (⟨g,e,[]⟩ :: H) w1 → wpList P ops Q rest (a.put (some d) (.slice (some ⟨g,0,none⟩) 0 0)) w1) : wpList P ops Q (⟨some d,.buildSlice t 0 #[],tp,pos,af,none⟩ :: rest) a w := by
  refine wpList_plain rfl fun K hK => ?_
  unfold Oper.wp
  have hr : (Instr.buildSlice t 0 #[]).run P w = .ok (.slice (some ⟨w.heap.size,0,none⟩) 0 0) (w.alloc (.cells #[] e)) := by
    have h0 : Array.range 0 = #[] := by decide
    simp [Instr.buildSlice,run_underlying ht.und,hs,Instr.fill,newRow,h0]
  have e0 : (#[] : Array (Nat × Operand)).map (fun (i,x) => (i,a.eval x)) = #[] := by simp
  simp only [execOp,Sem.run_bind,e0,hr,Result.andThen_ok]
  exact hK _ _ (hk _ _ (hp.alloc e []))
theorem Qfv {s x : Operand} {e : TypeId} {z : Value} {size bytes m c gv gx off : Nat} {bc news : List Value} {tx : TypeId} {zx : Nat × Nat} (hp : Hp [] w0 (⟨gv,e,[]⟩ :: H) w) (ht : Qfg P t e) (he : Qfy P e z size bytes) (hzs : z.cells.size = size) (hsz : 0 < size)
    (hs : a.eval s = .slice (some ⟨gv,0,none⟩) 0 0) (hx : a.eval x = .slice (some ⟨gx,off,none⟩) m c) (hb : w0.heap[gx]? = some (.cells bc.toArray tx zx)) (hn : (bc.drop off).take (m * size) = news) (hl : news.length = m * size) (h1 : news.all (·.oneCell') = true) (hm1 : m ≤ maxLen) (hm2 : m * bytes ≤ 140737488355328)
    (hk : ∀ g cap junk w1,(news ++ junk).length = cap * size → m ≤ cap → cap ≤ maxLen → Hp [] w0 (⟨g,e,news ++ junk⟩ :: H) w1 → wpList P ops Q rest (a.put (some d) (.slice (some ⟨g,0,none⟩) m cap)) w1) :
    wpList P ops Q (⟨some d,.call { callee := .builtin .append,args := #[s,x],argTypes := #[t,t] },tp,pos,af,none⟩ :: rest) a w := by
  obtain ⟨i,hi,hi'⟩ : ∃ i,P.info? e = some i ∧ (i.zero,i.size,i.bytes) = (some z,size,bytes) := by
    have := he.info
    cases h : P.info? e with
    | none => rw [h] at this;cases this
    | some i => rw [h] at this;exact ⟨i,rfl,by simpa using this⟩
  simp only [Prod.mk.injEq] at hi'
  obtain ⟨hiz,his,hib⟩ := hi'
  have hbv := (hp.own ⟨gv,e,[]⟩ (by simp)).2
  have hbw : w.heap[gx]? = some (.cells bc.toArray tx zx) := hp.keep.blk hb
  have hcell : ∀ j u,news[j]? = some u → w.cell? ((⟨gx,off,none⟩ : Addr).add j) = some u := by
    intro j u hj
    rw [Qjx,cell_of_row w gx (off + j) bc.toArray tx zx hbw]
    rw [← hn,List.getElem?_take] at hj
    split at hj
    · rw [List.getElem?_drop] at hj
      simpa using hj
    · cases hj
  refine wpList_append_own_at w rfl s x t rfl 0 e i z size bytes ht.und hi hiz his hib hzs hsz (.slice (some ⟨gv,0,none⟩) 0 0) 0 [] hs ⟨by simp,.inr ⟨gv,0,_,rfl,Nat.zero_le _,hbv,Nat.le_refl _,Nat.zero_le _,by simp,by simp⟩⟩ ⟨gx,off,none⟩ m c news hx hl hcell (fun u hu => List.all_eq_true.1 h1 u hu) (by omega) (by rw [Nat.zero_add];exact hm2) (Nat.zero_le _) ?_
  intro v' w' hr hg hnil hob
  obtain ⟨hlen,hr⟩ := hr
  rcases hr with ⟨rfl,h0⟩ | ⟨g,cap,cur,rfl,_,hb',hn',hc,hcs,htk⟩
  · exact absurd (hnil.1 rfl).1 (by simp)
  · have hgs : g = gv ∨ g = w.heap.size := by
      rcases hob with h | h
      · left;simpa [Value.ownBlock] using h
      · right;simpa [Value.ownBlock] using h
    rw [Nat.zero_add] at hn' htk hlen
    rw [List.nil_append] at htk hlen
    have e1 : cur.toList = news ++ cur.toList.drop (m * size) := by rw [← htk,List.take_append_drop]
    rw [Nat.zero_add]
    refine hk g cap (cur.toList.drop (m * size)) w' ?_ hn' hc ?_
    · rw [← e1];simpa using hcs
    · rw [← e1]
      exact hp.grew (List.Perm.refl _) hg hgs (by simpa using hb')
end
/-- A clone. -/
theorem Qio (g off cap : Nat) (L : List Inr) (bc : List Value) (tx : TypeId) (zx : Nat × Nat) (hl : L.length ≤ 4294967296) (w : World) (hb : w.heap[g]? = some (.cells bc.toArray tx zx)) (hn : (bc.drop off).take (L.length * 16) = L.flatMap NVl) :
    Calls Tryz.prog 38 #[.slice (some ⟨g,off,none⟩) L.length cap] w (fun e w1 => ∃ (g1 cap1 : Nat) (junk : List Value),e = .returned (.slice (some ⟨g1,0,none⟩) L.length cap1) ∧ Hp [] w [⟨g1,29,L.flatMap NVl ++ junk⟩] w1) := by
  have q22 : ∀ (w : World) (a : Option Addr) (n c n' c' : Nat),(binOp .eql 35 (.slice a n c) (.slice none n' c')).run Tryz.prog w = .ok (.bool a.isNone) w := fun w a n c n' c' => Lib.run_eql_slice_nil w _ _ a n c n' c' Tryz.underlying35
  have hlen : (L.flatMap NVl).length = L.length * 16 := Qff _ _ Qcc L
  have hall : (L.flatMap NVl).all (·.oneCell') = true := by
    rw [List.all_eq_true]
    intro x hx
    obtain ⟨b,_,hb⟩ := List.mem_flatMap.1 hx
    have : (NVl b).all (·.oneCell') = true := rfl
    exact List.all_eq_true.1 this x hb
  have hl1 : L.length ≤ maxLen := by unfold maxLen;omega
  have HB := Lib.hid hb
  have HN := Lib.hid hn
  have HL := Lib.hid hl
  clear hb hn hl
  go_enter Tryz.func38,Tryz.ntmps38
  have hp := Hp.start [] w
  go_wp2_with (first | ((with_reducible apply Qat hp);exact ii;exact Sz.z;exact ii;exact zl rfl;decide;(first | exact (rfl : _ = Qan 0 [_]) | exact (rfl : _ = Qan 0 [_,_]) | exact (rfl : _ = Qan 0 [_,_,_]) | exact (rfl : _ = Qan 0 [_,_,_,_]));exact rfl;(first | exact (rfl : _ = List.map (fun x : List Value => x.toArray) [_]) | exact (rfl : _ = List.map (fun x : List Value => x.toArray) [_,_]) | exact (rfl : _ = List.map (fun x : List Value => x.toArray) [_,_,_]) | exact (rfl : _ = List.map (fun x : List Value => x.toArray) [_,_,_,_]));(intro l hl <;> simp only [List.mem_cons,List.not_mem_nil,or_false] at hl <;> rcases hl with rfl | rfl | rfl | rfl <;> rfl);exact rfl;clear hp;(try clear w1);intro g w1 hp;simp only [zp,zq,z0,z1]) | ((with_reducible apply Qar hp);exact ii;exact ii;exact rfl;decide;exact (rfl : _ = Value.slice none 0 0);exact zy rfl;exact ii;exact rfl;exact rfl;decide;(unfold maxLen;decide);decide;clear hp;(try clear w1);intro g cap junk w1 hl1 hl2 hl3 hp;simp only [zp,zq,z0,z1]) | ((with_reducible apply Qay hp);exact ii;exact ii;exact rfl;decide;exact zy rfl;(first | exact List.Perm.refl _ | exact List.perm_middle (l₁ := [_]) | exact List.perm_middle (l₁ := [_,_]) | exact List.perm_middle (l₁ := [_,_,_]) | exact List.perm_middle (l₁ := [_,_,_,_]) | exact List.perm_middle (l₁ := [_,_,_,_,_]));(first | exact pcs_length _ | (simp only [List.length_map,Nat.mul_one]));assumption;assumption;assumption;exact zy rfl;exact ii;exact rfl;exact rfl;decide;(unfold maxLen;omega);omega;clear hp;(try clear w1);intro g cap junk w1 hl1 hl2 hl3 hp;(try dsimp only [List.cons_append,List.nil_append] at hp);simp only [zp,zq,z0,z1]) | ((with_reducible apply Qfl hp);exact ii;exact Sz.z;clear hp;(try clear w1);intro g5 w1 hp;simp only [zp,zq,z0,z1]) | ((with_reducible apply Qfv hp);exact ii;exact ii;exact rfl;decide;exact zy rfl;exact rfl;exact HB.out;exact HN.out;exact hlen;exact hall;exact hl1;(have := HL.out;omega);clear hp;(try clear w1);intro g7 cap7 junk7 w1 hk1 hk2 hk3 hp;simp only [zp,zq,z0,z1]))
  exact bodyPost_ret (Qaf rfl rfl) rfl ⟨_,_,_,rfl,hp⟩
theorem Qfz (w : World) : Calls Tryz.prog 38 #[.slice none 0 0] w (Ret (.slice none 0 0) w) := by
  have q22 : ∀ (w : World) (a : Option Addr) (n c n' c' : Nat),(binOp .eql 35 (.slice a n c) (.slice none n' c')).run Tryz.prog w = .ok (.bool a.isNone) w := fun w a n c n' c' => Lib.run_eql_slice_nil w _ _ a n c n' c' Tryz.underlying35
  go_enter Tryz.func38,Tryz.ntmps38
  have hp := Hp.start [] w
  go_wp2_with (first | ((with_reducible apply Qat hp);exact ii;exact Sz.z;exact ii;exact zl rfl;decide;(first | exact (rfl : _ = Qan 0 [_]) | exact (rfl : _ = Qan 0 [_,_]) | exact (rfl : _ = Qan 0 [_,_,_]) | exact (rfl : _ = Qan 0 [_,_,_,_]));exact rfl;(first | exact (rfl : _ = List.map (fun x : List Value => x.toArray) [_]) | exact (rfl : _ = List.map (fun x : List Value => x.toArray) [_,_]) | exact (rfl : _ = List.map (fun x : List Value => x.toArray) [_,_,_]) | exact (rfl : _ = List.map (fun x : List Value => x.toArray) [_,_,_,_]));(intro l hl <;> simp only [List.mem_cons,List.not_mem_nil,or_false] at hl <;> rcases hl with rfl | rfl | rfl | rfl <;> rfl);exact rfl;clear hp;(try clear w1);intro g w1 hp;simp only [zp,zq,z0,z1]) | ((with_reducible apply Qar hp);exact ii;exact ii;exact rfl;decide;exact (rfl : _ = Value.slice none 0 0);exact zy rfl;exact ii;exact rfl;exact rfl;decide;(unfold maxLen;decide);decide;clear hp;(try clear w1);intro g cap junk w1 hl1 hl2 hl3 hp;simp only [zp,zq,z0,z1]) | ((with_reducible apply Qay hp);exact ii;exact ii;exact rfl;decide;exact zy rfl;(first | exact List.Perm.refl _ | exact List.perm_middle (l₁ := [_]) | exact List.perm_middle (l₁ := [_,_]) | exact List.perm_middle (l₁ := [_,_,_]) | exact List.perm_middle (l₁ := [_,_,_,_]) | exact List.perm_middle (l₁ := [_,_,_,_,_]));(first | exact pcs_length _ | (simp only [List.length_map,Nat.mul_one]));assumption;assumption;assumption;exact zy rfl;exact ii;exact rfl;exact rfl;decide;(unfold maxLen;omega);omega;clear hp;(try clear w1);intro g cap junk w1 hl1 hl2 hl3 hp;(try dsimp only [List.cons_append,List.nil_append] at hp);simp only [zp,zq,z0,z1]))
  exact bodyPost_ret (Qaf rfl rfl) rfl ⟨rfl,hp.keep⟩
/-- A clone. -/
theorem Qlp (g off cap : Nat) (L : List Rw) (bc : List Value) (tx : TypeId) (zx : Nat × Nat) (hl : L.length ≤ 4294967296) (w : World) (hb : w.heap[g]? = some (.cells bc.toArray tx zx)) (hn : (bc.drop off).take (L.length * 25) = L.flatMap RVl) :
    Calls Tryz.prog 39 #[.slice (some ⟨g,off,none⟩) L.length cap] w (fun e w1 => ∃ (g1 cap1 : Nat) (junk : List Value),e = .returned (.slice (some ⟨g1,0,none⟩) L.length cap1) ∧ Hp [] w [⟨g1,63,L.flatMap RVl ++ junk⟩] w1) := by
  have q22 : ∀ (w : World) (a : Option Addr) (n c n' c' : Nat),(binOp .eql 36 (.slice a n c) (.slice none n' c')).run Tryz.prog w = .ok (.bool a.isNone) w := fun w a n c n' c' => Lib.run_eql_slice_nil w _ _ a n c n' c' Tryz.underlying36
  have hlen : (L.flatMap RVl).length = L.length * 25 := Qff _ _ Qbx L
  have hall : (L.flatMap RVl).all (·.oneCell') = true := by
    rw [List.all_eq_true]
    intro x hx
    obtain ⟨b,_,hb⟩ := List.mem_flatMap.1 hx
    have : (RVl b).all (·.oneCell') = true := rfl
    exact List.all_eq_true.1 this x hb
  have hl1 : L.length ≤ maxLen := by unfold maxLen;omega
  have HB := Lib.hid hb
  have HN := Lib.hid hn
  have HL := Lib.hid hl
  clear hb hn hl
  go_enter Tryz.func39,Tryz.ntmps39
  have hp := Hp.start [] w
  go_wp2_with (first | ((with_reducible apply Qat hp);exact ii;exact Sz.z;exact ii;exact zl rfl;decide;(first | exact (rfl : _ = Qan 0 [_]) | exact (rfl : _ = Qan 0 [_,_]) | exact (rfl : _ = Qan 0 [_,_,_]) | exact (rfl : _ = Qan 0 [_,_,_,_]));exact rfl;(first | exact (rfl : _ = List.map (fun x : List Value => x.toArray) [_]) | exact (rfl : _ = List.map (fun x : List Value => x.toArray) [_,_]) | exact (rfl : _ = List.map (fun x : List Value => x.toArray) [_,_,_]) | exact (rfl : _ = List.map (fun x : List Value => x.toArray) [_,_,_,_]));(intro l hl <;> simp only [List.mem_cons,List.not_mem_nil,or_false] at hl <;> rcases hl with rfl | rfl | rfl | rfl <;> rfl);exact rfl;clear hp;(try clear w1);intro g w1 hp;simp only [zp,zq,z0,z1]) | ((with_reducible apply Qar hp);exact ii;exact ii;exact rfl;decide;exact (rfl : _ = Value.slice none 0 0);exact zy rfl;exact ii;exact rfl;exact rfl;decide;(unfold maxLen;decide);decide;clear hp;(try clear w1);intro g cap junk w1 hl1 hl2 hl3 hp;simp only [zp,zq,z0,z1]) | ((with_reducible apply Qay hp);exact ii;exact ii;exact rfl;decide;exact zy rfl;(first | exact List.Perm.refl _ | exact List.perm_middle (l₁ := [_]) | exact List.perm_middle (l₁ := [_,_]) | exact List.perm_middle (l₁ := [_,_,_]) | exact List.perm_middle (l₁ := [_,_,_,_]) | exact List.perm_middle (l₁ := [_,_,_,_,_]));(first | exact pcs_length _ | (simp only [List.length_map,Nat.mul_one]));assumption;assumption;assumption;exact zy rfl;exact ii;exact rfl;exact rfl;decide;(unfold maxLen;omega);omega;clear hp;(try clear w1);intro g cap junk w1 hl1 hl2 hl3 hp;(try dsimp only [List.cons_append,List.nil_append] at hp);simp only [zp,zq,z0,z1]) | ((with_reducible apply Qfl hp);exact ii;exact Sz.z;clear hp;(try clear w1);intro g5 w1 hp;simp only [zp,zq,z0,z1]) | ((with_reducible apply Qfv hp);exact ii;exact ii;exact rfl;decide;exact zy rfl;exact rfl;exact HB.out;exact HN.out;exact hlen;exact hall;exact hl1;(have := HL.out;omega);clear hp;(try clear w1);intro g7 cap7 junk7 w1 hk1 hk2 hk3 hp;simp only [zp,zq,z0,z1]))
  exact bodyPost_ret (Qaf rfl rfl) rfl ⟨_,_,_,rfl,hp⟩
theorem Qha (w : World) : Calls Tryz.prog 39 #[.slice none 0 0] w (Ret (.slice none 0 0) w) := by
  have q22 : ∀ (w : World) (a : Option Addr) (n c n' c' : Nat),(binOp .eql 36 (.slice a n c) (.slice none n' c')).run Tryz.prog w = .ok (.bool a.isNone) w := fun w a n c n' c' => Lib.run_eql_slice_nil w _ _ a n c n' c' Tryz.underlying36
  go_enter Tryz.func39,Tryz.ntmps39
  have hp := Hp.start [] w
  go_wp2_with (first | ((with_reducible apply Qat hp);exact ii;exact Sz.z;exact ii;exact zl rfl;decide;(first | exact (rfl : _ = Qan 0 [_]) | exact (rfl : _ = Qan 0 [_,_]) | exact (rfl : _ = Qan 0 [_,_,_]) | exact (rfl : _ = Qan 0 [_,_,_,_]));exact rfl;(first | exact (rfl : _ = List.map (fun x : List Value => x.toArray) [_]) | exact (rfl : _ = List.map (fun x : List Value => x.toArray) [_,_]) | exact (rfl : _ = List.map (fun x : List Value => x.toArray) [_,_,_]) | exact (rfl : _ = List.map (fun x : List Value => x.toArray) [_,_,_,_]));(intro l hl <;> simp only [List.mem_cons,List.not_mem_nil,or_false] at hl <;> rcases hl with rfl | rfl | rfl | rfl <;> rfl);exact rfl;clear hp;(try clear w1);intro g w1 hp;simp only [zp,zq,z0,z1]) | ((with_reducible apply Qar hp);exact ii;exact ii;exact rfl;decide;exact (rfl : _ = Value.slice none 0 0);exact zy rfl;exact ii;exact rfl;exact rfl;decide;(unfold maxLen;decide);decide;clear hp;(try clear w1);intro g cap junk w1 hl1 hl2 hl3 hp;simp only [zp,zq,z0,z1]) | ((with_reducible apply Qay hp);exact ii;exact ii;exact rfl;decide;exact zy rfl;(first | exact List.Perm.refl _ | exact List.perm_middle (l₁ := [_]) | exact List.perm_middle (l₁ := [_,_]) | exact List.perm_middle (l₁ := [_,_,_]) | exact List.perm_middle (l₁ := [_,_,_,_]) | exact List.perm_middle (l₁ := [_,_,_,_,_]));(first | exact pcs_length _ | (simp only [List.length_map,Nat.mul_one]));assumption;assumption;assumption;exact zy rfl;exact ii;exact rfl;exact rfl;decide;(unfold maxLen;omega);omega;clear hp;(try clear w1);intro g cap junk w1 hl1 hl2 hl3 hp;(try dsimp only [List.cons_append,List.nil_append] at hp);simp only [zp,zq,z0,z1]))
  exact bodyPost_ret (Qaf rfl rfl) rfl ⟨rfl,hp.keep⟩
end Go.Proofs.YtblffafmkpnjdaaGreat
set_option linter.unusedSimpArgs false
set_option linter.unusedVariables false
set_option maxRecDepth 100000
namespace Go.Proofs.YtblffafmkpnjdaaGreat
open Go Go.RowKit
attribute [local irreducible] wpList
theorem fl_at {α : Type} {f : α → List Value} {m : Nat} (hm : 0 < m) (hf : ∀ x,(f x).length = m) {bc : List Value} {off : Nat} {L : List α} (h : (bc.drop off).take (L.length * m) = L.flatMap f) {k : Nat} (hk : k < L.length) : (bc.drop (off + k * m)).take m = f L[k] ∧ off + k * m + m ≤ bc.length := by
  obtain ⟨pre,post,h1,h2,_⟩ := Qml f m hf L k hk []
  rw [List.append_nil,← h] at h2
  have hl : L.length * m = k * m + m + (L.length - k - 1) * m := by
    rw [← Nat.succ_mul,← Nat.add_mul];congr 1;omega
  have hlen := congrArg List.length h2
  simp only [List.length_append,List.length_take,List.length_drop,hf,h1] at hlen
  have h3 : ((bc.drop off).take (L.length * m)).drop (k * m) = (f L[k] ++ post) := by rw [h2,← h1,List.drop_left]
  rw [List.drop_take,List.drop_drop] at h3
  have h4 := congrArg (List.take m) h3
  have e9 : ((f L[k]) ++ post).take m = f L[k] := by rw [List.take_append_of_le_length (Nat.le_of_eq (hf _).symm),List.take_of_length_le (Nat.le_of_eq (hf _))]
  rw [e9,List.take_take,Nat.min_eq_left (by omega)] at h4
  refine ⟨h4,?_⟩
  have h5 := congrArg List.length h4
  rw [hf,List.length_take,List.length_drop] at h5
  omega
/-- May a row not be? -/
def Rw.bad (r : Rw) (nb : Int) : Bool := !(decide (0 ≤ r.a) && decide (r.a < nb) && decide (0 ≤ r.b) && decide (r.b < nb) && !(r.a == r.b)) || decide (r.rub < 0) || decide (17179869184 < r.rub) || decide (r.pn < 0) || outv r.pt r.pu (cl (r.rub * r.pn / 4294967296))
def Qep (nb : Int) (S : List Rw) : Int := if 4096 < nb ∨ 16384 < S.length then 3 else if S.any (·.bad nb) then 2 else 0
theorem Qji {nb : Nat} {S : List Rw} (h : Qep nb S = 0) : nb ≤ 4096 ∧ S.length ≤ 16384 ∧ ∀ r ∈ S,r.bad nb = false := by
  unfold Qep at h
  split at h
  · cases h
  · split at h
    · cases h
    · rename_i h1 h2
      refine ⟨by omega,by omega,fun r hr => ?_⟩
      simp only [List.any_eq_true,not_exists,not_and,Bool.not_eq_true] at h2
      exact h2 r hr
theorem bad_not {r : Rw} {nb : Int} (h : r.bad nb = false) : (0 ≤ r.a ∧ r.a < nb ∧ 0 ≤ r.b ∧ r.b < nb ∧ ¬ r.a = r.b) ∧ 0 ≤ r.rub ∧ r.rub ≤ 17179869184 ∧ 0 ≤ r.pn ∧ outv r.pt r.pu (cl (r.rub * r.pn / 4294967296)) = false := by
  simp only [Rw.bad,Bool.or_eq_false_iff,Bool.not_eq_false',Bool.and_eq_true,decide_eq_true_eq,decide_eq_false_iff_not,Bool.not_eq_true',beq_eq_false_iff_ne,ne_eq,Int.not_lt] at h
  obtain ⟨⟨⟨⟨⟨⟨⟨⟨a1,a2⟩,a3⟩,a4⟩,a5⟩,b1⟩,b2⟩,b3⟩,b4⟩ := h
  exact ⟨⟨a1,a2,a3,a4,a5⟩,b1,b2,b3,b4⟩
theorem bad_any {S : List Rw} {nb : Int} {k : Nat} (hk : k < S.length) (h : S[k].bad nb = true) : S.any (·.bad nb) = true := List.any_eq_true.2 ⟨_,List.getElem_mem hk,h⟩
theorem Qll (nb : Int) (v : Value) (m : Nat) (b : Option Addr) (c : Nat) (hv : v = .slice b m c) (h : 4096 < nb ∨ ¬ 4096 < nb ∧ 16384 < (m : Int)) (w : World) : Calls Tryz.prog 14 #[.int .i64 nb,v] w (Ret (.int .i64 3) w) := by
  subst hv
  rcases h with h | ⟨h,h1⟩
  · skip
    go_enter Tryz.func14,Tryz.ntmps14
    have hp := Hp.start [] w
    go_wp2_with (first | ((with_reducible apply Qag hp);exact ii;exact rfl;clear hp;(try clear w1);intro g w1 hp;simp only [zp,zq,z0,z1]) | ((with_reducible apply Qaa hp);exact zt rfl;exact ii;exact ii;(first | exact zl rfl | exact Qad (by omega));(first | (with_reducible exact Qab (by omega)) | (simp only [n0,Nat.reduceAdd,n1,n2,n3,n4,n5,n6,n7,n8,n9];try rfl));simp only [zp,zq,z0,z1]) | ((with_reducible apply Qac hp);exact zt rfl;exact ii;exact ii;(first | exact zio rfl | exact Qae (by omega));simp only [zp,zq,z0,z1]) | ((with_reducible apply Qah hp);exact zt rfl;exact za rfl;exact rfl;exact Sz.z;exact rfl;exact ii;(first | (with_reducible exact Qab (by omega)) | (simp only [n0,Nat.reduceAdd,n1,n2,n3,n4,n5,n6,n7,n8,n9];try rfl));(first | exact zl rfl | exact Qad (by omega));exact rfl;exact ii;clear hp;(try clear w1);intro w1 hp) | ((with_reducible apply Qaj);exact zx rfl;exact zk rfl;exact ii;exact Sz.z;omega;omega;((try simp only [m0,Int.reduceToNat,m1,m2,Nat.reduceMul,Nat.reduceAdd,m3,m4,m5,n0]);exact rfl);simp only [zp,zq,z0,z1]) | ((with_reducible apply Qam hp);exact zt rfl;assumption;exact ii;assumption;(first | exact zl rfl | omega);simp only [zp,zq,z0,z1]) | ((with_reducible apply Qai hp);exact zt rfl;assumption;exact ii;(first | assumption | (first | exact zio rfl | exact Qae (by omega)));simp only [zp,zq,z0,z1]))
    exact bodyPost_ret (Qaf rfl rfl) rfl ⟨rfl,hp.keep⟩
  · skip
    go_enter Tryz.func14,Tryz.ntmps14
    have hp := Hp.start [] w
    go_wp2_with (first | ((with_reducible apply Qag hp);exact ii;exact rfl;clear hp;(try clear w1);intro g w1 hp;simp only [zp,zq,z0,z1]) | ((with_reducible apply Qaa hp);exact zt rfl;exact ii;exact ii;(first | exact zl rfl | exact Qad (by omega));(first | (with_reducible exact Qab (by omega)) | (simp only [n0,Nat.reduceAdd,n1,n2,n3,n4,n5,n6,n7,n8,n9];try rfl));simp only [zp,zq,z0,z1]) | ((with_reducible apply Qac hp);exact zt rfl;exact ii;exact ii;(first | exact zio rfl | exact Qae (by omega));simp only [zp,zq,z0,z1]) | ((with_reducible apply Qah hp);exact zt rfl;exact za rfl;exact rfl;exact Sz.z;exact rfl;exact ii;(first | (with_reducible exact Qab (by omega)) | (simp only [n0,Nat.reduceAdd,n1,n2,n3,n4,n5,n6,n7,n8,n9];try rfl));(first | exact zl rfl | exact Qad (by omega));exact rfl;exact ii;clear hp;(try clear w1);intro w1 hp) | ((with_reducible apply Qaj);exact zx rfl;exact zk rfl;exact ii;exact Sz.z;omega;omega;((try simp only [m0,Int.reduceToNat,m1,m2,Nat.reduceMul,Nat.reduceAdd,m3,m4,m5,n0]);exact rfl);simp only [zp,zq,z0,z1]) | ((with_reducible apply Qam hp);exact zt rfl;assumption;exact ii;assumption;(first | exact zl rfl | omega);simp only [zp,zq,z0,z1]) | ((with_reducible apply Qai hp);exact zt rfl;assumption;exact ii;(first | assumption | (first | exact zio rfl | exact Qae (by omega)));simp only [zp,zq,z0,z1]))
    exact bodyPost_ret (Qaf rfl rfl) rfl ⟨rfl,hp.keep⟩
theorem check_nil (nb : Int) (h : ¬ 4096 < nb) (w : World) : Calls Tryz.prog 14 #[.int .i64 nb,.slice none 0 0] w (Ret (.int .i64 0) w) := by
  go_enter Tryz.func14,Tryz.ntmps14
  have hp := Hp.start [] w
  go_wp2_with (first | ((with_reducible apply Qag hp);exact ii;exact rfl;clear hp;(try clear w1);intro g w1 hp;simp only [zp,zq,z0,z1]) | ((with_reducible apply Qaa hp);exact zt rfl;exact ii;exact ii;(first | exact zl rfl | exact Qad (by omega));(first | (with_reducible exact Qab (by omega)) | (simp only [n0,Nat.reduceAdd,n1,n2,n3,n4,n5,n6,n7,n8,n9];try rfl));simp only [zp,zq,z0,z1]) | ((with_reducible apply Qac hp);exact zt rfl;exact ii;exact ii;(first | exact zio rfl | exact Qae (by omega));simp only [zp,zq,z0,z1]) | ((with_reducible apply Qah hp);exact zt rfl;exact za rfl;exact rfl;exact Sz.z;exact rfl;exact ii;(first | (with_reducible exact Qab (by omega)) | (simp only [n0,Nat.reduceAdd,n1,n2,n3,n4,n5,n6,n7,n8,n9];try rfl));(first | exact zl rfl | exact Qad (by omega));exact rfl;exact ii;clear hp;(try clear w1);intro w1 hp) | ((with_reducible apply Qaj);exact zx rfl;exact zk rfl;exact ii;exact Sz.z;omega;omega;((try simp only [m0,Int.reduceToNat,m1,m2,Nat.reduceMul,Nat.reduceAdd,m3,m4,m5,n0]);exact rfl);simp only [zp,zq,z0,z1]) | ((with_reducible apply Qam hp);exact zt rfl;assumption;exact ii;assumption;(first | exact zl rfl | omega);simp only [zp,zq,z0,z1]) | ((with_reducible apply Qai hp);exact zt rfl;assumption;exact ii;(first | assumption | (first | exact zio rfl | exact Qae (by omega)));simp only [zp,zq,z0,z1]))
  go_loopw [17] (fun i wr => i = .int .i64 (0 : Int) ∧ Hp [] w [] wr) (fun i _ => 0)
  case atStart => exact ⟨rfl,hp⟩
  case round =>
    clear hp
    obtain ⟨rfl,hp⟩ := hrel
    go_wp2_with (first | ((with_reducible apply Qag hp);exact ii;exact rfl;clear hp;(try clear w1);intro g w1 hp;simp only [zp,zq,z0,z1]) | ((with_reducible apply Qaa hp);exact zt rfl;exact ii;exact ii;(first | exact zl rfl | exact Qad (by omega));(first | (with_reducible exact Qab (by omega)) | (simp only [n0,Nat.reduceAdd,n1,n2,n3,n4,n5,n6,n7,n8,n9];try rfl));simp only [zp,zq,z0,z1]) | ((with_reducible apply Qac hp);exact zt rfl;exact ii;exact ii;(first | exact zio rfl | exact Qae (by omega));simp only [zp,zq,z0,z1]) | ((with_reducible apply Qah hp);exact zt rfl;exact za rfl;exact rfl;exact Sz.z;exact rfl;exact ii;(first | (with_reducible exact Qab (by omega)) | (simp only [n0,Nat.reduceAdd,n1,n2,n3,n4,n5,n6,n7,n8,n9];try rfl));(first | exact zl rfl | exact Qad (by omega));exact rfl;exact ii;clear hp;(try clear w1);intro w1 hp) | ((with_reducible apply Qaj);exact zx rfl;exact zk rfl;exact ii;exact Sz.z;omega;omega;((try simp only [m0,Int.reduceToNat,m1,m2,Nat.reduceMul,Nat.reduceAdd,m3,m4,m5,n0]);exact rfl);simp only [zp,zq,z0,z1]) | ((with_reducible apply Qam hp);exact zt rfl;assumption;exact ii;assumption;(first | exact zl rfl | omega);simp only [zp,zq,z0,z1]) | ((with_reducible apply Qai hp);exact zt rfl;assumption;exact ii;(first | assumption | (first | exact zio rfl | exact Qae (by omega)));simp only [zp,zq,z0,z1]))
    exact bodyPost_ret (Qaf rfl rfl) rfl ⟨rfl,hp.keep⟩
set_option maxHeartbeats 8000000 in
theorem check_far (nb : Int) (S : List Rw) (h1 : ¬ 4096 < nb) (h2 : ¬ 16384 < (S.length : Int)) (e : Int) (HE : Hid (e = if S.any (·.bad nb) then 2 else 0)) (HS : Hid (∀ r ∈ S,r.i64f)) (g off cap : Nat) (bc : List Value) (tx : TypeId) (zx : Nat × Nat) (w : World) (hb : w.heap[g]? = some (.cells bc.toArray tx zx)) (hn : (bc.drop off).take (S.length * 25) = S.flatMap RVl) :
    Calls Tryz.prog 14 #[.int .i64 nb,.slice (some ⟨g,off,none⟩) S.length cap] w (Ret (.int .i64 e) w) := by
  have HN := Lib.hid hn
  clear hn
  go_enter Tryz.func14,Tryz.ntmps14
  have hp := Hp.start [] w
  go_wp2_with (first | ((with_reducible apply Qag hp);exact ii;exact rfl;clear hp;(try clear w1);intro g w1 hp;simp only [zp,zq,z0,z1]) | ((with_reducible apply Qaa hp);exact zt rfl;exact ii;exact ii;(first | exact zl rfl | exact Qad (by omega));(first | (with_reducible exact Qab (by omega)) | (simp only [n0,Nat.reduceAdd,n1,n2,n3,n4,n5,n6,n7,n8,n9];try rfl));simp only [zp,zq,z0,z1]) | ((with_reducible apply Qac hp);exact zt rfl;exact ii;exact ii;(first | exact zio rfl | exact Qae (by omega));simp only [zp,zq,z0,z1]) | ((with_reducible apply Qah hp);exact zt rfl;exact za rfl;exact rfl;exact Sz.z;exact rfl;exact ii;(first | (with_reducible exact Qab (by omega)) | (simp only [n0,Nat.reduceAdd,n1,n2,n3,n4,n5,n6,n7,n8,n9];try rfl));(first | exact zl rfl | exact Qad (by omega));exact rfl;exact ii;clear hp;(try clear w1);intro w1 hp) | ((with_reducible apply Qaj);exact zx rfl;exact zk rfl;exact ii;exact Sz.z;omega;omega;((try simp only [m0,Int.reduceToNat,m1,m2,Nat.reduceMul,Nat.reduceAdd,m3,m4,m5,n0]);exact rfl);simp only [zp,zq,z0,z1]) | ((with_reducible apply Qam hp);exact zt rfl;assumption;exact ii;assumption;(first | exact zl rfl | omega);simp only [zp,zq,z0,z1]) | ((with_reducible apply Qai hp);exact zt rfl;assumption;exact ii;(first | assumption | (first | exact zio rfl | exact Qae (by omega)));simp only [zp,zq,z0,z1]))
  go_loopw [17] (fun i wr => ∃ k : Nat,k ≤ S.length ∧ i = .int .i64 k ∧ (S.take k).any (·.bad nb) = false ∧ Hp [] w [] wr) (fun i _ => S.length - (intOf i).toNat)
  case atStart => exact ⟨0,by omega,rfl,rfl,hp⟩
  case round =>
    clear hp
    obtain ⟨k,hk,rfl,hf,hp⟩ := hrel
    have HF := Lib.hid hf
    clear hf
    by_cases hk1 : k < S.length
    · have hk2 : (k : Int) < S.length := by omega
      obtain ⟨hat,hroom⟩ := fl_at (by omega) Qbx HN.out hk1
      have HR := Lib.hid (HS.out _ (List.getElem_mem hk1))
      have HB := Lib.hid (bad_any (nb := nb) hk1)
      have HT : Hid (S[k].bad nb = false → (S.take (k + 1)).any (·.bad nb) = false) := Lib.hid fun h => by
        rw [List.take_add_one,List.any_append,HF.out,List.getElem?_eq_getElem hk1]
        simp [h]
      clear HF
      unfold RVl at hat
      generalize S[k] = r at *
      have MU := Lib.hid (Qgr r.rub r.pn HR.out.2.2.2.2.2.1 HR.out.2.2.2.2.2.2.1)
      have OU := Lib.hid (Qkb r.pt r.pu (cl (r.rub * r.pn / 4294967296)) HR.out.2.2.2.2.2.2.2.1 HR.out.2.2.2.2.2.2.2.2 (Qbu _))
      have HO : Hid (r.bad nb = (!(decide (0 ≤ r.a) && decide (r.a < nb) && decide (0 ≤ r.b) && decide (r.b < nb) && !(r.a == r.b)) || decide (r.rub < 0) || decide (17179869184 < r.rub) || decide (r.pn < 0) || outv r.pt r.pu (cl (r.rub * r.pn / 4294967296)))) := Lib.hid rfl
      generalize r.bad nb = bd at *
      generalize outv r.pt r.pu (cl (r.rub * r.pn / 4294967296)) = ob at *
      generalize cl (r.rub * r.pn / 4294967296) = q at *
      by_cases hc0 : 0 ≤ r.a
      case neg =>
        obtain rfl : bd = true := by rw [HO.out];simp [hc0]
        obtain rfl : e = 2 := by rw [HE.out,if_pos (HB.out rfl)]
        go_wp2_with (first | ((with_reducible apply Qbj);(conv => whnf);refine Bx.mk ?_;(try simp only [zp,zq,z0,z1])) | ((with_reducible apply Qag hp);exact ii;exact rfl;clear hp;(try clear w1);intro g w1 hp;simp only [zp,zq,z0,z1]) | ((with_reducible apply Qaa hp);exact zt rfl;exact ii;exact ii;(first | exact zl rfl | exact Qad (by omega));(first | (with_reducible exact Qab (by omega)) | (simp only [n0,Nat.reduceAdd,n1,n2,n3,n4,n5,n6,n7,n8,n9];try rfl));simp only [zp,zq,z0,z1]) | ((with_reducible apply Qac hp);exact zt rfl;exact ii;exact ii;(first | exact zio rfl | exact Qae (by omega));simp only [zp,zq,z0,z1]) | ((with_reducible apply Qah hp);exact zt rfl;exact za rfl;exact rfl;exact Sz.z;exact rfl;exact ii;(first | (with_reducible exact Qab (by omega)) | (simp only [n0,Nat.reduceAdd,n1,n2,n3,n4,n5,n6,n7,n8,n9];try rfl));(first | exact zl rfl | exact Qad (by omega));exact rfl;exact ii;clear hp;(try clear w1);intro w1 hp) | ((with_reducible apply Qaj);exact zx rfl;exact zk rfl;exact ii;exact Sz.z;omega;omega;((try simp only [m0,Int.reduceToNat,m1,m2,Nat.reduceMul,Nat.reduceAdd,m3,m4,m5,n0]);exact rfl);simp only [zp,zq,z0,z1]) | ((with_reducible apply Qam hp);exact zt rfl;assumption;exact ii;assumption;(first | exact zl rfl | omega);simp only [zp,zq,z0,z1]) | ((with_reducible apply Qai hp);exact zt rfl;assumption;exact ii;(first | assumption | (first | exact zio rfl | exact Qae (by omega)));simp only [zp,zq,z0,z1]))
        skip
        have hq := hp
        refine Qau hp hq [] (.q 0 (.q 1 (.q 2 (.q 3 (.q 4 (.q 5 (.q 6 (.q 7 (.q 8 (.q 9 (.q 10 (.q 11 (.q 12 (.q 13 (.q 14 (.q 15 (.q 16 (.q 17 (.q 18 (.q 19 (.q 20 (.q 21 (.q 22 (.q 23 (.q 24 (.q 25 (.p 26 (.p 27 (.q 28 .nil))))))))))))))))))))))))))))) (by kernel_rfl) (by kernel_rfl) ?_
        clear hp hq;(try clear w1);intro w1 hp hq
        repeat' (first | (((with_reducible apply sg_q);exact zo rfl);(first | ((with_reducible apply Qbb hp);exact rfl;exact zt rfl;exact ii;exact ii;(first | exact zio rfl | exact Qae (by omega));simp only [zp,zq,z0,z1]) | ((with_reducible apply Qbe hp);exact rfl;exact zt rfl;assumption;exact ii;(first | assumption | (first | exact zio rfl | exact Qae (by omega)));simp only [zp,zq,z0,z1]) | ((with_reducible apply Qbv hp);exact zb rfl;simp only [zp,zq,z0,z1]) | ((with_reducible apply Qbm hp);exact rfl;(focus (intro _;go_simp;(try go_ints);try with_reducible rfl));simp only [zp,zq,z0,z1]) | ((with_reducible apply Qfa hp);exact rfl;simp only [zp,zq,z0,z1]))) | (((with_reducible apply sg_p);exact zo rfl);(first | ((with_reducible apply Qbp hp);exact rfl;(focus (intro _;go_simp;try first | with_reducible rfl | exact ⟨rfl,rfl⟩));(with_reducible first | exact fun w => MU.out w | exact fun w => OU.out w);simp only [zp,zq,z0,z1]) | ((with_reducible apply Qea hp);exact rfl;simp only [zp,zq,z0,z1]))) | ((with_reducible apply Qbt hq);clear hp hq;(try clear w1);intro w1 hp))
        go_wp2_with (first | ((with_reducible apply Qag hp);exact ii;exact rfl;clear hp;(try clear w1);intro g w1 hp;simp only [zp,zq,z0,z1]) | ((with_reducible apply Qaa hp);exact zt rfl;exact ii;exact ii;(first | exact zl rfl | exact Qad (by omega));(first | (with_reducible exact Qab (by omega)) | (simp only [n0,Nat.reduceAdd,n1,n2,n3,n4,n5,n6,n7,n8,n9];try rfl));simp only [zp,zq,z0,z1]) | ((with_reducible apply Qac hp);exact zt rfl;exact ii;exact ii;(first | exact zio rfl | exact Qae (by omega));simp only [zp,zq,z0,z1]) | ((with_reducible apply Qah hp);exact zt rfl;exact za rfl;exact rfl;exact Sz.z;exact rfl;exact ii;(first | (with_reducible exact Qab (by omega)) | (simp only [n0,Nat.reduceAdd,n1,n2,n3,n4,n5,n6,n7,n8,n9];try rfl));(first | exact zl rfl | exact Qad (by omega));exact rfl;exact ii;clear hp;(try clear w1);intro w1 hp) | ((with_reducible apply Qaj);exact zx rfl;exact zk rfl;exact ii;exact Sz.z;omega;omega;((try simp only [m0,Int.reduceToNat,m1,m2,Nat.reduceMul,Nat.reduceAdd,m3,m4,m5,n0]);exact rfl);simp only [zp,zq,z0,z1]) | ((with_reducible apply Qam hp);exact zt rfl;assumption;exact ii;assumption;(first | exact zl rfl | omega);simp only [zp,zq,z0,z1]) | ((with_reducible apply Qai hp);exact zt rfl;assumption;exact ii;(first | assumption | (first | exact zio rfl | exact Qae (by omega)));simp only [zp,zq,z0,z1]))
        exact bodyPost_ret (Qaf rfl rfl) rfl ⟨rfl,hp.keep⟩
      by_cases hc1 : r.a < nb
      case neg =>
        obtain rfl : bd = true := by rw [HO.out];simp [hc1]
        obtain rfl : e = 2 := by rw [HE.out,if_pos (HB.out rfl)]
        go_wp2_with (first | ((with_reducible apply Qbj);(conv => whnf);refine Bx.mk ?_;(try simp only [zp,zq,z0,z1])) | ((with_reducible apply Qag hp);exact ii;exact rfl;clear hp;(try clear w1);intro g w1 hp;simp only [zp,zq,z0,z1]) | ((with_reducible apply Qaa hp);exact zt rfl;exact ii;exact ii;(first | exact zl rfl | exact Qad (by omega));(first | (with_reducible exact Qab (by omega)) | (simp only [n0,Nat.reduceAdd,n1,n2,n3,n4,n5,n6,n7,n8,n9];try rfl));simp only [zp,zq,z0,z1]) | ((with_reducible apply Qac hp);exact zt rfl;exact ii;exact ii;(first | exact zio rfl | exact Qae (by omega));simp only [zp,zq,z0,z1]) | ((with_reducible apply Qah hp);exact zt rfl;exact za rfl;exact rfl;exact Sz.z;exact rfl;exact ii;(first | (with_reducible exact Qab (by omega)) | (simp only [n0,Nat.reduceAdd,n1,n2,n3,n4,n5,n6,n7,n8,n9];try rfl));(first | exact zl rfl | exact Qad (by omega));exact rfl;exact ii;clear hp;(try clear w1);intro w1 hp) | ((with_reducible apply Qaj);exact zx rfl;exact zk rfl;exact ii;exact Sz.z;omega;omega;((try simp only [m0,Int.reduceToNat,m1,m2,Nat.reduceMul,Nat.reduceAdd,m3,m4,m5,n0]);exact rfl);simp only [zp,zq,z0,z1]) | ((with_reducible apply Qam hp);exact zt rfl;assumption;exact ii;assumption;(first | exact zl rfl | omega);simp only [zp,zq,z0,z1]) | ((with_reducible apply Qai hp);exact zt rfl;assumption;exact ii;(first | assumption | (first | exact zio rfl | exact Qae (by omega)));simp only [zp,zq,z0,z1]))
        skip
        have hq := hp
        refine Qau hp hq [] (.q 0 (.q 1 (.q 2 (.q 3 (.q 4 (.q 5 (.q 6 (.q 7 (.q 8 (.q 9 (.q 10 (.q 11 (.q 12 (.q 13 (.q 14 (.q 15 (.q 16 (.q 17 (.q 18 (.q 19 (.q 20 (.q 21 (.q 22 (.q 23 (.q 24 (.q 25 (.p 26 (.p 27 (.q 28 .nil))))))))))))))))))))))))))))) (by kernel_rfl) (by kernel_rfl) ?_
        clear hp hq;(try clear w1);intro w1 hp hq
        repeat' (first | (((with_reducible apply sg_q);exact zo rfl);(first | ((with_reducible apply Qbb hp);exact rfl;exact zt rfl;exact ii;exact ii;(first | exact zio rfl | exact Qae (by omega));simp only [zp,zq,z0,z1]) | ((with_reducible apply Qbe hp);exact rfl;exact zt rfl;assumption;exact ii;(first | assumption | (first | exact zio rfl | exact Qae (by omega)));simp only [zp,zq,z0,z1]) | ((with_reducible apply Qbv hp);exact zb rfl;simp only [zp,zq,z0,z1]) | ((with_reducible apply Qbm hp);exact rfl;(focus (intro _;go_simp;(try go_ints);try with_reducible rfl));simp only [zp,zq,z0,z1]) | ((with_reducible apply Qfa hp);exact rfl;simp only [zp,zq,z0,z1]))) | (((with_reducible apply sg_p);exact zo rfl);(first | ((with_reducible apply Qbp hp);exact rfl;(focus (intro _;go_simp;try first | with_reducible rfl | exact ⟨rfl,rfl⟩));(with_reducible first | exact fun w => MU.out w | exact fun w => OU.out w);simp only [zp,zq,z0,z1]) | ((with_reducible apply Qea hp);exact rfl;simp only [zp,zq,z0,z1]))) | ((with_reducible apply Qbt hq);clear hp hq;(try clear w1);intro w1 hp))
        go_wp2_with (first | ((with_reducible apply Qag hp);exact ii;exact rfl;clear hp;(try clear w1);intro g w1 hp;simp only [zp,zq,z0,z1]) | ((with_reducible apply Qaa hp);exact zt rfl;exact ii;exact ii;(first | exact zl rfl | exact Qad (by omega));(first | (with_reducible exact Qab (by omega)) | (simp only [n0,Nat.reduceAdd,n1,n2,n3,n4,n5,n6,n7,n8,n9];try rfl));simp only [zp,zq,z0,z1]) | ((with_reducible apply Qac hp);exact zt rfl;exact ii;exact ii;(first | exact zio rfl | exact Qae (by omega));simp only [zp,zq,z0,z1]) | ((with_reducible apply Qah hp);exact zt rfl;exact za rfl;exact rfl;exact Sz.z;exact rfl;exact ii;(first | (with_reducible exact Qab (by omega)) | (simp only [n0,Nat.reduceAdd,n1,n2,n3,n4,n5,n6,n7,n8,n9];try rfl));(first | exact zl rfl | exact Qad (by omega));exact rfl;exact ii;clear hp;(try clear w1);intro w1 hp) | ((with_reducible apply Qaj);exact zx rfl;exact zk rfl;exact ii;exact Sz.z;omega;omega;((try simp only [m0,Int.reduceToNat,m1,m2,Nat.reduceMul,Nat.reduceAdd,m3,m4,m5,n0]);exact rfl);simp only [zp,zq,z0,z1]) | ((with_reducible apply Qam hp);exact zt rfl;assumption;exact ii;assumption;(first | exact zl rfl | omega);simp only [zp,zq,z0,z1]) | ((with_reducible apply Qai hp);exact zt rfl;assumption;exact ii;(first | assumption | (first | exact zio rfl | exact Qae (by omega)));simp only [zp,zq,z0,z1]))
        exact bodyPost_ret (Qaf rfl rfl) rfl ⟨rfl,hp.keep⟩
      by_cases hc2 : 0 ≤ r.b
      case neg =>
        obtain rfl : bd = true := by rw [HO.out];simp [hc2]
        obtain rfl : e = 2 := by rw [HE.out,if_pos (HB.out rfl)]
        go_wp2_with (first | ((with_reducible apply Qbj);(conv => whnf);refine Bx.mk ?_;(try simp only [zp,zq,z0,z1])) | ((with_reducible apply Qag hp);exact ii;exact rfl;clear hp;(try clear w1);intro g w1 hp;simp only [zp,zq,z0,z1]) | ((with_reducible apply Qaa hp);exact zt rfl;exact ii;exact ii;(first | exact zl rfl | exact Qad (by omega));(first | (with_reducible exact Qab (by omega)) | (simp only [n0,Nat.reduceAdd,n1,n2,n3,n4,n5,n6,n7,n8,n9];try rfl));simp only [zp,zq,z0,z1]) | ((with_reducible apply Qac hp);exact zt rfl;exact ii;exact ii;(first | exact zio rfl | exact Qae (by omega));simp only [zp,zq,z0,z1]) | ((with_reducible apply Qah hp);exact zt rfl;exact za rfl;exact rfl;exact Sz.z;exact rfl;exact ii;(first | (with_reducible exact Qab (by omega)) | (simp only [n0,Nat.reduceAdd,n1,n2,n3,n4,n5,n6,n7,n8,n9];try rfl));(first | exact zl rfl | exact Qad (by omega));exact rfl;exact ii;clear hp;(try clear w1);intro w1 hp) | ((with_reducible apply Qaj);exact zx rfl;exact zk rfl;exact ii;exact Sz.z;omega;omega;((try simp only [m0,Int.reduceToNat,m1,m2,Nat.reduceMul,Nat.reduceAdd,m3,m4,m5,n0]);exact rfl);simp only [zp,zq,z0,z1]) | ((with_reducible apply Qam hp);exact zt rfl;assumption;exact ii;assumption;(first | exact zl rfl | omega);simp only [zp,zq,z0,z1]) | ((with_reducible apply Qai hp);exact zt rfl;assumption;exact ii;(first | assumption | (first | exact zio rfl | exact Qae (by omega)));simp only [zp,zq,z0,z1]))
        skip
        have hq := hp
        refine Qau hp hq [] (.q 0 (.q 1 (.q 2 (.q 3 (.q 4 (.q 5 (.q 6 (.q 7 (.q 8 (.q 9 (.q 10 (.q 11 (.q 12 (.q 13 (.q 14 (.q 15 (.q 16 (.q 17 (.q 18 (.q 19 (.q 20 (.q 21 (.q 22 (.q 23 (.q 24 (.q 25 (.p 26 (.p 27 (.q 28 .nil))))))))))))))))))))))))))))) (by kernel_rfl) (by kernel_rfl) ?_
        clear hp hq;(try clear w1);intro w1 hp hq
        repeat' (first | (((with_reducible apply sg_q);exact zo rfl);(first | ((with_reducible apply Qbb hp);exact rfl;exact zt rfl;exact ii;exact ii;(first | exact zio rfl | exact Qae (by omega));simp only [zp,zq,z0,z1]) | ((with_reducible apply Qbe hp);exact rfl;exact zt rfl;assumption;exact ii;(first | assumption | (first | exact zio rfl | exact Qae (by omega)));simp only [zp,zq,z0,z1]) | ((with_reducible apply Qbv hp);exact zb rfl;simp only [zp,zq,z0,z1]) | ((with_reducible apply Qbm hp);exact rfl;(focus (intro _;go_simp;(try go_ints);try with_reducible rfl));simp only [zp,zq,z0,z1]) | ((with_reducible apply Qfa hp);exact rfl;simp only [zp,zq,z0,z1]))) | (((with_reducible apply sg_p);exact zo rfl);(first | ((with_reducible apply Qbp hp);exact rfl;(focus (intro _;go_simp;try first | with_reducible rfl | exact ⟨rfl,rfl⟩));(with_reducible first | exact fun w => MU.out w | exact fun w => OU.out w);simp only [zp,zq,z0,z1]) | ((with_reducible apply Qea hp);exact rfl;simp only [zp,zq,z0,z1]))) | ((with_reducible apply Qbt hq);clear hp hq;(try clear w1);intro w1 hp))
        go_wp2_with (first | ((with_reducible apply Qag hp);exact ii;exact rfl;clear hp;(try clear w1);intro g w1 hp;simp only [zp,zq,z0,z1]) | ((with_reducible apply Qaa hp);exact zt rfl;exact ii;exact ii;(first | exact zl rfl | exact Qad (by omega));(first | (with_reducible exact Qab (by omega)) | (simp only [n0,Nat.reduceAdd,n1,n2,n3,n4,n5,n6,n7,n8,n9];try rfl));simp only [zp,zq,z0,z1]) | ((with_reducible apply Qac hp);exact zt rfl;exact ii;exact ii;(first | exact zio rfl | exact Qae (by omega));simp only [zp,zq,z0,z1]) | ((with_reducible apply Qah hp);exact zt rfl;exact za rfl;exact rfl;exact Sz.z;exact rfl;exact ii;(first | (with_reducible exact Qab (by omega)) | (simp only [n0,Nat.reduceAdd,n1,n2,n3,n4,n5,n6,n7,n8,n9];try rfl));(first | exact zl rfl | exact Qad (by omega));exact rfl;exact ii;clear hp;(try clear w1);intro w1 hp) | ((with_reducible apply Qaj);exact zx rfl;exact zk rfl;exact ii;exact Sz.z;omega;omega;((try simp only [m0,Int.reduceToNat,m1,m2,Nat.reduceMul,Nat.reduceAdd,m3,m4,m5,n0]);exact rfl);simp only [zp,zq,z0,z1]) | ((with_reducible apply Qam hp);exact zt rfl;assumption;exact ii;assumption;(first | exact zl rfl | omega);simp only [zp,zq,z0,z1]) | ((with_reducible apply Qai hp);exact zt rfl;assumption;exact ii;(first | assumption | (first | exact zio rfl | exact Qae (by omega)));simp only [zp,zq,z0,z1]))
        exact bodyPost_ret (Qaf rfl rfl) rfl ⟨rfl,hp.keep⟩
      by_cases hc3 : r.b < nb
      case neg =>
        obtain rfl : bd = true := by rw [HO.out];simp [hc3]
        obtain rfl : e = 2 := by rw [HE.out,if_pos (HB.out rfl)]
        go_wp2_with (first | ((with_reducible apply Qbj);(conv => whnf);refine Bx.mk ?_;(try simp only [zp,zq,z0,z1])) | ((with_reducible apply Qag hp);exact ii;exact rfl;clear hp;(try clear w1);intro g w1 hp;simp only [zp,zq,z0,z1]) | ((with_reducible apply Qaa hp);exact zt rfl;exact ii;exact ii;(first | exact zl rfl | exact Qad (by omega));(first | (with_reducible exact Qab (by omega)) | (simp only [n0,Nat.reduceAdd,n1,n2,n3,n4,n5,n6,n7,n8,n9];try rfl));simp only [zp,zq,z0,z1]) | ((with_reducible apply Qac hp);exact zt rfl;exact ii;exact ii;(first | exact zio rfl | exact Qae (by omega));simp only [zp,zq,z0,z1]) | ((with_reducible apply Qah hp);exact zt rfl;exact za rfl;exact rfl;exact Sz.z;exact rfl;exact ii;(first | (with_reducible exact Qab (by omega)) | (simp only [n0,Nat.reduceAdd,n1,n2,n3,n4,n5,n6,n7,n8,n9];try rfl));(first | exact zl rfl | exact Qad (by omega));exact rfl;exact ii;clear hp;(try clear w1);intro w1 hp) | ((with_reducible apply Qaj);exact zx rfl;exact zk rfl;exact ii;exact Sz.z;omega;omega;((try simp only [m0,Int.reduceToNat,m1,m2,Nat.reduceMul,Nat.reduceAdd,m3,m4,m5,n0]);exact rfl);simp only [zp,zq,z0,z1]) | ((with_reducible apply Qam hp);exact zt rfl;assumption;exact ii;assumption;(first | exact zl rfl | omega);simp only [zp,zq,z0,z1]) | ((with_reducible apply Qai hp);exact zt rfl;assumption;exact ii;(first | assumption | (first | exact zio rfl | exact Qae (by omega)));simp only [zp,zq,z0,z1]))
        skip
        have hq := hp
        refine Qau hp hq [] (.q 0 (.q 1 (.q 2 (.q 3 (.q 4 (.q 5 (.q 6 (.q 7 (.q 8 (.q 9 (.q 10 (.q 11 (.q 12 (.q 13 (.q 14 (.q 15 (.q 16 (.q 17 (.q 18 (.q 19 (.q 20 (.q 21 (.q 22 (.q 23 (.q 24 (.q 25 (.p 26 (.p 27 (.q 28 .nil))))))))))))))))))))))))))))) (by kernel_rfl) (by kernel_rfl) ?_
        clear hp hq;(try clear w1);intro w1 hp hq
        repeat' (first | (((with_reducible apply sg_q);exact zo rfl);(first | ((with_reducible apply Qbb hp);exact rfl;exact zt rfl;exact ii;exact ii;(first | exact zio rfl | exact Qae (by omega));simp only [zp,zq,z0,z1]) | ((with_reducible apply Qbe hp);exact rfl;exact zt rfl;assumption;exact ii;(first | assumption | (first | exact zio rfl | exact Qae (by omega)));simp only [zp,zq,z0,z1]) | ((with_reducible apply Qbv hp);exact zb rfl;simp only [zp,zq,z0,z1]) | ((with_reducible apply Qbm hp);exact rfl;(focus (intro _;go_simp;(try go_ints);try with_reducible rfl));simp only [zp,zq,z0,z1]) | ((with_reducible apply Qfa hp);exact rfl;simp only [zp,zq,z0,z1]))) | (((with_reducible apply sg_p);exact zo rfl);(first | ((with_reducible apply Qbp hp);exact rfl;(focus (intro _;go_simp;try first | with_reducible rfl | exact ⟨rfl,rfl⟩));(with_reducible first | exact fun w => MU.out w | exact fun w => OU.out w);simp only [zp,zq,z0,z1]) | ((with_reducible apply Qea hp);exact rfl;simp only [zp,zq,z0,z1]))) | ((with_reducible apply Qbt hq);clear hp hq;(try clear w1);intro w1 hp))
        go_wp2_with (first | ((with_reducible apply Qag hp);exact ii;exact rfl;clear hp;(try clear w1);intro g w1 hp;simp only [zp,zq,z0,z1]) | ((with_reducible apply Qaa hp);exact zt rfl;exact ii;exact ii;(first | exact zl rfl | exact Qad (by omega));(first | (with_reducible exact Qab (by omega)) | (simp only [n0,Nat.reduceAdd,n1,n2,n3,n4,n5,n6,n7,n8,n9];try rfl));simp only [zp,zq,z0,z1]) | ((with_reducible apply Qac hp);exact zt rfl;exact ii;exact ii;(first | exact zio rfl | exact Qae (by omega));simp only [zp,zq,z0,z1]) | ((with_reducible apply Qah hp);exact zt rfl;exact za rfl;exact rfl;exact Sz.z;exact rfl;exact ii;(first | (with_reducible exact Qab (by omega)) | (simp only [n0,Nat.reduceAdd,n1,n2,n3,n4,n5,n6,n7,n8,n9];try rfl));(first | exact zl rfl | exact Qad (by omega));exact rfl;exact ii;clear hp;(try clear w1);intro w1 hp) | ((with_reducible apply Qaj);exact zx rfl;exact zk rfl;exact ii;exact Sz.z;omega;omega;((try simp only [m0,Int.reduceToNat,m1,m2,Nat.reduceMul,Nat.reduceAdd,m3,m4,m5,n0]);exact rfl);simp only [zp,zq,z0,z1]) | ((with_reducible apply Qam hp);exact zt rfl;assumption;exact ii;assumption;(first | exact zl rfl | omega);simp only [zp,zq,z0,z1]) | ((with_reducible apply Qai hp);exact zt rfl;assumption;exact ii;(first | assumption | (first | exact zio rfl | exact Qae (by omega)));simp only [zp,zq,z0,z1]))
        exact bodyPost_ret (Qaf rfl rfl) rfl ⟨rfl,hp.keep⟩
      by_cases hc4 : ¬ r.a = r.b
      case neg =>
        obtain rfl : bd = true := by rw [HO.out];simp [Decidable.of_not_not hc4]
        obtain rfl : e = 2 := by rw [HE.out,if_pos (HB.out rfl)]
        go_wp2_with (first | ((with_reducible apply Qbj);(conv => whnf);refine Bx.mk ?_;(try simp only [zp,zq,z0,z1])) | ((with_reducible apply Qag hp);exact ii;exact rfl;clear hp;(try clear w1);intro g w1 hp;simp only [zp,zq,z0,z1]) | ((with_reducible apply Qaa hp);exact zt rfl;exact ii;exact ii;(first | exact zl rfl | exact Qad (by omega));(first | (with_reducible exact Qab (by omega)) | (simp only [n0,Nat.reduceAdd,n1,n2,n3,n4,n5,n6,n7,n8,n9];try rfl));simp only [zp,zq,z0,z1]) | ((with_reducible apply Qac hp);exact zt rfl;exact ii;exact ii;(first | exact zio rfl | exact Qae (by omega));simp only [zp,zq,z0,z1]) | ((with_reducible apply Qah hp);exact zt rfl;exact za rfl;exact rfl;exact Sz.z;exact rfl;exact ii;(first | (with_reducible exact Qab (by omega)) | (simp only [n0,Nat.reduceAdd,n1,n2,n3,n4,n5,n6,n7,n8,n9];try rfl));(first | exact zl rfl | exact Qad (by omega));exact rfl;exact ii;clear hp;(try clear w1);intro w1 hp) | ((with_reducible apply Qaj);exact zx rfl;exact zk rfl;exact ii;exact Sz.z;omega;omega;((try simp only [m0,Int.reduceToNat,m1,m2,Nat.reduceMul,Nat.reduceAdd,m3,m4,m5,n0]);exact rfl);simp only [zp,zq,z0,z1]) | ((with_reducible apply Qam hp);exact zt rfl;assumption;exact ii;assumption;(first | exact zl rfl | omega);simp only [zp,zq,z0,z1]) | ((with_reducible apply Qai hp);exact zt rfl;assumption;exact ii;(first | assumption | (first | exact zio rfl | exact Qae (by omega)));simp only [zp,zq,z0,z1]))
        have hne : (r.a != r.b) = false := by simpa using Decidable.of_not_not hc4
        rw [hne]
        have hq := hp
        refine Qau hp hq [] (.q 0 (.q 1 (.q 2 (.q 3 (.q 4 (.q 5 (.q 6 (.q 7 (.q 8 (.q 9 (.q 10 (.q 11 (.q 12 (.q 13 (.q 14 (.q 15 (.q 16 (.q 17 (.q 18 (.q 19 (.q 20 (.q 21 (.q 22 (.q 23 (.q 24 (.q 25 (.p 26 (.p 27 (.q 28 .nil))))))))))))))))))))))))))))) (by kernel_rfl) (by kernel_rfl) ?_
        clear hp hq;(try clear w1);intro w1 hp hq
        repeat' (first | (((with_reducible apply sg_q);exact zo rfl);(first | ((with_reducible apply Qbb hp);exact rfl;exact zt rfl;exact ii;exact ii;(first | exact zio rfl | exact Qae (by omega));simp only [zp,zq,z0,z1]) | ((with_reducible apply Qbe hp);exact rfl;exact zt rfl;assumption;exact ii;(first | assumption | (first | exact zio rfl | exact Qae (by omega)));simp only [zp,zq,z0,z1]) | ((with_reducible apply Qbv hp);exact zb rfl;simp only [zp,zq,z0,z1]) | ((with_reducible apply Qbm hp);exact rfl;(focus (intro _;go_simp;(try go_ints);try with_reducible rfl));simp only [zp,zq,z0,z1]) | ((with_reducible apply Qfa hp);exact rfl;simp only [zp,zq,z0,z1]))) | (((with_reducible apply sg_p);exact zo rfl);(first | ((with_reducible apply Qbp hp);exact rfl;(focus (intro _;go_simp;try first | with_reducible rfl | exact ⟨rfl,rfl⟩));(with_reducible first | exact fun w => MU.out w | exact fun w => OU.out w);simp only [zp,zq,z0,z1]) | ((with_reducible apply Qea hp);exact rfl;simp only [zp,zq,z0,z1]))) | ((with_reducible apply Qbt hq);clear hp hq;(try clear w1);intro w1 hp))
        go_wp2_with (first | ((with_reducible apply Qag hp);exact ii;exact rfl;clear hp;(try clear w1);intro g w1 hp;simp only [zp,zq,z0,z1]) | ((with_reducible apply Qaa hp);exact zt rfl;exact ii;exact ii;(first | exact zl rfl | exact Qad (by omega));(first | (with_reducible exact Qab (by omega)) | (simp only [n0,Nat.reduceAdd,n1,n2,n3,n4,n5,n6,n7,n8,n9];try rfl));simp only [zp,zq,z0,z1]) | ((with_reducible apply Qac hp);exact zt rfl;exact ii;exact ii;(first | exact zio rfl | exact Qae (by omega));simp only [zp,zq,z0,z1]) | ((with_reducible apply Qah hp);exact zt rfl;exact za rfl;exact rfl;exact Sz.z;exact rfl;exact ii;(first | (with_reducible exact Qab (by omega)) | (simp only [n0,Nat.reduceAdd,n1,n2,n3,n4,n5,n6,n7,n8,n9];try rfl));(first | exact zl rfl | exact Qad (by omega));exact rfl;exact ii;clear hp;(try clear w1);intro w1 hp) | ((with_reducible apply Qaj);exact zx rfl;exact zk rfl;exact ii;exact Sz.z;omega;omega;((try simp only [m0,Int.reduceToNat,m1,m2,Nat.reduceMul,Nat.reduceAdd,m3,m4,m5,n0]);exact rfl);simp only [zp,zq,z0,z1]) | ((with_reducible apply Qam hp);exact zt rfl;assumption;exact ii;assumption;(first | exact zl rfl | omega);simp only [zp,zq,z0,z1]) | ((with_reducible apply Qai hp);exact zt rfl;assumption;exact ii;(first | assumption | (first | exact zio rfl | exact Qae (by omega)));simp only [zp,zq,z0,z1]))
        exact bodyPost_ret (Qaf rfl rfl) rfl ⟨rfl,hp.keep⟩
      by_cases hd0 : r.rub < 0
      case pos =>
        obtain rfl : bd = true := by rw [HO.out];simp [hd0]
        obtain rfl : e = 2 := by rw [HE.out,if_pos (HB.out rfl)]
        go_wp2_with (first | ((with_reducible apply Qbj);(conv => whnf);refine Bx.mk ?_;(try simp only [zp,zq,z0,z1])) | ((with_reducible apply Qag hp);exact ii;exact rfl;clear hp;(try clear w1);intro g w1 hp;simp only [zp,zq,z0,z1]) | ((with_reducible apply Qaa hp);exact zt rfl;exact ii;exact ii;(first | exact zl rfl | exact Qad (by omega));(first | (with_reducible exact Qab (by omega)) | (simp only [n0,Nat.reduceAdd,n1,n2,n3,n4,n5,n6,n7,n8,n9];try rfl));simp only [zp,zq,z0,z1]) | ((with_reducible apply Qac hp);exact zt rfl;exact ii;exact ii;(first | exact zio rfl | exact Qae (by omega));simp only [zp,zq,z0,z1]) | ((with_reducible apply Qah hp);exact zt rfl;exact za rfl;exact rfl;exact Sz.z;exact rfl;exact ii;(first | (with_reducible exact Qab (by omega)) | (simp only [n0,Nat.reduceAdd,n1,n2,n3,n4,n5,n6,n7,n8,n9];try rfl));(first | exact zl rfl | exact Qad (by omega));exact rfl;exact ii;clear hp;(try clear w1);intro w1 hp) | ((with_reducible apply Qaj);exact zx rfl;exact zk rfl;exact ii;exact Sz.z;omega;omega;((try simp only [m0,Int.reduceToNat,m1,m2,Nat.reduceMul,Nat.reduceAdd,m3,m4,m5,n0]);exact rfl);simp only [zp,zq,z0,z1]) | ((with_reducible apply Qam hp);exact zt rfl;assumption;exact ii;assumption;(first | exact zl rfl | omega);simp only [zp,zq,z0,z1]) | ((with_reducible apply Qai hp);exact zt rfl;assumption;exact ii;(first | assumption | (first | exact zio rfl | exact Qae (by omega)));simp only [zp,zq,z0,z1]))
        have hne : (r.a != r.b) = true := by simpa using hc4
        rw [hne]
        have x0 : decide (r.rub < 0) = true := decide_eq_true (by omega)
        have hq := hp
        refine Qau hp hq [] (.q 0 (.q 1 (.q 2 (.q 3 (.q 4 (.q 5 (.q 6 (.q 7 (.q 8 (.q 9 (.q 10 (.q 11 (.q 12 (.q 13 (.q 14 (.q 15 (.q 16 (.q 17 (.q 18 (.q 19 (.q 20 (.q 21 (.q 22 (.q 23 (.q 24 (.q 25 (.p 26 (.p 27 (.q 28 .nil))))))))))))))))))))))))))))) (by kernel_rfl) (by kernel_rfl) ?_
        clear hp hq;(try clear w1);intro w1 hp hq
        repeat' (first | (((with_reducible apply sg_q);exact zo rfl);(first | ((with_reducible apply Qbb hp);exact rfl;exact zt rfl;exact ii;exact ii;(first | exact zio rfl | exact Qae (by omega));simp only [zp,zq,z0,z1]) | ((with_reducible apply Qbe hp);exact rfl;exact zt rfl;assumption;exact ii;(first | assumption | (first | exact zio rfl | exact Qae (by omega)));simp only [zp,zq,z0,z1]) | ((with_reducible apply Qbv hp);exact zb rfl;simp only [zp,zq,z0,z1]) | ((with_reducible apply Qbm hp);exact rfl;(focus (intro _;go_simp;(try go_ints);try with_reducible rfl));simp only [zp,zq,z0,z1]) | ((with_reducible apply Qfa hp);exact rfl;simp only [zp,zq,z0,z1]))) | (((with_reducible apply sg_p);exact zo rfl);(first | ((with_reducible apply Qbp hp);exact rfl;(focus (intro _;go_simp;try first | with_reducible rfl | exact ⟨rfl,rfl⟩));(with_reducible first | exact fun w => MU.out w | exact fun w => OU.out w);simp only [zp,zq,z0,z1]) | ((with_reducible apply Qea hp);exact rfl;simp only [zp,zq,z0,z1]))) | ((with_reducible apply Qbt hq);clear hp hq;(try clear w1);intro w1 hp))
        go_wp2_with (first | ((with_reducible apply Qag hp);exact ii;exact rfl;clear hp;(try clear w1);intro g w1 hp;simp only [zp,zq,z0,z1]) | ((with_reducible apply Qaa hp);exact zt rfl;exact ii;exact ii;(first | exact zl rfl | exact Qad (by omega));(first | (with_reducible exact Qab (by omega)) | (simp only [n0,Nat.reduceAdd,n1,n2,n3,n4,n5,n6,n7,n8,n9];try rfl));simp only [zp,zq,z0,z1]) | ((with_reducible apply Qac hp);exact zt rfl;exact ii;exact ii;(first | exact zio rfl | exact Qae (by omega));simp only [zp,zq,z0,z1]) | ((with_reducible apply Qah hp);exact zt rfl;exact za rfl;exact rfl;exact Sz.z;exact rfl;exact ii;(first | (with_reducible exact Qab (by omega)) | (simp only [n0,Nat.reduceAdd,n1,n2,n3,n4,n5,n6,n7,n8,n9];try rfl));(first | exact zl rfl | exact Qad (by omega));exact rfl;exact ii;clear hp;(try clear w1);intro w1 hp) | ((with_reducible apply Qaj);exact zx rfl;exact zk rfl;exact ii;exact Sz.z;omega;omega;((try simp only [m0,Int.reduceToNat,m1,m2,Nat.reduceMul,Nat.reduceAdd,m3,m4,m5,n0]);exact rfl);simp only [zp,zq,z0,z1]) | ((with_reducible apply Qam hp);exact zt rfl;assumption;exact ii;assumption;(first | exact zl rfl | omega);simp only [zp,zq,z0,z1]) | ((with_reducible apply Qai hp);exact zt rfl;assumption;exact ii;(first | assumption | (first | exact zio rfl | exact Qae (by omega)));simp only [zp,zq,z0,z1]))
        exact bodyPost_ret (Qaf rfl rfl) rfl ⟨rfl,hp.keep⟩
      by_cases hd1 : 17179869184 < r.rub
      case pos =>
        obtain rfl : bd = true := by rw [HO.out];simp [hd1]
        obtain rfl : e = 2 := by rw [HE.out,if_pos (HB.out rfl)]
        go_wp2_with (first | ((with_reducible apply Qbj);(conv => whnf);refine Bx.mk ?_;(try simp only [zp,zq,z0,z1])) | ((with_reducible apply Qag hp);exact ii;exact rfl;clear hp;(try clear w1);intro g w1 hp;simp only [zp,zq,z0,z1]) | ((with_reducible apply Qaa hp);exact zt rfl;exact ii;exact ii;(first | exact zl rfl | exact Qad (by omega));(first | (with_reducible exact Qab (by omega)) | (simp only [n0,Nat.reduceAdd,n1,n2,n3,n4,n5,n6,n7,n8,n9];try rfl));simp only [zp,zq,z0,z1]) | ((with_reducible apply Qac hp);exact zt rfl;exact ii;exact ii;(first | exact zio rfl | exact Qae (by omega));simp only [zp,zq,z0,z1]) | ((with_reducible apply Qah hp);exact zt rfl;exact za rfl;exact rfl;exact Sz.z;exact rfl;exact ii;(first | (with_reducible exact Qab (by omega)) | (simp only [n0,Nat.reduceAdd,n1,n2,n3,n4,n5,n6,n7,n8,n9];try rfl));(first | exact zl rfl | exact Qad (by omega));exact rfl;exact ii;clear hp;(try clear w1);intro w1 hp) | ((with_reducible apply Qaj);exact zx rfl;exact zk rfl;exact ii;exact Sz.z;omega;omega;((try simp only [m0,Int.reduceToNat,m1,m2,Nat.reduceMul,Nat.reduceAdd,m3,m4,m5,n0]);exact rfl);simp only [zp,zq,z0,z1]) | ((with_reducible apply Qam hp);exact zt rfl;assumption;exact ii;assumption;(first | exact zl rfl | omega);simp only [zp,zq,z0,z1]) | ((with_reducible apply Qai hp);exact zt rfl;assumption;exact ii;(first | assumption | (first | exact zio rfl | exact Qae (by omega)));simp only [zp,zq,z0,z1]))
        have hne : (r.a != r.b) = true := by simpa using hc4
        rw [hne]
        have x0 : decide (r.rub < 0) = false := decide_eq_false (by omega)
        have x1 : decide (17179869184 < r.rub) = true := decide_eq_true (by omega)
        have hq := hp
        refine Qau hp hq [] (.q 0 (.q 1 (.q 2 (.q 3 (.q 4 (.q 5 (.q 6 (.q 7 (.q 8 (.q 9 (.q 10 (.q 11 (.q 12 (.q 13 (.q 14 (.q 15 (.q 16 (.q 17 (.q 18 (.q 19 (.q 20 (.q 21 (.q 22 (.q 23 (.q 24 (.q 25 (.p 26 (.p 27 (.q 28 .nil))))))))))))))))))))))))))))) (by kernel_rfl) (by kernel_rfl) ?_
        clear hp hq;(try clear w1);intro w1 hp hq
        repeat' (first | (((with_reducible apply sg_q);exact zo rfl);(first | ((with_reducible apply Qbb hp);exact rfl;exact zt rfl;exact ii;exact ii;(first | exact zio rfl | exact Qae (by omega));simp only [zp,zq,z0,z1]) | ((with_reducible apply Qbe hp);exact rfl;exact zt rfl;assumption;exact ii;(first | assumption | (first | exact zio rfl | exact Qae (by omega)));simp only [zp,zq,z0,z1]) | ((with_reducible apply Qbv hp);exact zb rfl;simp only [zp,zq,z0,z1]) | ((with_reducible apply Qbm hp);exact rfl;(focus (intro _;go_simp;(try go_ints);try with_reducible rfl));simp only [zp,zq,z0,z1]) | ((with_reducible apply Qfa hp);exact rfl;simp only [zp,zq,z0,z1]))) | (((with_reducible apply sg_p);exact zo rfl);(first | ((with_reducible apply Qbp hp);exact rfl;(focus (intro _;go_simp;try first | with_reducible rfl | exact ⟨rfl,rfl⟩));(with_reducible first | exact fun w => MU.out w | exact fun w => OU.out w);simp only [zp,zq,z0,z1]) | ((with_reducible apply Qea hp);exact rfl;simp only [zp,zq,z0,z1]))) | ((with_reducible apply Qbt hq);clear hp hq;(try clear w1);intro w1 hp))
        go_wp2_with (first | ((with_reducible apply Qag hp);exact ii;exact rfl;clear hp;(try clear w1);intro g w1 hp;simp only [zp,zq,z0,z1]) | ((with_reducible apply Qaa hp);exact zt rfl;exact ii;exact ii;(first | exact zl rfl | exact Qad (by omega));(first | (with_reducible exact Qab (by omega)) | (simp only [n0,Nat.reduceAdd,n1,n2,n3,n4,n5,n6,n7,n8,n9];try rfl));simp only [zp,zq,z0,z1]) | ((with_reducible apply Qac hp);exact zt rfl;exact ii;exact ii;(first | exact zio rfl | exact Qae (by omega));simp only [zp,zq,z0,z1]) | ((with_reducible apply Qah hp);exact zt rfl;exact za rfl;exact rfl;exact Sz.z;exact rfl;exact ii;(first | (with_reducible exact Qab (by omega)) | (simp only [n0,Nat.reduceAdd,n1,n2,n3,n4,n5,n6,n7,n8,n9];try rfl));(first | exact zl rfl | exact Qad (by omega));exact rfl;exact ii;clear hp;(try clear w1);intro w1 hp) | ((with_reducible apply Qaj);exact zx rfl;exact zk rfl;exact ii;exact Sz.z;omega;omega;((try simp only [m0,Int.reduceToNat,m1,m2,Nat.reduceMul,Nat.reduceAdd,m3,m4,m5,n0]);exact rfl);simp only [zp,zq,z0,z1]) | ((with_reducible apply Qam hp);exact zt rfl;assumption;exact ii;assumption;(first | exact zl rfl | omega);simp only [zp,zq,z0,z1]) | ((with_reducible apply Qai hp);exact zt rfl;assumption;exact ii;(first | assumption | (first | exact zio rfl | exact Qae (by omega)));simp only [zp,zq,z0,z1]))
        exact bodyPost_ret (Qaf rfl rfl) rfl ⟨rfl,hp.keep⟩
      by_cases hd2 : r.pn < 0
      case pos =>
        obtain rfl : bd = true := by rw [HO.out];simp [hd2]
        obtain rfl : e = 2 := by rw [HE.out,if_pos (HB.out rfl)]
        go_wp2_with (first | ((with_reducible apply Qbj);(conv => whnf);refine Bx.mk ?_;(try simp only [zp,zq,z0,z1])) | ((with_reducible apply Qag hp);exact ii;exact rfl;clear hp;(try clear w1);intro g w1 hp;simp only [zp,zq,z0,z1]) | ((with_reducible apply Qaa hp);exact zt rfl;exact ii;exact ii;(first | exact zl rfl | exact Qad (by omega));(first | (with_reducible exact Qab (by omega)) | (simp only [n0,Nat.reduceAdd,n1,n2,n3,n4,n5,n6,n7,n8,n9];try rfl));simp only [zp,zq,z0,z1]) | ((with_reducible apply Qac hp);exact zt rfl;exact ii;exact ii;(first | exact zio rfl | exact Qae (by omega));simp only [zp,zq,z0,z1]) | ((with_reducible apply Qah hp);exact zt rfl;exact za rfl;exact rfl;exact Sz.z;exact rfl;exact ii;(first | (with_reducible exact Qab (by omega)) | (simp only [n0,Nat.reduceAdd,n1,n2,n3,n4,n5,n6,n7,n8,n9];try rfl));(first | exact zl rfl | exact Qad (by omega));exact rfl;exact ii;clear hp;(try clear w1);intro w1 hp) | ((with_reducible apply Qaj);exact zx rfl;exact zk rfl;exact ii;exact Sz.z;omega;omega;((try simp only [m0,Int.reduceToNat,m1,m2,Nat.reduceMul,Nat.reduceAdd,m3,m4,m5,n0]);exact rfl);simp only [zp,zq,z0,z1]) | ((with_reducible apply Qam hp);exact zt rfl;assumption;exact ii;assumption;(first | exact zl rfl | omega);simp only [zp,zq,z0,z1]) | ((with_reducible apply Qai hp);exact zt rfl;assumption;exact ii;(first | assumption | (first | exact zio rfl | exact Qae (by omega)));simp only [zp,zq,z0,z1]))
        have hne : (r.a != r.b) = true := by simpa using hc4
        rw [hne]
        have x0 : decide (r.rub < 0) = false := decide_eq_false (by omega)
        have x1 : decide (17179869184 < r.rub) = false := decide_eq_false (by omega)
        have x2 : decide (r.pn < 0) = true := decide_eq_true (by omega)
        have hq := hp
        refine Qau hp hq [] (.q 0 (.q 1 (.q 2 (.q 3 (.q 4 (.q 5 (.q 6 (.q 7 (.q 8 (.q 9 (.q 10 (.q 11 (.q 12 (.q 13 (.q 14 (.q 15 (.q 16 (.q 17 (.q 18 (.q 19 (.q 20 (.q 21 (.q 22 (.q 23 (.q 24 (.q 25 (.p 26 (.p 27 (.q 28 .nil))))))))))))))))))))))))))))) (by kernel_rfl) (by kernel_rfl) ?_
        clear hp hq;(try clear w1);intro w1 hp hq
        repeat' (first | (((with_reducible apply sg_q);exact zo rfl);(first | ((with_reducible apply Qbb hp);exact rfl;exact zt rfl;exact ii;exact ii;(first | exact zio rfl | exact Qae (by omega));simp only [zp,zq,z0,z1]) | ((with_reducible apply Qbe hp);exact rfl;exact zt rfl;assumption;exact ii;(first | assumption | (first | exact zio rfl | exact Qae (by omega)));simp only [zp,zq,z0,z1]) | ((with_reducible apply Qbv hp);exact zb rfl;simp only [zp,zq,z0,z1]) | ((with_reducible apply Qbm hp);exact rfl;(focus (intro _;go_simp;(try go_ints);try with_reducible rfl));simp only [zp,zq,z0,z1]) | ((with_reducible apply Qfa hp);exact rfl;simp only [zp,zq,z0,z1]))) | (((with_reducible apply sg_p);exact zo rfl);(first | ((with_reducible apply Qbp hp);exact rfl;(focus (intro _;go_simp;try first | with_reducible rfl | exact ⟨rfl,rfl⟩));(with_reducible first | exact fun w => MU.out w | exact fun w => OU.out w);simp only [zp,zq,z0,z1]) | ((with_reducible apply Qea hp);exact rfl;simp only [zp,zq,z0,z1]))) | ((with_reducible apply Qbt hq);clear hp hq;(try clear w1);intro w1 hp))
        go_wp2_with (first | ((with_reducible apply Qag hp);exact ii;exact rfl;clear hp;(try clear w1);intro g w1 hp;simp only [zp,zq,z0,z1]) | ((with_reducible apply Qaa hp);exact zt rfl;exact ii;exact ii;(first | exact zl rfl | exact Qad (by omega));(first | (with_reducible exact Qab (by omega)) | (simp only [n0,Nat.reduceAdd,n1,n2,n3,n4,n5,n6,n7,n8,n9];try rfl));simp only [zp,zq,z0,z1]) | ((with_reducible apply Qac hp);exact zt rfl;exact ii;exact ii;(first | exact zio rfl | exact Qae (by omega));simp only [zp,zq,z0,z1]) | ((with_reducible apply Qah hp);exact zt rfl;exact za rfl;exact rfl;exact Sz.z;exact rfl;exact ii;(first | (with_reducible exact Qab (by omega)) | (simp only [n0,Nat.reduceAdd,n1,n2,n3,n4,n5,n6,n7,n8,n9];try rfl));(first | exact zl rfl | exact Qad (by omega));exact rfl;exact ii;clear hp;(try clear w1);intro w1 hp) | ((with_reducible apply Qaj);exact zx rfl;exact zk rfl;exact ii;exact Sz.z;omega;omega;((try simp only [m0,Int.reduceToNat,m1,m2,Nat.reduceMul,Nat.reduceAdd,m3,m4,m5,n0]);exact rfl);simp only [zp,zq,z0,z1]) | ((with_reducible apply Qam hp);exact zt rfl;assumption;exact ii;assumption;(first | exact zl rfl | omega);simp only [zp,zq,z0,z1]) | ((with_reducible apply Qai hp);exact zt rfl;assumption;exact ii;(first | assumption | (first | exact zio rfl | exact Qae (by omega)));simp only [zp,zq,z0,z1]))
        exact bodyPost_ret (Qaf rfl rfl) rfl ⟨rfl,hp.keep⟩
      cases ob with
      | true =>
        obtain rfl : bd = true := by rw [HO.out];simp
        obtain rfl : e = 2 := by rw [HE.out,if_pos (HB.out rfl)]
        go_wp2_with (first | ((with_reducible apply Qbj);(conv => whnf);refine Bx.mk ?_;(try simp only [zp,zq,z0,z1])) | ((with_reducible apply Qag hp);exact ii;exact rfl;clear hp;(try clear w1);intro g w1 hp;simp only [zp,zq,z0,z1]) | ((with_reducible apply Qaa hp);exact zt rfl;exact ii;exact ii;(first | exact zl rfl | exact Qad (by omega));(first | (with_reducible exact Qab (by omega)) | (simp only [n0,Nat.reduceAdd,n1,n2,n3,n4,n5,n6,n7,n8,n9];try rfl));simp only [zp,zq,z0,z1]) | ((with_reducible apply Qac hp);exact zt rfl;exact ii;exact ii;(first | exact zio rfl | exact Qae (by omega));simp only [zp,zq,z0,z1]) | ((with_reducible apply Qah hp);exact zt rfl;exact za rfl;exact rfl;exact Sz.z;exact rfl;exact ii;(first | (with_reducible exact Qab (by omega)) | (simp only [n0,Nat.reduceAdd,n1,n2,n3,n4,n5,n6,n7,n8,n9];try rfl));(first | exact zl rfl | exact Qad (by omega));exact rfl;exact ii;clear hp;(try clear w1);intro w1 hp) | ((with_reducible apply Qaj);exact zx rfl;exact zk rfl;exact ii;exact Sz.z;omega;omega;((try simp only [m0,Int.reduceToNat,m1,m2,Nat.reduceMul,Nat.reduceAdd,m3,m4,m5,n0]);exact rfl);simp only [zp,zq,z0,z1]) | ((with_reducible apply Qam hp);exact zt rfl;assumption;exact ii;assumption;(first | exact zl rfl | omega);simp only [zp,zq,z0,z1]) | ((with_reducible apply Qai hp);exact zt rfl;assumption;exact ii;(first | assumption | (first | exact zio rfl | exact Qae (by omega)));simp only [zp,zq,z0,z1]))
        have hne : (r.a != r.b) = true := by simpa using hc4
        rw [hne]
        have x0 : decide (r.rub < 0) = false := decide_eq_false (by omega)
        have x1 : decide (17179869184 < r.rub) = false := decide_eq_false (by omega)
        have x2 : decide (r.pn < 0) = false := decide_eq_false (by omega)
        have hq := hp
        refine Qau hp hq [] (.q 0 (.q 1 (.q 2 (.q 3 (.q 4 (.q 5 (.q 6 (.q 7 (.q 8 (.q 9 (.q 10 (.q 11 (.q 12 (.q 13 (.q 14 (.q 15 (.q 16 (.q 17 (.q 18 (.q 19 (.q 20 (.q 21 (.q 22 (.q 23 (.q 24 (.q 25 (.p 26 (.p 27 (.q 28 .nil))))))))))))))))))))))))))))) (by kernel_rfl) (by kernel_rfl) ?_
        clear hp hq;(try clear w1);intro w1 hp hq
        repeat' (first | (((with_reducible apply sg_q);exact zo rfl);(first | ((with_reducible apply Qbb hp);exact rfl;exact zt rfl;exact ii;exact ii;(first | exact zio rfl | exact Qae (by omega));simp only [zp,zq,z0,z1]) | ((with_reducible apply Qbe hp);exact rfl;exact zt rfl;assumption;exact ii;(first | assumption | (first | exact zio rfl | exact Qae (by omega)));simp only [zp,zq,z0,z1]) | ((with_reducible apply Qbv hp);exact zb rfl;simp only [zp,zq,z0,z1]) | ((with_reducible apply Qbm hp);exact rfl;(focus (intro _;go_simp;(try go_ints);try with_reducible rfl));simp only [zp,zq,z0,z1]) | ((with_reducible apply Qfa hp);exact rfl;simp only [zp,zq,z0,z1]))) | (((with_reducible apply sg_p);exact zo rfl);(first | ((with_reducible apply Qbp hp);exact rfl;(focus (intro _;go_simp;try first | with_reducible rfl | exact ⟨rfl,rfl⟩));(with_reducible first | exact fun w => MU.out w | exact fun w => OU.out w);simp only [zp,zq,z0,z1]) | ((with_reducible apply Qea hp);exact rfl;simp only [zp,zq,z0,z1]))) | ((with_reducible apply Qbt hq);clear hp hq;(try clear w1);intro w1 hp))
        go_wp2_with (first | ((with_reducible apply Qag hp);exact ii;exact rfl;clear hp;(try clear w1);intro g w1 hp;simp only [zp,zq,z0,z1]) | ((with_reducible apply Qaa hp);exact zt rfl;exact ii;exact ii;(first | exact zl rfl | exact Qad (by omega));(first | (with_reducible exact Qab (by omega)) | (simp only [n0,Nat.reduceAdd,n1,n2,n3,n4,n5,n6,n7,n8,n9];try rfl));simp only [zp,zq,z0,z1]) | ((with_reducible apply Qac hp);exact zt rfl;exact ii;exact ii;(first | exact zio rfl | exact Qae (by omega));simp only [zp,zq,z0,z1]) | ((with_reducible apply Qah hp);exact zt rfl;exact za rfl;exact rfl;exact Sz.z;exact rfl;exact ii;(first | (with_reducible exact Qab (by omega)) | (simp only [n0,Nat.reduceAdd,n1,n2,n3,n4,n5,n6,n7,n8,n9];try rfl));(first | exact zl rfl | exact Qad (by omega));exact rfl;exact ii;clear hp;(try clear w1);intro w1 hp) | ((with_reducible apply Qaj);exact zx rfl;exact zk rfl;exact ii;exact Sz.z;omega;omega;((try simp only [m0,Int.reduceToNat,m1,m2,Nat.reduceMul,Nat.reduceAdd,m3,m4,m5,n0]);exact rfl);simp only [zp,zq,z0,z1]) | ((with_reducible apply Qam hp);exact zt rfl;assumption;exact ii;assumption;(first | exact zl rfl | omega);simp only [zp,zq,z0,z1]) | ((with_reducible apply Qai hp);exact zt rfl;assumption;exact ii;(first | assumption | (first | exact zio rfl | exact Qae (by omega)));simp only [zp,zq,z0,z1]))
        exact bodyPost_ret (Qaf rfl rfl) rfl ⟨rfl,hp.keep⟩
      | false =>
        obtain rfl : bd = false := by rw [HO.out];simp [hc0,hc1,hc2,hc3,hc4,hd0,hd1,hd2]
        go_wp2_with (first | ((with_reducible apply Qbj);(conv => whnf);refine Bx.mk ?_;(try simp only [zp,zq,z0,z1])) | ((with_reducible apply Qag hp);exact ii;exact rfl;clear hp;(try clear w1);intro g w1 hp;simp only [zp,zq,z0,z1]) | ((with_reducible apply Qaa hp);exact zt rfl;exact ii;exact ii;(first | exact zl rfl | exact Qad (by omega));(first | (with_reducible exact Qab (by omega)) | (simp only [n0,Nat.reduceAdd,n1,n2,n3,n4,n5,n6,n7,n8,n9];try rfl));simp only [zp,zq,z0,z1]) | ((with_reducible apply Qac hp);exact zt rfl;exact ii;exact ii;(first | exact zio rfl | exact Qae (by omega));simp only [zp,zq,z0,z1]) | ((with_reducible apply Qah hp);exact zt rfl;exact za rfl;exact rfl;exact Sz.z;exact rfl;exact ii;(first | (with_reducible exact Qab (by omega)) | (simp only [n0,Nat.reduceAdd,n1,n2,n3,n4,n5,n6,n7,n8,n9];try rfl));(first | exact zl rfl | exact Qad (by omega));exact rfl;exact ii;clear hp;(try clear w1);intro w1 hp) | ((with_reducible apply Qaj);exact zx rfl;exact zk rfl;exact ii;exact Sz.z;omega;omega;((try simp only [m0,Int.reduceToNat,m1,m2,Nat.reduceMul,Nat.reduceAdd,m3,m4,m5,n0]);exact rfl);simp only [zp,zq,z0,z1]) | ((with_reducible apply Qam hp);exact zt rfl;assumption;exact ii;assumption;(first | exact zl rfl | omega);simp only [zp,zq,z0,z1]) | ((with_reducible apply Qai hp);exact zt rfl;assumption;exact ii;(first | assumption | (first | exact zio rfl | exact Qae (by omega)));simp only [zp,zq,z0,z1]))
        have hne : (r.a != r.b) = true := by simpa using hc4
        rw [hne]
        have x0 : decide (r.rub < 0) = false := decide_eq_false (by omega)
        have x1 : decide (17179869184 < r.rub) = false := decide_eq_false (by omega)
        have x2 : decide (r.pn < 0) = false := decide_eq_false (by omega)
        have hq := hp
        refine Qau hp hq [] (.q 0 (.q 1 (.q 2 (.q 3 (.q 4 (.q 5 (.q 6 (.q 7 (.q 8 (.q 9 (.q 10 (.q 11 (.q 12 (.q 13 (.q 14 (.q 15 (.q 16 (.q 17 (.q 18 (.q 19 (.q 20 (.q 21 (.q 22 (.q 23 (.q 24 (.q 25 (.p 26 (.p 27 (.q 28 .nil))))))))))))))))))))))))))))) (by kernel_rfl) (by kernel_rfl) ?_
        clear hp hq;(try clear w1);intro w1 hp hq
        repeat' (first | (((with_reducible apply sg_q);exact zo rfl);(first | ((with_reducible apply Qbb hp);exact rfl;exact zt rfl;exact ii;exact ii;(first | exact zio rfl | exact Qae (by omega));simp only [zp,zq,z0,z1]) | ((with_reducible apply Qbe hp);exact rfl;exact zt rfl;assumption;exact ii;(first | assumption | (first | exact zio rfl | exact Qae (by omega)));simp only [zp,zq,z0,z1]) | ((with_reducible apply Qbv hp);exact zb rfl;simp only [zp,zq,z0,z1]) | ((with_reducible apply Qbm hp);exact rfl;(focus (intro _;go_simp;(try go_ints);try with_reducible rfl));simp only [zp,zq,z0,z1]) | ((with_reducible apply Qfa hp);exact rfl;simp only [zp,zq,z0,z1]))) | (((with_reducible apply sg_p);exact zo rfl);(first | ((with_reducible apply Qbp hp);exact rfl;(focus (intro _;go_simp;try first | with_reducible rfl | exact ⟨rfl,rfl⟩));(with_reducible first | exact fun w => MU.out w | exact fun w => OU.out w);simp only [zp,zq,z0,z1]) | ((with_reducible apply Qea hp);exact rfl;simp only [zp,zq,z0,z1]))) | ((with_reducible apply Qbt hq);clear hp hq;(try clear w1);intro w1 hp))
        go_wp2_with (first | ((with_reducible apply Qag hp);exact ii;exact rfl;clear hp;(try clear w1);intro g w1 hp;simp only [zp,zq,z0,z1]) | ((with_reducible apply Qaa hp);exact zt rfl;exact ii;exact ii;(first | exact zl rfl | exact Qad (by omega));(first | (with_reducible exact Qab (by omega)) | (simp only [n0,Nat.reduceAdd,n1,n2,n3,n4,n5,n6,n7,n8,n9];try rfl));simp only [zp,zq,z0,z1]) | ((with_reducible apply Qac hp);exact zt rfl;exact ii;exact ii;(first | exact zio rfl | exact Qae (by omega));simp only [zp,zq,z0,z1]) | ((with_reducible apply Qah hp);exact zt rfl;exact za rfl;exact rfl;exact Sz.z;exact rfl;exact ii;(first | (with_reducible exact Qab (by omega)) | (simp only [n0,Nat.reduceAdd,n1,n2,n3,n4,n5,n6,n7,n8,n9];try rfl));(first | exact zl rfl | exact Qad (by omega));exact rfl;exact ii;clear hp;(try clear w1);intro w1 hp) | ((with_reducible apply Qaj);exact zx rfl;exact zk rfl;exact ii;exact Sz.z;omega;omega;((try simp only [m0,Int.reduceToNat,m1,m2,Nat.reduceMul,Nat.reduceAdd,m3,m4,m5,n0]);exact rfl);simp only [zp,zq,z0,z1]) | ((with_reducible apply Qam hp);exact zt rfl;assumption;exact ii;assumption;(first | exact zl rfl | omega);simp only [zp,zq,z0,z1]) | ((with_reducible apply Qai hp);exact zt rfl;assumption;exact ii;(first | assumption | (first | exact zio rfl | exact Qae (by omega)));simp only [zp,zq,z0,z1]))
        go_roundw
        case rel => exact ⟨k + 1,by omega,by go_num,HT.out (by simp),hp.sub (List.nil_sublist _)⟩
        case measure => simp [intOf];omega
    · obtain rfl : k = S.length := by omega
      obtain rfl : e = 0 := by
        have := HF.out
        rw [List.take_length] at this
        rw [HE.out,this]
        rfl
      go_wp2_with (first | ((with_reducible apply Qag hp);exact ii;exact rfl;clear hp;(try clear w1);intro g w1 hp;simp only [zp,zq,z0,z1]) | ((with_reducible apply Qaa hp);exact zt rfl;exact ii;exact ii;(first | exact zl rfl | exact Qad (by omega));(first | (with_reducible exact Qab (by omega)) | (simp only [n0,Nat.reduceAdd,n1,n2,n3,n4,n5,n6,n7,n8,n9];try rfl));simp only [zp,zq,z0,z1]) | ((with_reducible apply Qac hp);exact zt rfl;exact ii;exact ii;(first | exact zio rfl | exact Qae (by omega));simp only [zp,zq,z0,z1]) | ((with_reducible apply Qah hp);exact zt rfl;exact za rfl;exact rfl;exact Sz.z;exact rfl;exact ii;(first | (with_reducible exact Qab (by omega)) | (simp only [n0,Nat.reduceAdd,n1,n2,n3,n4,n5,n6,n7,n8,n9];try rfl));(first | exact zl rfl | exact Qad (by omega));exact rfl;exact ii;clear hp;(try clear w1);intro w1 hp) | ((with_reducible apply Qaj);exact zx rfl;exact zk rfl;exact ii;exact Sz.z;omega;omega;((try simp only [m0,Int.reduceToNat,m1,m2,Nat.reduceMul,Nat.reduceAdd,m3,m4,m5,n0]);exact rfl);simp only [zp,zq,z0,z1]) | ((with_reducible apply Qam hp);exact zt rfl;assumption;exact ii;assumption;(first | exact zl rfl | omega);simp only [zp,zq,z0,z1]) | ((with_reducible apply Qai hp);exact zt rfl;assumption;exact ii;(first | assumption | (first | exact zio rfl | exact Qae (by omega)));simp only [zp,zq,z0,z1]))
      exact bodyPost_ret (Qaf rfl rfl) rfl ⟨rfl,hp.keep⟩
end Go.Proofs.YtblffafmkpnjdaaGreat
set_option linter.unusedSimpArgs false
set_option linter.unusedVariables false
set_option maxRecDepth 100000
namespace Go.Proofs.YtblffafmkpnjdaaGreat
open Go Go.RowKit
attribute [local irreducible] wpList
theorem Qit {P : Program} {X : List Nat} {w0 w : World} {H : List Bk} {f : FuncId} {args : Array Value} {t : TypeId} {cs : List Value} {n : Nat} {R : Ending → World → Prop} (hp : Hp X w0 H w)
    (hc : Calls P f args w (fun e w1 => ∃ (g1 cap1 : Nat) (junk : List Value),e = .returned (.slice (some ⟨g1,0,none⟩) n cap1) ∧ Hp [] w [⟨g1,t,cs ++ junk⟩] w1))
    (hk : ∀ g1 cap1 junk w1,Hp X w0 (⟨g1,t,cs ++ junk⟩ :: H) w1 → R (.returned (.slice (some ⟨g1,0,none⟩) n cap1)) w1) : Calls P f args w R :=
  hc.mono fun e w1 ⟨g1,cap1,junk,he,hq⟩ => by
    subst he
    exact hk g1 cap1 junk w1 (hp.add hq.keep hq.fresh hq.blk)
theorem FSl.own {α : Type} {f : α → List Value} {m : Nat} {w : World} {g cap n : Nat} {t : TypeId} {L : List α} {junk : List Value} (hf : ∀ x,(f x).length = m) (hn : n = L.length) (h : w.heap[g]? = some (.cells (L.flatMap f ++ junk).toArray t (0,0))) : FSl f m w (.slice (some ⟨g,0,none⟩) n cap) L := by
  subst hn
  refine .inr ⟨g,0,cap,_,_,_,rfl,h,?_⟩
  rw [List.drop_zero,← Qff f m hf,List.take_left]
theorem FSl.shape {α : Type} {f : α → List Value} {m : Nat} {w : World} {v : Value} {L : List α} (h : FSl f m w v L) : ∃ b c,v = .slice b L.length c := by
  rcases h with ⟨rfl,rfl⟩ | ⟨g,off,cap,_,_,_,rfl,_⟩
  · exact ⟨none,0,rfl⟩
  · exact ⟨_,cap,rfl⟩
theorem Qjt {S : List Rw} {v : Value} (nb : Int) (hS : ∀ r ∈ S,r.i64f) (w : World) (h : FSl RVl 25 w v S) : Calls Tryz.prog 14 #[.int .i64 nb,v] w (Ret (.int .i64 (Qep nb S)) w) := by
  obtain ⟨b,c,hv⟩ := h.shape
  by_cases h1 : 4096 < nb
  · rw [Qep,if_pos (.inl h1)]
    exact Qll nb v _ b c hv (.inl h1) w
  by_cases h2 : 16384 < S.length
  · rw [Qep,if_pos (.inr h2)]
    exact Qll nb v _ b c hv (.inr ⟨h1,by omega⟩) w
  rw [Qep,if_neg (by omega)]
  rcases h with ⟨rfl,rfl⟩ | ⟨g,off,cap,bc,t,z,rfl,hb,hn⟩
  · exact check_nil nb h1 w
  · exact check_far nb S h1 (by omega) _ (Lib.hid rfl) (Lib.hid hS) g off cap bc t z w hb hn
/-- Nothing is done with no row. -/
theorem Qfi {X : List Nat} {w0 : World} {H : List Bk} (gs : Nat) (vb fn : Value) (b : Option Addr) (c : Nat) (w : World) (hh : Hp X w0 (⟨gs,68,[vb,.slice b 0 c]⟩ :: H) w) :
    Calls Tryz.prog 40 #[.pointer (some ⟨gs,0,none⟩),fn] w (fun e w1 => e = .returned (.tuple #[]) ∧ Hp X w0 (⟨gs,68,[vb,.slice b 0 c]⟩ :: H) w1) := by
  have hh' := Lib.hid hh
  clear hh
  go_enter Tryz.func40,Tryz.ntmps40
  have hp := Hp.start [] w
  clear hp
  have hp := hh'.out
  clear hh'
  go_wp2_with (first | ((with_reducible apply Qac hp);exact zt rfl;exact ii;exact ii;(first | exact zso rfl | exact Qae (by omega));simp only [zp,zq,z0,z1]) | ((with_reducible apply Qaj);exact zx rfl;exact zk rfl;exact ii;exact Sz.z;omega;omega;((try simp only [m0,Int.reduceToNat,m1,m2,Nat.reduceMul,Nat.reduceAdd,m3,m4,m5,n0]);exact rfl);simp only [zp,zq,z0,z1]) | ((with_reducible apply Qai hp);exact zt rfl;assumption;exact ii;(first | assumption | (first | exact zso rfl | exact Qae (by omega)));simp only [zp,zq,z0,z1]))
  go_loopw [10] (fun i wr => i = .int .i64 (0 : Int) ∧ Hp X w0 (⟨gs,68,[vb,.slice b 0 c]⟩ :: H) wr) (fun i _ => 0)
  case atStart => exact ⟨rfl,hp⟩
  case round =>
    clear hp
    obtain ⟨rfl,hp⟩ := hrel
    go_wp2_with (first | ((with_reducible apply Qac hp);exact zt rfl;exact ii;exact ii;(first | exact zso rfl | exact Qae (by omega));simp only [zp,zq,z0,z1]) | ((with_reducible apply Qaj);exact zx rfl;exact zk rfl;exact ii;exact Sz.z;omega;omega;((try simp only [m0,Int.reduceToNat,m1,m2,Nat.reduceMul,Nat.reduceAdd,m3,m4,m5,n0]);exact rfl);simp only [zp,zq,z0,z1]) | ((with_reducible apply Qai hp);exact zt rfl;assumption;exact ii;(first | assumption | (first | exact zso rfl | exact Qae (by omega)));simp only [zp,zq,z0,z1]))
    exact bodyPost_end (results_none rfl _ _ _) rfl ⟨rfl,hp⟩
/-- What Solve comes to. -/
def SolR (w : World) (L : List Inr) (S : List Rw) (c : Int) (e : Ending) (w1 : World) : Prop := Keep [] w w1 ∧ ∃ vb vr,e = .returned (.tuple #[vb,vr,.int .i64 c]) ∧ FSl NVl 16 w1 vb L ∧ FSl RVl 25 w1 vr S
def Qei (n : Nat) : Nat → List Inr × List Rw → List Inr × List Rw
  | 0,st => st
  | k + 1,st => Qcb Qdd n (Qei n k st)
theorem Qhm {n m : Nat} {st : List Inr × List Rw} (h : Okst n m st) : ∀ k,Okst n m (Qei m k st)
  | 0 => h
  | k + 1 => Qfm Qib (Qhm h k) m (Nat.le_refl _)
def CKh (w : World) (vr : Value) (nb e : Int) : Prop := Hid (∀ w1,Keep [] w w1 → Calls Tryz.prog 14 #[.int .i64 nb,vr] w1 (Ret (.int .i64 e) w1))
theorem solve_low (s e : Int) (hs : s < 0) (b : Option Addr) (nb c : Nat) (vr : Value) (w : World) (CK : CKh w vr nb e) : Calls Tryz.prog 10 #[.slice b nb c,vr,.int .i64 s] w (Ret (.tuple #[.slice none 0 0,.slice none 0 0,.int .i64 3]) w) := by
  unfold CKh at CK
  go_enter Tryz.func10,Tryz.ntmps10
  have hp := Hp.start [] w
  go_wp2_with (first | ((with_reducible apply Qao hp);exact za rfl;exact rfl;clear hp;(try clear w1);intro g w1 hp;simp only [zp,zq,z0,z1]) | ((with_reducible apply Qac hp);exact zt rfl;exact ii;exact ii;(first | exact zso rfl | exact Qae (by omega));simp only [zp,zq,z0,z1]) | ((with_reducible apply Qai hp);exact zt rfl;assumption;exact ii;(first | assumption | (first | exact zso rfl | exact Qae (by omega)));simp only [zp,zq,z0,z1]) | ((with_reducible refine Qak hp (CK.out _ hp.keep) ?_);clear hp;(try clear w1);intro w1 hp))
  exact bodyPost_ret (Qbz rfl rfl rfl rfl) rfl ⟨rfl,hp.keep⟩
theorem solve_high (s e : Int) (hs : ¬ s < 0) (hs2 : 64 < s) (b : Option Addr) (nb c : Nat) (vr : Value) (w : World) (CK : CKh w vr nb e) : Calls Tryz.prog 10 #[.slice b nb c,vr,.int .i64 s] w (Ret (.tuple #[.slice none 0 0,.slice none 0 0,.int .i64 3]) w) := by
  unfold CKh at CK
  go_enter Tryz.func10,Tryz.ntmps10
  have hp := Hp.start [] w
  go_wp2_with (first | ((with_reducible apply Qao hp);exact za rfl;exact rfl;clear hp;(try clear w1);intro g w1 hp;simp only [zp,zq,z0,z1]) | ((with_reducible apply Qac hp);exact zt rfl;exact ii;exact ii;(first | exact zso rfl | exact Qae (by omega));simp only [zp,zq,z0,z1]) | ((with_reducible apply Qai hp);exact zt rfl;assumption;exact ii;(first | assumption | (first | exact zso rfl | exact Qae (by omega)));simp only [zp,zq,z0,z1]) | ((with_reducible refine Qak hp (CK.out _ hp.keep) ?_);clear hp;(try clear w1);intro w1 hp))
  exact bodyPost_ret (Qbz rfl rfl rfl rfl) rfl ⟨rfl,hp.keep⟩
theorem solve_bad (s e : Int) (hs : ¬ s < 0) (hs2 : ¬ 64 < s) (he : (e == 0) = false) (b : Option Addr) (nb c : Nat) (vr : Value) (w : World) (CK : CKh w vr nb e) : Calls Tryz.prog 10 #[.slice b nb c,vr,.int .i64 s] w (Ret (.tuple #[.slice none 0 0,.slice none 0 0,.int .i64 e]) w) := by
  unfold CKh at CK
  go_enter Tryz.func10,Tryz.ntmps10
  have hp := Hp.start [] w
  go_wp2_with (first | ((with_reducible apply Qao hp);exact za rfl;exact rfl;clear hp;(try clear w1);intro g w1 hp;simp only [zp,zq,z0,z1]) | ((with_reducible apply Qac hp);exact zt rfl;exact ii;exact ii;(first | exact zso rfl | exact Qae (by omega));simp only [zp,zq,z0,z1]) | ((with_reducible apply Qai hp);exact zt rfl;assumption;exact ii;(first | assumption | (first | exact zso rfl | exact Qae (by omega)));simp only [zp,zq,z0,z1]) | ((with_reducible refine Qak hp (CK.out _ hp.keep) ?_);clear hp;(try clear w1);intro w1 hp))
  exact bodyPost_ret (Qbz rfl rfl rfl rfl) rfl ⟨rfl,hp.keep⟩
set_option maxHeartbeats 4000000 in
theorem solve_both (n : Nat) (hn : ¬ 64 < (n : Int)) (vbo vro : Option Addr) (vbc vrc nb nr : Nat) (st : List Inr × List Rw) (F : Nat → List Inr × List Rw) (w : World) (CK : CKh w (.slice vro nr vrc) nb 0) (CB : Hid (∀ w1,Keep [] w w1 → Calls Tryz.prog 38 #[.slice vbo nb vbc] w1 (fun e w2 => ∃ (g1 cap1 : Nat) (junk : List Value),e = .returned (.slice (some ⟨g1,0,none⟩) nb cap1) ∧ Hp [] w1 [⟨g1,29,bl st.1 ++ junk⟩] w2))) (CR : Hid (∀ w1,Keep [] w w1 → Calls Tryz.prog 39 #[.slice vro nr vrc] w1 (fun e w2 => ∃ (g1 cap1 : Nat) (junk : List Value),e = .returned (.slice (some ⟨g1,0,none⟩) nr cap1) ∧ Hp [] w1 [⟨g1,63,rl st.2 ++ junk⟩] w2)))
    (EW : Hid (∀ (gs gb cb gr cr : Nat) (jb jr : List Value) (w1 : World),Hp [] w [⟨gs,68,[.slice (some ⟨gb,0,none⟩) nb cb,.slice (some ⟨gr,0,none⟩) nr cr]⟩,⟨gr,63,rl st.2 ++ jr⟩,⟨gb,29,bl st.1 ++ jb⟩] w1 → Calls Tryz.prog 40 #[.pointer (some ⟨gs,0,none⟩),.func (.func 41) #[.pointer (some ⟨gs,0,none⟩)] #[]] w1 (fun e w2 => e = .returned (.tuple #[]) ∧ Hp [] w [⟨gs,68,[.slice (some ⟨gb,0,none⟩) nb cb,.slice (some ⟨gr,0,none⟩) nr cr]⟩,⟨gr,63,rl (F 0).2 ++ jr⟩,⟨gb,29,bl (F 0).1 ++ jb⟩] w2)))
    (ET : Hid (∀ k,k < n → Hid (∀ (gs gb cb gr cr : Nat) (jb jr : List Value) (w1 : World),Hp [] w [⟨gs,68,[.slice (some ⟨gb,0,none⟩) nb cb,.slice (some ⟨gr,0,none⟩) nr cr]⟩,⟨gr,63,rl (F k).2 ++ jr⟩,⟨gb,29,bl (F k).1 ++ jb⟩] w1 → Calls Tryz.prog 40 #[.pointer (some ⟨gs,0,none⟩),.func (.func 42) #[.pointer (some ⟨gs,0,none⟩)] #[]] w1 (fun e w2 => e = .returned (.tuple #[]) ∧ Hp [] w [⟨gs,68,[.slice (some ⟨gb,0,none⟩) nb cb,.slice (some ⟨gr,0,none⟩) nr cr]⟩,⟨gr,63,rl (F (k + 1)).2 ++ jr⟩,⟨gb,29,bl (F (k + 1)).1 ++ jb⟩] w2))))
    (hlb : nb = (F n).1.length) (hlr : nr = (F n).2.length) :
    Calls Tryz.prog 10 #[.slice vbo nb vbc,.slice vro nr vrc,.int .i64 n] w (SolR w (F n).1 (F n).2 0) := by
  unfold CKh at CK
  have hs : ¬ (n : Int) < 0 := by omega
  have HLB := Lib.hid hlb
  have HLR := Lib.hid hlr
  clear hlb hlr
  have hmf : ∀ (fn : Fn) (first cap : Array Value) (w : World),(Instr.makeFunc fn first cap).run Tryz.prog w = .ok (.func fn first cap) w := fun _ _ _ _ => rfl
  go_enter Tryz.func10,Tryz.ntmps10
  have hp := Hp.start [] w
  go_upto_region 9 with (first | ((with_reducible apply Qao hp);exact za rfl;exact rfl;clear hp;(try clear w1);intro g w1 hp;simp only [zp,zq,z0,z1]) | ((with_reducible apply Qac hp);exact zt rfl;exact ii;exact ii;(first | exact zso rfl | exact Qae (by omega));simp only [zp,zq,z0,z1]) | ((with_reducible apply Qai hp);exact zt rfl;assumption;exact ii;(first | assumption | (first | exact zso rfl | exact Qae (by omega)));simp only [zp,zq,z0,z1]) | ((with_reducible refine Qak hp (CK.out _ hp.keep) ?_);clear hp;(try clear w1);intro w1 hp) | ((with_reducible refine Qit hp (CB.out _ hp.keep) ?_);clear hp;(try clear w1);intro gb cb jb w1 hp) | ((with_reducible refine Qit hp (CR.out _ hp.keep) ?_);clear hp;(try clear w1);intro gr cr jr w1 hp) | ((with_reducible refine Qds (EW.out _ _ _ _ _ _ _ _ hp) ?_);clear hp;(try clear w1);rintro w1 hp))
  go_wp2_with (first | ((with_reducible apply Qao hp);exact za rfl;exact rfl;clear hp;(try clear w1);intro g w1 hp;simp only [zp,zq,z0,z1]) | ((with_reducible apply Qac hp);exact zt rfl;exact ii;exact ii;(first | exact zso rfl | exact Qae (by omega));simp only [zp,zq,z0,z1]) | ((with_reducible apply Qai hp);exact zt rfl;assumption;exact ii;(first | assumption | (first | exact zso rfl | exact Qae (by omega)));simp only [zp,zq,z0,z1]))
  go_loopw [38] (fun i wr => ∃ k : Nat,k ≤ n ∧ i = .int .i64 k ∧ Hp [] w [⟨g,68,[.slice (some ⟨gb,0,none⟩) nb cb,.slice (some ⟨gr,0,none⟩) nr cr]⟩,⟨gr,63,rl (F k).2 ++ jr⟩,⟨gb,29,bl (F k).1 ++ jb⟩] wr) (fun i _ => n - (intOf i).toNat)
  case atStart => exact ⟨0,by omega,rfl,hp⟩
  case round =>
    clear hp
    obtain ⟨k,hk,rfl,hp⟩ := hrel
    by_cases hk1 : k < n
    · have hk2 : (k : Int) < n := by omega
      have EK := Lib.hid (ET.out k hk1).out
      go_wp2_with (first | ((with_reducible apply Qao hp);exact za rfl;exact rfl;clear hp;(try clear w1);intro g w1 hp;simp only [zp,zq,z0,z1]) | ((with_reducible apply Qac hp);exact zt rfl;exact ii;exact ii;(first | exact zso rfl | exact Qae (by omega));simp only [zp,zq,z0,z1]) | ((with_reducible apply Qai hp);exact zt rfl;assumption;exact ii;(first | assumption | (first | exact zso rfl | exact Qae (by omega)));simp only [zp,zq,z0,z1]) | ((with_reducible refine Qds (EK.out _ _ _ _ _ _ _ _ hp) ?_);clear hp;rintro w1 hp))
      go_roundw
      case rel => exact ⟨k + 1,by omega,by go_num,hp⟩
      case measure => simp [intOf];omega
    · obtain rfl : k = n := by omega
      have hk2 : ¬ (k : Int) < k := by omega
      go_wp2_with (first | ((with_reducible apply Qao hp);exact za rfl;exact rfl;clear hp;(try clear w1);intro g w1 hp;simp only [zp,zq,z0,z1]) | ((with_reducible apply Qac hp);exact zt rfl;exact ii;exact ii;(first | exact zso rfl | exact Qae (by omega));simp only [zp,zq,z0,z1]) | ((with_reducible apply Qai hp);exact zt rfl;assumption;exact ii;(first | assumption | (first | exact zso rfl | exact Qae (by omega)));simp only [zp,zq,z0,z1]))
      have hq := hp
      refine Qau hp hq [] (.q 0 (.q 1 (.q 2 (.q 3 (.q 4 (.q 5 (.q 6 (.q 7 (.q 8 (.q 9 (.q 10 .nil))))))))))) (by kernel_rfl) (by kernel_rfl) ?_
      clear hp hq;(try clear w1);intro w1 hp hq
      repeat' (first | (((with_reducible apply sg_q);exact zo rfl);(first | ((with_reducible apply Qbb hp);exact rfl;exact zt rfl;exact ii;exact ii;(first | exact zso rfl | exact Qae (by omega));simp only [zp,zq,z0,z1]) | ((with_reducible apply Qbe hp);exact rfl;exact zt rfl;assumption;exact ii;(first | assumption | (first | exact zso rfl | exact Qae (by omega)));simp only [zp,zq,z0,z1]) | ((with_reducible apply Qbv hp);exact zr rfl;simp only [zp,zq,z0,z1]) | ((with_reducible apply Qcz hp);(first | exact zi rfl | exact zs rfl);simp only [zp,zq,z0,z1]) | ((with_reducible apply Qbm hp);exact rfl;(focus (intro _;go_simp;(try go_ints);try with_reducible rfl));simp only [zp,zq,z0,z1]))) | ((with_reducible apply Qbt hq);clear hp hq;(try clear w1);intro w1 hp))
      go_wp2_with (first | ((with_reducible apply Qao hp);exact za rfl;exact rfl;clear hp;(try clear w1);intro g w1 hp;simp only [zp,zq,z0,z1]) | ((with_reducible apply Qac hp);exact zt rfl;exact ii;exact ii;(first | exact zso rfl | exact Qae (by omega));simp only [zp,zq,z0,z1]) | ((with_reducible apply Qai hp);exact zt rfl;assumption;exact ii;(first | assumption | (first | exact zso rfl | exact Qae (by omega)));simp only [zp,zq,z0,z1]))
      exact bodyPost_ret (Qbz rfl rfl rfl rfl) rfl ⟨hp.keep,_,_,rfl,FSl.own Qcc HLB.out hp.blk,FSl.own Qbx HLR.out hp.blk⟩
set_option maxHeartbeats 4000000 in
theorem solve_zbn (n : Nat) (hn : ¬ 64 < (n : Int)) (w : World) (vbo : Option Addr) (vbc nb : Nat) (L : List Inr) (CB : Hid (∀ w1,Keep [] w w1 → Calls Tryz.prog 38 #[.slice vbo nb vbc] w1 (fun e w2 => ∃ (g1 cap1 : Nat) (junk : List Value),e = .returned (.slice (some ⟨g1,0,none⟩) nb cap1) ∧ Hp [] w1 [⟨g1,29,bl L ++ junk⟩] w2))) (hlb : nb = L.length) (CK : CKh w (.slice none 0 0) nb 0) :
    Calls Tryz.prog 10 #[.slice vbo nb vbc,.slice none 0 0,.int .i64 n] w (SolR w L [] 0) := by
  unfold CKh at CK
  have hs : ¬ (n : Int) < 0 := by omega
  have HLB := Lib.hid hlb
  clear hlb
  have hmf : ∀ (fn : Fn) (first cap : Array Value) (w : World),(Instr.makeFunc fn first cap).run Tryz.prog w = .ok (.func fn first cap) w := fun _ _ _ _ => rfl
  go_enter Tryz.func10,Tryz.ntmps10
  have hp := Hp.start [] w
  go_upto_region 9 with (first | ((with_reducible apply Qao hp);exact za rfl;exact rfl;clear hp;(try clear w1);intro g w1 hp;simp only [zp,zq,z0,z1]) | ((with_reducible apply Qac hp);exact zt rfl;exact ii;exact ii;(first | exact zso rfl | exact Qae (by omega));simp only [zp,zq,z0,z1]) | ((with_reducible apply Qai hp);exact zt rfl;assumption;exact ii;(first | assumption | (first | exact zso rfl | exact Qae (by omega)));simp only [zp,zq,z0,z1]) | ((with_reducible refine Qak hp (Qha _) ?_);clear hp;(try clear w1);intro w1 hp) | ((with_reducible refine Qak hp (CK.out _ hp.keep) ?_);clear hp;(try clear w1);intro w1 hp) | ((with_reducible refine Qit hp (CB.out _ hp.keep) ?_);clear hp;(try clear w1);intro gb cb jb w1 hp) | ((with_reducible refine Qds (Qfi _ _ _ _ _ _ hp) ?_);clear hp;(try clear w1);rintro w1 hp))
  go_wp2_with (first | ((with_reducible apply Qao hp);exact za rfl;exact rfl;clear hp;(try clear w1);intro g w1 hp;simp only [zp,zq,z0,z1]) | ((with_reducible apply Qac hp);exact zt rfl;exact ii;exact ii;(first | exact zso rfl | exact Qae (by omega));simp only [zp,zq,z0,z1]) | ((with_reducible apply Qai hp);exact zt rfl;assumption;exact ii;(first | assumption | (first | exact zso rfl | exact Qae (by omega)));simp only [zp,zq,z0,z1]))
  go_loopw [38] (fun i wr => ∃ k : Nat,k ≤ n ∧ i = .int .i64 k ∧ Hp [] w [⟨g,68,[.slice (some ⟨gb,0,none⟩) nb cb,.slice none 0 0]⟩,⟨gb,29,bl L ++ jb⟩] wr) (fun i _ => n - (intOf i).toNat)
  case atStart => exact ⟨0,by omega,rfl,hp⟩
  case round =>
    clear hp
    obtain ⟨k,hk,rfl,hp⟩ := hrel
    by_cases hk1 : k < n
    · have hk2 : (k : Int) < n := by omega
      go_wp2_with (first | ((with_reducible apply Qao hp);exact za rfl;exact rfl;clear hp;(try clear w1);intro g w1 hp;simp only [zp,zq,z0,z1]) | ((with_reducible apply Qac hp);exact zt rfl;exact ii;exact ii;(first | exact zso rfl | exact Qae (by omega));simp only [zp,zq,z0,z1]) | ((with_reducible apply Qai hp);exact zt rfl;assumption;exact ii;(first | assumption | (first | exact zso rfl | exact Qae (by omega)));simp only [zp,zq,z0,z1]) | ((with_reducible refine Qds (Qfi _ _ _ _ _ _ hp) ?_);clear hp;(try clear w1);rintro w1 hp))
      go_roundw
      case rel => exact ⟨k + 1,by omega,by go_num,hp⟩
      case measure => simp [intOf];omega
    · obtain rfl : k = n := by omega
      have hk2 : ¬ (k : Int) < k := by omega
      go_wp2_with (first | ((with_reducible apply Qao hp);exact za rfl;exact rfl;clear hp;(try clear w1);intro g w1 hp;simp only [zp,zq,z0,z1]) | ((with_reducible apply Qac hp);exact zt rfl;exact ii;exact ii;(first | exact zso rfl | exact Qae (by omega));simp only [zp,zq,z0,z1]) | ((with_reducible apply Qai hp);exact zt rfl;assumption;exact ii;(first | assumption | (first | exact zso rfl | exact Qae (by omega)));simp only [zp,zq,z0,z1]))
      have hq := hp
      refine Qau hp hq [] (.q 0 (.q 1 (.q 2 (.q 3 (.q 4 (.q 5 (.q 6 (.q 7 (.q 8 (.q 9 (.q 10 .nil))))))))))) (by kernel_rfl) (by kernel_rfl) ?_
      clear hp hq;(try clear w1);intro w1 hp hq
      repeat' (first | (((with_reducible apply sg_q);exact zo rfl);(first | ((with_reducible apply Qbb hp);exact rfl;exact zt rfl;exact ii;exact ii;(first | exact zso rfl | exact Qae (by omega));simp only [zp,zq,z0,z1]) | ((with_reducible apply Qbe hp);exact rfl;exact zt rfl;assumption;exact ii;(first | assumption | (first | exact zso rfl | exact Qae (by omega)));simp only [zp,zq,z0,z1]) | ((with_reducible apply Qbv hp);exact zr rfl;simp only [zp,zq,z0,z1]) | ((with_reducible apply Qcz hp);(first | exact zi rfl | exact zs rfl);simp only [zp,zq,z0,z1]) | ((with_reducible apply Qbm hp);exact rfl;(focus (intro _;go_simp;(try go_ints);try with_reducible rfl));simp only [zp,zq,z0,z1]))) | ((with_reducible apply Qbt hq);clear hp hq;(try clear w1);intro w1 hp))
      go_wp2_with (first | ((with_reducible apply Qao hp);exact za rfl;exact rfl;clear hp;(try clear w1);intro g w1 hp;simp only [zp,zq,z0,z1]) | ((with_reducible apply Qac hp);exact zt rfl;exact ii;exact ii;(first | exact zso rfl | exact Qae (by omega));simp only [zp,zq,z0,z1]) | ((with_reducible apply Qai hp);exact zt rfl;assumption;exact ii;(first | assumption | (first | exact zso rfl | exact Qae (by omega)));simp only [zp,zq,z0,z1]))
      exact bodyPost_ret (Qbz rfl rfl rfl rfl) rfl ⟨hp.keep,_,_,rfl,FSl.own Qcc HLB.out hp.blk,.inl ⟨rfl,rfl⟩⟩
set_option maxHeartbeats 4000000 in
theorem solve_znr (n : Nat) (hn : ¬ 64 < (n : Int)) (w : World) (vro : Option Addr) (vrc : Nat) (CR : Hid (∀ w1,Keep [] w w1 → Calls Tryz.prog 39 #[.slice vro 0 vrc] w1 (fun e w2 => ∃ (g1 cap1 : Nat) (junk : List Value),e = .returned (.slice (some ⟨g1,0,none⟩) 0 cap1) ∧ Hp [] w1 [⟨g1,63,rl ([] : List Rw) ++ junk⟩] w2))) (CK : CKh w (.slice vro 0 vrc) ((0 : Nat) : Int) 0) :
    Calls Tryz.prog 10 #[.slice none 0 0,.slice vro 0 vrc,.int .i64 n] w (SolR w [] [] 0) := by
  unfold CKh at CK
  have hs : ¬ (n : Int) < 0 := by omega
  have hmf : ∀ (fn : Fn) (first cap : Array Value) (w : World),(Instr.makeFunc fn first cap).run Tryz.prog w = .ok (.func fn first cap) w := fun _ _ _ _ => rfl
  go_enter Tryz.func10,Tryz.ntmps10
  have hp := Hp.start [] w
  go_upto_region 9 with (first | ((with_reducible apply Qao hp);exact za rfl;exact rfl;clear hp;(try clear w1);intro g w1 hp;simp only [zp,zq,z0,z1]) | ((with_reducible apply Qac hp);exact zt rfl;exact ii;exact ii;(first | exact zso rfl | exact Qae (by omega));simp only [zp,zq,z0,z1]) | ((with_reducible apply Qai hp);exact zt rfl;assumption;exact ii;(first | assumption | (first | exact zso rfl | exact Qae (by omega)));simp only [zp,zq,z0,z1]) | ((with_reducible refine Qak hp (Qfz _) ?_);clear hp;(try clear w1);intro w1 hp) | ((with_reducible refine Qak hp (CK.out _ hp.keep) ?_);clear hp;(try clear w1);intro w1 hp) | ((with_reducible refine Qit hp (CR.out _ hp.keep) ?_);clear hp;(try clear w1);intro gr cr jr w1 hp) | ((with_reducible refine Qds (Qfi _ _ _ _ _ _ hp) ?_);clear hp;(try clear w1);rintro w1 hp))
  go_wp2_with (first | ((with_reducible apply Qao hp);exact za rfl;exact rfl;clear hp;(try clear w1);intro g w1 hp;simp only [zp,zq,z0,z1]) | ((with_reducible apply Qac hp);exact zt rfl;exact ii;exact ii;(first | exact zso rfl | exact Qae (by omega));simp only [zp,zq,z0,z1]) | ((with_reducible apply Qai hp);exact zt rfl;assumption;exact ii;(first | assumption | (first | exact zso rfl | exact Qae (by omega)));simp only [zp,zq,z0,z1]))
  go_loopw [38] (fun i wr => ∃ k : Nat,k ≤ n ∧ i = .int .i64 k ∧ Hp [] w [⟨g,68,[.slice none 0 0,.slice (some ⟨gr,0,none⟩) 0 cr]⟩,⟨gr,63,rl [] ++ jr⟩] wr) (fun i _ => n - (intOf i).toNat)
  case atStart => exact ⟨0,by omega,rfl,hp⟩
  case round =>
    clear hp
    obtain ⟨k,hk,rfl,hp⟩ := hrel
    by_cases hk1 : k < n
    · have hk2 : (k : Int) < n := by omega
      go_wp2_with (first | ((with_reducible apply Qao hp);exact za rfl;exact rfl;clear hp;(try clear w1);intro g w1 hp;simp only [zp,zq,z0,z1]) | ((with_reducible apply Qac hp);exact zt rfl;exact ii;exact ii;(first | exact zso rfl | exact Qae (by omega));simp only [zp,zq,z0,z1]) | ((with_reducible apply Qai hp);exact zt rfl;assumption;exact ii;(first | assumption | (first | exact zso rfl | exact Qae (by omega)));simp only [zp,zq,z0,z1]) | ((with_reducible refine Qds (Qfi _ _ _ _ _ _ hp) ?_);clear hp;(try clear w1);rintro w1 hp))
      go_roundw
      case rel => exact ⟨k + 1,by omega,by go_num,hp⟩
      case measure => simp [intOf];omega
    · obtain rfl : k = n := by omega
      have hk2 : ¬ (k : Int) < k := by omega
      go_wp2_with (first | ((with_reducible apply Qao hp);exact za rfl;exact rfl;clear hp;(try clear w1);intro g w1 hp;simp only [zp,zq,z0,z1]) | ((with_reducible apply Qac hp);exact zt rfl;exact ii;exact ii;(first | exact zso rfl | exact Qae (by omega));simp only [zp,zq,z0,z1]) | ((with_reducible apply Qai hp);exact zt rfl;assumption;exact ii;(first | assumption | (first | exact zso rfl | exact Qae (by omega)));simp only [zp,zq,z0,z1]))
      have hq := hp
      refine Qau hp hq [] (.q 0 (.q 1 (.q 2 (.q 3 (.q 4 (.q 5 (.q 6 (.q 7 (.q 8 (.q 9 (.q 10 .nil))))))))))) (by kernel_rfl) (by kernel_rfl) ?_
      clear hp hq;(try clear w1);intro w1 hp hq
      repeat' (first | (((with_reducible apply sg_q);exact zo rfl);(first | ((with_reducible apply Qbb hp);exact rfl;exact zt rfl;exact ii;exact ii;(first | exact zso rfl | exact Qae (by omega));simp only [zp,zq,z0,z1]) | ((with_reducible apply Qbe hp);exact rfl;exact zt rfl;assumption;exact ii;(first | assumption | (first | exact zso rfl | exact Qae (by omega)));simp only [zp,zq,z0,z1]) | ((with_reducible apply Qbv hp);exact zr rfl;simp only [zp,zq,z0,z1]) | ((with_reducible apply Qcz hp);(first | exact zi rfl | exact zs rfl);simp only [zp,zq,z0,z1]) | ((with_reducible apply Qbm hp);exact rfl;(focus (intro _;go_simp;(try go_ints);try with_reducible rfl));simp only [zp,zq,z0,z1]))) | ((with_reducible apply Qbt hq);clear hp hq;(try clear w1);intro w1 hp))
      go_wp2_with (first | ((with_reducible apply Qao hp);exact za rfl;exact rfl;clear hp;(try clear w1);intro g w1 hp;simp only [zp,zq,z0,z1]) | ((with_reducible apply Qac hp);exact zt rfl;exact ii;exact ii;(first | exact zso rfl | exact Qae (by omega));simp only [zp,zq,z0,z1]) | ((with_reducible apply Qai hp);exact zt rfl;assumption;exact ii;(first | assumption | (first | exact zso rfl | exact Qae (by omega)));simp only [zp,zq,z0,z1]))
      exact bodyPost_ret (Qbz rfl rfl rfl rfl) rfl ⟨hp.keep,_,_,rfl,.inl ⟨rfl,rfl⟩,FSl.own Qbx rfl hp.blk⟩
set_option maxHeartbeats 4000000 in
theorem solve_znn (n : Nat) (hn : ¬ 64 < (n : Int)) (w : World) (CK : CKh w (.slice none 0 0) ((0 : Nat) : Int) 0) :
    Calls Tryz.prog 10 #[.slice none 0 0,.slice none 0 0,.int .i64 n] w (SolR w [] [] 0) := by
  unfold CKh at CK
  have hs : ¬ (n : Int) < 0 := by omega
  have hmf : ∀ (fn : Fn) (first cap : Array Value) (w : World),(Instr.makeFunc fn first cap).run Tryz.prog w = .ok (.func fn first cap) w := fun _ _ _ _ => rfl
  go_enter Tryz.func10,Tryz.ntmps10
  have hp := Hp.start [] w
  go_upto_region 9 with (first | ((with_reducible apply Qao hp);exact za rfl;exact rfl;clear hp;(try clear w1);intro g w1 hp;simp only [zp,zq,z0,z1]) | ((with_reducible apply Qac hp);exact zt rfl;exact ii;exact ii;(first | exact zso rfl | exact Qae (by omega));simp only [zp,zq,z0,z1]) | ((with_reducible apply Qai hp);exact zt rfl;assumption;exact ii;(first | assumption | (first | exact zso rfl | exact Qae (by omega)));simp only [zp,zq,z0,z1]) | ((with_reducible first | refine Qak hp (Qfz _) ?_ | refine Qak hp (Qha _) ?_);clear hp;(try clear w1);intro w1 hp) | ((with_reducible refine Qak hp (CK.out _ hp.keep) ?_);clear hp;(try clear w1);intro w1 hp) | ((with_reducible refine Qds (Qfi _ _ _ _ _ _ hp) ?_);clear hp;(try clear w1);rintro w1 hp))
  go_wp2_with (first | ((with_reducible apply Qao hp);exact za rfl;exact rfl;clear hp;(try clear w1);intro g w1 hp;simp only [zp,zq,z0,z1]) | ((with_reducible apply Qac hp);exact zt rfl;exact ii;exact ii;(first | exact zso rfl | exact Qae (by omega));simp only [zp,zq,z0,z1]) | ((with_reducible apply Qai hp);exact zt rfl;assumption;exact ii;(first | assumption | (first | exact zso rfl | exact Qae (by omega)));simp only [zp,zq,z0,z1]))
  go_loopw [38] (fun i wr => ∃ k : Nat,k ≤ n ∧ i = .int .i64 k ∧ Hp [] w [⟨g,68,[.slice none 0 0,.slice none 0 0]⟩] wr) (fun i _ => n - (intOf i).toNat)
  case atStart => exact ⟨0,by omega,rfl,hp⟩
  case round =>
    clear hp
    obtain ⟨k,hk,rfl,hp⟩ := hrel
    by_cases hk1 : k < n
    · have hk2 : (k : Int) < n := by omega
      go_wp2_with (first | ((with_reducible apply Qao hp);exact za rfl;exact rfl;clear hp;(try clear w1);intro g w1 hp;simp only [zp,zq,z0,z1]) | ((with_reducible apply Qac hp);exact zt rfl;exact ii;exact ii;(first | exact zso rfl | exact Qae (by omega));simp only [zp,zq,z0,z1]) | ((with_reducible apply Qai hp);exact zt rfl;assumption;exact ii;(first | assumption | (first | exact zso rfl | exact Qae (by omega)));simp only [zp,zq,z0,z1]) | ((with_reducible refine Qds (Qfi _ _ _ _ _ _ hp) ?_);clear hp;(try clear w1);rintro w1 hp))
      go_roundw
      case rel => exact ⟨k + 1,by omega,by go_num,hp⟩
      case measure => simp [intOf];omega
    · obtain rfl : k = n := by omega
      have hk2 : ¬ (k : Int) < k := by omega
      go_wp2_with (first | ((with_reducible apply Qao hp);exact za rfl;exact rfl;clear hp;(try clear w1);intro g w1 hp;simp only [zp,zq,z0,z1]) | ((with_reducible apply Qac hp);exact zt rfl;exact ii;exact ii;(first | exact zso rfl | exact Qae (by omega));simp only [zp,zq,z0,z1]) | ((with_reducible apply Qai hp);exact zt rfl;assumption;exact ii;(first | assumption | (first | exact zso rfl | exact Qae (by omega)));simp only [zp,zq,z0,z1]))
      have hq := hp
      refine Qau hp hq [] (.q 0 (.q 1 (.q 2 (.q 3 (.q 4 (.q 5 (.q 6 (.q 7 (.q 8 (.q 9 (.q 10 .nil))))))))))) (by kernel_rfl) (by kernel_rfl) ?_
      clear hp hq;(try clear w1);intro w1 hp hq
      repeat' (first | (((with_reducible apply sg_q);exact zo rfl);(first | ((with_reducible apply Qbb hp);exact rfl;exact zt rfl;exact ii;exact ii;(first | exact zso rfl | exact Qae (by omega));simp only [zp,zq,z0,z1]) | ((with_reducible apply Qbe hp);exact rfl;exact zt rfl;assumption;exact ii;(first | assumption | (first | exact zso rfl | exact Qae (by omega)));simp only [zp,zq,z0,z1]) | ((with_reducible apply Qbv hp);exact zr rfl;simp only [zp,zq,z0,z1]) | ((with_reducible apply Qcz hp);(first | exact zi rfl | exact zs rfl);simp only [zp,zq,z0,z1]) | ((with_reducible apply Qbm hp);exact rfl;(focus (intro _;go_simp;(try go_ints);try with_reducible rfl));simp only [zp,zq,z0,z1]))) | ((with_reducible apply Qbt hq);clear hp hq;(try clear w1);intro w1 hp))
      go_wp2_with (first | ((with_reducible apply Qao hp);exact za rfl;exact rfl;clear hp;(try clear w1);intro g w1 hp;simp only [zp,zq,z0,z1]) | ((with_reducible apply Qac hp);exact zt rfl;exact ii;exact ii;(first | exact zso rfl | exact Qae (by omega));simp only [zp,zq,z0,z1]) | ((with_reducible apply Qai hp);exact zt rfl;assumption;exact ii;(first | assumption | (first | exact zso rfl | exact Qae (by omega)));simp only [zp,zq,z0,z1]))
      exact bodyPost_ret (Qbz rfl rfl rfl rfl) rfl ⟨hp.keep,_,_,rfl,.inl ⟨rfl,rfl⟩,.inl ⟨rfl,rfl⟩⟩
end Go.Proofs.YtblffafmkpnjdaaGreat
set_option linter.unusedSimpArgs false
set_option linter.unusedVariables false
set_option maxRecDepth 100000
namespace Go.Proofs.YtblffafmkpnjdaaGreat
open Go Go.RowKit
attribute [local irreducible] wpList
theorem Qhf {nb : Nat} {S : List Rw} (h : Qep nb S = 0) : ∀ r ∈ S,r.names nb := fun r hr =>
  have h1 := (bad_not ((Qji h).2.2 r hr)).1
  ⟨h1.1,h1.2.1,h1.2.2.1,h1.2.2.2.1⟩
def Qgb (L : List Inr) (S : List Rw) (s : Int) : List Inr × List Rw × Int :=
  if s < 0 ∨ 64 < s then ([],[],3) else if Qep L.length S = 0 then ((Qei S.length s.toNat (Qcb Qdt S.length (L,S))).1,(Qei S.length s.toNat (Qcb Qdt S.length (L,S))).2,0) else ([],[],Qep L.length S)
theorem SolR.none {w : World} {c : Int} {e : Ending} {w1 : World} (h : Ret (.tuple #[.slice none 0 0,.slice none 0 0,.int .i64 c]) w e w1) : SolR w [] [] c e w1 :=
  ⟨h.2,_,_,h.1,.inl ⟨rfl,rfl⟩,.inl ⟨rfl,rfl⟩⟩
section
variable {w : World} {nb nr : Nat}
theorem ew_list (G : FuncId) (hG : ∀ args w,(callFunc G args).run Tryz.prog w = .ok (.enter G args) w) (F : List Inr → Rw → List Inr × Rw) (hF : Steps F) (hnr : nr ≤ 4611686018427387904)
    (DO : ∀ (gs gb cb gr cr : Nat) (jb jr : List Value) (st : List Inr × List Rw) (k : Nat) (hk : k < st.2.length) (R : List Bk) (w1 : World),Okst nb nr st → Hp [] w (⟨gs,68,[.slice (some ⟨gb,0,none⟩) nb cb,.slice (some ⟨gr,0,none⟩) nr cr]⟩ :: ⟨gb,29,bl st.1 ++ jb⟩ :: ⟨gr,63,rl st.2 ++ jr⟩ :: R) w1 → Calls Tryz.prog G #[.pointer (some ⟨gs,0,none⟩),.pointer (some ⟨gr,k * 25,none⟩)] w1 (fun e w2 => e = .returned (.tuple #[]) ∧ Hp [] w (⟨gs,68,[.slice (some ⟨gb,0,none⟩) nb cb,.slice (some ⟨gr,0,none⟩) nr cr]⟩ :: ⟨gb,29,bl ((F st.1 st.2[k]).1,st.2.set k (F st.1 st.2[k]).2).1 ++ jb⟩ :: ⟨gr,63,rl ((F st.1 st.2[k]).1,st.2.set k (F st.1 st.2[k]).2).2 ++ jr⟩ :: R) w2))
    (st : List Inr × List Rw) (hst : Okst nb nr st) (gs gb cb gr cr : Nat) (jb jr : List Value) (w1 : World) (hp : Hp [] w [⟨gs,68,[.slice (some ⟨gb,0,none⟩) nb cb,.slice (some ⟨gr,0,none⟩) nr cr]⟩,⟨gr,63,rl st.2 ++ jr⟩,⟨gb,29,bl st.1 ++ jb⟩] w1) :
    Calls Tryz.prog 40 #[.pointer (some ⟨gs,0,none⟩),.func (.func G) #[.pointer (some ⟨gs,0,none⟩)] #[]] w1 (fun e w2 => e = .returned (.tuple #[]) ∧ Hp [] w [⟨gs,68,[.slice (some ⟨gb,0,none⟩) nb cb,.slice (some ⟨gr,0,none⟩) nr cr]⟩,⟨gr,63,rl (Qcb F nr st).2 ++ jr⟩,⟨gb,29,bl (Qcb F nr st).1 ++ jb⟩] w2) :=
  (each_list (X := []) (w0 := w) G hG F hF gs gb nb cb gr nr cr hnr [] jb jr (Lib.hid (DO gs gb cb gr cr jb jr)) st hst w1 (hp.perm ((List.Perm.swap _ _ _).cons _))).mono fun e w2 h => ⟨h.1,h.2.perm ((List.Perm.swap _ _ _).cons _)⟩
theorem do_warm (gs gb cb gr cr : Nat) (jb jr : List Value) (st : List Inr × List Rw) (k : Nat) (hk : k < st.2.length) (R : List Bk) (w1 : World) (ho : Okst nb nr st) (hp : Hp [] w (⟨gs,68,[.slice (some ⟨gb,0,none⟩) nb cb,.slice (some ⟨gr,0,none⟩) nr cr]⟩ :: ⟨gb,29,bl st.1 ++ jb⟩ :: ⟨gr,63,rl st.2 ++ jr⟩ :: R) w1) :
    Calls Tryz.prog 41 #[.pointer (some ⟨gs,0,none⟩),.pointer (some ⟨gr,k * 25,none⟩)] w1 (fun e w2 => e = .returned (.tuple #[]) ∧ Hp [] w (⟨gs,68,[.slice (some ⟨gb,0,none⟩) nb cb,.slice (some ⟨gr,0,none⟩) nr cr]⟩ :: ⟨gb,29,bl ((Qdt st.1 st.2[k]).1,st.2.set k (Qdt st.1 st.2[k]).2).1 ++ jb⟩ :: ⟨gr,63,rl ((Qdt st.1 st.2[k]).1,st.2.set k (Qdt st.1 st.2[k]).2).2 ++ jr⟩ :: R) w2) := by
  obtain ⟨h1,h2,h3,h4⟩ := ho
  obtain ⟨h5,h6⟩ := h4 _ (List.getElem_mem hk)
  have e : st.2.set k (Qdt st.1 st.2[k]).2 = st.2 := List.set_getElem_self hk
  dsimp only
  rw [e]
  exact warm_list gs gb nb cb gr _ R jb jr st.1 h1 h2.symm st.2 k hk h5 (by rw [h2];exact h6) w1 hp
theorem do_turn (gs gb cb gr cr : Nat) (jb jr : List Value) (st : List Inr × List Rw) (k : Nat) (hk : k < st.2.length) (R : List Bk) (w1 : World) (ho : Okst nb nr st) (hp : Hp [] w (⟨gs,68,[.slice (some ⟨gb,0,none⟩) nb cb,.slice (some ⟨gr,0,none⟩) nr cr]⟩ :: ⟨gb,29,bl st.1 ++ jb⟩ :: ⟨gr,63,rl st.2 ++ jr⟩ :: R) w1) :
    Calls Tryz.prog 42 #[.pointer (some ⟨gs,0,none⟩),.pointer (some ⟨gr,k * 25,none⟩)] w1 (fun e w2 => e = .returned (.tuple #[]) ∧ Hp [] w (⟨gs,68,[.slice (some ⟨gb,0,none⟩) nb cb,.slice (some ⟨gr,0,none⟩) nr cr]⟩ :: ⟨gb,29,bl ((Qdd st.1 st.2[k]).1,st.2.set k (Qdd st.1 st.2[k]).2).1 ++ jb⟩ :: ⟨gr,63,rl ((Qdd st.1 st.2[k]).1,st.2.set k (Qdd st.1 st.2[k]).2).2 ++ jr⟩ :: R) w2) := by
  obtain ⟨h1,h2,h3,h4⟩ := ho
  obtain ⟨h5,h6⟩ := h4 _ (List.getElem_mem hk)
  exact turn_list gs gb nb cb gr _ R jb jr st.1 h1 h2.symm st.2 k hk h5 (by rw [h2];exact h6) w1 hp
end
theorem Qok (L : List Inr) (S : List Rw) (s : Int) (hL : alli L) (hS : ∀ r ∈ S,r.i64f) (vb vr : Value) (w : World) (hb : FSl NVl 16 w vb L) (hr : FSl RVl 25 w vr S) :
    Calls Tryz.prog 10 #[vb,vr,.int .i64 s] w (SolR w (Qgb L S s).1 (Qgb L S s).2.1 (Qgb L S s).2.2) := by
  have CK : CKh w vr L.length (Qep L.length S) := Lib.hid fun w1 hk => Qjt _ hS w1 (hr.keep hk)
  obtain ⟨b,c,hv⟩ := hb.shape
  unfold Qgb
  by_cases h1 : s < 0
  · rw [if_pos (.inl h1),hv]
    exact (solve_low s _ h1 b _ c vr w CK).mono fun _ _ h => SolR.none h
  by_cases h2 : 64 < s
  · rw [if_pos (.inr h2),hv]
    exact (solve_high s _ h1 h2 b _ c vr w CK).mono fun _ _ h => SolR.none h
  rw [if_neg (by omega)]
  by_cases h3 : Qep L.length S = 0
  case neg =>
    rw [if_neg h3,hv]
    exact (solve_bad s _ h1 h2 (by simpa using h3) b _ c vr w CK).mono fun _ _ h => SolR.none h
  rw [if_pos h3]
  rw [h3] at CK
  obtain ⟨n,rfl⟩ : ∃ n : Nat,s = n := ⟨s.toNat,by omega⟩
  rw [Int.toNat_natCast]
  have hnm := Qhf h3
  obtain ⟨l1,l2,_⟩ := Qji h3
  clear hv b c
  rcases hr with ⟨rfl,rfl⟩ | ⟨gr,ro,cr,rc,rt,rz,rfl,hrb,hrn⟩
  · have e : ∀ k,Qei ([] : List Rw).length k (Qcb Qdt ([] : List Rw).length (L,[])) = (L,[]) := by
      intro k
      induction k with
      | zero => rfl
      | succ k ih => unfold Qei;rw [ih];rfl
    rw [e]
    rcases hb with ⟨rfl,rfl⟩ | ⟨gb,bo,cb,bc,bt,bz,rfl,hbb,hbn⟩
    · exact solve_znn n h2 w CK
    · exact solve_zbn n h2 w _ _ _ L (Lib.hid fun w1 hk => Qio gb bo cb L bc bt bz (by omega) w1 (hk.blk hbb) hbn) rfl CK
  · rcases hb with ⟨rfl,rfl⟩ | ⟨gb,bo,cb,bc,bt,bz,rfl,hbb,hbn⟩
    · obtain rfl : S = [] := by
        cases S with
        | nil => rfl
        | cons r S =>
          have := hnm r (by simp)
          obtain ⟨h4,h5,_⟩ := this
          simp at h5
          omega
      have e : ∀ k,Qei ([] : List Rw).length k (Qcb Qdt ([] : List Rw).length (([] : List Inr),[])) = ([],[]) := by
        intro k
        induction k with
        | zero => rfl
        | succ k ih => unfold Qei;rw [ih];rfl
      rw [e]
      exact solve_znr n h2 w _ _ (Lib.hid fun w1 hk => Qlp gr ro cr [] rc rt rz (by simp) w1 (hk.blk hrb) hrn) CK
    · have hok : Okst L.length S.length (L,S) := ⟨hL,rfl,rfl,fun r hr => ⟨hS r hr,hnm r hr⟩⟩
      have hok1 := Qfm Qgy hok S.length (Nat.le_refl _)
      have hokn := fun k => Qhm hok1 k
      exact solve_both n h2 _ _ _ _ _ _ (L,S) (fun k => Qei S.length k (Qcb Qdt S.length (L,S))) w CK
        (Lib.hid fun w1 hk => Qio gb bo cb L bc bt bz (by omega) w1 (hk.blk hbb) hbn)
        (Lib.hid fun w1 hk => Qlp gr ro cr S rc rt rz (by omega) w1 (hk.blk hrb) hrn)
        (Lib.hid (ew_list 41 (fun args w => by go_simp) Qdt Qgy (by omega) do_warm (L,S) hok))
        (Lib.hid fun k _ => Lib.hid (ew_list 42 (fun args w => by go_simp) Qdd Qib (by omega) do_turn _ (hokn k)))
        (hokn n).2.1.symm (hokn n).2.2.1.symm
end Go.Proofs.YtblffafmkpnjdaaGreat
