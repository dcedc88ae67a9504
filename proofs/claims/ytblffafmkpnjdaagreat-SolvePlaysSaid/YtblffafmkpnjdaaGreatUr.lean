/-
  ninepinref23: Cone, Push (contracts); SolveCone.
-/
import Derived.Test.YtblffafmkpnjdaaGreatUp
set_option linter.unusedSimpArgs false
set_option linter.unusedVariables false
set_option maxRecDepth 100000
namespace Go.Proofs.YtblffafmkpnjdaaGreat
open Go Go.RowKit
attribute [local irreducible] wpList
set_option maxHeartbeats 2000000 in
theorem rapply_any (p q r v : P3) (hp' : p.i64) (hq : q.i64) (hr : r.i64) (hv : v.i64) (w : World) : Calls Tryz.prog 36 #[MV p q r,PV v] w (Ret (PV ⟨p.cdot v,q.cdot v,r.cdot v⟩) w) := by
  have D1 := Lib.hid (Qge p v hp' hv)
  have D2 := Lib.hid (Qge q v hq hv)
  have D3 := Lib.hid (Qge r v hr hv)
  clear hp' hq hr hv
  unfold P3.cdot
  generalize cl (p.dot v / 4294967296) = x at *
  generalize cl (q.dot v / 4294967296) = y at *
  generalize cl (r.dot v / 4294967296) = e at *
  go_enter Tryz.func36,Tryz.ntmps36
  have hp := Hp.start [] w
  go_upto_region 1 with (first | ((with_reducible apply Qao hp);(first | exact za rfl | exact zu rfl | exact zi rfl | exact zb rfl | exact zr rfl | exact zs rfl | exact zf rfl | exact zg rfl | exact zn rfl | exact zv rfl | exact zw rfl);exact rfl;clear hp;(try clear w1);intro g w1 hp;simp only [zp,zq,z0,z1]) | ((with_reducible apply Qag hp);exact ii;exact rfl;clear hp;(try clear w1);intro g w1 hp;simp only [zp,zq,z0,z1]))
  have hq := hp
  refine Qau hp hq [16] (.q 0 (.q 1 (.q 2 (.q 3 (.q 5 (.q 6 (.q 7 (.q 8 (.q 10 (.q 11 (.q 12 (.q 13 (.p 4 (.p 9 (.p 14 (.q 15 (.l 16 .nil))))))))))))))))) (by kernel_rfl) (by kernel_rfl) ?_
  clear hp hq;(try clear w1);intro w1 hp hq
  repeat' (first | (((with_reducible apply sg_q);exact zo rfl);(first | ((with_reducible apply Qbg hp);exact rfl;exact zt rfl;exact ii;exact ii;(first | exact zl rfl | exact Qad (by omega));(first | (with_reducible exact Qab (by omega)) | (simp only [n0,Nat.reduceAdd,n1,n2,n3,n4,n5,n6,n7,n8,n9];try rfl));simp only [zp,zq,z0,z1]) | ((with_reducible apply Qci hp);exact rfl;exact zx rfl;exact zk rfl;exact ii;exact Sz.z;omega;omega;((try simp only [m0,Int.reduceToNat,m1,m2,Nat.reduceMul,Nat.reduceAdd,m3,m4,m5,n0]);exact rfl);simp only [zp,zq,z0,z1]) | ((with_reducible apply Qbm hp);exact rfl;(focus (intro _;go_simp;(try go_ints);try with_reducible rfl));simp only [zp,zq,z0,z1]))) | (((with_reducible apply sg_p);exact zo rfl);((with_reducible apply Qbp hp);exact rfl;(focus (intro _;go_simp;try first | with_reducible rfl | exact ⟨rfl,rfl⟩));(with_reducible first | exact fun w => D1.out w | exact fun w => D2.out w | exact fun w => D3.out w);simp only [zp,zq,z0,z1])) | (((with_reducible apply sg_l);exact zo rfl);(first | ((with_reducible apply Qbi hq);exact rfl;exact zt rfl;(first | exact za rfl | exact zu rfl | exact zi rfl | exact zb rfl | exact zr rfl | exact zs rfl | exact zf rfl | exact zg rfl | exact zn rfl | exact zv rfl | exact zw rfl);exact rfl;exact Sz.z;exact rfl;exact ii;(first | (with_reducible exact Qab (by omega)) | (simp only [n0,Nat.reduceAdd,n1,n2,n3,n4,n5,n6,n7,n8,n9];try rfl));(first | exact zl rfl | exact Qad (by omega));exact rfl;exact ii;(repeat (first | exact List.Sublist.refl _ | apply List.Sublist.cons));clear hp hq;(try clear w1);intro w1 hp hq) | ((with_reducible apply Qcg hq);exact rfl;exact zt rfl;(first | exact za rfl | exact zu rfl | exact zi rfl | exact zb rfl | exact zr rfl | exact zs rfl | exact zf rfl | exact zg rfl | exact zn rfl | exact zv rfl | exact zw rfl);exact rfl;exact Sz.z;exact rfl;exact ii;(first | (with_reducible exact Qab (by omega)) | (simp only [n0,Nat.reduceAdd,n1,n2,n3,n4,n5,n6,n7,n8,n9];try rfl));(first | exact zl rfl | exact Qad (by omega));exact rfl;exact ii;exact rfl;clear hp hq;(try clear w1);intro w1 hq;have hp := True.intro))) | ((with_reducible apply Qbt hq);clear hp hq;(try clear w1);intro w1 hp))
  go_wp2
  exact bodyPost_ret (Qaf rfl ⟨_,rfl,Qal hp (Nat.le_of_ble_eq_true rfl)⟩) rfl ⟨rfl,hp.keep⟩
theorem Qhe (a l h : Int) (w : World) : Calls Tryz.prog 80 #[.int .i64 a,.int .i64 l,.int .i64 h] w (Ret (.int .i64 (Qdf a l h)) w) := by
  unfold Qdf
  by_cases h1 : a < l
  · rw [if_pos h1]
    go_enter Tryz.func80,Tryz.ntmps80
    have hp := Hp.start [] w
    go_wp2_with (first
          | fail)
    exact bodyPost_ret (Qaf rfl rfl) rfl ⟨rfl,hp.keep⟩
  · rw [if_neg h1]
    by_cases h2 : h < a
    · rw [if_pos h2]
      go_enter Tryz.func80,Tryz.ntmps80
      have hp := Hp.start [] w
      go_wp2_with (first
          | fail)
      exact bodyPost_ret (Qaf rfl rfl) rfl ⟨rfl,hp.keep⟩
    · rw [if_neg h2]
      go_enter Tryz.func80,Tryz.ntmps80
      have hp := Hp.start [] w
      go_wp2_with (first
          | fail)
      exact bodyPost_ret (Qaf rfl rfl) rfl ⟨rfl,hp.keep⟩
set_option maxHeartbeats 1000000 in
theorem Qdj (a : Int) (ha : I64 a) (w : World) : Calls Tryz.prog 26 #[.int .i64 a] w (Ret (W (a * a)) w) := by
  have O1 := Lib.hid (Qdb a ha)
  have T1 := Lib.hid (Qhz a a (Qcs ha) (Qcs ha) (Qho ha ha))
  clear ha
  generalize a * a = m at *
  go_enter Tryz.func26,Tryz.ntmps26
  have hp := Hp.start [] w
  go_wp2_with (first | ((with_reducible apply Qag hp);exact ii;exact rfl;clear hp;(try clear w1);intro g w1 hp;simp only [zp,zq,z0,z1]) | ((with_reducible apply Qah hp);exact zt rfl;exact za rfl;exact rfl;exact Sz.z;exact rfl;exact ii;(first | (with_reducible exact Qab (by omega)) | (simp only [n0,Nat.reduceAdd,n1,n2,n3,n4,n5,n6,n7,n8,n9];try rfl));(first | exact zl rfl | exact Qad (by omega));exact rfl;exact ii;clear hp;(try clear w1);intro w1 hp) | ((with_reducible first | refine Qak hp (O1.out _) ?_ | refine Qak hp (T1.out _) ?_);clear hp;(try clear w1);intro w1 hp))
  exact bodyPost_ret (Qaf rfl ⟨_,rfl,Qal hp (Nat.le_of_ble_eq_true rfl)⟩) rfl ⟨rfl,hp.keep⟩
theorem sgn_gt {a b : Int} : 0 < sgn (a - b) ↔ b < a := by
  unfold sgn
  split
  · omega
  · split <;> omega
set_option maxHeartbeats 1000000 in
theorem Qik (t u c : Int) (ht : I64 t) (hu : I64 u) (hc : I64 c) (w : World) : Calls Tryz.prog 24 #[.int .i64 t,.int .i64 u,.int .i64 c] w (Ret (.bool (outv t u c)) w) := by
  have h1 := Qeh ht
  have h2 := Qeh hu
  have h3 := Qeh hc
  have S1 := Lib.hid (Qdj t ht)
  have S2 := Lib.hid (Qdj u hu)
  have S3 := Lib.hid (Qdj c hc)
  have P1 := Lib.hid (Qhs (t * t) (u * u) (by unfold Fit M511;omega) (by unfold Fit M511;omega) (by unfold Fit M511;omega))
  have C1 := Lib.hid (Qje (t * t + u * u) (c * c) (by unfold Fit M511;omega) (by unfold Fit M511;omega))
  have e : outv t u c = decide (0 < sgn (t * t + u * u - c * c)) := decide_eq_decide.2 sgn_gt.symm
  rw [e]
  clear ht hu hc h1 h2 h3 e
  generalize sgn (t * t + u * u - c * c) = k at *
  generalize t * t + u * u = s at *
  generalize t * t = p at *
  generalize u * u = q at *
  generalize c * c = r at *
  go_enter Tryz.func24,Tryz.ntmps24
  have hp := Hp.start [] w
  go_wp2_with (first | ((with_reducible first | refine Qak hp (S1.out _) ?_ | refine Qak hp (S2.out _) ?_ | refine Qak hp (S3.out _) ?_ | refine Qak hp (P1.out _) ?_ | refine Qak hp (C1.out _) ?_);clear hp;(try clear w1);intro w1 hp))
  exact bodyPost_ret (Qaf rfl rfl) rfl ⟨rfl,hp.keep⟩
set_option maxHeartbeats 4000000 in
theorem Qop (a c s aa cc pr q r9 rq n m : Int) (o : Bool)
    (SA : Hid (∀ w,Calls Tryz.prog 26 #[.int .i64 a] w (Ret (W aa) w))) (SC : Hid (∀ w,Calls Tryz.prog 26 #[.int .i64 c] w (Ret (W cc) w)))
    (TM : Hid (∀ w,Calls Tryz.prog 65 #[W aa,W cc] w (Ret (W pr) w))) (DV : Hid (∀ w,Calls Tryz.prog 67 #[W pr,W s] w (Ret (.tuple #[W q,W r9,.bool o]) w)))
    (SQ : Hid (∀ w,Calls Tryz.prog 68 #[W q] w (Ret (.tuple #[W rq,.bool true]) w))) (IN : Hid (∀ w,Calls Tryz.prog 69 #[W rq] w (Ret (.int .i64 n) w)))
    (SB : Hid (∀ w,Calls Tryz.prog 70 #[.int .i64 0,.int .i64 n] w (Ret (.int .i64 m) w))) (w : World) :
    Calls Tryz.prog 27 #[.int .i64 a,.int .i64 c,W s] w (Ret (.int .i64 (if a < 0 then m else n)) w) := by
  by_cases h0 : a < 0
  · rw [if_pos h0]
    go_enter Tryz.func27,Tryz.ntmps27
    have hp := Hp.start [] w
    go_upto_region 1 with (first | ((with_reducible apply Qao hp);(first | exact za rfl | exact zu rfl | exact zi rfl | exact zb rfl | exact zr rfl | exact zs rfl | exact zf rfl | exact zg rfl | exact zn rfl | exact zv rfl | exact zw rfl);exact rfl;clear hp;(try clear w1);intro g w1 hp;simp only [zp,zq,z0,z1]) | ((with_reducible apply Qag hp);exact ii;exact rfl;clear hp;(try clear w1);intro g w1 hp;simp only [zp,zq,z0,z1]))
    have hq := hp
    refine Qau hp hq [] (.q 0 (.q 2 (.q 5 (.p 1 (.p 3 (.p 4 (.p 6 (.q 7 (.q 8 (.q 9 (.q 10 (.alt 11 (.l 12 (.l 13 (.l 14 (.q 15 .nil)))) (.l 12 (.l 11 (.l 13 (.l 14 (.q 15 .nil))))))))))))))))) (by kernel_rfl) (by kernel_rfl) ?_
    clear hp hq;(try clear w1);intro w1 hp hq
    repeat' (first | (((with_reducible apply sg_q);exact zo rfl);(first | ((with_reducible apply Qbg hp);exact rfl;exact zt rfl;exact ii;exact ii;(first | exact zl rfl | exact Qad (by omega));(first | (with_reducible exact Qab (by omega)) | (simp only [n0,Nat.reduceAdd,n1,n2,n3,n4,n5,n6,n7,n8,n9];try rfl));simp only [zp,zq,z0,z1]) | ((with_reducible apply Qbv hp);(first | exact zi rfl | exact zu rfl);simp only [zp,zq,z0,z1]) | ((with_reducible apply Qcz hp);exact zb rfl;simp only [zp,zq,z0,z1]) | ((with_reducible apply Qbm hp);exact rfl;(focus (intro _;go_simp;(try go_ints);try with_reducible rfl));simp only [zp,zq,z0,z1]))) | (((with_reducible apply sg_p);exact zo rfl);((with_reducible apply Qbp hp);exact rfl;(focus (intro _;go_simp;try first | with_reducible rfl | exact ⟨rfl,rfl⟩));(with_reducible first | exact fun w => SA.out w | exact fun w => SC.out w | exact fun w => TM.out w | exact fun w => DV.out w);simp only [zp,zq,z0,z1])) | (((with_reducible apply sg_l);exact zo rfl);(first | ((with_reducible apply Qfp hq);(repeat (first | exact List.Sublist.refl _ | apply List.Sublist.cons));exact rfl;exact ii;exact rfl;clear hp hq;(try clear w1);intro g w1 hp hq;simp only [zp,zq,z0,z1]) | ((with_reducible apply Qbi hq);exact rfl;exact zt rfl;(first | exact za rfl | exact zu rfl | exact zi rfl | exact zb rfl | exact zr rfl | exact zs rfl | exact zf rfl | exact zg rfl | exact zn rfl | exact zv rfl | exact zw rfl);exact rfl;exact Sz.z;exact rfl;exact ii;(first | (with_reducible exact Qab (by omega)) | (simp only [n0,Nat.reduceAdd,n1,n2,n3,n4,n5,n6,n7,n8,n9];try rfl));(first | exact zl rfl | exact Qad (by omega));exact rfl;exact ii;(repeat (first | exact List.Sublist.refl _ | apply List.Sublist.cons));clear hp hq;(try clear w1);intro w1 hp hq))) | (with_reducible apply Qoe) | ((with_reducible apply Qbt hq);clear hp hq;(try clear w1);intro w1 hp))
    all_goals
      go_wp2_with (first | ((with_reducible apply Qao hp);exact za rfl;exact rfl;clear hp;(try clear w1);intro g w1 hp;simp only [zp,zq,z0,z1]) | ((with_reducible apply Qag hp);exact ii;exact rfl;clear hp;(try clear w1);intro g w1 hp;simp only [zp,zq,z0,z1]) | ((with_reducible apply Qaa hp);exact zt rfl;exact ii;exact ii;(first | exact zl rfl | exact Qad (by omega));(first | (with_reducible exact Qab (by omega)) | (simp only [n0,Nat.reduceAdd,n1,n2,n3,n4,n5,n6,n7,n8,n9];try rfl));simp only [zp,zq,z0,z1]) | ((with_reducible apply Qah hp);exact zt rfl;exact za rfl;exact rfl;exact Sz.z;exact rfl;exact ii;(first | (with_reducible exact Qab (by omega)) | (simp only [n0,Nat.reduceAdd,n1,n2,n3,n4,n5,n6,n7,n8,n9];try rfl));(first | exact zl rfl | exact Qad (by omega));exact rfl;exact ii;clear hp;(try clear w1);intro w1 hp) | ((with_reducible first | refine Qak hp (SQ.out _) ?_ | refine Qak hp (IN.out _) ?_ | refine Qak hp (SB.out _) ?_);clear hp;(try clear w1);intro w1 hp))
      exact bodyPost_ret (Qaf rfl rfl) rfl ⟨rfl,hp.keep⟩
  · rw [if_neg h0]
    go_enter Tryz.func27,Tryz.ntmps27
    have hp := Hp.start [] w
    go_upto_region 1 with (first | ((with_reducible apply Qao hp);(first | exact za rfl | exact zu rfl | exact zi rfl | exact zb rfl | exact zr rfl | exact zs rfl | exact zf rfl | exact zg rfl | exact zn rfl | exact zv rfl | exact zw rfl);exact rfl;clear hp;(try clear w1);intro g w1 hp;simp only [zp,zq,z0,z1]) | ((with_reducible apply Qag hp);exact ii;exact rfl;clear hp;(try clear w1);intro g w1 hp;simp only [zp,zq,z0,z1]))
    have hq := hp
    refine Qau hp hq [] (.q 0 (.q 2 (.q 5 (.p 1 (.p 3 (.p 4 (.p 6 (.q 7 (.q 8 (.q 9 (.q 10 (.alt 11 (.l 12 (.l 13 (.l 14 (.q 15 .nil)))) (.l 12 (.l 11 (.l 13 (.l 14 (.q 15 .nil))))))))))))))))) (by kernel_rfl) (by kernel_rfl) ?_
    clear hp hq;(try clear w1);intro w1 hp hq
    repeat' (first | (((with_reducible apply sg_q);exact zo rfl);(first | ((with_reducible apply Qbg hp);exact rfl;exact zt rfl;exact ii;exact ii;(first | exact zl rfl | exact Qad (by omega));(first | (with_reducible exact Qab (by omega)) | (simp only [n0,Nat.reduceAdd,n1,n2,n3,n4,n5,n6,n7,n8,n9];try rfl));simp only [zp,zq,z0,z1]) | ((with_reducible apply Qbv hp);(first | exact zi rfl | exact zu rfl);simp only [zp,zq,z0,z1]) | ((with_reducible apply Qcz hp);exact zb rfl;simp only [zp,zq,z0,z1]) | ((with_reducible apply Qbm hp);exact rfl;(focus (intro _;go_simp;(try go_ints);try with_reducible rfl));simp only [zp,zq,z0,z1]))) | (((with_reducible apply sg_p);exact zo rfl);((with_reducible apply Qbp hp);exact rfl;(focus (intro _;go_simp;try first | with_reducible rfl | exact ⟨rfl,rfl⟩));(with_reducible first | exact fun w => SA.out w | exact fun w => SC.out w | exact fun w => TM.out w | exact fun w => DV.out w);simp only [zp,zq,z0,z1])) | (((with_reducible apply sg_l);exact zo rfl);(first | ((with_reducible apply Qfp hq);(repeat (first | exact List.Sublist.refl _ | apply List.Sublist.cons));exact rfl;exact ii;exact rfl;clear hp hq;(try clear w1);intro g w1 hp hq;simp only [zp,zq,z0,z1]) | ((with_reducible apply Qbi hq);exact rfl;exact zt rfl;(first | exact za rfl | exact zu rfl | exact zi rfl | exact zb rfl | exact zr rfl | exact zs rfl | exact zf rfl | exact zg rfl | exact zn rfl | exact zv rfl | exact zw rfl);exact rfl;exact Sz.z;exact rfl;exact ii;(first | (with_reducible exact Qab (by omega)) | (simp only [n0,Nat.reduceAdd,n1,n2,n3,n4,n5,n6,n7,n8,n9];try rfl));(first | exact zl rfl | exact Qad (by omega));exact rfl;exact ii;(repeat (first | exact List.Sublist.refl _ | apply List.Sublist.cons));clear hp hq;(try clear w1);intro w1 hp hq))) | (with_reducible apply Qoe) | ((with_reducible apply Qbt hq);clear hp hq;(try clear w1);intro w1 hp))
    all_goals
      go_wp2_with (first | ((with_reducible apply Qao hp);exact za rfl;exact rfl;clear hp;(try clear w1);intro g w1 hp;simp only [zp,zq,z0,z1]) | ((with_reducible apply Qag hp);exact ii;exact rfl;clear hp;(try clear w1);intro g w1 hp;simp only [zp,zq,z0,z1]) | ((with_reducible apply Qaa hp);exact zt rfl;exact ii;exact ii;(first | exact zl rfl | exact Qad (by omega));(first | (with_reducible exact Qab (by omega)) | (simp only [n0,Nat.reduceAdd,n1,n2,n3,n4,n5,n6,n7,n8,n9];try rfl));simp only [zp,zq,z0,z1]) | ((with_reducible apply Qah hp);exact zt rfl;exact za rfl;exact rfl;exact Sz.z;exact rfl;exact ii;(first | (with_reducible exact Qab (by omega)) | (simp only [n0,Nat.reduceAdd,n1,n2,n3,n4,n5,n6,n7,n8,n9];try rfl));(first | exact zl rfl | exact Qad (by omega));exact rfl;exact ii;clear hp;(try clear w1);intro w1 hp) | ((with_reducible first | refine Qak hp (SQ.out _) ?_ | refine Qak hp (IN.out _) ?_ | refine Qak hp (SB.out _) ?_);clear hp;(try clear w1);intro w1 hp))
      exact bodyPost_ret (Qaf rfl rfl) rfl ⟨rfl,hp.keep⟩
theorem Qjl (a c s : Int) (ha : I64 a) (hc : I64 c) (hs : c * c < s) (hsf : Fit s) (w : World) : Calls Tryz.prog 27 #[.int .i64 a,.int .i64 c,W s] w (Ret (.int .i64 (nar a c s)) w) := by
  have h1 := Qeh ha
  have h2 := Qeh hc
  have hs0 : 0 < s := by omega
  have hpr : 0 ≤ a * a * (c * c) ∧ a * a * (c * c) ≤ 85070591730234615865843651857942052864 * 85070591730234615865843651857942052864 := ⟨Int.mul_nonneg h1.1 h2.1,Int.mul_le_mul h1.2 h2.2 h2.1 (by omega)⟩
  have hpf : Fit (a * a * (c * c)) := by unfold Fit M511;omega
  obtain ⟨d1,d2,d3,d4,d5,d6⟩ := dvq_pos hpr.1 hpf hs0
  have hdv := rdiv_any (a * a * (c * c)) s hpf hsf
  rw [d1] at hdv
  obtain ⟨b0,b1,_⟩ := nar_bd ha hc hs
  have hq0 : 0 ≤ a * a * (c * c) / s := Int.ediv_nonneg hpr.1 (by omega)
  have hqf : Fit (a * a * (c * c) / s) := by
    have := Int.ediv_le_self s hpr.1
    unfold Fit M511
    omega
  have hin := Qdw (rt (a * a * (c * c) / s)) (by unfold Fit M511;omega)
  rw [cl_id (by unfold I64;omega)] at hin
  have hsb := Qdr 0 (rt (a * a * (c * c) / s)) (by unfold I64;omega) (by unfold I64;omega)
  rw [Int.zero_sub,cl_id (by unfold I64;omega)] at hsb
  have k := Qop a c s _ _ _ _ _ _ _ _ _ (Lib.hid (Qdj a ha)) (Lib.hid (Qdj c hc)) (Lib.hid (Qhz (a * a) (c * c) (by unfold Fit M511;omega) (by unfold Fit M511;omega) hpf)) (Lib.hid hdv) (Lib.hid (rsqrt_pos _ hqf hq0)) (Lib.hid hin) (Lib.hid hsb) w
  exact k
set_option maxHeartbeats 2000000 in
theorem rcone_in (t u c d : Int) (hd : c < 0 ∧ d = 0 ∨ ¬ c < 0 ∧ d = c) (OU : Hid (∀ w,Calls Tryz.prog 24 #[.int .i64 t,.int .i64 u,.int .i64 d] w (Ret (.bool false) w))) (w : World) :
    Calls Tryz.prog 6 #[.int .i64 t,.int .i64 u,.int .i64 c] w (Ret (.tuple #[.int .i64 t,.int .i64 u]) w) := by
  rcases hd with ⟨h,rfl⟩ | ⟨h,rfl⟩
  · skip
    go_enter Tryz.func6,Tryz.ntmps6
    have hp := Hp.start [] w
    go_wp2_with (first | ((with_reducible apply Qag hp);exact ii;exact rfl;clear hp;(try clear w1);intro g w1 hp;simp only [zp,zq,z0,z1]) | ((with_reducible apply Qaa hp);exact zt rfl;exact ii;exact ii;(first | exact zl rfl | exact Qad (by omega));(first | (with_reducible exact Qab (by omega)) | (simp only [n0,Nat.reduceAdd,n1,n2,n3,n4,n5,n6,n7,n8,n9];try rfl));simp only [zp,zq,z0,z1]) | ((with_reducible apply Qah hp);exact zt rfl;exact za rfl;exact rfl;exact Sz.z;exact rfl;exact ii;(first | (with_reducible exact Qab (by omega)) | (simp only [n0,Nat.reduceAdd,n1,n2,n3,n4,n5,n6,n7,n8,n9];try rfl));(first | exact zl rfl | exact Qad (by omega));exact rfl;exact ii;clear hp;(try clear w1);intro w1 hp) | ((with_reducible refine Qak hp (OU.out _) ?_);clear hp;(try clear w1);intro w1 hp))
    exact bodyPost_ret (Qaz rfl rfl rfl) rfl ⟨rfl,hp.keep⟩
  · skip
    go_enter Tryz.func6,Tryz.ntmps6
    have hp := Hp.start [] w
    go_wp2_with (first | ((with_reducible apply Qag hp);exact ii;exact rfl;clear hp;(try clear w1);intro g w1 hp;simp only [zp,zq,z0,z1]) | ((with_reducible apply Qaa hp);exact zt rfl;exact ii;exact ii;(first | exact zl rfl | exact Qad (by omega));(first | (with_reducible exact Qab (by omega)) | (simp only [n0,Nat.reduceAdd,n1,n2,n3,n4,n5,n6,n7,n8,n9];try rfl));simp only [zp,zq,z0,z1]) | ((with_reducible apply Qah hp);exact zt rfl;exact za rfl;exact rfl;exact Sz.z;exact rfl;exact ii;(first | (with_reducible exact Qab (by omega)) | (simp only [n0,Nat.reduceAdd,n1,n2,n3,n4,n5,n6,n7,n8,n9];try rfl));(first | exact zl rfl | exact Qad (by omega));exact rfl;exact ii;clear hp;(try clear w1);intro w1 hp) | ((with_reducible refine Qak hp (OU.out _) ?_);clear hp;(try clear w1);intro w1 hp))
    exact bodyPost_ret (Qaz rfl rfl rfl) rfl ⟨rfl,hp.keep⟩
set_option maxHeartbeats 4000000 in
theorem rcone_out (t u c d tt uu s p q : Int) (hd : c < 0 ∧ d = 0 ∨ ¬ c < 0 ∧ d = c) (OU : Hid (∀ w,Calls Tryz.prog 24 #[.int .i64 t,.int .i64 u,.int .i64 d] w (Ret (.bool true) w)))
    (S1 : Hid (∀ w,Calls Tryz.prog 26 #[.int .i64 t] w (Ret (W tt) w))) (S2 : Hid (∀ w,Calls Tryz.prog 26 #[.int .i64 u] w (Ret (W uu) w))) (P1 : Hid (∀ w,Calls Tryz.prog 25 #[W tt,W uu] w (Ret (W s) w)))
    (K1 : Hid (∀ w,Calls Tryz.prog 27 #[.int .i64 t,.int .i64 d,W s] w (Ret (.int .i64 p) w))) (K2 : Hid (∀ w,Calls Tryz.prog 27 #[.int .i64 u,.int .i64 d,W s] w (Ret (.int .i64 q) w))) (w : World) :
    Calls Tryz.prog 6 #[.int .i64 t,.int .i64 u,.int .i64 c] w (Ret (.tuple #[.int .i64 p,.int .i64 q]) w) := by
  rcases hd with ⟨h,rfl⟩ | ⟨h,rfl⟩
  · skip
    go_enter Tryz.func6,Tryz.ntmps6
    have hp := Hp.start [] w
    go_upto_region 6 with (first | ((with_reducible apply Qag hp);exact ii;exact rfl;clear hp;(try clear w1);intro g w1 hp;simp only [zp,zq,z0,z1]) | ((with_reducible apply Qaa hp);exact zt rfl;exact ii;exact ii;(first | exact zl rfl | exact Qad (by omega));(first | (with_reducible exact Qab (by omega)) | (simp only [n0,Nat.reduceAdd,n1,n2,n3,n4,n5,n6,n7,n8,n9];try rfl));simp only [zp,zq,z0,z1]) | ((with_reducible apply Qah hp);exact zt rfl;exact za rfl;exact rfl;exact Sz.z;exact rfl;exact ii;(first | (with_reducible exact Qab (by omega)) | (simp only [n0,Nat.reduceAdd,n1,n2,n3,n4,n5,n6,n7,n8,n9];try rfl));(first | exact zl rfl | exact Qad (by omega));exact rfl;exact ii;clear hp;(try clear w1);intro w1 hp) | ((with_reducible first | refine Qak hp (OU.out _) ?_ | refine Qak hp (S1.out _) ?_ | refine Qak hp (S2.out _) ?_ | refine Qak hp (P1.out _) ?_);clear hp;(try clear w1);intro w1 hp))
    have hq := hp
    refine Qau hp hq [] (.q 0 (.q 1 (.q 2 (.q 4 (.q 5 (.q 6 (.p 3 (.p 7 (.q 8 (.q 9 .nil)))))))))) (by kernel_rfl) (by kernel_rfl) ?_
    clear hp hq;(try clear w1);intro w1 hp hq
    repeat' (first | (((with_reducible apply sg_q);exact zo rfl);(first | ((with_reducible apply Qbg hp);exact rfl;exact zt rfl;exact ii;exact ii;(first | exact zl rfl | exact Qad (by omega));(first | (with_reducible exact Qab (by omega)) | (simp only [n0,Nat.reduceAdd,n1,n2,n3,n4,n5,n6,n7,n8,n9];try rfl));simp only [zp,zq,z0,z1]) | ((with_reducible apply Qbv hp);exact zi rfl;simp only [zp,zq,z0,z1]) | ((with_reducible apply Qcz hp);exact zi rfl;simp only [zp,zq,z0,z1]) | ((with_reducible apply Qbm hp);exact rfl;(focus (intro _;go_simp;(try go_ints);try with_reducible rfl));simp only [zp,zq,z0,z1]))) | (((with_reducible apply sg_p);exact zo rfl);((with_reducible apply Qbp hp);exact rfl;(focus (intro _;go_simp;try first | with_reducible rfl | exact ⟨rfl,rfl⟩));(with_reducible first | exact fun w => K1.out w | exact fun w => K2.out w);simp only [zp,zq,z0,z1])) | ((with_reducible apply Qbt hq);clear hp hq;(try clear w1);intro w1 hp))
    go_wp2_with (first | ((with_reducible apply Qag hp);exact ii;exact rfl;clear hp;(try clear w1);intro g w1 hp;simp only [zp,zq,z0,z1]) | ((with_reducible apply Qaa hp);exact zt rfl;exact ii;exact ii;(first | exact zl rfl | exact Qad (by omega));(first | (with_reducible exact Qab (by omega)) | (simp only [n0,Nat.reduceAdd,n1,n2,n3,n4,n5,n6,n7,n8,n9];try rfl));simp only [zp,zq,z0,z1]) | ((with_reducible apply Qah hp);exact zt rfl;exact za rfl;exact rfl;exact Sz.z;exact rfl;exact ii;(first | (with_reducible exact Qab (by omega)) | (simp only [n0,Nat.reduceAdd,n1,n2,n3,n4,n5,n6,n7,n8,n9];try rfl));(first | exact zl rfl | exact Qad (by omega));exact rfl;exact ii;clear hp;(try clear w1);intro w1 hp))
    exact bodyPost_ret (Qaz rfl rfl rfl) rfl ⟨rfl,hp.keep⟩
  · skip
    go_enter Tryz.func6,Tryz.ntmps6
    have hp := Hp.start [] w
    go_upto_region 6 with (first | ((with_reducible apply Qag hp);exact ii;exact rfl;clear hp;(try clear w1);intro g w1 hp;simp only [zp,zq,z0,z1]) | ((with_reducible apply Qaa hp);exact zt rfl;exact ii;exact ii;(first | exact zl rfl | exact Qad (by omega));(first | (with_reducible exact Qab (by omega)) | (simp only [n0,Nat.reduceAdd,n1,n2,n3,n4,n5,n6,n7,n8,n9];try rfl));simp only [zp,zq,z0,z1]) | ((with_reducible apply Qah hp);exact zt rfl;exact za rfl;exact rfl;exact Sz.z;exact rfl;exact ii;(first | (with_reducible exact Qab (by omega)) | (simp only [n0,Nat.reduceAdd,n1,n2,n3,n4,n5,n6,n7,n8,n9];try rfl));(first | exact zl rfl | exact Qad (by omega));exact rfl;exact ii;clear hp;(try clear w1);intro w1 hp) | ((with_reducible first | refine Qak hp (OU.out _) ?_ | refine Qak hp (S1.out _) ?_ | refine Qak hp (S2.out _) ?_ | refine Qak hp (P1.out _) ?_);clear hp;(try clear w1);intro w1 hp))
    have hq := hp
    refine Qau hp hq [] (.q 0 (.q 1 (.q 2 (.q 4 (.q 5 (.q 6 (.p 3 (.p 7 (.q 8 (.q 9 .nil)))))))))) (by kernel_rfl) (by kernel_rfl) ?_
    clear hp hq;(try clear w1);intro w1 hp hq
    repeat' (first | (((with_reducible apply sg_q);exact zo rfl);(first | ((with_reducible apply Qbg hp);exact rfl;exact zt rfl;exact ii;exact ii;(first | exact zl rfl | exact Qad (by omega));(first | (with_reducible exact Qab (by omega)) | (simp only [n0,Nat.reduceAdd,n1,n2,n3,n4,n5,n6,n7,n8,n9];try rfl));simp only [zp,zq,z0,z1]) | ((with_reducible apply Qbv hp);exact zi rfl;simp only [zp,zq,z0,z1]) | ((with_reducible apply Qcz hp);exact zi rfl;simp only [zp,zq,z0,z1]) | ((with_reducible apply Qbm hp);exact rfl;(focus (intro _;go_simp;(try go_ints);try with_reducible rfl));simp only [zp,zq,z0,z1]))) | (((with_reducible apply sg_p);exact zo rfl);((with_reducible apply Qbp hp);exact rfl;(focus (intro _;go_simp;try first | with_reducible rfl | exact ⟨rfl,rfl⟩));(with_reducible first | exact fun w => K1.out w | exact fun w => K2.out w);simp only [zp,zq,z0,z1])) | ((with_reducible apply Qbt hq);clear hp hq;(try clear w1);intro w1 hp))
    go_wp2_with (first | ((with_reducible apply Qag hp);exact ii;exact rfl;clear hp;(try clear w1);intro g w1 hp;simp only [zp,zq,z0,z1]) | ((with_reducible apply Qaa hp);exact zt rfl;exact ii;exact ii;(first | exact zl rfl | exact Qad (by omega));(first | (with_reducible exact Qab (by omega)) | (simp only [n0,Nat.reduceAdd,n1,n2,n3,n4,n5,n6,n7,n8,n9];try rfl));simp only [zp,zq,z0,z1]) | ((with_reducible apply Qah hp);exact zt rfl;exact za rfl;exact rfl;exact Sz.z;exact rfl;exact ii;(first | (with_reducible exact Qab (by omega)) | (simp only [n0,Nat.reduceAdd,n1,n2,n3,n4,n5,n6,n7,n8,n9];try rfl));(first | exact zl rfl | exact Qad (by omega));exact rfl;exact ii;clear hp;(try clear w1);intro w1 hp))
    exact bodyPost_ret (Qaz rfl rfl rfl) rfl ⟨rfl,hp.keep⟩
theorem rcone_any (t u c : Int) (ht : I64 t) (hu : I64 u) (hc : I64 c) (w : World) : Calls Tryz.prog 6 #[.int .i64 t,.int .i64 u,.int .i64 c] w (Ret (.tuple #[.int .i64 (Qet t u c).1,.int .i64 (Qet t u c).2]) w) := by
  have hd0 : c < 0 ∧ (if c < 0 then 0 else c) = 0 ∨ ¬ c < 0 ∧ (if c < 0 then 0 else c) = c := by
    by_cases h : c < 0
    · exact .inl ⟨h,if_pos h⟩
    · exact .inr ⟨h,if_neg h⟩
  have hd : I64 (if c < 0 then 0 else c) := by
    split
    · unfold I64;omega
    · exact hc
  unfold Qet
  generalize (if c < 0 then 0 else c) = d at *
  have OU := Qik t u d ht hu hd
  have h1 := Qeh ht
  have h2 := Qeh hu
  cases h : outv t u d with
  | false =>
    rw [h] at OU
    rw [if_neg (by simp)]
    exact rcone_in t u c d hd0 (Lib.hid OU) w
  | true =>
    rw [h] at OU
    rw [if_pos rfl]
    have hs : d * d < t * t + u * u := of_decide_eq_true h
    have hsf : Fit (t * t + u * u) := by unfold Fit M511;omega
    exact rcone_out t u c d _ _ _ _ _ hd0 (Lib.hid OU) (Lib.hid (Qdj t ht)) (Lib.hid (Qdj u hu)) (Lib.hid (Qhs _ _ (by unfold Fit M511;omega) (by unfold Fit M511;omega) hsf)) (Lib.hid (Qjl t d _ ht hd hs hsf)) (Lib.hid (Qjl u d _ hu hd hs hsf)) w
/-! ### Push -/
set_option maxHeartbeats 2000000 in
theorem Qle (v : P3) (w : World) : Calls Tryz.prog 33 #[PV v] w (Ret (PV v.clam) w) := by
  have C1 := Lib.hid (Qhe v.x (-1099511627776) 1099511627776)
  have C2 := Lib.hid (Qhe v.y (-1099511627776) 1099511627776)
  have C3 := Lib.hid (Qhe v.z (-1099511627776) 1099511627776)
  unfold P3.clam
  generalize Qdf v.x (-1099511627776) 1099511627776 = p at *
  generalize Qdf v.y (-1099511627776) 1099511627776 = q at *
  generalize Qdf v.z (-1099511627776) 1099511627776 = r at *
  go_enter Tryz.func33,Tryz.ntmps33
  have hp := Hp.start [] w
  go_upto_region 2 with (first | ((with_reducible apply Qao hp);(first | exact za rfl | exact zu rfl | exact zi rfl | exact zb rfl | exact zr rfl | exact zs rfl | exact zf rfl | exact zg rfl | exact zn rfl | exact zv rfl | exact zw rfl);exact rfl;clear hp;(try clear w1);intro g w1 hp;simp only [zp,zq,z0,z1]) | ((with_reducible apply Qag hp);exact ii;exact rfl;clear hp;(try clear w1);intro g w1 hp;simp only [zp,zq,z0,z1]))
  have hq := hp
  refine Qau hp hq [19] (.q 0 (.q 1 (.q 2 (.q 3 (.q 4 (.q 6 (.q 7 (.q 8 (.q 9 (.q 10 (.q 12 (.q 13 (.q 14 (.q 15 (.q 16 (.p 5 (.p 11 (.p 17 (.q 18 (.l 19 .nil)))))))))))))))))))) (by kernel_rfl) (by kernel_rfl) ?_
  clear hp hq;(try clear w1);intro w1 hp hq
  repeat' (first | (((with_reducible apply sg_q);exact zo rfl);(first | ((with_reducible apply Qbb hp);exact rfl;exact zt rfl;exact ii;exact ii;(first | exact zio rfl | exact Qae (by omega));simp only [zp,zq,z0,z1]) | ((with_reducible apply Qbv hp);exact zi rfl;simp only [zp,zq,z0,z1]) | ((with_reducible apply Qbm hp);exact rfl;(focus (intro _;go_simp;(try go_ints);try with_reducible rfl));simp only [zp,zq,z0,z1]))) | (((with_reducible apply sg_p);exact zo rfl);((with_reducible apply Qbp hp);exact rfl;(focus (intro _;go_simp;try first | with_reducible rfl | exact ⟨rfl,rfl⟩));(with_reducible first | exact fun w => C1.out w | exact fun w => C2.out w | exact fun w => C3.out w);simp only [zp,zq,z0,z1])) | (((with_reducible apply sg_l);exact zo rfl);(first | ((with_reducible apply Qbi hq);exact rfl;exact zt rfl;(first | exact za rfl | exact zu rfl | exact zi rfl | exact zb rfl | exact zr rfl | exact zs rfl | exact zf rfl | exact zg rfl | exact zn rfl | exact zv rfl | exact zw rfl);exact rfl;exact Sz.z;exact rfl;exact ii;(first | (with_reducible exact Qab (by omega)) | (simp only [n0,Nat.reduceAdd,n1,n2,n3,n4,n5,n6,n7,n8,n9];try rfl));(first | exact zl rfl | exact Qad (by omega));exact rfl;exact ii;(repeat (first | exact List.Sublist.refl _ | apply List.Sublist.cons));clear hp hq;(try clear w1);intro w1 hp hq) | ((with_reducible apply Qcg hq);exact rfl;exact zt rfl;(first | exact za rfl | exact zu rfl | exact zi rfl | exact zb rfl | exact zr rfl | exact zs rfl | exact zf rfl | exact zg rfl | exact zn rfl | exact zv rfl | exact zw rfl);exact rfl;exact Sz.z;exact rfl;exact ii;(first | (with_reducible exact Qab (by omega)) | (simp only [n0,Nat.reduceAdd,n1,n2,n3,n4,n5,n6,n7,n8,n9];try rfl));(first | exact zl rfl | exact Qad (by omega));exact rfl;exact ii;exact rfl;clear hp hq;(try clear w1);intro w1 hq;have hp := True.intro))) | ((with_reducible apply Qbt hq);clear hp hq;(try clear w1);intro w1 hp))
  go_wp2
  exact bodyPost_ret (Qaf rfl ⟨_,rfl,Qal hp (Nat.le_of_ble_eq_true rfl)⟩) rfl ⟨rfl,hp.keep⟩
set_option maxHeartbeats 8000000 in
theorem rpush_core (b : Inr) (r p s1 a1 v1 c1 m1 a2 v2 : P3)
    (S1 : Hid (∀ w,Calls Tryz.prog 35 #[PV p,.int .i64 b.m] w (Ret (PV s1) w))) (A1 : Hid (∀ w,Calls Tryz.prog 34 #[PV b.v,PV s1] w (Ret (PV a1) w))) (K1 : Hid (∀ w,Calls Tryz.prog 33 #[PV a1] w (Ret (PV v1) w)))
    (C1 : Hid (∀ w,Calls Tryz.prog 37 #[PV r,PV p] w (Ret (PV c1) w))) (M1 : Hid (∀ w,Calls Tryz.prog 36 #[MV b.p b.q b.r,PV c1] w (Ret (PV m1) w))) (A2 : Hid (∀ w,Calls Tryz.prog 34 #[PV b.s,PV m1] w (Ret (PV a2) w))) (K2 : Hid (∀ w,Calls Tryz.prog 33 #[PV a2] w (Ret (PV v2) w))) (w : World) :
    Calls Tryz.prog 8 #[NV b,PV r,PV p] w (Ret (NV ⟨b.m,b.p,b.q,b.r,v1,v2⟩) w) := by
  go_enter Tryz.func8,Tryz.ntmps8
  have hp := Hp.start [] w
  go_upto_region 1 with (first | ((with_reducible apply Qao hp);(first | exact za rfl | exact zu rfl | exact zi rfl | exact zb rfl | exact zr rfl | exact zs rfl | exact zf rfl | exact zg rfl | exact zn rfl | exact zv rfl | exact zw rfl);exact rfl;clear hp;(try clear w1);intro g w1 hp;simp only [zp,zq,z0,z1]) | ((with_reducible apply Qag hp);exact ii;exact rfl;clear hp;(try clear w1);intro g w1 hp;simp only [zp,zq,z0,z1]))
  have hq := hp
  refine Qau hp hq [9] (.q 0 (.q 1 (.q 2 (.q 3 (.q 4 (.p 5 (.p 6 (.p 7 (.q 8 (.l 9 .nil)))))))))) (by kernel_rfl) (by kernel_rfl) ?_
  clear hp hq;(try clear w1);intro w1 hp hq
  repeat' (first | (((with_reducible apply sg_q);exact zo rfl);(first | ((with_reducible apply Qbg hp);exact rfl;exact zt rfl;exact ii;exact ii;(first | exact zl rfl | exact Qad (by omega));(first | (with_reducible exact Qab (by omega)) | (simp only [n0,Nat.reduceAdd,n1,n2,n3,n4,n5,n6,n7,n8,n9];try rfl));simp only [zp,zq,z0,z1]) | ((with_reducible apply Qbb hp);exact rfl;exact zt rfl;exact ii;exact ii;(first | exact zio rfl | exact Qae (by omega));simp only [zp,zq,z0,z1]) | ((with_reducible apply Qbm hp);exact rfl;(focus (intro _;go_simp;(try go_ints);try with_reducible rfl));simp only [zp,zq,z0,z1]))) | (((with_reducible apply sg_p);exact zo rfl);((with_reducible apply Qbp hp);exact rfl;(focus (intro _;go_simp;try first | with_reducible rfl | exact ⟨rfl,rfl⟩));(with_reducible first | exact fun w => S1.out w | exact fun w => A1.out w | exact fun w => K1.out w);simp only [zp,zq,z0,z1])) | (((with_reducible apply sg_l);exact zo rfl);(first | ((with_reducible apply Qbi hq);exact rfl;exact zt rfl;(first | exact za rfl | exact zu rfl | exact zi rfl | exact zb rfl | exact zr rfl | exact zs rfl | exact zf rfl | exact zg rfl | exact zn rfl | exact zv rfl | exact zw rfl);exact rfl;exact Sz.z;exact rfl;exact ii;(first | (with_reducible exact Qab (by omega)) | (simp only [n0,Nat.reduceAdd,n1,n2,n3,n4,n5,n6,n7,n8,n9];try rfl));(first | exact zl rfl | exact Qad (by omega));exact rfl;exact ii;(repeat (first | exact List.Sublist.refl _ | apply List.Sublist.cons));clear hp hq;(try clear w1);intro w1 hp hq) | ((with_reducible apply Qcg hq);exact rfl;exact zt rfl;(first | exact za rfl | exact zu rfl | exact zi rfl | exact zb rfl | exact zr rfl | exact zs rfl | exact zf rfl | exact zg rfl | exact zn rfl | exact zv rfl | exact zw rfl);exact rfl;exact Sz.z;exact rfl;exact ii;(first | (with_reducible exact Qab (by omega)) | (simp only [n0,Nat.reduceAdd,n1,n2,n3,n4,n5,n6,n7,n8,n9];try rfl));(first | exact zl rfl | exact Qad (by omega));exact rfl;exact ii;exact rfl;clear hp hq;(try clear w1);intro w1 hq;have hp := True.intro))) | ((with_reducible apply Qbt hq);clear hp hq;(try clear w1);intro w1 hp))
  go_upto_region 2 with fail
  have hq := hp
  refine Qau hp hq [11] (.q 0 (.q 1 (.q 2 (.q 3 (.q 4 (.q 5 (.p 6 (.p 7 (.p 8 (.p 9 (.q 10 (.l 11 .nil)))))))))))) (by kernel_rfl) (by kernel_rfl) ?_
  clear hp hq;(try clear w1);intro w1 hp hq
  repeat' (first | (((with_reducible apply sg_q);exact zo rfl);(first | ((with_reducible apply Qbg hp);exact rfl;exact zt rfl;exact ii;exact ii;(first | exact zl rfl | exact Qad (by omega));(first | (with_reducible exact Qab (by omega)) | (simp only [n0,Nat.reduceAdd,n1,n2,n3,n4,n5,n6,n7,n8,n9];try rfl));simp only [zp,zq,z0,z1]) | ((with_reducible apply Qbm hp);exact rfl;(focus (intro _;go_simp;(try go_ints);try with_reducible rfl));simp only [zp,zq,z0,z1]))) | (((with_reducible apply sg_p);exact zo rfl);((with_reducible apply Qbp hp);exact rfl;(focus (intro _;go_simp;try first | with_reducible rfl | exact ⟨rfl,rfl⟩));(with_reducible first | exact fun w => C1.out w | exact fun w => M1.out w | exact fun w => A2.out w | exact fun w => K2.out w);simp only [zp,zq,z0,z1])) | (((with_reducible apply sg_l);exact zo rfl);(first | ((with_reducible apply Qbi hq);exact rfl;exact zt rfl;(first | exact za rfl | exact zu rfl | exact zi rfl | exact zb rfl | exact zr rfl | exact zs rfl | exact zf rfl | exact zg rfl | exact zn rfl | exact zv rfl | exact zw rfl);exact rfl;exact Sz.z;exact rfl;exact ii;(first | (with_reducible exact Qab (by omega)) | (simp only [n0,Nat.reduceAdd,n1,n2,n3,n4,n5,n6,n7,n8,n9];try rfl));(first | exact zl rfl | exact Qad (by omega));exact rfl;exact ii;(repeat (first | exact List.Sublist.refl _ | apply List.Sublist.cons));clear hp hq;(try clear w1);intro w1 hp hq) | ((with_reducible apply Qcg hq);exact rfl;exact zt rfl;(first | exact za rfl | exact zu rfl | exact zi rfl | exact zb rfl | exact zr rfl | exact zs rfl | exact zf rfl | exact zg rfl | exact zn rfl | exact zv rfl | exact zw rfl);exact rfl;exact Sz.z;exact rfl;exact ii;(first | (with_reducible exact Qab (by omega)) | (simp only [n0,Nat.reduceAdd,n1,n2,n3,n4,n5,n6,n7,n8,n9];try rfl));(first | exact zl rfl | exact Qad (by omega));exact rfl;exact ii;exact rfl;clear hp hq;(try clear w1);intro w1 hq;have hp := True.intro))) | ((with_reducible apply Qbt hq);clear hp hq;(try clear w1);intro w1 hp))
  go_wp2_with (first | ((with_reducible apply Qao hp);exact za rfl;exact rfl;clear hp;(try clear w1);intro g w1 hp;simp only [zp,zq,z0,z1]) | ((with_reducible apply Qag hp);exact ii;exact rfl;clear hp;(try clear w1);intro g w1 hp;simp only [zp,zq,z0,z1]) | ((with_reducible apply Qaa hp);exact zt rfl;exact ii;exact ii;(first | exact zl rfl | exact Qad (by omega));(first | (with_reducible exact Qab (by omega)) | (simp only [n0,Nat.reduceAdd,n1,n2,n3,n4,n5,n6,n7,n8,n9];try rfl));simp only [zp,zq,z0,z1]) | ((with_reducible apply Qac hp);exact zt rfl;exact ii;exact ii;(first | exact zio rfl | exact Qae (by omega));simp only [zp,zq,z0,z1]) | ((with_reducible apply Qah hp);exact zt rfl;exact za rfl;exact rfl;exact Sz.z;exact rfl;exact ii;(first | (with_reducible exact Qab (by omega)) | (simp only [n0,Nat.reduceAdd,n1,n2,n3,n4,n5,n6,n7,n8,n9];try rfl));(first | exact zl rfl | exact Qad (by omega));exact rfl;exact ii;clear hp;(try clear w1);intro w1 hp))
  exact bodyPost_ret (Qaf rfl ⟨_,rfl,Qal hp (Nat.le_of_ble_eq_true rfl)⟩) rfl ⟨rfl,hp.keep⟩
theorem Qnx (b : Inr) (r p : P3) (hb : b.i64) (hr : r.i64) (hp' : p.i64) (w : World) : Calls Tryz.prog 8 #[NV b,PV r,PV p] w (Ret (NV (b.push r p)) w) :=
  rpush_core b r p _ _ _ _ _ _ _ (Lib.hid (Qer p b.m hp' hb.1)) (Lib.hid (Qfd b.v _ hb.2.2.2.2.1 (Qda _ _))) (Lib.hid (Qle _)) (Lib.hid (Qjf r p hr hp')) (Lib.hid (rapply_any b.p b.q b.r _ hb.2.1 hb.2.2.1 hb.2.2.2.1 (Qnb _ _)))
    (Lib.hid (Qfd b.s _ hb.2.2.2.2.2 ⟨Qgp _ _,Qgp _ _,Qgp _ _⟩)) (Lib.hid (Qle _)) w
end Go.Proofs.YtblffafmkpnjdaaGreat
