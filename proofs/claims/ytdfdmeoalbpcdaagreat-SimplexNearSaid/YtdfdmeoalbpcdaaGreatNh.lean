/-
  ninepinref15: three, det (contracts); what det comes to behind rows.
-/
import Derived.Test.YtdfdmeoalbpcdaaGreatNg
set_option linter.unusedSimpArgs false
set_option linter.unusedVariables false
set_option maxRecDepth 100000
namespace Go.Proofs.YtdfdmeoalbpcdaaGreat
open Go Go.RowKit
attribute [local irreducible] wpList
/-- A wide number at a place of a block. -/
abbrev WA (bc : List Value) (o : Nat) (x : Int) : Prop := (bc.drop o).take 8 = [.int .u64 (lb (x) 0),.int .u64 (lb (x) 1),.int .u64 (lb (x) 2),.int .u64 (lb (x) 3),.int .u64 (lb (x) 4),.int .u64 (lb (x) 5),.int .u64 (lb (x) 6),.int .u64 (lb (x) 7)]
set_option maxHeartbeats 8000000 in
theorem Qoc (a0 a1 a2 b0 b1 b2 c0 c1 c2 : Int) (fa0 : Fit a0) (fa1 : Fit a1) (fa2 : Fit a2) (fb0 : Fit b0) (fb1 : Fit b1) (fb2 : Fit b2) (fc0 : Fit c0) (fc1 : Fit c1) (fc2 : Fit c2) (ga ca gb cb gc cc : Nat) (ba bb bd : List Value) (ta tb tc : TypeId) (ua ub uc : Nat × Nat) (w : World)
    (ha : w.heap[ga]? = some (.cells ba.toArray ta ua)) (hb : w.heap[gb]? = some (.cells bb.toArray tb ub)) (hc : w.heap[gc]? = some (.cells bd.toArray tc uc)) (la : 24 ≤ ba.length) (l2 : 24 ≤ bb.length) (lc : 24 ≤ bd.length)
    (A0 : WA ba 0 a0) (A1 : WA ba 8 a1) (A2 : WA ba 16 a2) (C0 : WA bb 0 b0) (C1 : WA bb 8 b1) (C2 : WA bb 16 b2) (D0 : WA bd 0 c0) (D1 : WA bd 8 c1) (D2 : WA bd 16 c2) :
    Calls Tryz.prog 96 #[.slice (some ⟨ga,0,none⟩) 3 ca,.slice (some ⟨gb,0,none⟩) 3 cb,.slice (some ⟨gc,0,none⟩) 3 cc] w (Ret (W (m3F a0 (tw2 b1 c2 b2 c1) a1 (tw2 b0 c2 b2 c0) a2 (tw2 b0 c1 b1 c0))) w) := by
  have W1 := Lib.hid (Qgp b1 b2 c1 c2 fb1 fb2 fc1 fc2)
  have W2 := Lib.hid (Qgp b0 b2 c0 c2 fb0 fb2 fc0 fc2)
  have W3 := Lib.hid (Qgp b0 b1 c0 c1 fb0 fb1 fc0 fc1)
  have T1 := Lib.hid (Qca a0 (tw2 b1 c2 b2 c1) fa0 (Qid ..))
  have T2 := Lib.hid (Qca a1 (tw2 b0 c2 b2 c0) fa1 (Qid ..))
  have T3 := Lib.hid (Qca a2 (tw2 b0 c1 b1 c0) fa2 (Qid ..))
  unfold m3F
  generalize tw2 b1 c2 b2 c1 = t1 at *
  generalize tw2 b0 c2 b2 c0 = t2 at *
  generalize tw2 b0 c1 b1 c0 = t3 at *
  have L1 := Lib.hid (Qfb (fz (a0 * t1)) (fz (a1 * t2)) (Qbx _) (Qbx _))
  have P1 := Lib.hid (Qfw (fz (fz (a0 * t1) - fz (a1 * t2))) (fz (a2 * t3)) (Qbx _) (Qbx _))
  clear fa0 fa1 fa2 fb0 fb1 fb2 fc0 fc1 fc2
  unfold WA at *
  go_enter Tryz.func96,Tryz.ntmps96
  have hp := Hp.start [] w
  go_wp2_with ((with_reducible apply Qag hp);exact ii;exact rfl;clear hp;(try clear w1);intro g w1 hp;simp only [zp,zq,z0,z1])
  have hq := hp
  refine Qcc hp hq [53] (.q 0 (.q 1 (.q 2 (.q 3 (.q 4 (.q 5 (.q 6 (.q 7 (.q 8 (.q 9 (.q 10 (.q 11 (.q 12 (.q 13 (.q 14 (.q 17 (.q 18 (.q 19 (.q 20 (.q 21 (.q 22 (.q 23 (.q 24 (.q 25 (.q 26 (.q 27 (.q 28 (.q 29 (.q 30 (.q 31 (.q 35 (.q 36 (.q 37 (.q 38 (.q 39 (.q 40 (.q 41 (.q 42 (.q 43 (.q 44 (.q 45 (.q 46 (.q 47 (.q 48 (.q 49 (.p 15 (.p 16 (.p 32 (.p 33 (.p 34 (.p 50 (.p 51 (.p 52 (.l 53 .nil)))))))))))))))))))))))))))))))))))))))))))))))))))))) (by kernel_rfl) (by kernel_rfl) ?_
  clear hp hq;(try clear w1);intro w1 hp hq
  repeat' (first|(((with_reducible apply sg_q);exact zo rfl);(first|((with_reducible apply Qcs hp);exact rfl;exact zt rfl;assumption;exact ii;assumption;(omega);simp only [zp,zq,z0,z1])|((with_reducible apply Qga hp);exact zs rfl;simp only [zp,zq,z0,z1])|((with_reducible apply Qcj hp);exact rfl;exact zx rfl;exact zk rfl;exact ii;(exact AggTy.size);omega;omega;((try simp only [m0,Int.reduceToNat,m1,m2,Nat.reduceMul,Nat.reduceAdd,m3,m4,m5,n0]);exact rfl);simp only [zp,zq,z0,z1])))|(((with_reducible apply sg_p);exact zo rfl);((with_reducible apply Qfj hp);exact rfl;(focus (intro _;go_simp;try first|with_reducible rfl|exact ⟨rfl,rfl⟩));(with_reducible first|exact fun w => W1.out w|exact fun w => W2.out w|exact fun w => W3.out w|exact fun w => T1.out w|exact fun w => T2.out w|exact fun w => T3.out w|exact fun w => L1.out w|exact fun w => P1.out w);simp only [zp,zq,z0,z1]))|(((with_reducible apply sg_l);exact zo rfl);((with_reducible apply Qja hq);exact rfl;exact zt rfl;(exact za rfl);exact rfl;(exact AggTy.size);exact rfl;exact ii;(simp only [n0,Nat.reduceAdd,nn];try rfl);(exact zl rfl);exact rfl;exact ii;exact rfl;clear hp hq;(try clear w1);intro w1 hq;have hp := True.intro))|((with_reducible apply Qgw hq);clear hp hq;(try clear w1);intro w1 hp))
  go_wp2_with (fail)
  exact bodyPost_ret (Qaa rfl ⟨_,rfl,Qac hp (Nat.le_of_ble_eq_true rfl)⟩) rfl ⟨rfl,hp.keep⟩
theorem det15_0 (b : Option Addr) (c : Nat) (w : World) : Calls Tryz.prog 60 #[.slice b 0 c] w (Ret (W 1) w) := by
  have O1 := Lib.hid (Qcw 1 (by unfold I64;omega))
  go_enter Tryz.func60,Tryz.ntmps60
  have hp := Hp.start [] w
  go_wp2_with (first|((with_reducible apply Qag hp);exact ii;exact rfl;clear hp;(try clear w1);intro g w1 hp;simp only [zp,zq,z0,z1])|((with_reducible apply Qae hp);exact zt rfl;exact za rfl;exact rfl;(exact AggTy.size);exact rfl;exact ii;(simp only [n0,Nat.reduceAdd,nn];try rfl);(exact zl rfl);exact rfl;exact ii;clear hp;(try clear w1);intro w1 hp)|((with_reducible refine Qaf hp (O1.out _) ?_);clear hp;(try clear w1);intro w1 hp))
  exact bodyPost_ret (Qaa rfl ⟨_,rfl,Qac hp (Nat.le_of_ble_eq_true rfl)⟩) rfl ⟨rfl,hp.keep⟩
set_option maxHeartbeats 2000000 in
theorem det15_1 (x : Int) (go co ga ca : Nat) (bo ba : List Value) (tq ta : TypeId) (uo ua : Nat × Nat) (w : World) (ho : w.heap[go]? = some (.cells bo.toArray tq uo)) (ha : w.heap[ga]? = some (.cells ba.toArray ta ua)) (V0 : bo[0]? = some (.slice (some ⟨ga,0,none⟩) 1 ca)) (la : 8 ≤ ba.length) (A0 : WA ba 0 x) :
    Calls Tryz.prog 60 #[.slice (some ⟨go,0,none⟩) 1 co] w (Ret (W x) w) := by
  unfold WA at *
  go_enter Tryz.func60,Tryz.ntmps60
  have hp := Hp.start [] w
  go_wp2_with (first|((with_reducible apply Qag hp);exact ii;exact rfl;clear hp;(try clear w1);intro g w1 hp;simp only [zp,zq,z0,z1])|((with_reducible apply Qae hp);exact zt rfl;exact za rfl;exact rfl;(exact AggTy.size);exact rfl;exact ii;(simp only [n0,Nat.reduceAdd,nn];try rfl);(exact zl rfl);exact rfl;exact ii;clear hp;(try clear w1);intro w1 hp)|((with_reducible apply Qar);exact zx rfl;exact zk rfl;exact ii;exact Sz.z;omega;omega;((try simp only [m0,Int.reduceToNat,m1,m2,Nat.reduceMul,Nat.reduceAdd,m3,m4,m5,n0]);exact rfl);simp only [zp,zq,z0,z1])|((with_reducible apply Qbr hp);exact zt rfl;assumption;exact ii;assumption;(omega);simp only [zp,zq,z0,z1])|((with_reducible apply Qbf hp);exact zt rfl;assumption;exact ii;(assumption);simp only [zp,zq,z0,z1]))
  exact bodyPost_ret (Qaa rfl ⟨_,rfl,Qac hp (Nat.le_of_ble_eq_true rfl)⟩) rfl ⟨rfl,hp.keep⟩
set_option maxHeartbeats 4000000 in
theorem det15_2 (a0 a1 b0 b1 : Int) (fa0 : Fit a0) (fa1 : Fit a1) (fb0 : Fit b0) (fb1 : Fit b1) (go co ga ca gb cb : Nat) (bo ba bb : List Value) (tq ta tb : TypeId) (uo ua ub : Nat × Nat) (w : World) (ho : w.heap[go]? = some (.cells bo.toArray tq uo)) (ha : w.heap[ga]? = some (.cells ba.toArray ta ua)) (hb : w.heap[gb]? = some (.cells bb.toArray tb ub))
    (V0 : bo[0]? = some (.slice (some ⟨ga,0,none⟩) 2 ca)) (V1 : bo[1]? = some (.slice (some ⟨gb,0,none⟩) 2 cb)) (la : 16 ≤ ba.length) (l2 : 16 ≤ bb.length) (A0 : WA ba 0 a0) (A1 : WA ba 8 a1) (C0 : WA bb 0 b0) (C1 : WA bb 8 b1) :
    Calls Tryz.prog 60 #[.slice (some ⟨go,0,none⟩) 2 co] w (Ret (W (tw2 a0 b1 a1 b0)) w) := by
  have W1 := Lib.hid (Qgp a0 a1 b0 b1 fa0 fa1 fb0 fb1)
  clear fa0 fa1 fb0 fb1
  unfold WA at *
  go_enter Tryz.func60,Tryz.ntmps60
  have hp := Hp.start [] w
  go_wp2_with ((with_reducible apply Qag hp);exact ii;exact rfl;clear hp;(try clear w1);intro g w1 hp;simp only [zp,zq,z0,z1])
  have hq := hp
  refine Qcc hp hq [21] (.q 0 (.q 1 (.q 2 (.q 3 (.q 4 (.q 5 (.q 6 (.q 7 (.q 8 (.q 9 (.q 10 (.q 11 (.q 12 (.q 13 (.q 14 (.q 15 (.q 16 (.q 17 (.q 18 (.q 19 (.p 20 (.l 21 .nil)))))))))))))))))))))) (by kernel_rfl) (by kernel_rfl) ?_
  clear hp hq;(try clear w1);intro w1 hp hq
  repeat' (first|(((with_reducible apply sg_q);exact zo rfl);(first|((with_reducible apply Qcs hp);exact rfl;exact zt rfl;assumption;exact ii;assumption;(omega);simp only [zp,zq,z0,z1])|((with_reducible apply Qob hp);exact rfl;exact zt rfl;assumption;exact ii;(assumption);simp only [zp,zq,z0,z1])|((with_reducible apply Qga hp);exact zs rfl;simp only [zp,zq,z0,z1])|((with_reducible apply Qcj hp);exact rfl;exact zx rfl;exact zk rfl;exact ii;exact Sz.z;omega;omega;((try simp only [m0,Int.reduceToNat,m1,m2,Nat.reduceMul,Nat.reduceAdd,m3,m4,m5,n0]);exact rfl);simp only [zp,zq,z0,z1])))|(((with_reducible apply sg_p);exact zo rfl);((with_reducible apply Qfj hp);exact rfl;(focus (intro _;go_simp;try first|with_reducible rfl|exact ⟨rfl,rfl⟩));(with_reducible first|exact fun w => W1.out w);simp only [zp,zq,z0,z1]))|(((with_reducible apply sg_l);exact zo rfl);((with_reducible apply Qja hq);exact rfl;exact zt rfl;(exact za rfl);exact rfl;(exact AggTy.size);exact rfl;exact ii;(simp only [n0,Nat.reduceAdd,nn];try rfl);(exact zl rfl);exact rfl;exact ii;exact rfl;clear hp hq;(try clear w1);intro w1 hq;have hp := True.intro))|((with_reducible apply Qgw hq);clear hp hq;(try clear w1);intro w1 hp))
  go_wp2_with (fail)
  exact bodyPost_ret (Qaa rfl ⟨_,rfl,Qac hp (Nat.le_of_ble_eq_true rfl)⟩) rfl ⟨rfl,hp.keep⟩
set_option maxHeartbeats 4000000 in
theorem det15_3 (x : Int) (go co ga ca gb cb gc cc : Nat) (bo : List Value) (tq : TypeId) (uo : Nat × Nat) (w : World) (ho : w.heap[go]? = some (.cells bo.toArray tq uo))
    (V0 : bo[0]? = some (.slice (some ⟨ga,0,none⟩) 3 ca)) (V1 : bo[1]? = some (.slice (some ⟨gb,0,none⟩) 3 cb)) (V2 : bo[2]? = some (.slice (some ⟨gc,0,none⟩) 3 cc))
    (TH : Hid (∀ w1,Keep [] w w1 → Calls Tryz.prog 96 #[.slice (some ⟨ga,0,none⟩) 3 ca,.slice (some ⟨gb,0,none⟩) 3 cb,.slice (some ⟨gc,0,none⟩) 3 cc] w1 (Ret (W x) w1))) :
    Calls Tryz.prog 60 #[.slice (some ⟨go,0,none⟩) 3 co] w (Ret (W x) w) := by
  go_enter Tryz.func60,Tryz.ntmps60
  have hp := Hp.start [] w
  go_wp2_with ((with_reducible apply Qag hp);exact ii;exact rfl;clear hp;(try clear w1);intro g w1 hp;simp only [zp,zq,z0,z1])
  have hq := hp
  refine Qad hp hq [10] (.q 0 (.q 1 (.q 2 (.q 3 (.q 4 (.q 5 (.q 6 (.q 7 (.q 8 (.l 9 (.l 10 .nil))))))))))) (by kernel_rfl) (by kernel_rfl) ?_
  clear hp hq;(try clear w1);intro w1 hp hq
  repeat' (first|(((with_reducible apply sd_q);exact zo rfl);(first|((with_reducible apply Qbl hp);exact rfl;exact zt rfl;assumption;exact ii;(assumption);simp only [zp,zq,z0,z1])|((with_reducible apply Qaq hp);exact zs rfl;simp only [zp,zq,z0,z1])|((with_reducible apply Qas hp);exact rfl;exact zx rfl;exact zk rfl;exact ii;(exact OneTy.size);omega;omega;((try simp only [m0,Int.reduceToNat,m1,m2,Nat.reduceMul,Nat.reduceAdd,m3,m4,m5,n0]);exact rfl);simp only [zp,zq,z0,z1])))|(((with_reducible apply sd_l);exact zo rfl);(first|((with_reducible apply Qck hp);exact rfl;(focus (intro _;go_simp;try first|with_reducible rfl|exact ⟨rfl,rfl⟩));(with_reducible exact TH.out _ hq.keep);exact hq;clear hp hq;(try clear w1);intro w1 hp hq;simp only [zp,zq,z0,z1])|((with_reducible apply Qbb hq);exact rfl;exact zt rfl;(exact za rfl);exact rfl;(exact AggTy.size);exact rfl;exact ii;(simp only [n0,Nat.reduceAdd,nn];try rfl);(exact zl rfl);exact rfl;exact ii;exact rfl;clear hp hq;(try clear w1);intro w1 hq;have hp := True.intro)))|((with_reducible apply Qao);clear hp;have hp := hq;clear hq))
  go_wp2_with (fail)
  exact bodyPost_ret (Qaa rfl ⟨_,rfl,Qac hp (Nat.le_of_ble_eq_true rfl)⟩) rfl ⟨rfl,hp.keep⟩
end Go.Proofs.YtdfdmeoalbpcdaaGreat
