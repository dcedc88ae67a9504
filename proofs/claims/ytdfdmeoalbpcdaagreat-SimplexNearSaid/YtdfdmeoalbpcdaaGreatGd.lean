/-
  Package grid: Check, Dot, Cross, Det, on points (contracts).
-/
import Derived.Test.YtdfdmeoalbpcdaaGreatGc
set_option linter.unusedSimpArgs false
set_option maxRecDepth 100000
namespace Go.Proofs.YtdfdmeoalbpcdaaGreat
open Go Go.RowKit
theorem acc_all {x y z p q r : Int} (h0 : Fit (x * p)) (h1 : Fit (y * q)) (h2 : Fit (z * r)) (h3 : Fit (x * p + y * q)) (h4 : Fit (x * p + y * q + z * r)) : acc (nth x y z) (nth p q r) [0,1,2] = some (x * p + y * q + z * r) := by
  simp only [acc,List.foldl_cons,List.foldl_nil,step,nth,Option.bind_some,Int.zero_add,h0,h1,h2,h3,h4,and_self,if_true]
theorem Qfv (a b : Int) (ha : I64 a) (hb : I64 b) (w : World) : Calls Tryz.prog 114 #[W a,W b] w (Ret (W (a * b)) w) := by
  have h := gtimes_any a b (Qdj ha) (Qdj hb) w
  have := Qbh ha hb
  rw [fz,if_pos (by unfold Fit M511;omega)] at h
  exact h
theorem less_big (a b : Int) (ha : -85070591730234615865843651857942052864 ≤ a ∧ a ≤ 85070591730234615865843651857942052864) (hb : -85070591730234615865843651857942052864 ≤ b ∧ b ≤ 85070591730234615865843651857942052864) (w : World) : Calls Tryz.prog 113 #[W a,W b] w (Ret (W (a - b)) w) := by
  have h := gless_any a b (by unfold Fit M511;omega) (by unfold Fit M511;omega) w
  rw [fz,if_pos (by unfold Fit M511;omega)] at h
  exact h
theorem Qjw (a b c d : Int) (ha : I64 a) (hb : I64 b) (hc : I64 c) (hd : I64 d) (w : World) : Calls Tryz.prog 113 #[W (a * b),W (c * d)] w (Ret (W (a * b - c * d)) w) := less_big _ _ (Qbh ha hb) (Qbh hc hd) w
set_option maxHeartbeats 4000000 in
theorem Qoy (a b : P3) (ha : a.i64) (hb : b.i64) (w : World) : Calls Tryz.prog 83 #[PV a,PV b] w (Ret (SV (a.cross b)) w) := by
  obtain ⟨ax,ay,az⟩ := a
  obtain ⟨bx,by',bz⟩ := b
  obtain ⟨hax,hay,haz⟩ := ha
  obtain ⟨hbx,hby,hbz⟩ := hb
  dsimp only at hax hay haz hbx hby hbz
  dsimp only [P3.cross]
  have Hof1 := Lib.hid (Qmp ax ay az hax hay haz)
  have Hof2 := Lib.hid (Qmp bx by' bz hbx hby hbz)
  have T1 := Lib.hid (Qfv ay bz hay hbz)
  have T2 := Lib.hid (Qfv az by' haz hby)
  have T3 := Lib.hid (Qfv az bx haz hbx)
  have T4 := Lib.hid (Qfv ax bz hax hbz)
  have T5 := Lib.hid (Qfv ax by' hax hby)
  have T6 := Lib.hid (Qfv ay bx hay hbx)
  have L1 := Lib.hid (Qjw ay bz az by' hay hbz haz hby)
  have L2 := Lib.hid (Qjw az bx ax bz haz hbx hax hbz)
  have L3 := Lib.hid (Qjw ax by' ay bx hax hby hay hbx)
  clear hax hay haz hbx hby hbz
  go_enter Tryz.func83,Tryz.ntmps83
  have hp := Hp.start [] w
  go_upto_region 1 with (first|((with_reducible apply Qau hp);(exact za rfl);exact rfl;clear hp;(try clear w1);intro g w1 hp;simp only [zp,zq,z0,z1])|((with_reducible apply Qag hp);exact ii;exact rfl;clear hp;(try clear w1);intro g w1 hp;simp only [zp,zq,z0,z1]))
  rename_i ga gb K hK
  go_cut [5,6] (fun s5 s6 wx => ∃ g5 g6,s5 = .pointer (some ⟨g5,0,none⟩) ∧ s6 = .pointer (some ⟨g6,0,none⟩) ∧ Hp [] w [⟨g6,29,[.int .u64 (lb (bx) 0),.int .u64 (lb (bx) 1),.int .u64 (lb (bx) 2),.int .u64 (lb (bx) 3),.int .u64 (lb (bx) 4),.int .u64 (lb (bx) 5),.int .u64 (lb (bx) 6),.int .u64 (lb (bx) 7),.int .u64 (lb (by') 0),.int .u64 (lb (by') 1),.int .u64 (lb (by') 2),.int .u64 (lb (by') 3),.int .u64 (lb (by') 4),.int .u64 (lb (by') 5),.int .u64 (lb (by') 6),.int .u64 (lb (by') 7),.int .u64 (lb (bz) 0),.int .u64 (lb (bz) 1),.int .u64 (lb (bz) 2),.int .u64 (lb (bz) 3),.int .u64 (lb (bz) 4),.int .u64 (lb (bz) 5),.int .u64 (lb (bz) 6),.int .u64 (lb (bz) 7)]⟩,⟨g5,29,[.int .u64 (lb (ax) 0),.int .u64 (lb (ax) 1),.int .u64 (lb (ax) 2),.int .u64 (lb (ax) 3),.int .u64 (lb (ax) 4),.int .u64 (lb (ax) 5),.int .u64 (lb (ax) 6),.int .u64 (lb (ax) 7),.int .u64 (lb (ay) 0),.int .u64 (lb (ay) 1),.int .u64 (lb (ay) 2),.int .u64 (lb (ay) 3),.int .u64 (lb (ay) 4),.int .u64 (lb (ay) 5),.int .u64 (lb (ay) 6),.int .u64 (lb (ay) 7),.int .u64 (lb (az) 0),.int .u64 (lb (az) 1),.int .u64 (lb (az) 2),.int .u64 (lb (az) 3),.int .u64 (lb (az) 4),.int .u64 (lb (az) 5),.int .u64 (lb (az) 6),.int .u64 (lb (az) 7)]⟩,⟨g,29,[.int .u64 0,.int .u64 0,.int .u64 0,.int .u64 0,.int .u64 0,.int .u64 0,.int .u64 0,.int .u64 0,.int .u64 0,.int .u64 0,.int .u64 0,.int .u64 0,.int .u64 0,.int .u64 0,.int .u64 0,.int .u64 0,.int .u64 0,.int .u64 0,.int .u64 0,.int .u64 0,.int .u64 0,.int .u64 0,.int .u64 0,.int .u64 0]⟩,⟨gb,39,[.int .i64 bx,.int .i64 by',.int .i64 bz]⟩,⟨ga,39,[.int .i64 ax,.int .i64 ay,.int .i64 az]⟩] wx)
  case first =>
    have hq := hp
    refine Qad hp hq [7] (.q 0 (.q 2 (.b3 1 (.b3 3 (.b2 4 (.l 5 (.l 6 (.l 7 .nil))) 5 (.l 4 (.l 6 (.l 7 .nil)))) 4 (.b2 3 (.l 5 (.l 6 (.l 7 .nil))) 5 (.l 3 (.l 6 (.l 7 .nil)))) 5 (.b2 3 (.l 4 (.l 6 (.l 7 .nil))) 4 (.l 3 (.l 6 (.l 7 .nil))))) 4 (.b2 1 (.b2 3 (.l 5 (.l 6 (.l 7 .nil))) 5 (.l 3 (.l 6 (.l 7 .nil)))) 5 (.l 1 (.l 3 (.l 6 (.l 7 .nil))))) 5 (.b2 1 (.b2 3 (.l 4 (.l 6 (.l 7 .nil))) 4 (.l 3 (.l 6 (.l 7 .nil)))) 4 (.l 1 (.l 3 (.l 6 (.l 7 .nil)))))))) (by kernel_rfl) (by kernel_rfl) ?_
    clear hp hq;(try clear w1);intro w1 hp hq
    repeat' (first|(((with_reducible apply sd_q);exact zo rfl);((with_reducible apply Qah hp);exact rfl;exact zt rfl;exact ii;exact ii;(exact zl rfl);(simp only [n0,Nat.reduceAdd,nn];try rfl);simp only [zp,zq,z0,z1]))|(((with_reducible apply sd_l);exact zo rfl);(first|((with_reducible apply Qcm hq);(repeat (first|exact sb0|apply sb3));exact rfl;exact ii;exact rfl;clear hp hq;(try clear w1);intro g w1 hp hq;simp only [zp,zq,z0,z1])|((with_reducible apply Qap hp);exact rfl;(focus (intro _;go_simp;try first|with_reducible rfl|exact ⟨rfl,rfl⟩));(with_reducible first|exact fun w => Hof1.out w|exact fun w => Hof2.out w);exact hq;clear hp hq;(try clear w1);intro w1 hp hq;simp only [zp,zq,z0,z1])|((with_reducible apply Qam hq);exact rfl;exact zt rfl;(exact za rfl);exact rfl;(exact AggTy.size);exact rfl;exact ii;(simp only [n0,Nat.reduceAdd,nn];try rfl);(exact zl rfl);exact rfl;exact ii;(repeat (first|exact sb0|apply sb3));clear hp hq;(try clear w1);intro w1 hp hq)))|(with_reducible apply Qfa)|(with_reducible apply sd_b3)|((with_reducible apply Qao);clear hp;have hp := hq;clear hq))
    all_goals (go_wp2_with fail;go_meet;first|exact ⟨_,_,rfl,rfl,hp⟩|exact ⟨_,_,rfl,rfl,hp.perm (List.Perm.swap ..)⟩)
  case rest =>
  clear hp
  obtain ⟨g5,g6,rfl,rfl,hp⟩ := hcut
  go_wp2_with (fail)
  have hq := hp
  refine Qad hp hq [34] (.q 0 (.q 1 (.q 2 (.q 3 (.q 5 (.q 6 (.q 7 (.q 8 (.q 11 (.q 12 (.q 13 (.q 14 (.q 16 (.q 17 (.q 18 (.q 19 (.q 22 (.q 23 (.q 24 (.q 25 (.q 27 (.q 28 (.q 29 (.q 30 (.l 4 (.l 9 (.l 10 (.l 15 (.l 20 (.l 21 (.l 26 (.l 31 (.l 32 (.q 33 (.l 34 .nil))))))))))))))))))))))))))))))))))) (by kernel_rfl) (by kernel_rfl) ?_
  clear hp hq;(try clear w1);intro w1 hp hq
  repeat' (first|(((with_reducible apply sd_q);exact zo rfl);(first|((with_reducible apply Qah hp);exact rfl;exact zt rfl;exact ii;exact ii;(exact zl rfl);(simp only [n0,Nat.reduceAdd,nn];try rfl);simp only [zp,zq,z0,z1])|((with_reducible apply Qaj hp);exact rfl;(focus (intro _;go_simp;(try go_ints);try with_reducible rfl));simp only [zp,zq,z0,z1])))|(((with_reducible apply sd_l);exact zo rfl);(first|((with_reducible apply Qap hp);exact rfl;(focus (intro _;go_simp;try first|with_reducible rfl|exact ⟨rfl,rfl⟩));(with_reducible first|exact fun w => T1.out w|exact fun w => T2.out w|exact fun w => T3.out w|exact fun w => T4.out w|exact fun w => T5.out w|exact fun w => T6.out w|exact fun w => L1.out w|exact fun w => L2.out w|exact fun w => L3.out w);exact hq;clear hp hq;(try clear w1);intro w1 hp hq;simp only [zp,zq,z0,z1])|((with_reducible apply Qbb hq);exact rfl;exact zt rfl;(exact za rfl);exact rfl;(exact AggTy.size);exact rfl;exact ii;(simp only [n0,Nat.reduceAdd,nn];try rfl);(exact zl rfl);exact rfl;exact ii;exact rfl;clear hp hq;(try clear w1);intro w1 hq;have hp := True.intro)))|((with_reducible apply Qao);clear hp;have hp := hq;clear hq))
  go_wp2
  exact bodyPost_ret (Qaa rfl ⟨_,rfl,Qac hp (Nat.le_of_ble_eq_true rfl)⟩) rfl ⟨rfl,hp.keep⟩
set_option maxHeartbeats 1000000 in
theorem dot_any (a b : P3) (ha : a.i64) (hb : b.i64) (w : World) : Calls Tryz.prog 53 #[PV a,PV b] w (Ret (W (a.dot b)) w) := by
  obtain ⟨ax,ay,az⟩ := a
  obtain ⟨bx,by',bz⟩ := b
  obtain ⟨hax,hay,haz⟩ := ha
  obtain ⟨hbx,hby,hbz⟩ := hb
  dsimp only at hax hay haz hbx hby hbz
  dsimp only [P3.dot]
  have hal := Qjm ax ay az bx by' bz (Qdj hax) (Qdj hay) (Qdj haz) hbx hby hbz
  have h1 := Qbh hax hbx
  have h2 := Qbh hay hby
  have h3 := Qbh haz hbz
  rw [acc_all (by unfold Fit M511;omega) (by unfold Fit M511;omega) (by unfold Fit M511;omega) (by unfold Fit M511;omega) (by unfold Fit M511;omega)] at hal
  simp only [Option.getD_some,Option.isSome_some] at hal
  have Hal := Lib.hid hal
  have Hof1 := Lib.hid (Qmp ax ay az hax hay haz)
  clear hax hay haz hbx hby hbz hal h1 h2 h3
  go_enter Tryz.func53,Tryz.ntmps53
  have hp := Hp.start [] w
  go_wp2_with (first|((with_reducible apply Qau hp);exact za rfl;exact rfl;clear hp;(try clear w1);intro g w1 hp;simp only [zp,zq,z0,z1])|((with_reducible apply Qag hp);exact ii;exact rfl;clear hp;(try clear w1);intro g w1 hp;simp only [zp,zq,z0,z1]))
  have hq := hp
  refine Qad hp hq [] (.q 0 (.q 2 (.b2 1 (.b2 3 (.q 4 (.q 5 (.q 6 (.l 7 (.l 8 (.q 9 .nil)))))) 7 (.l 3 (.q 4 (.q 5 (.q 6 (.l 8 (.q 9 .nil))))))) 7 (.l 1 (.l 3 (.q 4 (.q 5 (.q 6 (.l 8 (.q 9 .nil)))))))))) (by kernel_rfl) (by kernel_rfl) ?_
  clear hp hq;(try clear w1);intro w1 hp hq
  repeat' (first|(((with_reducible apply sd_q);exact zo rfl);(first|((with_reducible apply Qah hp);exact rfl;exact zt rfl;exact ii;exact ii;(exact zl rfl);(simp only [n0,Nat.reduceAdd,nn];try rfl);simp only [zp,zq,z0,z1])|((with_reducible apply Qaq hp);exact zu rfl;simp only [zp,zq,z0,z1])|((with_reducible apply Qat hp);exact zb rfl;simp only [zp,zq,z0,z1])|((with_reducible apply Qaj hp);exact rfl;(focus (intro _;go_simp;(try go_ints);try with_reducible rfl));simp only [zp,zq,z0,z1])))|(((with_reducible apply sd_l);exact zo rfl);(first|((with_reducible apply Qcm hq);(repeat (exact sb0));exact rfl;exact ii;exact rfl;clear hp hq;(try clear w1);intro g w1 hp hq;simp only [zp,zq,z0,z1])|((with_reducible apply Qap hp);exact rfl;(focus (intro _;go_simp;try first|with_reducible rfl|exact ⟨rfl,rfl⟩));(with_reducible first|exact fun w => Hof1.out w|exact fun w => Hal.out w);exact hq;clear hp hq;(try clear w1);intro w1 hp hq;simp only [zp,zq,z0,z1])|((with_reducible apply Qam hq);exact rfl;exact zt rfl;(exact za rfl);exact rfl;(exact AggTy.size);exact rfl;exact ii;(simp only [n0,Nat.reduceAdd,nn];try rfl);(exact zl rfl);exact rfl;exact ii;(repeat (first|exact sb0|apply sb3));clear hp hq;(try clear w1);intro w1 hp hq)))|(with_reducible apply Qfa)|((with_reducible apply Qao);clear hp;have hp := hq;clear hq))
  all_goals (go_wp2_with (first|((with_reducible apply Qab hp);exact zt rfl;exact ii;exact ii;(exact zl rfl);(simp only [n0,Nat.reduceAdd,nn];try rfl);simp only [zp,zq,z0,z1])|((with_reducible apply Qae hp);exact zt rfl;exact za rfl;exact rfl;(exact AggTy.size);exact rfl;exact ii;(simp only [n0,Nat.reduceAdd,nn];try rfl);(exact zl rfl);exact rfl;exact ii;clear hp;(try clear w1);intro w1 hp));exact bodyPost_ret (Qaa rfl ⟨_,rfl,Qac hp (Nat.le_of_ble_eq_true rfl)⟩) rfl ⟨rfl,hp.keep⟩)
set_option maxHeartbeats 1000000 in
theorem det_any (a b c : P3) (ha : a.i64) (hb : b.i64) (hc : c.i64) (w : World) : Calls Tryz.prog 85 #[PV a,PV b,PV c] w (Ret (W (P3.det a b c)) w) := by
  have Hcr := Lib.hid (Qoy b c hb hc)
  have hxx := Qbh hb.1 hc.2.1
  have hxy := Qbh hb.2.1 hc.1
  have hxz := Qbh hb.1 hc.2.2
  have hzx := Qbh hb.2.2 hc.1
  have hyz := Qbh hb.2.1 hc.2.2
  have hzy := Qbh hb.2.2 hc.2.1
  obtain ⟨ax,ay,az⟩ := a
  obtain ⟨hax,hay,haz⟩ := ha
  dsimp only at hax hay haz
  unfold P3.det P3.dot
  have hbx : -170141183460469231731687303715884105728 ≤ (b.cross c).x ∧ (b.cross c).x ≤ 170141183460469231731687303715884105728 := by
    unfold P3.cross
    dsimp only
    omega
  have hby : -170141183460469231731687303715884105728 ≤ (b.cross c).y ∧ (b.cross c).y ≤ 170141183460469231731687303715884105728 := by
    unfold P3.cross
    dsimp only
    omega
  have hbz : -170141183460469231731687303715884105728 ≤ (b.cross c).z ∧ (b.cross c).z ≤ 170141183460469231731687303715884105728 := by
    unfold P3.cross
    dsimp only
    omega
  generalize b.cross c = e at *
  obtain ⟨ex,ey,ez⟩ := e
  dsimp only at *
  clear hxx hxy hxz hzx hyz hzy hb hc
  have hal := Qjm ex ey ez ax ay az (by unfold Fit M511;omega) (by unfold Fit M511;omega) (by unfold Fit M511;omega) hax hay haz
  have h1 := Qig hbx hax
  have h2 := Qig hby hay
  have h3 := Qig hbz haz
  rw [acc_all (by unfold Fit M511;omega) (by unfold Fit M511;omega) (by unfold Fit M511;omega) (by unfold Fit M511;omega) (by unfold Fit M511;omega)] at hal
  simp only [Option.getD_some,Option.isSome_some] at hal
  have Hal := Lib.hid hal
  clear hax hay haz hbx hby hbz hal h1 h2 h3
  go_enter Tryz.func85,Tryz.ntmps85
  have hp := Hp.start [] w
  go_wp2_with (first|((with_reducible apply Qau hp);exact za rfl;exact rfl;clear hp;(try clear w1);intro g w1 hp;simp only [zp,zq,z0,z1])|((with_reducible apply Qag hp);exact ii;exact rfl;clear hp;(try clear w1);intro g w1 hp;simp only [zp,zq,z0,z1]))
  have hq := hp
  refine Qad hp hq [] (.q 0 (.q 1 (.q 3 (.b2 2 (.b2 4 (.q 5 (.q 6 (.q 7 (.l 8 (.l 9 (.q 10 .nil)))))) 8 (.l 4 (.q 5 (.q 6 (.q 7 (.l 9 (.q 10 .nil))))))) 8 (.l 2 (.l 4 (.q 5 (.q 6 (.q 7 (.l 9 (.q 10 .nil))))))))))) (by kernel_rfl) (by kernel_rfl) ?_
  clear hp hq;(try clear w1);intro w1 hp hq
  repeat' (first|(((with_reducible apply sd_q);exact zo rfl);(first|((with_reducible apply Qah hp);exact rfl;exact zt rfl;exact ii;exact ii;(exact zl rfl);(simp only [n0,Nat.reduceAdd,nn];try rfl);simp only [zp,zq,z0,z1])|((with_reducible apply Qaq hp);exact zu rfl;simp only [zp,zq,z0,z1])|((with_reducible apply Qat hp);exact zb rfl;simp only [zp,zq,z0,z1])|((with_reducible apply Qaj hp);exact rfl;(focus (intro _;go_simp;(try go_ints);try with_reducible rfl));simp only [zp,zq,z0,z1])))|(((with_reducible apply sd_l);exact zo rfl);(first|((with_reducible apply Qcm hq);(repeat (exact sb0));exact rfl;exact ii;exact rfl;clear hp hq;(try clear w1);intro g w1 hp hq;simp only [zp,zq,z0,z1])|((with_reducible apply Qap hp);exact rfl;(focus (intro _;go_simp;try first|with_reducible rfl|exact ⟨rfl,rfl⟩));(with_reducible first|exact fun w => Hcr.out w|exact fun w => Hal.out w);exact hq;clear hp hq;(try clear w1);intro w1 hp hq;simp only [zp,zq,z0,z1])|((with_reducible apply Qam hq);exact rfl;exact zt rfl;(exact za rfl);exact rfl;(exact AggTy.size);exact rfl;exact ii;(simp only [n0,Nat.reduceAdd,nn];try rfl);(exact zl rfl);exact rfl;exact ii;(repeat (first|exact sb0|apply sb3));clear hp hq;(try clear w1);intro w1 hp hq)))|(with_reducible apply Qfa)|((with_reducible apply Qao);clear hp;have hp := hq;clear hq))
  all_goals (go_wp2_with (first|((with_reducible apply Qab hp);exact zt rfl;exact ii;exact ii;(exact zl rfl);(simp only [n0,Nat.reduceAdd,nn];try rfl);simp only [zp,zq,z0,z1])|((with_reducible apply Qae hp);exact zt rfl;exact za rfl;exact rfl;(exact AggTy.size);exact rfl;exact ii;(simp only [n0,Nat.reduceAdd,nn];try rfl);(exact zl rfl);exact rfl;exact ii;clear hp;(try clear w1);intro w1 hp));exact bodyPost_ret (Qaa rfl ⟨_,rfl,Qac hp (Nat.le_of_ble_eq_true rfl)⟩) rfl ⟨rfl,hp.keep⟩)
end Go.Proofs.YtdfdmeoalbpcdaaGreat
