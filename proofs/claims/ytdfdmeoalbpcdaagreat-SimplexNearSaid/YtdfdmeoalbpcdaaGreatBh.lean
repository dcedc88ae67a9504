/-
  Package ninepinref06: mul, three, Dot, Cross, Det (contracts).
-/
import Derived.Test.YtdfdmeoalbpcdaaGreatBn
set_option linter.unusedSimpArgs false
set_option linter.unusedVariables false
set_option maxRecDepth 100000
namespace Go.Proofs.YtdfdmeoalbpcdaaGreat
open Go Go.RowKit
set_option maxHeartbeats 1000000 in
theorem Qen (a b : Int) (ha : I64 a) (hb : I64 b) (w : World) : Calls Tryz.prog 115 #[.int .i64 a,.int .i64 b] w (Ret (W (a * b)) w) := by
  have Ha := Lib.hid ha
  have Hb := Lib.hid hb
  clear ha hb
  go_enter Tryz.func115,Tryz.ntmps115
  have hp := Hp.start [] w
  go_wp2_with (first|((with_reducible apply Qag hp);exact ii;exact rfl;clear hp;(try clear w1);intro g w1 hp;simp only [zp,zq,z0,z1])|((with_reducible apply Qae hp);exact zt rfl;exact za rfl;exact rfl;(exact AggTy.size);exact rfl;exact ii;(simp only [n0,Nat.reduceAdd,nn];try rfl);(exact zl rfl);exact rfl;exact ii;clear hp;(try clear w1);intro w1 hp)|((with_reducible first|refine Qaf hp (Qcw _ Ha.out _) ?_|refine Qaf hp (Qcw _ Hb.out _) ?_|refine Qaf hp (rtimes_i64 _ _ Ha.out Hb.out _) ?_);clear hp;(try clear w1);intro w1 hp))
  exact bodyPost_ret (Qaa rfl ⟨_,rfl,Qac hp (Nat.le_of_ble_eq_true rfl)⟩) rfl ⟨rfl,hp.keep⟩
theorem Qgb {a b c : Int} (ha : I64 a) (hb : I64 b) (hc : I64 c) : -784637716923335095479473677900958302012794430558004314112 ≤ a * b * c ∧ a * b * c ≤ 784637716923335095479473677900958302012794430558004314112 := by
  have h1 := Qbh ha hb
  have := bd_mul (A := 85070591730234615865843651857942052864) (by omega) (i64_bd hc)
  omega
set_option maxHeartbeats 1000000 in
theorem Qex (a b c : Int) (ha : I64 a) (hb : I64 b) (hc : I64 c) (w : World) : Calls Tryz.prog 116 #[.int .i64 a,.int .i64 b,.int .i64 c] w (Ret (W (a * b * c)) w) := by
  have h1 := Qbh ha hb
  have h2 := Qgb ha hb hc
  have T := Lib.hid (Qlx (a * b) c (by unfold Fit M511;omega) (Qdj hc) (by unfold Fit M511;omega))
  have Ha := Lib.hid ha
  have Hb := Lib.hid hb
  have Hc := Lib.hid hc
  clear ha hb hc h1 h2
  go_enter Tryz.func116,Tryz.ntmps116
  have hp := Hp.start [] w
  go_wp2_with (first|((with_reducible apply Qag hp);exact ii;exact rfl;clear hp;(try clear w1);intro g w1 hp;simp only [zp,zq,z0,z1])|((with_reducible apply Qae hp);exact zt rfl;exact za rfl;exact rfl;(exact AggTy.size);exact rfl;exact ii;(simp only [n0,Nat.reduceAdd,nn];try rfl);(exact zl rfl);exact rfl;exact ii;clear hp;(try clear w1);intro w1 hp)|((with_reducible first|refine Qaf hp (Qen _ _ Ha.out Hb.out _) ?_|refine Qaf hp (Qcw _ Hc.out _) ?_|refine Qaf hp (T.out _) ?_);clear hp;(try clear w1);intro w1 hp))
  exact bodyPost_ret (Qaa rfl ⟨_,rfl,Qac hp (Nat.le_of_ble_eq_true rfl)⟩) rfl ⟨rfl,hp.keep⟩
set_option maxHeartbeats 4000000 in
theorem rdot_any (a b : P3) (ha : a.i64) (hb : b.i64) (w : World) : Calls Tryz.prog 117 #[PV a,PV b] w (Ret (W (a.dot b)) w) := by
  obtain ⟨ax,ay,az⟩ := a
  obtain ⟨bx,by',bz⟩ := b
  obtain ⟨hax,hay,haz⟩ := ha
  obtain ⟨hbx,hby,hbz⟩ := hb
  dsimp only at hax hay haz hbx hby hbz
  dsimp only [P3.dot]
  have h1 := Qbh hax hbx
  have h2 := Qbh hay hby
  have h3 := Qbh haz hbz
  have M1 := Lib.hid (Qen _ _ hax hbx)
  have M2 := Lib.hid (Qen _ _ hay hby)
  have M3 := Lib.hid (Qen _ _ haz hbz)
  have P1 := Lib.hid (Qfq (ax * bx) (ay * by') (by unfold Fit M511;omega) (by unfold Fit M511;omega) (by unfold Fit M511;omega))
  have P2 := Lib.hid (Qfq (ax * bx + ay * by') (az * bz) (by unfold Fit M511;omega) (by unfold Fit M511;omega) (by unfold Fit M511;omega))
  clear hax hay haz hbx hby hbz h1 h2 h3
  go_enter Tryz.func117,Tryz.ntmps117
  have hp := Hp.start [] w
  go_upto_region 1 with (first|((with_reducible apply Qau hp);(exact za rfl);exact rfl;clear hp;(try clear w1);intro g w1 hp;simp only [zp,zq,z0,z1])|((with_reducible apply Qag hp);exact ii;exact rfl;clear hp;(try clear w1);intro g w1 hp;simp only [zp,zq,z0,z1]))
  have hq := hp
  refine Qad hp hq [17] (.q 0 (.q 1 (.q 2 (.q 3 (.q 5 (.q 6 (.q 7 (.q 8 (.q 11 (.q 12 (.q 13 (.q 14 (.l 4 (.l 9 (.l 10 (.l 15 (.l 16 (.l 17 .nil)))))))))))))))))) (by kernel_rfl) (by kernel_rfl) ?_
  clear hp hq;(try clear w1);intro w1 hp hq
  repeat' (first|(((with_reducible apply sd_q);exact zo rfl);(first|((with_reducible apply Qba hp);exact rfl;exact zt rfl;exact ii;exact ii;(exact zio rfl);simp only [zp,zq,z0,z1])|((with_reducible apply Qaj hp);exact rfl;(focus (intro _;go_simp;(try go_ints);try with_reducible rfl));simp only [zp,zq,z0,z1])))|(((with_reducible apply sd_l);exact zo rfl);(first|((with_reducible apply Qap hp);exact rfl;(focus (intro _;go_simp;try first|with_reducible rfl|exact ⟨rfl,rfl⟩));(with_reducible first|exact fun w => M1.out w|exact fun w => M2.out w|exact fun w => M3.out w|exact fun w => P1.out w|exact fun w => P2.out w);exact hq;clear hp hq;(try clear w1);intro w1 hp hq;simp only [zp,zq,z0,z1])|((with_reducible apply Qbb hq);exact rfl;exact zt rfl;(exact za rfl);exact rfl;(exact AggTy.size);exact rfl;exact ii;(simp only [n0,Nat.reduceAdd,nn];try rfl);(exact zl rfl);exact rfl;exact ii;exact rfl;clear hp hq;(try clear w1);intro w1 hq;have hp := True.intro)))|((with_reducible apply Qao);clear hp;have hp := hq;clear hq))
  go_wp2
  exact bodyPost_ret (Qaa rfl ⟨_,rfl,Qac hp (Nat.le_of_ble_eq_true rfl)⟩) rfl ⟨rfl,hp.keep⟩
set_option maxHeartbeats 4000000 in
theorem rcross_any (a b : P3) (ha : a.i64) (hb : b.i64) (w : World) : Calls Tryz.prog 92 #[PV a,PV b] w (Ret (SV (a.cross b)) w) := by
  obtain ⟨ax,ay,az⟩ := a
  obtain ⟨bx,by',bz⟩ := b
  obtain ⟨hax,hay,haz⟩ := ha
  obtain ⟨hbx,hby,hbz⟩ := hb
  dsimp only at hax hay haz hbx hby hbz
  dsimp only [P3.cross]
  have M1 := Lib.hid (Qen ay bz hay hbz)
  have M2 := Lib.hid (Qen az by' haz hby)
  have h1 := Qbh hay hbz
  have h2 := Qbh haz hby
  have L1 := Lib.hid (Qht (ay * bz) (az * by') (by unfold Fit M511;omega) (by unfold Fit M511;omega) (by unfold Fit M511;omega))
  have M3 := Lib.hid (Qen az bx haz hbx)
  have M4 := Lib.hid (Qen ax bz hax hbz)
  have h3 := Qbh haz hbx
  have h4 := Qbh hax hbz
  have L2 := Lib.hid (Qht (az * bx) (ax * bz) (by unfold Fit M511;omega) (by unfold Fit M511;omega) (by unfold Fit M511;omega))
  have M5 := Lib.hid (Qen ax by' hax hby)
  have M6 := Lib.hid (Qen ay bx hay hbx)
  have h5 := Qbh hax hby
  have h6 := Qbh hay hbx
  have L3 := Lib.hid (Qht (ax * by') (ay * bx) (by unfold Fit M511;omega) (by unfold Fit M511;omega) (by unfold Fit M511;omega))
  clear hax hay haz hbx hby hbz h1 h2 h3 h4 h5 h6
  go_enter Tryz.func92,Tryz.ntmps92
  have hp := Hp.start [] w
  go_upto_region 1 with (first|((with_reducible apply Qau hp);(exact za rfl);exact rfl;clear hp;(try clear w1);intro g w1 hp;simp only [zp,zq,z0,z1])|((with_reducible apply Qag hp);exact ii;exact rfl;clear hp;(try clear w1);intro g w1 hp;simp only [zp,zq,z0,z1]))
  have hq := hp
  refine Qad hp hq [34] (.q 0 (.q 1 (.q 2 (.q 3 (.q 5 (.q 6 (.q 7 (.q 8 (.q 11 (.q 12 (.q 13 (.q 14 (.q 16 (.q 17 (.q 18 (.q 19 (.q 22 (.q 23 (.q 24 (.q 25 (.q 27 (.q 28 (.q 29 (.q 30 (.l 4 (.l 9 (.l 10 (.l 15 (.l 20 (.l 21 (.l 26 (.l 31 (.l 32 (.q 33 (.l 34 .nil))))))))))))))))))))))))))))))))))) (by kernel_rfl) (by kernel_rfl) ?_
  clear hp hq;(try clear w1);intro w1 hp hq
  repeat' (first|(((with_reducible apply sd_q);exact zo rfl);(first|((with_reducible apply Qba hp);exact rfl;exact zt rfl;exact ii;exact ii;(exact zio rfl);simp only [zp,zq,z0,z1])|((with_reducible apply Qaj hp);exact rfl;(focus (intro _;go_simp;(try go_ints);try with_reducible rfl));simp only [zp,zq,z0,z1])))|(((with_reducible apply sd_l);exact zo rfl);(first|((with_reducible apply Qap hp);exact rfl;(focus (intro _;go_simp;try first|with_reducible rfl|exact ⟨rfl,rfl⟩));(with_reducible first|exact fun w => M1.out w|exact fun w => M2.out w|exact fun w => M3.out w|exact fun w => M4.out w|exact fun w => M5.out w|exact fun w => M6.out w|exact fun w => L1.out w|exact fun w => L2.out w|exact fun w => L3.out w);exact hq;clear hp hq;(try clear w1);intro w1 hp hq;simp only [zp,zq,z0,z1])|((with_reducible apply Qbb hq);exact rfl;exact zt rfl;(exact za rfl);exact rfl;(exact AggTy.size);exact rfl;exact ii;(simp only [n0,Nat.reduceAdd,nn];try rfl);(exact zl rfl);exact rfl;exact ii;exact rfl;clear hp hq;(try clear w1);intro w1 hq;have hp := True.intro)))|((with_reducible apply Qao);clear hp;have hp := hq;clear hq))
  go_wp2
  exact bodyPost_ret (Qaa rfl ⟨_,rfl,Qac hp (Nat.le_of_ble_eq_true rfl)⟩) rfl ⟨rfl,hp.keep⟩
set_option maxHeartbeats 8000000 in
theorem rdet_any (a b c : P3) (ha : a.i64) (hb : b.i64) (hc : c.i64) (w : World) : Calls Tryz.prog 94 #[PV a,PV b,PV c] w (Ret (W (P3.det a b c)) w) := by
  obtain ⟨ax,ay,az⟩ := a
  obtain ⟨bx,by',bz⟩ := b
  obtain ⟨hax,hay,haz⟩ := ha
  obtain ⟨hbx,hby,hbz⟩ := hb
  dsimp only at hax hay haz hbx hby hbz
  obtain ⟨cx,cy,cz⟩ := c
  obtain ⟨hcx,hcy,hcz⟩ := hc
  dsimp only at hcx hcy hcz
  have e : P3.det ⟨ax,ay,az⟩ ⟨bx,by',bz⟩ ⟨cx,cy,cz⟩ = (ax * by' * cz + ay * bz * cx + az * bx * cy) - (az * by' * cx + ay * bx * cz + ax * bz * cy) := by
    simp only [P3.det,P3.dot,P3.cross]
    grind
  rw [e]
  have M1 := Lib.hid (Qex ax by' cz hax hby hcz)
  have h1 := Qgb hax hby hcz
  have M2 := Lib.hid (Qex ay bz cx hay hbz hcx)
  have h2 := Qgb hay hbz hcx
  have M3 := Lib.hid (Qex az bx cy haz hbx hcy)
  have h3 := Qgb haz hbx hcy
  have M4 := Lib.hid (Qex az by' cx haz hby hcx)
  have h4 := Qgb haz hby hcx
  have M5 := Lib.hid (Qex ay bx cz hay hbx hcz)
  have h5 := Qgb hay hbx hcz
  have M6 := Lib.hid (Qex ax bz cy hax hbz hcy)
  have h6 := Qgb hax hbz hcy
  have P1 := Lib.hid (Qfq (ax * by' * cz) (ay * bz * cx) (by unfold Fit M511;omega) (by unfold Fit M511;omega) (by unfold Fit M511;omega))
  have P2 := Lib.hid (Qfq (ax * by' * cz + ay * bz * cx) (az * bx * cy) (by unfold Fit M511;omega) (by unfold Fit M511;omega) (by unfold Fit M511;omega))
  have P3 := Lib.hid (Qfq (az * by' * cx) (ay * bx * cz) (by unfold Fit M511;omega) (by unfold Fit M511;omega) (by unfold Fit M511;omega))
  have P4 := Lib.hid (Qfq (az * by' * cx + ay * bx * cz) (ax * bz * cy) (by unfold Fit M511;omega) (by unfold Fit M511;omega) (by unfold Fit M511;omega))
  have L1 := Lib.hid (Qht (ax * by' * cz + ay * bz * cx + az * bx * cy) (az * by' * cx + ay * bx * cz + ax * bz * cy) (by unfold Fit M511;omega) (by unfold Fit M511;omega) (by unfold Fit M511;omega))
  clear hax hay haz hbx hby hbz hcx hcy hcz h1 h2 h3 h4 h5 h6 e
  go_enter Tryz.func94,Tryz.ntmps94
  have hp := Hp.start [] w
  go_upto_region 1 with (first|((with_reducible apply Qau hp);(exact za rfl);exact rfl;clear hp;(try clear w1);intro g w1 hp;simp only [zp,zq,z0,z1])|((with_reducible apply Qag hp);exact ii;exact rfl;clear hp;(try clear w1);intro g w1 hp;simp only [zp,zq,z0,z1]))
  rename_i ga gb gc K hK
  obtain ⟨gp,rfl⟩ : ∃ x : Nat,x = g := ⟨_,rfl⟩
  go_cut [7] (fun s7 wx => ∃ g7,s7 = .pointer (some ⟨g7,0,none⟩) ∧ Hp [] w [⟨g7,27,[.int .u64 (lb (ax * by' * cz + ay * bz * cx + az * bx * cy) 0),.int .u64 (lb (ax * by' * cz + ay * bz * cx + az * bx * cy) 1),.int .u64 (lb (ax * by' * cz + ay * bz * cx + az * bx * cy) 2),.int .u64 (lb (ax * by' * cz + ay * bz * cx + az * bx * cy) 3),.int .u64 (lb (ax * by' * cz + ay * bz * cx + az * bx * cy) 4),.int .u64 (lb (ax * by' * cz + ay * bz * cx + az * bx * cy) 5),.int .u64 (lb (ax * by' * cz + ay * bz * cx + az * bx * cy) 6),.int .u64 (lb (ax * by' * cz + ay * bz * cx + az * bx * cy) 7)]⟩,⟨gp,27,[.int .u64 0,.int .u64 0,.int .u64 0,.int .u64 0,.int .u64 0,.int .u64 0,.int .u64 0,.int .u64 0]⟩,⟨gc,39,[.int .i64 cx,.int .i64 cy,.int .i64 cz]⟩,⟨gb,39,[.int .i64 bx,.int .i64 by',.int .i64 bz]⟩,⟨ga,39,[.int .i64 ax,.int .i64 ay,.int .i64 az]⟩] wx)
  case first =>
    have hq := hp
    refine Qad hp hq [24] (.q 0 (.q 1 (.q 2 (.q 3 (.q 4 (.q 5 (.q 7 (.q 8 (.q 9 (.q 10 (.q 11 (.q 12 (.q 15 (.q 16 (.q 17 (.q 18 (.q 19 (.q 20 (.b2 6 (.b2 13 (.b2 14 (.b2 21 (.b2 22 (.l 23 (.l 24 .nil)) 23 (.l 22 (.l 24 .nil))) 23 (.l 21 (.l 22 (.l 24 .nil)))) 23 (.l 14 (.l 21 (.l 22 (.l 24 .nil))))) 23 (.l 13 (.l 14 (.l 21 (.l 22 (.l 24 .nil)))))) 23 (.l 6 (.l 13 (.l 14 (.l 21 (.l 22 (.l 24 .nil))))))))))))))))))))))))) (by kernel_rfl) (by kernel_rfl) ?_
    clear hp hq;(try clear w1);intro w1 hp hq
    repeat' (first|(((with_reducible apply sd_q);exact zo rfl);(first|((with_reducible apply Qba hp);exact rfl;exact zt rfl;exact ii;exact ii;(exact zio rfl);simp only [zp,zq,z0,z1])|((with_reducible apply Qaj hp);exact rfl;(focus (intro _;go_simp;(try go_ints);try with_reducible rfl));simp only [zp,zq,z0,z1])))|(((with_reducible apply sd_l);exact zo rfl);(first|((with_reducible apply Qcm hq);(repeat (exact sb0));exact rfl;exact ii;exact rfl;clear hp hq;(try clear w1);intro g w1 hp hq;simp only [zp,zq,z0,z1])|((with_reducible apply Qap hp);exact rfl;(focus (intro _;go_simp;try first|with_reducible rfl|exact ⟨rfl,rfl⟩));(with_reducible first|exact fun w => M1.out w|exact fun w => M2.out w|exact fun w => M3.out w|exact fun w => P1.out w|exact fun w => P2.out w);exact hq;clear hp hq;(try clear w1);intro w1 hp hq;simp only [zp,zq,z0,z1])|((with_reducible apply Qam hq);exact rfl;exact zt rfl;(exact za rfl);exact rfl;(exact AggTy.size);exact rfl;exact ii;(simp only [n0,Nat.reduceAdd,nn];try rfl);(exact zl rfl);exact rfl;exact ii;(repeat (first|exact sb0|apply sb3));clear hp hq;(try clear w1);intro w1 hp hq)))|(with_reducible apply Qfa)|((with_reducible apply Qao);clear hp;have hp := hq;clear hq))
    all_goals (go_wp2_with fail;go_meet;exact ⟨_,rfl,hp⟩)
  case rest =>
  clear hp
  obtain ⟨g7,rfl,hp⟩ := hcut
  go_wp2_with (fail)
  go_cut [8] (fun s8 wx => ∃ g8,s8 = .pointer (some ⟨g8,0,none⟩) ∧ Hp [] w [⟨g8,27,[.int .u64 (lb (az * by' * cx + ay * bx * cz + ax * bz * cy) 0),.int .u64 (lb (az * by' * cx + ay * bx * cz + ax * bz * cy) 1),.int .u64 (lb (az * by' * cx + ay * bx * cz + ax * bz * cy) 2),.int .u64 (lb (az * by' * cx + ay * bx * cz + ax * bz * cy) 3),.int .u64 (lb (az * by' * cx + ay * bx * cz + ax * bz * cy) 4),.int .u64 (lb (az * by' * cx + ay * bx * cz + ax * bz * cy) 5),.int .u64 (lb (az * by' * cx + ay * bx * cz + ax * bz * cy) 6),.int .u64 (lb (az * by' * cx + ay * bx * cz + ax * bz * cy) 7)]⟩,⟨g7,27,[.int .u64 (lb (ax * by' * cz + ay * bz * cx + az * bx * cy) 0),.int .u64 (lb (ax * by' * cz + ay * bz * cx + az * bx * cy) 1),.int .u64 (lb (ax * by' * cz + ay * bz * cx + az * bx * cy) 2),.int .u64 (lb (ax * by' * cz + ay * bz * cx + az * bx * cy) 3),.int .u64 (lb (ax * by' * cz + ay * bz * cx + az * bx * cy) 4),.int .u64 (lb (ax * by' * cz + ay * bz * cx + az * bx * cy) 5),.int .u64 (lb (ax * by' * cz + ay * bz * cx + az * bx * cy) 6),.int .u64 (lb (ax * by' * cz + ay * bz * cx + az * bx * cy) 7)]⟩,⟨gp,27,[.int .u64 0,.int .u64 0,.int .u64 0,.int .u64 0,.int .u64 0,.int .u64 0,.int .u64 0,.int .u64 0]⟩,⟨gc,39,[.int .i64 cx,.int .i64 cy,.int .i64 cz]⟩,⟨gb,39,[.int .i64 bx,.int .i64 by',.int .i64 bz]⟩,⟨ga,39,[.int .i64 ax,.int .i64 ay,.int .i64 az]⟩] wx)
  case first =>
    have hq := hp
    refine Qad hp hq [24] (.q 0 (.q 1 (.q 2 (.q 3 (.q 4 (.q 5 (.q 7 (.q 8 (.q 9 (.q 10 (.q 11 (.q 12 (.q 15 (.q 16 (.q 17 (.q 18 (.q 19 (.q 20 (.b2 6 (.b2 13 (.b2 14 (.b2 21 (.b2 22 (.l 23 (.l 24 .nil)) 23 (.l 22 (.l 24 .nil))) 23 (.l 21 (.l 22 (.l 24 .nil)))) 23 (.l 14 (.l 21 (.l 22 (.l 24 .nil))))) 23 (.l 13 (.l 14 (.l 21 (.l 22 (.l 24 .nil)))))) 23 (.l 6 (.l 13 (.l 14 (.l 21 (.l 22 (.l 24 .nil))))))))))))))))))))))))) (by kernel_rfl) (by kernel_rfl) ?_
    clear hp hq;(try clear w1);intro w1 hp hq
    repeat' (first|(((with_reducible apply sd_q);exact zo rfl);(first|((with_reducible apply Qba hp);exact rfl;exact zt rfl;exact ii;exact ii;(exact zio rfl);simp only [zp,zq,z0,z1])|((with_reducible apply Qaj hp);exact rfl;(focus (intro _;go_simp;(try go_ints);try with_reducible rfl));simp only [zp,zq,z0,z1])))|(((with_reducible apply sd_l);exact zo rfl);(first|((with_reducible apply Qcm hq);(repeat (exact sb0));exact rfl;exact ii;exact rfl;clear hp hq;(try clear w1);intro g w1 hp hq;simp only [zp,zq,z0,z1])|((with_reducible apply Qap hp);exact rfl;(focus (intro _;go_simp;try first|with_reducible rfl|exact ⟨rfl,rfl⟩));(with_reducible first|exact fun w => M4.out w|exact fun w => M5.out w|exact fun w => M6.out w|exact fun w => P3.out w|exact fun w => P4.out w);exact hq;clear hp hq;(try clear w1);intro w1 hp hq;simp only [zp,zq,z0,z1])|((with_reducible apply Qam hq);exact rfl;exact zt rfl;(exact za rfl);exact rfl;(exact AggTy.size);exact rfl;exact ii;(simp only [n0,Nat.reduceAdd,nn];try rfl);(exact zl rfl);exact rfl;exact ii;(repeat (first|exact sb0|apply sb3));clear hp hq;(try clear w1);intro w1 hp hq)))|(with_reducible apply Qfa)|((with_reducible apply Qao);clear hp;have hp := hq;clear hq))
    all_goals (go_wp2_with fail;go_meet;exact ⟨_,rfl,hp⟩)
  case rest =>
  clear hp
  obtain ⟨g8,rfl,hp⟩ := hcut
  go_wp2_with (first|((with_reducible apply Qab hp);exact zt rfl;exact ii;exact ii;(exact zl rfl);(simp only [n0,Nat.reduceAdd,nn];try rfl);simp only [zp,zq,z0,z1])|((with_reducible apply Qae hp);exact zt rfl;exact za rfl;exact rfl;(exact AggTy.size);exact rfl;exact ii;(simp only [n0,Nat.reduceAdd,nn];try rfl);(exact zl rfl);exact rfl;exact ii;clear hp;(try clear w1);intro w1 hp)|((with_reducible refine Qaf hp (L1.out _) ?_);clear hp;(try clear w1);intro w1 hp))
  exact bodyPost_ret (Qaa rfl ⟨_,rfl,Qac hp (Nat.le_of_ble_eq_true rfl)⟩) rfl ⟨rfl,hp.keep⟩
end Go.Proofs.YtdfdmeoalbpcdaaGreat
