/-
  Package ninepinref06: Along; ninepinlaw06.GridAlong (contracts).
-/
import Derived.Test.YtdfdmeoalbpcdaaGb
import Derived.Test.YtdfdmeoalbpcdaaGc
import Derived.Test.YtdfdmeoalbpcdaaLk
set_option linter.unusedSimpArgs false
set_option linter.unusedVariables false
set_option maxRecDepth 100000
namespace Go.Proofs.Ytdfdmeoalbpcdaa
open Go Go.RowKit
attribute [local irreducible] wpList
set_option maxHeartbeats 8000000 in
theorem Qob (x y z p q r a b c s t : Int) (v : Value) (f1 f2 f3 f4 f5 o : Bool) (hv : v = if f1 && (f2 && (f3 && (f4 && f5))) then W t else .agg #[.int .u64 0,.int .u64 0,.int .u64 0,.int .u64 0,.int .u64 0,.int .u64 0,.int .u64 0,.int .u64 0]) (ho : o = (f1 && (f2 && (f3 && (f4 && f5)))))
    (S1 : Hid (∀ w,Calls Try.prog 51 #[.int .i64 p] w (Ret (W p) w)))
    (S2 : Hid (∀ w,Calls Try.prog 51 #[.int .i64 q] w (Ret (W q) w)))
    (S3 : Hid (∀ w,Calls Try.prog 51 #[.int .i64 r] w (Ret (W r) w)))
    (M1 : Hid (∀ w,Calls Try.prog 50 #[W x,W p] w (Ret (.tuple #[W a,.bool f1]) w)))
    (M2 : Hid (∀ w,Calls Try.prog 50 #[W y,W q] w (Ret (.tuple #[W b,.bool f2]) w)))
    (M3 : Hid (∀ w,Calls Try.prog 50 #[W z,W r] w (Ret (.tuple #[W c,.bool f3]) w)))
    (A1 : Hid (∀ w,Calls Try.prog 52 #[W a,W b] w (Ret (.tuple #[W s,.bool f4]) w)))
    (A2 : Hid (∀ w,Calls Try.prog 52 #[W s,W c] w (Ret (.tuple #[W t,.bool f5]) w)))
    (w : World) : Calls Try.prog 29 #[Sv x y z,Pv p q r] w (Ret (.tuple #[v,.bool o]) w) := by
  go_enter Try.func29,Try.ntmps29
  have hp := Hp.start [] w
  go_upto_region 1 with (first|((with_reducible apply Qav hp);(exact za rfl);exact rfl;clear hp;(try clear w1);intro g w1 hp;simp only [zp,zq,z0,z1])|((with_reducible apply Qag hp);exact ii;exact rfl;clear hp;(try clear w1);intro g w1 hp;simp only [zp,zq,z0,z1]))
  rename_i gn gp K hK
  obtain ⟨gr,rfl⟩ : ∃ k : Nat,k = g := ⟨_,rfl⟩
  go_cut [6,7] (fun s1 s2 wx => ∃ g6,s1 = .pointer (some ⟨g6,0,none⟩) ∧ s2 = .bool f1 ∧ Hp [] w [⟨g6,28,[.int .u64 (lb (a) 0),.int .u64 (lb (a) 1),.int .u64 (lb (a) 2),.int .u64 (lb (a) 3),.int .u64 (lb (a) 4),.int .u64 (lb (a) 5),.int .u64 (lb (a) 6),.int .u64 (lb (a) 7)]⟩,⟨gr,28,[.int .u64 0,.int .u64 0,.int .u64 0,.int .u64 0,.int .u64 0,.int .u64 0,.int .u64 0,.int .u64 0]⟩,⟨gp,24,[.int .i64 p,.int .i64 q,.int .i64 r]⟩,⟨gn,30,[.int .u64 (lb (x) 0),.int .u64 (lb (x) 1),.int .u64 (lb (x) 2),.int .u64 (lb (x) 3),.int .u64 (lb (x) 4),.int .u64 (lb (x) 5),.int .u64 (lb (x) 6),.int .u64 (lb (x) 7),.int .u64 (lb (y) 0),.int .u64 (lb (y) 1),.int .u64 (lb (y) 2),.int .u64 (lb (y) 3),.int .u64 (lb (y) 4),.int .u64 (lb (y) 5),.int .u64 (lb (y) 6),.int .u64 (lb (y) 7),.int .u64 (lb (z) 0),.int .u64 (lb (z) 1),.int .u64 (lb (z) 2),.int .u64 (lb (z) 3),.int .u64 (lb (z) 4),.int .u64 (lb (z) 5),.int .u64 (lb (z) 6),.int .u64 (lb (z) 7)]⟩] wx)
  case first =>
    skip
    have hq := hp
    refine Qac hp hq [] (.q 0 (.q 1 (.q 2 (.q 3 (.b2 4 (.b2 5 (.q 6 (.q 7 (.q 8 (.l 9 (.l 10 (.q 11 .nil)))))) 9 (.l 5 (.q 6 (.q 7 (.q 8 (.l 10 (.q 11 .nil))))))) 9 (.l 4 (.l 5 (.q 6 (.q 7 (.q 8 (.l 10 (.q 11 .nil)))))))))))) (by kernel_rfl) (by kernel_rfl) ?_
    clear hp hq;(try clear w1);intro w1 hp hq
    repeat' (first|(((with_reducible apply sd_q);exact zo rfl);(first|((with_reducible apply Qah hp);exact rfl;exact zt rfl;exact ii;exact ii;(exact zl rfl);(simp only [n0,Nat.reduceAdd,nn];try rfl);simp only [zp,zq,z0,z1])|((with_reducible apply Qaz hp);exact rfl;exact zt rfl;exact ii;exact ii;(exact zio rfl);simp only [zp,zq,z0,z1])|((with_reducible apply Qat hp);exact zu rfl;simp only [zp,zq,z0,z1])|((with_reducible apply Qan hp);exact zb rfl;simp only [zp,zq,z0,z1])|((with_reducible apply Qai hp);exact rfl;(focus (intro _;go_simp;(try go_ints);try with_reducible rfl));simp only [zp,zq,z0,z1])))|(((with_reducible apply sd_l);exact zo rfl);(first|((with_reducible apply Qcq hq);(repeat (exact sb0));exact rfl;exact ii;exact rfl;clear hp hq;(try clear w1);intro g w1 hp hq;simp only [zp,zq,z0,z1])|((with_reducible apply Qao hp);exact rfl;(focus (intro _;go_simp;try first|with_reducible rfl|exact ⟨rfl,rfl⟩));(with_reducible first|exact fun w => S1.out w|exact fun w => M1.out w);exact hq;clear hp hq;(try clear w1);intro w1 hp hq;simp only [zp,zq,z0,z1])|((with_reducible apply Qar hq);exact rfl;exact zt rfl;(exact za rfl);exact rfl;(exact AggTy.size);exact rfl;exact ii;(simp only [n0,Nat.reduceAdd,nn];try rfl);(exact zl rfl);exact rfl;exact ii;(repeat (first|exact sb0|apply sb3));clear hp hq;(try clear w1);intro w1 hp hq)))|(with_reducible apply Qgi)|((with_reducible apply Qam);clear hp;have hp := hq;clear hq))
    all_goals (go_wp2_with fail;go_meet;exact ⟨_,rfl,rfl,hp⟩)
  case rest =>
  clear hp
  obtain ⟨g6,rfl,rfl,hp⟩ := hcut
  go_upto_region 2 with (fail)
  go_cut [8,9] (fun s1 s2 wx => ∃ g8,s1 = .pointer (some ⟨g8,0,none⟩) ∧ s2 = .bool f2 ∧ Hp [] w [⟨g8,28,[.int .u64 (lb (b) 0),.int .u64 (lb (b) 1),.int .u64 (lb (b) 2),.int .u64 (lb (b) 3),.int .u64 (lb (b) 4),.int .u64 (lb (b) 5),.int .u64 (lb (b) 6),.int .u64 (lb (b) 7)]⟩,⟨g6,28,[.int .u64 (lb (a) 0),.int .u64 (lb (a) 1),.int .u64 (lb (a) 2),.int .u64 (lb (a) 3),.int .u64 (lb (a) 4),.int .u64 (lb (a) 5),.int .u64 (lb (a) 6),.int .u64 (lb (a) 7)]⟩,⟨gr,28,[.int .u64 0,.int .u64 0,.int .u64 0,.int .u64 0,.int .u64 0,.int .u64 0,.int .u64 0,.int .u64 0]⟩,⟨gp,24,[.int .i64 p,.int .i64 q,.int .i64 r]⟩,⟨gn,30,[.int .u64 (lb (x) 0),.int .u64 (lb (x) 1),.int .u64 (lb (x) 2),.int .u64 (lb (x) 3),.int .u64 (lb (x) 4),.int .u64 (lb (x) 5),.int .u64 (lb (x) 6),.int .u64 (lb (x) 7),.int .u64 (lb (y) 0),.int .u64 (lb (y) 1),.int .u64 (lb (y) 2),.int .u64 (lb (y) 3),.int .u64 (lb (y) 4),.int .u64 (lb (y) 5),.int .u64 (lb (y) 6),.int .u64 (lb (y) 7),.int .u64 (lb (z) 0),.int .u64 (lb (z) 1),.int .u64 (lb (z) 2),.int .u64 (lb (z) 3),.int .u64 (lb (z) 4),.int .u64 (lb (z) 5),.int .u64 (lb (z) 6),.int .u64 (lb (z) 7)]⟩] wx)
  case first =>
    skip
    have hq := hp
    refine Qac hp hq [] (.q 0 (.q 1 (.q 2 (.q 3 (.b2 4 (.b2 5 (.q 6 (.q 7 (.q 8 (.l 9 (.l 10 (.q 11 .nil)))))) 9 (.l 5 (.q 6 (.q 7 (.q 8 (.l 10 (.q 11 .nil))))))) 9 (.l 4 (.l 5 (.q 6 (.q 7 (.q 8 (.l 10 (.q 11 .nil)))))))))))) (by kernel_rfl) (by kernel_rfl) ?_
    clear hp hq;(try clear w1);intro w1 hp hq
    repeat' (first|(((with_reducible apply sd_q);exact zo rfl);(first|((with_reducible apply Qah hp);exact rfl;exact zt rfl;exact ii;exact ii;(exact zl rfl);(simp only [n0,Nat.reduceAdd,nn];try rfl);simp only [zp,zq,z0,z1])|((with_reducible apply Qaz hp);exact rfl;exact zt rfl;exact ii;exact ii;(exact zio rfl);simp only [zp,zq,z0,z1])|((with_reducible apply Qat hp);exact zu rfl;simp only [zp,zq,z0,z1])|((with_reducible apply Qan hp);exact zb rfl;simp only [zp,zq,z0,z1])|((with_reducible apply Qai hp);exact rfl;(focus (intro _;go_simp;(try go_ints);try with_reducible rfl));simp only [zp,zq,z0,z1])))|(((with_reducible apply sd_l);exact zo rfl);(first|((with_reducible apply Qcq hq);(repeat (exact sb0));exact rfl;exact ii;exact rfl;clear hp hq;(try clear w1);intro g w1 hp hq;simp only [zp,zq,z0,z1])|((with_reducible apply Qao hp);exact rfl;(focus (intro _;go_simp;try first|with_reducible rfl|exact ⟨rfl,rfl⟩));(with_reducible first|exact fun w => S2.out w|exact fun w => M2.out w);exact hq;clear hp hq;(try clear w1);intro w1 hp hq;simp only [zp,zq,z0,z1])|((with_reducible apply Qar hq);exact rfl;exact zt rfl;(exact za rfl);exact rfl;(exact AggTy.size);exact rfl;exact ii;(simp only [n0,Nat.reduceAdd,nn];try rfl);(exact zl rfl);exact rfl;exact ii;(repeat (first|exact sb0|apply sb3));clear hp hq;(try clear w1);intro w1 hp hq)))|(with_reducible apply Qgi)|((with_reducible apply Qam);clear hp;have hp := hq;clear hq))
    all_goals (go_wp2_with fail;go_meet;exact ⟨_,rfl,rfl,hp⟩)
  case rest =>
  clear hp
  obtain ⟨g8,rfl,rfl,hp⟩ := hcut
  go_upto_region 3 with (fail)
  go_cut [10,11] (fun s1 s2 wx => ∃ g10,s1 = .pointer (some ⟨g10,0,none⟩) ∧ s2 = .bool f3 ∧ Hp [] w [⟨g10,28,[.int .u64 (lb (c) 0),.int .u64 (lb (c) 1),.int .u64 (lb (c) 2),.int .u64 (lb (c) 3),.int .u64 (lb (c) 4),.int .u64 (lb (c) 5),.int .u64 (lb (c) 6),.int .u64 (lb (c) 7)]⟩,⟨g8,28,[.int .u64 (lb (b) 0),.int .u64 (lb (b) 1),.int .u64 (lb (b) 2),.int .u64 (lb (b) 3),.int .u64 (lb (b) 4),.int .u64 (lb (b) 5),.int .u64 (lb (b) 6),.int .u64 (lb (b) 7)]⟩,⟨g6,28,[.int .u64 (lb (a) 0),.int .u64 (lb (a) 1),.int .u64 (lb (a) 2),.int .u64 (lb (a) 3),.int .u64 (lb (a) 4),.int .u64 (lb (a) 5),.int .u64 (lb (a) 6),.int .u64 (lb (a) 7)]⟩,⟨gr,28,[.int .u64 0,.int .u64 0,.int .u64 0,.int .u64 0,.int .u64 0,.int .u64 0,.int .u64 0,.int .u64 0]⟩,⟨gp,24,[.int .i64 p,.int .i64 q,.int .i64 r]⟩,⟨gn,30,[.int .u64 (lb (x) 0),.int .u64 (lb (x) 1),.int .u64 (lb (x) 2),.int .u64 (lb (x) 3),.int .u64 (lb (x) 4),.int .u64 (lb (x) 5),.int .u64 (lb (x) 6),.int .u64 (lb (x) 7),.int .u64 (lb (y) 0),.int .u64 (lb (y) 1),.int .u64 (lb (y) 2),.int .u64 (lb (y) 3),.int .u64 (lb (y) 4),.int .u64 (lb (y) 5),.int .u64 (lb (y) 6),.int .u64 (lb (y) 7),.int .u64 (lb (z) 0),.int .u64 (lb (z) 1),.int .u64 (lb (z) 2),.int .u64 (lb (z) 3),.int .u64 (lb (z) 4),.int .u64 (lb (z) 5),.int .u64 (lb (z) 6),.int .u64 (lb (z) 7)]⟩] wx)
  case first =>
    skip
    have hq := hp
    refine Qac hp hq [] (.q 0 (.q 1 (.q 2 (.q 3 (.b2 4 (.b2 5 (.q 6 (.q 7 (.q 8 (.l 9 (.l 10 (.q 11 .nil)))))) 9 (.l 5 (.q 6 (.q 7 (.q 8 (.l 10 (.q 11 .nil))))))) 9 (.l 4 (.l 5 (.q 6 (.q 7 (.q 8 (.l 10 (.q 11 .nil)))))))))))) (by kernel_rfl) (by kernel_rfl) ?_
    clear hp hq;(try clear w1);intro w1 hp hq
    repeat' (first|(((with_reducible apply sd_q);exact zo rfl);(first|((with_reducible apply Qah hp);exact rfl;exact zt rfl;exact ii;exact ii;(exact zl rfl);(simp only [n0,Nat.reduceAdd,nn];try rfl);simp only [zp,zq,z0,z1])|((with_reducible apply Qaz hp);exact rfl;exact zt rfl;exact ii;exact ii;(exact zio rfl);simp only [zp,zq,z0,z1])|((with_reducible apply Qat hp);exact zu rfl;simp only [zp,zq,z0,z1])|((with_reducible apply Qan hp);exact zb rfl;simp only [zp,zq,z0,z1])|((with_reducible apply Qai hp);exact rfl;(focus (intro _;go_simp;(try go_ints);try with_reducible rfl));simp only [zp,zq,z0,z1])))|(((with_reducible apply sd_l);exact zo rfl);(first|((with_reducible apply Qcq hq);(repeat (exact sb0));exact rfl;exact ii;exact rfl;clear hp hq;(try clear w1);intro g w1 hp hq;simp only [zp,zq,z0,z1])|((with_reducible apply Qao hp);exact rfl;(focus (intro _;go_simp;try first|with_reducible rfl|exact ⟨rfl,rfl⟩));(with_reducible first|exact fun w => S3.out w|exact fun w => M3.out w);exact hq;clear hp hq;(try clear w1);intro w1 hp hq;simp only [zp,zq,z0,z1])|((with_reducible apply Qar hq);exact rfl;exact zt rfl;(exact za rfl);exact rfl;(exact AggTy.size);exact rfl;exact ii;(simp only [n0,Nat.reduceAdd,nn];try rfl);(exact zl rfl);exact rfl;exact ii;(repeat (first|exact sb0|apply sb3));clear hp hq;(try clear w1);intro w1 hp hq)))|(with_reducible apply Qgi)|((with_reducible apply Qam);clear hp;have hp := hq;clear hq))
    all_goals (go_wp2_with fail;go_meet;exact ⟨_,rfl,rfl,hp⟩)
  case rest =>
  clear hp
  obtain ⟨g10,rfl,rfl,hp⟩ := hcut
  clear S1 S2 S3 M1 M2 M3
  cases f1
  · obtain rfl : v = .agg #[.int .u64 0,.int .u64 0,.int .u64 0,.int .u64 0,.int .u64 0,.int .u64 0,.int .u64 0,.int .u64 0] := hv
    obtain rfl : o = false := ho
    go_wp2_with (first|((with_reducible apply Qag hp);exact ii;exact rfl;clear hp;(try clear w1);intro g w1 hp;simp only [zp,zq,z0,z1])|((with_reducible apply Qab hp);exact zt rfl;exact ii;exact ii;(exact zl rfl);(simp only [n0,Nat.reduceAdd,nn];try rfl);simp only [zp,zq,z0,z1])|((with_reducible apply Qaf hp);exact zt rfl;exact za rfl;exact rfl;(exact AggTy.size);exact rfl;exact ii;(simp only [n0,Nat.reduceAdd,nn];try rfl);(exact zl rfl);exact rfl;exact ii;clear hp;(try clear w1);intro w1 hp)|((with_reducible first|refine Qae hp (A1.out _) ?_|refine Qae hp (A2.out _) ?_);clear hp;(try clear w1);intro w1 hp))
    exact bodyPost_ret (Qaq rfl ⟨_,rfl,Qad hp (Nat.le_of_ble_eq_true rfl)⟩ rfl) rfl ⟨rfl,hp.keep⟩
  cases f2
  · obtain rfl : v = .agg #[.int .u64 0,.int .u64 0,.int .u64 0,.int .u64 0,.int .u64 0,.int .u64 0,.int .u64 0,.int .u64 0] := hv
    obtain rfl : o = false := ho
    go_wp2_with (first|((with_reducible refine Qez ?_);(conv => whnf);refine Bx.mk ?_;(try simp only [zp,zq,z0,z1]))|((with_reducible apply Qag hp);exact ii;exact rfl;clear hp;(try clear w1);intro g w1 hp;simp only [zp,zq,z0,z1])|((with_reducible apply Qab hp);exact zt rfl;exact ii;exact ii;(exact zl rfl);(simp only [n0,Nat.reduceAdd,nn];try rfl);simp only [zp,zq,z0,z1])|((with_reducible apply Qaf hp);exact zt rfl;exact za rfl;exact rfl;(exact AggTy.size);exact rfl;exact ii;(simp only [n0,Nat.reduceAdd,nn];try rfl);(exact zl rfl);exact rfl;exact ii;clear hp;(try clear w1);intro w1 hp)|((with_reducible first|refine Qae hp (A1.out _) ?_|refine Qae hp (A2.out _) ?_);clear hp;(try clear w1);intro w1 hp))
    exact bodyPost_ret (Qaq rfl ⟨_,rfl,Qad hp (Nat.le_of_ble_eq_true rfl)⟩ rfl) rfl ⟨rfl,hp.keep⟩
  cases f3
  · obtain rfl : v = .agg #[.int .u64 0,.int .u64 0,.int .u64 0,.int .u64 0,.int .u64 0,.int .u64 0,.int .u64 0,.int .u64 0] := hv
    obtain rfl : o = false := ho
    go_wp2_with (first|((with_reducible refine Qez ?_);(conv => whnf);refine Bx.mk ?_;(try simp only [zp,zq,z0,z1]))|((with_reducible apply Qag hp);exact ii;exact rfl;clear hp;(try clear w1);intro g w1 hp;simp only [zp,zq,z0,z1])|((with_reducible apply Qab hp);exact zt rfl;exact ii;exact ii;(exact zl rfl);(simp only [n0,Nat.reduceAdd,nn];try rfl);simp only [zp,zq,z0,z1])|((with_reducible apply Qaf hp);exact zt rfl;exact za rfl;exact rfl;(exact AggTy.size);exact rfl;exact ii;(simp only [n0,Nat.reduceAdd,nn];try rfl);(exact zl rfl);exact rfl;exact ii;clear hp;(try clear w1);intro w1 hp)|((with_reducible first|refine Qae hp (A1.out _) ?_|refine Qae hp (A2.out _) ?_);clear hp;(try clear w1);intro w1 hp))
    exact bodyPost_ret (Qaq rfl ⟨_,rfl,Qad hp (Nat.le_of_ble_eq_true rfl)⟩ rfl) rfl ⟨rfl,hp.keep⟩
  cases f4
  · obtain rfl : v = .agg #[.int .u64 0,.int .u64 0,.int .u64 0,.int .u64 0,.int .u64 0,.int .u64 0,.int .u64 0,.int .u64 0] := hv
    obtain rfl : o = false := ho
    go_wp2_with (first|((with_reducible refine Qez ?_);(conv => whnf);refine Bx.mk ?_;(try simp only [zp,zq,z0,z1]))|((with_reducible apply Qag hp);exact ii;exact rfl;clear hp;(try clear w1);intro g w1 hp;simp only [zp,zq,z0,z1])|((with_reducible apply Qab hp);exact zt rfl;exact ii;exact ii;(exact zl rfl);(simp only [n0,Nat.reduceAdd,nn];try rfl);simp only [zp,zq,z0,z1])|((with_reducible apply Qaf hp);exact zt rfl;exact za rfl;exact rfl;(exact AggTy.size);exact rfl;exact ii;(simp only [n0,Nat.reduceAdd,nn];try rfl);(exact zl rfl);exact rfl;exact ii;clear hp;(try clear w1);intro w1 hp)|((with_reducible first|refine Qae hp (A1.out _) ?_|refine Qae hp (A2.out _) ?_);clear hp;(try clear w1);intro w1 hp))
    exact bodyPost_ret (Qaq rfl ⟨_,rfl,Qad hp (Nat.le_of_ble_eq_true rfl)⟩ rfl) rfl ⟨rfl,hp.keep⟩
  cases f5
  · obtain rfl : v = .agg #[.int .u64 0,.int .u64 0,.int .u64 0,.int .u64 0,.int .u64 0,.int .u64 0,.int .u64 0,.int .u64 0] := hv
    obtain rfl : o = false := ho
    go_wp2_with (first|((with_reducible refine Qez ?_);(conv => whnf);refine Bx.mk ?_;(try simp only [zp,zq,z0,z1]))|((with_reducible apply Qag hp);exact ii;exact rfl;clear hp;(try clear w1);intro g w1 hp;simp only [zp,zq,z0,z1])|((with_reducible apply Qab hp);exact zt rfl;exact ii;exact ii;(exact zl rfl);(simp only [n0,Nat.reduceAdd,nn];try rfl);simp only [zp,zq,z0,z1])|((with_reducible apply Qaf hp);exact zt rfl;exact za rfl;exact rfl;(exact AggTy.size);exact rfl;exact ii;(simp only [n0,Nat.reduceAdd,nn];try rfl);(exact zl rfl);exact rfl;exact ii;clear hp;(try clear w1);intro w1 hp)|((with_reducible first|refine Qae hp (A1.out _) ?_|refine Qae hp (A2.out _) ?_);clear hp;(try clear w1);intro w1 hp))
    exact bodyPost_ret (Qaq rfl ⟨_,rfl,Qad hp (Nat.le_of_ble_eq_true rfl)⟩ rfl) rfl ⟨rfl,hp.keep⟩
  · obtain rfl : v = W t := hv
    obtain rfl : o = true := ho
    go_wp2_with (first|((with_reducible refine Qez ?_);(conv => whnf);refine Bx.mk ?_;(try simp only [zp,zq,z0,z1]))|((with_reducible apply Qag hp);exact ii;exact rfl;clear hp;(try clear w1);intro g w1 hp;simp only [zp,zq,z0,z1])|((with_reducible apply Qab hp);exact zt rfl;exact ii;exact ii;(exact zl rfl);(simp only [n0,Nat.reduceAdd,nn];try rfl);simp only [zp,zq,z0,z1])|((with_reducible apply Qaf hp);exact zt rfl;exact za rfl;exact rfl;(exact AggTy.size);exact rfl;exact ii;(simp only [n0,Nat.reduceAdd,nn];try rfl);(exact zl rfl);exact rfl;exact ii;clear hp;(try clear w1);intro w1 hp)|((with_reducible first|refine Qae hp (A1.out _) ?_|refine Qae hp (A2.out _) ?_);clear hp;(try clear w1);intro w1 hp))
    exact bodyPost_ret (Qaq rfl ⟨_,rfl,Qad hp (Nat.le_of_ble_eq_true rfl)⟩ rfl) rfl ⟨rfl,hp.keep⟩
theorem Qca (n : Int) : Fit (fz n) := by
  unfold fz
  split
  · assumption
  · exact Qbs
theorem ralong_num (a b c : Int) : (((if Fit a ∧ Fit a then some a else none).bind fun s => if Fit b ∧ Fit (s + b) then some (s + b) else none).bind fun s => if Fit c ∧ Fit (s + c) then some (s + c) else none).getD 0 =
    if decide (Fit a) && (decide (Fit b) && (decide (Fit c) && (decide (Fit (fz a + fz b)) && decide (Fit (fz (fz a + fz b) + fz c))))) then fz (fz (fz a + fz b) + fz c) else 0 := by
  by_cases h1 : Fit a
  · by_cases h2 : Fit b
    · by_cases h3 : Fit c
      · by_cases h4 : Fit (a + b)
        · by_cases h5 : Fit (a + b + c)
          · simp [fz,h1,h2,h3,h4,h5]
          · simp [fz,h1,h2,h3,h4,h5]
        · simp [fz,h1,h2,h3,h4]
      · by_cases h4 : Fit (a + b)
        · simp [fz,h1,h2,h3,h4]
        · simp [fz,h1,h2,h3,h4]
    · simp [h1,h2]
  · simp [h1]
theorem ralong_ok (a b c : Int) : (((if Fit a ∧ Fit a then some a else none).bind fun s => if Fit b ∧ Fit (s + b) then some (s + b) else none).bind fun s => if Fit c ∧ Fit (s + c) then some (s + c) else none).isSome =
    (decide (Fit a) && (decide (Fit b) && (decide (Fit c) && (decide (Fit (fz a + fz b)) && decide (Fit (fz (fz a + fz b) + fz c)))))) := by
  by_cases h1 : Fit a
  · by_cases h2 : Fit b
    · by_cases h3 : Fit c
      · by_cases h4 : Fit (a + b)
        · by_cases h5 : Fit (a + b + c)
          · simp [fz,h1,h2,h3,h4,h5]
          · simp [fz,h1,h2,h3,h4,h5]
        · simp [fz,h1,h2,h3,h4]
      · by_cases h4 : Fit (a + b)
        · simp [fz,h1,h2,h3,h4]
        · simp [fz,h1,h2,h3,h4]
    · simp [h1,h2]
  · simp [h1]
theorem ralong_any (x y z p q r : Int) (hx : Fit x) (hy : Fit y) (hz : Fit z) (hp : I64 p) (hq : I64 q) (hr : I64 r) (w : World) : Calls Try.prog 29 #[Sv x y z,Pv p q r] w
    (Ret (.tuple #[W ((acc (nth x y z) (nth p q r) [0,1,2]).getD 0),.bool (acc (nth x y z) (nth p q r) [0,1,2]).isSome]) w) := by
  refine Qob x y z p q r (fz (x * p)) (fz (y * q)) (fz (z * r)) (fz (fz (x * p) + fz (y * q))) (fz (fz (fz (x * p) + fz (y * q)) + fz (z * r))) _
    (decide (Fit (x * p))) (decide (Fit (y * q))) (decide (Fit (z * r))) (decide (Fit (fz (x * p) + fz (y * q)))) (decide (Fit (fz (fz (x * p) + fz (y * q)) + fz (z * r)))) _ ?_ ?_
    (Lib.hid fun w => Qgv p hp w) (Lib.hid fun w => Qgv q hq w) (Lib.hid fun w => Qgv r hr w)
    (Lib.hid fun w => Qhp _ _ hx (Qdz hp) w) (Lib.hid fun w => Qhp _ _ hy (Qdz hq) w) (Lib.hid fun w => Qhp _ _ hz (Qdz hr) w)
    (Lib.hid fun w => Qln _ _ (Qca _) (Qca _) w) (Lib.hid fun w => Qln _ _ (Qca _) (Qca _) w) w
  · simp only [acc,List.foldl_cons,List.foldl_nil,step,nth,Option.bind_some,Int.zero_add]
    refine (congrArg W (ralong_num _ _ _)).trans ?_
    split
    · rfl
    · exact Qej
  · simp only [acc,List.foldl_cons,List.foldl_nil,step,nth,Option.bind_some,Int.zero_add]
    exact ralong_ok _ _ _
end Go.Proofs.Ytdfdmeoalbpcdaa
