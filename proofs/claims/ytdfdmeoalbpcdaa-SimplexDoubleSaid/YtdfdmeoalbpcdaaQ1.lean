/-
  ninepinlaw15.small (contract).
-/
import Derived.Test.YtdfdmeoalbpcdaaQu
import Derived.Test.YtdfdmeoalbpcdaaLl
set_option linter.unusedSimpArgs false
set_option linter.unusedVariables false
set_option maxRecDepth 100000
namespace Go.Proofs.Ytdfdmeoalbpcdaa
open Go Go.RowKit
attribute [local irreducible] wpList
set_option maxHeartbeats 4000000 in
theorem small_none (x y z d : Int) (sv : Value) (hd : eqb d 1 = true) (w : World) (PR : Hid (∀ w1,Calls Try.prog 41 #[Sv x y z] w1 (Ret (.tuple #[Sv 0 0 0,.bool false]) w1))) : Calls Try.prog 21 #[NrV x y z d sv] w (Ret (.bool true) w) := by
  have O1 := Lib.hid (Qkc 1 (by unfold I64;omega))
  unfold eqb at hd
  go_enter Try.func21,Try.ntmps21
  have hp := Hp.start [] w
  go_upto_region 3 with (first|((with_reducible apply Qaw hp);exact za rfl;exact rfl;clear hp;(try clear w1);intro g w1 hp;simp only [zp,zq,z0,z1])|((with_reducible apply Qae hp);exact ii;exact rfl;clear hp;(try clear w1);intro g w1 hp;simp only [zp,zq,z0,z1])|((with_reducible apply Qaa hp);exact zt rfl;exact ii;exact ii;(exact zl rfl);(simp only [n0,Nat.reduceAdd,nn];try rfl);simp only [zp,zq,z0,z1])|((with_reducible apply Qad hp);exact zt rfl;exact za rfl;exact rfl;(exact AggTy.size);exact rfl;exact ii;(simp only [n0,Nat.reduceAdd,nn];try rfl);(exact zl rfl);exact rfl;exact ii;clear hp;(try clear w1);intro w1 hp)|((with_reducible refine Qah hp (PR.out _) ?_);clear hp;(try clear w1);intro w1 hp))
  have hq := hp
  refine Qac hp hq [] (.q 0 (.q 1 (.l 2 (.q 3 (.q 4 .nil))))) (by kernel_rfl) (by kernel_rfl) ?_
  clear hp hq;(try clear w1);intro w1 hp hq
  repeat' (first|(((with_reducible apply sd_q);exact zo rfl);(first|((with_reducible apply Qaf hp);exact rfl;exact zt rfl;exact ii;exact ii;(exact zl rfl);(simp only [n0,Nat.reduceAdd,nn];try rfl);simp only [zp,zq,z0,z1])|((with_reducible apply Qas hp);exact zb rfl;simp only [zp,zq,z0,z1])|((with_reducible apply Qaj hp);exact rfl;(focus (intro _;go_simp;(try go_ints);try with_reducible rfl));simp only [zp,zq,z0,z1])))|(((with_reducible apply sd_l);exact zo rfl);((with_reducible apply Qap hp);exact rfl;(focus (intro _;go_simp;try first|with_reducible rfl|exact ⟨rfl,rfl⟩));(with_reducible exact fun w => O1.out w);exact hq;clear hp hq;(try clear w1);intro w1 hp hq;simp only [zp,zq,z0,z1]))|((with_reducible apply Qam);clear hp;have hp := hq;clear hq))
  go_wp2_with (fail)
  exact bodyPost_ret (Qab rfl rfl) rfl ⟨rfl,hp.keep⟩
/-- A number's sign, where it is not 0. -/
theorem Qob (n : Int) : n = 0 ∧ sgn n = 0 ∨ n ≠ 0 ∧ (sgn n = 1 ∨ sgn n = -1) := by
  unfold sgn
  split
  · right;exact ⟨by omega,.inr rfl⟩
  · split
    · left;exact ⟨by omega,rfl⟩
    · right;exact ⟨by omega,.inl rfl⟩
set_option maxHeartbeats 8000000 in
theorem small_core (x y z d p q r gg k1 x1 k2 x2 : Int) (sv : Value) (s0 s1 : Int)
    (H1 : Hid (p = 0 ∧ s0 = 0 ∧ k1 = y ∧ x1 = q ∨ (s0 = 1 ∨ s0 = -1) ∧ k1 = x ∧ x1 = p)) (H2 : Hid (x1 = 0 ∧ s1 = 0 ∧ k2 = z ∧ x2 = r ∨ (s1 = 1 ∨ s1 = -1) ∧ k2 = k1 ∧ x2 = x1)) (w : World)
    (PR : Hid (∀ w1,Calls Try.prog 41 #[Sv x y z] w1 (Ret (.tuple #[Sv p q r,.bool true]) w1)))
    (S1 : Hid (∀ w1,Calls Try.prog 20 #[W p] w1 (Ret (.int .i64 s0) w1))) (S2 : Hid (∀ w1,Calls Try.prog 20 #[W x1] w1 (Ret (.int .i64 s1) w1)))
    (DV : Hid (∀ w1,Calls Try.prog 33 #[W k2,W x2] w1 (Ret (.tuple #[W gg,W 0,.bool true]) w1))) (hg : 0 < gg) (hgf : Fit gg) (hd : 0 < d) (hdf : Fit d) (hgd : cg gg d = 1) :
    Calls Try.prog 21 #[NrV x y z d sv] w (Ret (.bool true) w) := by
  have O1 := Lib.hid (Qkc 1 (by unfold I64;omega))
  have HG := Lib.hid (And.intro hg (And.intro hgf (And.intro hd (And.intro hdf hgd))))
  clear hg hgf hd hdf hgd
  go_enter Try.func21,Try.ntmps21
  have hp := Hp.start [] w
  go_upto_region 4 with (first|((with_reducible apply Qaw hp);exact za rfl;exact rfl;clear hp;(try clear w1);intro g w1 hp;simp only [zp,zq,z0,z1])|((with_reducible apply Qae hp);exact ii;exact rfl;clear hp;(try clear w1);intro g w1 hp;simp only [zp,zq,z0,z1])|((with_reducible apply Qaa hp);exact zt rfl;exact ii;exact ii;(exact zl rfl);(simp only [n0,Nat.reduceAdd,nn];try rfl);simp only [zp,zq,z0,z1])|((with_reducible apply Qad hp);exact zt rfl;exact za rfl;exact rfl;(exact AggTy.size);exact rfl;exact ii;(simp only [n0,Nat.reduceAdd,nn];try rfl);(exact zl rfl);exact rfl;exact ii;clear hp;(try clear w1);intro w1 hp)|((with_reducible refine Qah hp (PR.out _) ?_);clear hp;(try clear w1);intro w1 hp))
  rename_i gN K hK
  obtain ⟨gP,rfl⟩ : ∃ u : Nat,u = g := ⟨_,rfl⟩
  go_cut [5,6] (fun s5 s6 wx => ∃ ga gb,s5 = .pointer (some ⟨ga,0,none⟩) ∧ s6 = .pointer (some ⟨gb,0,none⟩) ∧ Hp [] w [⟨gb,28,[.int .u64 (lb (p) 0),.int .u64 (lb (p) 1),.int .u64 (lb (p) 2),.int .u64 (lb (p) 3),.int .u64 (lb (p) 4),.int .u64 (lb (p) 5),.int .u64 (lb (p) 6),.int .u64 (lb (p) 7)]⟩,⟨ga,28,[.int .u64 (lb (x) 0),.int .u64 (lb (x) 1),.int .u64 (lb (x) 2),.int .u64 (lb (x) 3),.int .u64 (lb (x) 4),.int .u64 (lb (x) 5),.int .u64 (lb (x) 6),.int .u64 (lb (x) 7)]⟩,⟨gP,30,[.int .u64 (lb (p) 0),.int .u64 (lb (p) 1),.int .u64 (lb (p) 2),.int .u64 (lb (p) 3),.int .u64 (lb (p) 4),.int .u64 (lb (p) 5),.int .u64 (lb (p) 6),.int .u64 (lb (p) 7),.int .u64 (lb (q) 0),.int .u64 (lb (q) 1),.int .u64 (lb (q) 2),.int .u64 (lb (q) 3),.int .u64 (lb (q) 4),.int .u64 (lb (q) 5),.int .u64 (lb (q) 6),.int .u64 (lb (q) 7),.int .u64 (lb (r) 0),.int .u64 (lb (r) 1),.int .u64 (lb (r) 2),.int .u64 (lb (r) 3),.int .u64 (lb (r) 4),.int .u64 (lb (r) 5),.int .u64 (lb (r) 6),.int .u64 (lb (r) 7)]⟩,⟨gN,33,[.int .u64 (lb (x) 0),.int .u64 (lb (x) 1),.int .u64 (lb (x) 2),.int .u64 (lb (x) 3),.int .u64 (lb (x) 4),.int .u64 (lb (x) 5),.int .u64 (lb (x) 6),.int .u64 (lb (x) 7),.int .u64 (lb (y) 0),.int .u64 (lb (y) 1),.int .u64 (lb (y) 2),.int .u64 (lb (y) 3),.int .u64 (lb (y) 4),.int .u64 (lb (y) 5),.int .u64 (lb (y) 6),.int .u64 (lb (y) 7),.int .u64 (lb (z) 0),.int .u64 (lb (z) 1),.int .u64 (lb (z) 2),.int .u64 (lb (z) 3),.int .u64 (lb (z) 4),.int .u64 (lb (z) 5),.int .u64 (lb (z) 6),.int .u64 (lb (z) 7),.int .u64 (lb (d) 0),.int .u64 (lb (d) 1),.int .u64 (lb (d) 2),.int .u64 (lb (d) 3),.int .u64 (lb (d) 4),.int .u64 (lb (d) 5),.int .u64 (lb (d) 6),.int .u64 (lb (d) 7),sv]⟩] wx)
  case first =>
    skip
    have hq := hp
    refine Qac hp hq [8] (.q 0 (.q 1 (.q 2 (.q 3 (.q 4 (.b2 5 (.l 6 (.l 7 (.l 8 .nil))) 6 (.l 5 (.l 7 (.l 8 .nil))))))))) (by kernel_rfl) (by kernel_rfl) ?_
    clear hp hq;(try clear w1);intro w1 hp hq
    repeat' (first|(((with_reducible apply sd_q);exact zo rfl);(first|((with_reducible apply Qaf hp);exact rfl;exact zt rfl;exact ii;exact ii;(exact zl rfl);(simp only [n0,Nat.reduceAdd,nn];try rfl);simp only [zp,zq,z0,z1])|((with_reducible apply Qaj hp);exact rfl;(focus (intro _;go_simp;(try go_ints);try with_reducible rfl));simp only [zp,zq,z0,z1])))|(((with_reducible apply sd_l);exact zo rfl);(first|((with_reducible apply Qdv hq);(repeat (first|exact sb0|apply sb3));exact rfl;exact ii;exact rfl;clear hp hq;(try clear w1);intro g w1 hp hq;simp only [zp,zq,z0,z1])|((with_reducible apply Qao hq);exact rfl;exact zt rfl;(exact za rfl);exact rfl;(exact AggTy.size);exact rfl;exact ii;(simp only [n0,Nat.reduceAdd,nn];try rfl);(exact zl rfl);exact rfl;exact ii;(repeat (first|exact sb0|apply sb3));clear hp hq;(try clear w1);intro w1 hp hq)))|(with_reducible apply Qjk)|((with_reducible apply Qam);clear hp;have hp := hq;clear hq))
    all_goals (go_wp2_with fail;go_meet;exact ⟨_,_,rfl,rfl,hp.perm (by first|exact pm0|exact .swap _ _ _)⟩)
  case rest =>
    clear hp PR
    obtain ⟨ga,gb,rfl,rfl,hp⟩ := hcut
    go_upto_if 33 with (first|((with_reducible apply Qaa hp);exact zt rfl;exact ii;exact ii;(exact zl rfl);(simp only [n0,Nat.reduceAdd,nn];try rfl);simp only [zp,zq,z0,z1])|((with_reducible refine Qah hp (S1.out _) ?_);clear hp;(try clear w1);intro w1 hp))
    go_cut [] (fun wx => Hp [] w [⟨gb,28,[.int .u64 (lb (x1) 0),.int .u64 (lb (x1) 1),.int .u64 (lb (x1) 2),.int .u64 (lb (x1) 3),.int .u64 (lb (x1) 4),.int .u64 (lb (x1) 5),.int .u64 (lb (x1) 6),.int .u64 (lb (x1) 7)]⟩,⟨ga,28,[.int .u64 (lb (k1) 0),.int .u64 (lb (k1) 1),.int .u64 (lb (k1) 2),.int .u64 (lb (k1) 3),.int .u64 (lb (k1) 4),.int .u64 (lb (k1) 5),.int .u64 (lb (k1) 6),.int .u64 (lb (k1) 7)]⟩,⟨gP,30,[.int .u64 (lb (p) 0),.int .u64 (lb (p) 1),.int .u64 (lb (p) 2),.int .u64 (lb (p) 3),.int .u64 (lb (p) 4),.int .u64 (lb (p) 5),.int .u64 (lb (p) 6),.int .u64 (lb (p) 7),.int .u64 (lb (q) 0),.int .u64 (lb (q) 1),.int .u64 (lb (q) 2),.int .u64 (lb (q) 3),.int .u64 (lb (q) 4),.int .u64 (lb (q) 5),.int .u64 (lb (q) 6),.int .u64 (lb (q) 7),.int .u64 (lb (r) 0),.int .u64 (lb (r) 1),.int .u64 (lb (r) 2),.int .u64 (lb (r) 3),.int .u64 (lb (r) 4),.int .u64 (lb (r) 5),.int .u64 (lb (r) 6),.int .u64 (lb (r) 7)]⟩,⟨gN,33,[.int .u64 (lb (x) 0),.int .u64 (lb (x) 1),.int .u64 (lb (x) 2),.int .u64 (lb (x) 3),.int .u64 (lb (x) 4),.int .u64 (lb (x) 5),.int .u64 (lb (x) 6),.int .u64 (lb (x) 7),.int .u64 (lb (y) 0),.int .u64 (lb (y) 1),.int .u64 (lb (y) 2),.int .u64 (lb (y) 3),.int .u64 (lb (y) 4),.int .u64 (lb (y) 5),.int .u64 (lb (y) 6),.int .u64 (lb (y) 7),.int .u64 (lb (z) 0),.int .u64 (lb (z) 1),.int .u64 (lb (z) 2),.int .u64 (lb (z) 3),.int .u64 (lb (z) 4),.int .u64 (lb (z) 5),.int .u64 (lb (z) 6),.int .u64 (lb (z) 7),.int .u64 (lb (d) 0),.int .u64 (lb (d) 1),.int .u64 (lb (d) 2),.int .u64 (lb (d) 3),.int .u64 (lb (d) 4),.int .u64 (lb (d) 5),.int .u64 (lb (d) 6),.int .u64 (lb (d) 7),sv]⟩] wx)
    case first =>
      rcases H1.out with ⟨rfl,rfl,rfl,rfl⟩|⟨rfl|rfl,rfl,rfl⟩
      · go_upto_region 6 with fail
        have hq := hp
        clear hp
        have hp := hq.sub (((List.Sublist.refl _).cons _).cons _)
        refine Qac hp hq [6] (.q 0 (.q 1 (.q 2 (.q 3 (.q 4 (.l 5 (.l 6 .nil))))))) (by kernel_rfl) (by kernel_rfl) ?_
        clear hp hq;(try clear w1);intro w1 hp hq
        repeat' (first|(((with_reducible apply sd_q);exact zo rfl);(first|((with_reducible apply Qaf hp);exact rfl;exact zt rfl;exact ii;exact ii;(exact zl rfl);(simp only [n0,Nat.reduceAdd,nn];try rfl);simp only [zp,zq,z0,z1])|((with_reducible apply Qaj hp);exact rfl;(focus (intro _;go_simp;(try go_ints);try with_reducible rfl));simp only [zp,zq,z0,z1])))|(((with_reducible apply sd_l);exact zo rfl);((with_reducible apply Qao hq);exact rfl;exact zt rfl;(exact za rfl);exact rfl;(exact AggTy.size);exact rfl;exact ii;(simp only [n0,Nat.reduceAdd,nn];try rfl);(exact zl rfl);exact rfl;exact ii;(repeat (first|exact sb0|apply sb3));clear hp hq;(try clear w1);intro w1 hp hq))|((with_reducible apply Qam);clear hp;have hp := hq;clear hq))
        go_wp2_with fail
        go_meet
        exact hp
      · go_wp2_with fail
        go_meet
        exact hp
      · go_wp2_with fail
        go_meet
        exact hp
    case rest =>
      clear hp S1 H1
      have hp := hcut
      clear hcut
      go_upto_if 41 with (first|((with_reducible apply Qaa hp);exact zt rfl;exact ii;exact ii;(exact zl rfl);(simp only [n0,Nat.reduceAdd,nn];try rfl);simp only [zp,zq,z0,z1])|((with_reducible refine Qah hp (S2.out _) ?_);clear hp;(try clear w1);intro w1 hp))
      go_cut [] (fun wx => Hp [] w [⟨gb,28,[.int .u64 (lb (x2) 0),.int .u64 (lb (x2) 1),.int .u64 (lb (x2) 2),.int .u64 (lb (x2) 3),.int .u64 (lb (x2) 4),.int .u64 (lb (x2) 5),.int .u64 (lb (x2) 6),.int .u64 (lb (x2) 7)]⟩,⟨ga,28,[.int .u64 (lb (k2) 0),.int .u64 (lb (k2) 1),.int .u64 (lb (k2) 2),.int .u64 (lb (k2) 3),.int .u64 (lb (k2) 4),.int .u64 (lb (k2) 5),.int .u64 (lb (k2) 6),.int .u64 (lb (k2) 7)]⟩,⟨gP,30,[.int .u64 (lb (p) 0),.int .u64 (lb (p) 1),.int .u64 (lb (p) 2),.int .u64 (lb (p) 3),.int .u64 (lb (p) 4),.int .u64 (lb (p) 5),.int .u64 (lb (p) 6),.int .u64 (lb (p) 7),.int .u64 (lb (q) 0),.int .u64 (lb (q) 1),.int .u64 (lb (q) 2),.int .u64 (lb (q) 3),.int .u64 (lb (q) 4),.int .u64 (lb (q) 5),.int .u64 (lb (q) 6),.int .u64 (lb (q) 7),.int .u64 (lb (r) 0),.int .u64 (lb (r) 1),.int .u64 (lb (r) 2),.int .u64 (lb (r) 3),.int .u64 (lb (r) 4),.int .u64 (lb (r) 5),.int .u64 (lb (r) 6),.int .u64 (lb (r) 7)]⟩,⟨gN,33,[.int .u64 (lb (x) 0),.int .u64 (lb (x) 1),.int .u64 (lb (x) 2),.int .u64 (lb (x) 3),.int .u64 (lb (x) 4),.int .u64 (lb (x) 5),.int .u64 (lb (x) 6),.int .u64 (lb (x) 7),.int .u64 (lb (y) 0),.int .u64 (lb (y) 1),.int .u64 (lb (y) 2),.int .u64 (lb (y) 3),.int .u64 (lb (y) 4),.int .u64 (lb (y) 5),.int .u64 (lb (y) 6),.int .u64 (lb (y) 7),.int .u64 (lb (z) 0),.int .u64 (lb (z) 1),.int .u64 (lb (z) 2),.int .u64 (lb (z) 3),.int .u64 (lb (z) 4),.int .u64 (lb (z) 5),.int .u64 (lb (z) 6),.int .u64 (lb (z) 7),.int .u64 (lb (d) 0),.int .u64 (lb (d) 1),.int .u64 (lb (d) 2),.int .u64 (lb (d) 3),.int .u64 (lb (d) 4),.int .u64 (lb (d) 5),.int .u64 (lb (d) 6),.int .u64 (lb (d) 7),sv]⟩] wx)
      case first =>
        rcases H2.out with ⟨rfl,rfl,rfl,rfl⟩|⟨rfl|rfl,rfl,rfl⟩
        · go_upto_region 8 with fail
          have hq := hp
          clear hp
          have hp := hq.sub (((List.Sublist.refl _).cons _).cons _)
          refine Qac hp hq [6] (.q 0 (.q 1 (.q 2 (.q 3 (.q 4 (.l 5 (.l 6 .nil))))))) (by kernel_rfl) (by kernel_rfl) ?_
          clear hp hq;(try clear w1);intro w1 hp hq
          repeat' (first|(((with_reducible apply sd_q);exact zo rfl);(first|((with_reducible apply Qaf hp);exact rfl;exact zt rfl;exact ii;exact ii;(exact zl rfl);(simp only [n0,Nat.reduceAdd,nn];try rfl);simp only [zp,zq,z0,z1])|((with_reducible apply Qaj hp);exact rfl;(focus (intro _;go_simp;(try go_ints);try with_reducible rfl));simp only [zp,zq,z0,z1])))|(((with_reducible apply sd_l);exact zo rfl);((with_reducible apply Qao hq);exact rfl;exact zt rfl;(exact za rfl);exact rfl;(exact AggTy.size);exact rfl;exact ii;(simp only [n0,Nat.reduceAdd,nn];try rfl);(exact zl rfl);exact rfl;exact ii;(repeat (first|exact sb0|apply sb3));clear hp hq;(try clear w1);intro w1 hp hq))|((with_reducible apply Qam);clear hp;have hp := hq;clear hq))
          go_wp2_with fail
          go_meet
          exact hp
        · go_wp2_with fail
          go_meet
          exact hp
        · go_wp2_with fail
          go_meet
          exact hp
      case rest =>
        clear hp S2 H2
        have hp := hcut
        clear hcut
        go_wp2_with (first|((with_reducible apply Qae hp);exact ii;exact rfl;clear hp;(try clear w1);intro g w1 hp;simp only [zp,zq,z0,z1])|((with_reducible apply Qaa hp);exact zt rfl;exact ii;exact ii;(exact zl rfl);(simp only [n0,Nat.reduceAdd,nn];try rfl);simp only [zp,zq,z0,z1])|((with_reducible apply Qad hp);exact zt rfl;exact za rfl;exact rfl;(exact AggTy.size);exact rfl;exact ii;(simp only [n0,Nat.reduceAdd,nn];try rfl);(exact zl rfl);exact rfl;exact ii;clear hp;(try clear w1);intro w1 hp)|((with_reducible refine Qah hp (DV.out _) ?_);clear hp;(try clear w1);intro w1 hp))
        rename_i g7 g8 K10 hK10
        obtain ⟨gA,rfl⟩ : ∃ u : Nat,u = g := ⟨_,rfl⟩
        go_loopw [] (fun wr => ∃ a b : Int,Fit a ∧ Fit b ∧ 0 ≤ a ∧ 0 ≤ b ∧ cg a b = 1 ∧ Hp [] w [⟨gA,28,[.int .u64 (lb (b) 0),.int .u64 (lb (b) 1),.int .u64 (lb (b) 2),.int .u64 (lb (b) 3),.int .u64 (lb (b) 4),.int .u64 (lb (b) 5),.int .u64 (lb (b) 6),.int .u64 (lb (b) 7)]⟩,⟨g7,28,[.int .u64 (lb (a) 0),.int .u64 (lb (a) 1),.int .u64 (lb (a) 2),.int .u64 (lb (a) 3),.int .u64 (lb (a) 4),.int .u64 (lb (a) 5),.int .u64 (lb (a) 6),.int .u64 (lb (a) 7)]⟩] wr) (fun wr => bval gA wr)
        case atStart =>
          obtain ⟨h1,h2,h3,h4,h5⟩ := HG.out
          exact ⟨gg,d,h2,h4,by omega,by omega,h5,hp.sub (by repeat (first|exact sb1|apply sb2|apply sb3))⟩
        case round =>
          clear hp
          obtain ⟨a,b,hx,hy,hx0,hy0,hg,hp⟩ := hrel
          have HX := Lib.hid hx
          have HY := Lib.hid hy
          have HC := Lib.hid hg
          have hs := Qbu b hy
          by_cases h0 : b = 0
          · rw [h0,show sgn 0 = 0 from rfl] at hs
            have e : a = 1 := by rw [← hg,h0,Qfc hx0]
            have S := Lib.hid hs
            subst e
            subst h0
            clear hx hy hg hs HX HY HC hx0 hy0
            go_upto_region 14 with (first|((with_reducible apply Qaa hp);exact zt rfl;exact ii;exact ii;(exact zl rfl);(simp only [n0,Nat.reduceAdd,nn];try rfl);simp only [zp,zq,z0,z1])|((with_reducible refine Qah hp (S.out _) ?_);clear hp;(try clear w1);intro w1 hp))
            have hq := hp
            refine Qac hp hq [] (.q 0 (.l 1 (.q 2 (.q 3 .nil)))) (by kernel_rfl) (by kernel_rfl) ?_
            clear hp hq;(try clear w1);intro w1 hp hq
            repeat' (first|(((with_reducible apply sd_q);exact zo rfl);(first|((with_reducible apply Qaf hp);exact rfl;exact zt rfl;exact ii;exact ii;(exact zl rfl);(simp only [n0,Nat.reduceAdd,nn];try rfl);simp only [zp,zq,z0,z1])|((with_reducible apply Qas hp);exact zb rfl;simp only [zp,zq,z0,z1])|((with_reducible apply Qaj hp);exact rfl;(focus (intro _;go_simp;(try go_ints);try with_reducible rfl));simp only [zp,zq,z0,z1])))|(((with_reducible apply sd_l);exact zo rfl);((with_reducible apply Qap hp);exact rfl;(focus (intro _;go_simp;try first|with_reducible rfl|exact ⟨rfl,rfl⟩));(with_reducible exact fun w => O1.out w);exact hq;clear hp hq;(try clear w1);intro w1 hp hq;simp only [zp,zq,z0,z1]))|((with_reducible apply Qam);clear hp;have hp := hq;clear hq))
            go_wp2_with (fail)
            exact bodyPost_ret (Qab rfl rfl) rfl ⟨rfl,hp.keep⟩
          · have h1 : sgn b = 1 := by unfold sgn;rw [if_neg (by omega),if_neg h0]
            rw [h1] at hs
            have S := Lib.hid hs
            have hm := Qcl (g := gA) (y := b) hp hy0 (by unfold Fit M511 at hy;unfold M512;omega)
            have hok : dvok a b := ⟨h0,by unfold fq Fit at *;rw [if_neg (by omega)];have := Int.ediv_nonneg hx0 hy0;have := Int.ediv_le_self b hx0;omega⟩
            have hr : dvr a b = a % b := by
              unfold dvr
              rw [if_pos hok]
              exact (Qfh (q := a / b) (by have := Int.mul_ediv_add_emod a b;rw [Int.mul_comm] at this;omega) (.inl ⟨by omega,Int.emod_nonneg _ h0,Int.emod_lt_of_pos _ (by omega)⟩)).2
            have hd := Qdn a b hx hy
            rw [hr] at hd
            have HD := Lib.hid hd
            have HM := Lib.hid hm
            have HY0 := Lib.hid h0
            clear hd hr hok hm h0 h1 hs hx hy hg
            go_upto_region 13 with (first|((with_reducible apply Qae hp);exact ii;exact rfl;clear hp;(try clear w1);intro g w1 hp;simp only [zp,zq,z0,z1])|((with_reducible apply Qaa hp);exact zt rfl;exact ii;exact ii;(exact zl rfl);(simp only [n0,Nat.reduceAdd,nn];try rfl);simp only [zp,zq,z0,z1])|((with_reducible apply Qad hp);exact zt rfl;exact za rfl;exact rfl;(exact AggTy.size);exact rfl;exact ii;(simp only [n0,Nat.reduceAdd,nn];try rfl);(exact zl rfl);exact rfl;exact ii;clear hp;(try clear w1);intro w1 hp)|((with_reducible first|refine Qah hp (S.out _) ?_|refine Qah hp (HD.out _) ?_);clear hp;(try clear w1);intro w1 hp))
            have hq := hp
            clear hp
            have hp := hq.sub (.cons_cons _ (List.nil_sublist _))
            refine Qac hp hq [3] (.q 1 (.l 0 (.l 2 (.l 3 .nil)))) (by kernel_rfl) (by kernel_rfl) ?_
            clear hp hq;(try clear w1);intro w1 hp hq
            repeat' (first|(((with_reducible apply sd_q);exact zo rfl);((with_reducible apply Qaf hp);exact rfl;exact zt rfl;exact ii;exact ii;(exact zl rfl);(simp only [n0,Nat.reduceAdd,nn];try rfl);simp only [zp,zq,z0,z1]))|(((with_reducible apply sd_l);exact zo rfl);(first|((with_reducible apply Qao hq);exact rfl;exact zt rfl;(exact za rfl);exact rfl;(exact AggTy.size);exact rfl;exact ii;(simp only [n0,Nat.reduceAdd,nn];try rfl);(exact zl rfl);exact rfl;exact ii;(repeat (first|exact sb1|apply sb2));clear hp hq;(try clear w1);intro w1 hp hq)|((with_reducible apply Qdd hp hq);exact rfl;exact zt rfl;exact ii;exact ii;(exact zl rfl);(simp only [n0,Nat.reduceAdd,nn];try rfl);simp only [zp,zq,z0,z1])))|((with_reducible apply Qam);clear hp;have hp := hq;clear hq))
            go_wp2
            go_roundw
            case rel =>
              have := Int.emod_lt_of_pos a (show 0 < b by have := HY0.out;omega)
              have h2 := Int.emod_nonneg a HY0.out
              refine ⟨b,a % b,HY.out,?_,hy0,h2,?_,?_⟩
              · have := HY.out
                unfold Fit at *;omega
              · rw [Qfk hx0 (by have := HY0.out;omega)];exact HC.out
              · exact hp.sub (by repeat (first|exact sb0|apply sb3))
            case measure =>
              have h1 := Int.emod_lt_of_pos a (show 0 < b by have := HY0.out;omega)
              have h2 := Int.emod_nonneg a HY0.out
              have h3 := HY.out
              rw [HM.out,Qcl (g := gA) (y := a % b) hp h2 (by unfold Fit M511 at h3;unfold M512;omega)]
              omega
end Go.Proofs.Ytdfdmeoalbpcdaa
