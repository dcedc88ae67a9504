/-
  ninepinlaw15: places, twice (contracts).
-/
import Derived.Test.YtdfdmeoalbpcdaaQu
set_option linter.unusedSimpArgs false
set_option linter.unusedVariables false
set_option maxRecDepth 100000
namespace Go.Proofs.Ytdfdmeoalbpcdaa
open Go Go.RowKit
attribute [local irreducible] wpList
set_option maxHeartbeats 2000000 in
theorem places_eq (l : List Int) (n : Nat) (hn : n = l.length) (hlen : n ≤ 4) (ga gb ca cb : Nat) (bca bcb : List Value) (ja jb : List Value) (w : World) (ha : w.heap[ga]? = some (.cells bca.toArray 3 (0,0))) (hb : w.heap[gb]? = some (.cells bcb.toArray 3 (0,0))) (Ha : Hid (bca = l.map (Value.int .i64) ++ ja)) (Hb : Hid (bcb = l.map (Value.int .i64) ++ jb)) : Calls Try.prog 18 #[.slice (some ⟨ga,0,none⟩) n ca,.slice (some ⟨gb,0,none⟩) n cb] w (Ret (.bool true) w) := by
  have HN := Lib.hid hn
  clear hn
  go_enter Try.func18,Try.ntmps18
  have hp := Hp.start [] w
  go_wp2_with (fail)
  go_loopw [5] (fun i wr => ∃ k : Nat,k ≤ n ∧ i = .int .i64 k ∧ Hp [] w [] wr) (fun i _ => n - (intOf i).toNat)
  case atStart => exact ⟨0,by omega,rfl,hp⟩
  case round =>
    clear hp
    obtain ⟨k,hk,rfl,hp⟩ := hrel
    by_cases hk1 : k < n
    · obtain ⟨m,hm⟩ : ∃ m,l[k]? = some m := ⟨_,List.getElem?_eq_getElem (by rw [← HN.out];exact hk1)⟩
      have hga : bca[0 + k * 1]? = some (.int .i64 m) := by
        rw [Ha.out,Nat.mul_one,Nat.zero_add,List.getElem?_append_left (by rw [List.length_map,← HN.out];exact hk1),List.getElem?_map,hm];rfl
      have hgb : bcb[0 + k * 1]? = some (.int .i64 m) := by
        rw [Hb.out,Nat.mul_one,Nat.zero_add,List.getElem?_append_left (by rw [List.length_map,← HN.out];exact hk1),List.getElem?_map,hm];rfl
      clear hm
      have hk2 : (k : Int) < n := by omega
      rw [Nat.zero_add] at hga hgb
      go_wp2_with (fail)
      have hq := hp
      refine Qac hp hq [] (.q 0 (.q 1 (.q 2 (.q 3 (.q 4 (.q 5 (.q 6 (.q 7 (.q 8 .nil))))))))) (by kernel_rfl) (by kernel_rfl) ?_
      clear hp hq;(try clear w1);intro w1 hp hq
      repeat' (first|(((with_reducible apply sd_q);exact zo rfl);(first|((with_reducible apply Qde hp);exact rfl;exact zt rfl;assumption;exact ii;(assumption);simp only [zp,zq,z0,z1])|((with_reducible apply Qar hp);(first|exact zi rfl|exact zs rfl);simp only [zp,zq,z0,z1])|((with_reducible apply Qbe hp);exact rfl;exact zx rfl;exact zk rfl;exact ii;(exact OneTy.size);omega;omega;((try simp only [m0,Int.reduceToNat,m1,m2,Nat.reduceMul,Nat.reduceAdd,m3,m4,m5,n0]);exact rfl);simp only [zp,zq,z0,z1])|((with_reducible apply Qaj hp);exact rfl;(focus (intro _;go_simp;(try go_ints);try with_reducible rfl));simp only [zp,zq,z0,z1])))|((with_reducible apply Qam);clear hp;have hp := hq;clear hq))
      go_wp2
      go_roundw
      case rel => exact ⟨k + 1,by omega,by go_num,hp⟩
      case measure => simp [intOf];omega
    · obtain rfl : k = n := by omega
      go_wp2_with (fail)
      exact bodyPost_ret (Qab rfl rfl) rfl ⟨rfl,hp.keep⟩
/-- What twice asks of one number. -/
def TwC (a b da db : Int) : Prop := ∃ (u v : Int) (o1 o2 o3 : Bool),(∀ w1,Calls Try.prog 37 #[W a,W db] w1 (Ret (.tuple #[W u,.bool o1]) w1)) ∧ (∀ w1,Calls Try.prog 37 #[W b,W da] w1 (Ret (.tuple #[W v,.bool o2]) w1)) ∧ ∀ w1,Calls Try.prog 38 #[W v,W v] w1 (Ret (.tuple #[W u,.bool o3]) w1)
set_option maxHeartbeats 4000000 in
theorem twice_core (x y z d x' y' z' d' : Int) (sa sb : Value) (HX : Hid (TwC x x' d d')) (HY : Hid (TwC y y' d d')) (HZ : Hid (TwC z z' d d')) (w : World) : Calls Try.prog 17 #[NrV x y z d sa,NrV x' y' z' d' sb] w (Ret (.bool true) w) := by
  go_enter Try.func17,Try.ntmps17
  have hp := Hp.start [] w
  go_upto_region 1 with ((with_reducible apply Qaw hp);exact za rfl;exact rfl;clear hp;(try clear w1);intro g w1 hp;simp only [zp,zq,z0,z1])
  rename_i g2 K hK
  obtain ⟨g3,rfl⟩ : ∃ u : Nat,u = g := ⟨_,rfl⟩
  go_cut [5,6] (fun s5 s6 wx => ∃ ga gb,s5 = .slice (some ⟨ga,0,none⟩) 3 3 ∧ s6 = .slice (some ⟨gb,0,none⟩) 3 3 ∧ Hp [] w [⟨gb,28,[.int .u64 (lb (x') 0),.int .u64 (lb (x') 1),.int .u64 (lb (x') 2),.int .u64 (lb (x') 3),.int .u64 (lb (x') 4),.int .u64 (lb (x') 5),.int .u64 (lb (x') 6),.int .u64 (lb (x') 7),.int .u64 (lb (y') 0),.int .u64 (lb (y') 1),.int .u64 (lb (y') 2),.int .u64 (lb (y') 3),.int .u64 (lb (y') 4),.int .u64 (lb (y') 5),.int .u64 (lb (y') 6),.int .u64 (lb (y') 7),.int .u64 (lb (z') 0),.int .u64 (lb (z') 1),.int .u64 (lb (z') 2),.int .u64 (lb (z') 3),.int .u64 (lb (z') 4),.int .u64 (lb (z') 5),.int .u64 (lb (z') 6),.int .u64 (lb (z') 7)]⟩,⟨ga,28,[.int .u64 (lb (x) 0),.int .u64 (lb (x) 1),.int .u64 (lb (x) 2),.int .u64 (lb (x) 3),.int .u64 (lb (x) 4),.int .u64 (lb (x) 5),.int .u64 (lb (x) 6),.int .u64 (lb (x) 7),.int .u64 (lb (y) 0),.int .u64 (lb (y) 1),.int .u64 (lb (y) 2),.int .u64 (lb (y) 3),.int .u64 (lb (y) 4),.int .u64 (lb (y) 5),.int .u64 (lb (y) 6),.int .u64 (lb (y) 7),.int .u64 (lb (z) 0),.int .u64 (lb (z) 1),.int .u64 (lb (z) 2),.int .u64 (lb (z) 3),.int .u64 (lb (z) 4),.int .u64 (lb (z) 5),.int .u64 (lb (z) 6),.int .u64 (lb (z) 7)]⟩,⟨g3,33,[.int .u64 (lb (x') 0),.int .u64 (lb (x') 1),.int .u64 (lb (x') 2),.int .u64 (lb (x') 3),.int .u64 (lb (x') 4),.int .u64 (lb (x') 5),.int .u64 (lb (x') 6),.int .u64 (lb (x') 7),.int .u64 (lb (y') 0),.int .u64 (lb (y') 1),.int .u64 (lb (y') 2),.int .u64 (lb (y') 3),.int .u64 (lb (y') 4),.int .u64 (lb (y') 5),.int .u64 (lb (y') 6),.int .u64 (lb (y') 7),.int .u64 (lb (z') 0),.int .u64 (lb (z') 1),.int .u64 (lb (z') 2),.int .u64 (lb (z') 3),.int .u64 (lb (z') 4),.int .u64 (lb (z') 5),.int .u64 (lb (z') 6),.int .u64 (lb (z') 7),.int .u64 (lb (d') 0),.int .u64 (lb (d') 1),.int .u64 (lb (d') 2),.int .u64 (lb (d') 3),.int .u64 (lb (d') 4),.int .u64 (lb (d') 5),.int .u64 (lb (d') 6),.int .u64 (lb (d') 7),sb]⟩,⟨g2,33,[.int .u64 (lb (x) 0),.int .u64 (lb (x) 1),.int .u64 (lb (x) 2),.int .u64 (lb (x) 3),.int .u64 (lb (x) 4),.int .u64 (lb (x) 5),.int .u64 (lb (x) 6),.int .u64 (lb (x) 7),.int .u64 (lb (y) 0),.int .u64 (lb (y) 1),.int .u64 (lb (y) 2),.int .u64 (lb (y) 3),.int .u64 (lb (y) 4),.int .u64 (lb (y) 5),.int .u64 (lb (y) 6),.int .u64 (lb (y) 7),.int .u64 (lb (z) 0),.int .u64 (lb (z) 1),.int .u64 (lb (z) 2),.int .u64 (lb (z) 3),.int .u64 (lb (z) 4),.int .u64 (lb (z) 5),.int .u64 (lb (z) 6),.int .u64 (lb (z) 7),.int .u64 (lb (d) 0),.int .u64 (lb (d) 1),.int .u64 (lb (d) 2),.int .u64 (lb (d) 3),.int .u64 (lb (d) 4),.int .u64 (lb (d) 5),.int .u64 (lb (d) 6),.int .u64 (lb (d) 7),sa]⟩] wx)
  case first =>
    skip
    have hq := hp
    refine Qac hp hq [] (.q 0 (.q 1 (.q 2 (.q 3 (.q 4 (.q 5 (.q 6 (.q 7 (.q 8 (.q 10 (.q 11 (.q 12 (.q 13 (.q 14 (.q 15 (.q 16 (.q 17 (.q 18 (.b2 9 (.q 20 (.l 19 (.q 21 .nil))) 19 (.l 9 (.q 20 (.q 21 .nil)))))))))))))))))))))) (by kernel_rfl) (by kernel_rfl) ?_
    clear hp hq;(try clear w1);intro w1 hp hq
    repeat' (first|(((with_reducible apply sd_q);exact zo rfl);(first|((with_reducible apply Qaf hp);exact rfl;exact zt rfl;exact ii;exact ii;(exact zl rfl);(simp only [n0,Nat.reduceAdd,nn];try rfl);simp only [zp,zq,z0,z1])|((with_reducible apply Qas hp);exact zs rfl;simp only [zp,zq,z0,z1])|((with_reducible apply Qaj hp);exact rfl;(focus (intro _;go_simp;(try go_ints);try with_reducible rfl));simp only [zp,zq,z0,z1])))|(((with_reducible apply sd_l);exact zo rfl);((with_reducible apply Qch hq);(repeat (first|exact sb0|apply sb3));exact rfl;exact ii;(exact AggTy.size);exact ii;exact zl rfl;decide;(exact zk3 rfl);exact rfl;(exact zm3 rfl);(intro l hl <;> simp only [List.mem_cons,List.not_mem_nil,or_false] at hl <;> rcases hl with rfl|rfl|rfl|rfl <;> rfl);exact rfl;clear hp hq;(try clear w1);intro g w1 hp hq;simp only [zp,zq,z0,z1]))|(with_reducible apply Qjk)|((with_reducible apply Qam);clear hp;have hp := hq;clear hq))
    all_goals (go_wp2_with fail;go_meet;exact ⟨_,_,rfl,rfl,hp.perm (by first|exact pm0|exact .swap _ _ _)⟩)
  case rest =>
    clear hp
    obtain ⟨ga,gb,rfl,rfl,hp⟩ := hcut
    go_wp2_with (fail)
    go_loopw [7] (fun i wr => ∃ c : Int,(c = 0 ∨ c = 1 ∨ c = 2 ∨ c = 3) ∧ i = .int .i64 c ∧ Hp [] w [⟨gb,28,[.int .u64 (lb (x') 0),.int .u64 (lb (x') 1),.int .u64 (lb (x') 2),.int .u64 (lb (x') 3),.int .u64 (lb (x') 4),.int .u64 (lb (x') 5),.int .u64 (lb (x') 6),.int .u64 (lb (x') 7),.int .u64 (lb (y') 0),.int .u64 (lb (y') 1),.int .u64 (lb (y') 2),.int .u64 (lb (y') 3),.int .u64 (lb (y') 4),.int .u64 (lb (y') 5),.int .u64 (lb (y') 6),.int .u64 (lb (y') 7),.int .u64 (lb (z') 0),.int .u64 (lb (z') 1),.int .u64 (lb (z') 2),.int .u64 (lb (z') 3),.int .u64 (lb (z') 4),.int .u64 (lb (z') 5),.int .u64 (lb (z') 6),.int .u64 (lb (z') 7)]⟩,⟨ga,28,[.int .u64 (lb (x) 0),.int .u64 (lb (x) 1),.int .u64 (lb (x) 2),.int .u64 (lb (x) 3),.int .u64 (lb (x) 4),.int .u64 (lb (x) 5),.int .u64 (lb (x) 6),.int .u64 (lb (x) 7),.int .u64 (lb (y) 0),.int .u64 (lb (y) 1),.int .u64 (lb (y) 2),.int .u64 (lb (y) 3),.int .u64 (lb (y) 4),.int .u64 (lb (y) 5),.int .u64 (lb (y) 6),.int .u64 (lb (y) 7),.int .u64 (lb (z) 0),.int .u64 (lb (z) 1),.int .u64 (lb (z) 2),.int .u64 (lb (z) 3),.int .u64 (lb (z) 4),.int .u64 (lb (z) 5),.int .u64 (lb (z) 6),.int .u64 (lb (z) 7)]⟩,⟨g3,33,[.int .u64 (lb (x') 0),.int .u64 (lb (x') 1),.int .u64 (lb (x') 2),.int .u64 (lb (x') 3),.int .u64 (lb (x') 4),.int .u64 (lb (x') 5),.int .u64 (lb (x') 6),.int .u64 (lb (x') 7),.int .u64 (lb (y') 0),.int .u64 (lb (y') 1),.int .u64 (lb (y') 2),.int .u64 (lb (y') 3),.int .u64 (lb (y') 4),.int .u64 (lb (y') 5),.int .u64 (lb (y') 6),.int .u64 (lb (y') 7),.int .u64 (lb (z') 0),.int .u64 (lb (z') 1),.int .u64 (lb (z') 2),.int .u64 (lb (z') 3),.int .u64 (lb (z') 4),.int .u64 (lb (z') 5),.int .u64 (lb (z') 6),.int .u64 (lb (z') 7),.int .u64 (lb (d') 0),.int .u64 (lb (d') 1),.int .u64 (lb (d') 2),.int .u64 (lb (d') 3),.int .u64 (lb (d') 4),.int .u64 (lb (d') 5),.int .u64 (lb (d') 6),.int .u64 (lb (d') 7),sb]⟩,⟨g2,33,[.int .u64 (lb (x) 0),.int .u64 (lb (x) 1),.int .u64 (lb (x) 2),.int .u64 (lb (x) 3),.int .u64 (lb (x) 4),.int .u64 (lb (x) 5),.int .u64 (lb (x) 6),.int .u64 (lb (x) 7),.int .u64 (lb (y) 0),.int .u64 (lb (y) 1),.int .u64 (lb (y) 2),.int .u64 (lb (y) 3),.int .u64 (lb (y) 4),.int .u64 (lb (y) 5),.int .u64 (lb (y) 6),.int .u64 (lb (y) 7),.int .u64 (lb (z) 0),.int .u64 (lb (z) 1),.int .u64 (lb (z) 2),.int .u64 (lb (z) 3),.int .u64 (lb (z) 4),.int .u64 (lb (z) 5),.int .u64 (lb (z) 6),.int .u64 (lb (z) 7),.int .u64 (lb (d) 0),.int .u64 (lb (d) 1),.int .u64 (lb (d) 2),.int .u64 (lb (d) 3),.int .u64 (lb (d) 4),.int .u64 (lb (d) 5),.int .u64 (lb (d) 6),.int .u64 (lb (d) 7),sa]⟩] wr) (fun i _ => 3 - (intOf i).toNat)
    case atStart => exact ⟨0,.inl rfl,rfl,hp⟩
    case round =>
      clear hp
      obtain ⟨k,hk4,rfl,hp⟩ := hrel
      rcases hk4 with rfl|rfl|rfl|rfl
      · obtain ⟨u,v,o1,o2,o3,M1,M2,A1⟩ := HX.out
        have M1 := Lib.hid M1
        have M2 := Lib.hid M2
        have A1 := Lib.hid A1
        clear HX HY HZ
        go_upto_region 5 with (fail)
        have hq := hp
        refine Qcr hp hq [] (.q 0 (.q 1 (.q 2 (.q 3 (.q 4 (.q 5 (.p 6 (.q 7 (.q 8 (.q 9 (.l 10 (.l 11 (.q 12 .nil))))))))))))) (by kernel_rfl) (by kernel_rfl) ?_
        clear hp hq;(try clear w1);intro w1 hp hq
        repeat' (first|(((with_reducible apply sg_q);exact zo rfl);(first|((with_reducible apply Qcy hp);exact rfl;exact zt rfl;exact ii;exact ii;(exact zl rfl);(simp only [n0,Nat.reduceAdd,nn];try rfl);simp only [zp,zq,z0,z1])|((with_reducible apply Qie hp);(first|exact zi rfl|exact zs rfl|exact zu rfl);simp only [zp,zq,z0,z1])|((with_reducible apply Qes hp);exact zb rfl;simp only [zp,zq,z0,z1])|((with_reducible apply Qdb hp);exact rfl;exact zx rfl;exact zk rfl;exact ii;(exact AggTy.size);omega;omega;((try simp only [m0,Int.reduceToNat,m1,m2,Nat.reduceMul,Nat.reduceAdd,m3,m4,m5,n0]);exact rfl);simp only [zp,zq,z0,z1])|((with_reducible apply Qeh hp);exact rfl;(focus (intro _;go_simp;(try go_ints);try with_reducible rfl));simp only [zp,zq,z0,z1])))|(((with_reducible apply sg_p);exact zo rfl);((with_reducible apply Qgb hp);exact rfl;(focus (intro _;go_simp;try first|with_reducible rfl|exact ⟨rfl,rfl⟩));(with_reducible first|exact fun w => M1.out w);simp only [zp,zq,z0,z1]))|(((with_reducible apply sg_l);exact zo rfl);(first|((with_reducible apply Qex hq);(repeat (exact sb0));exact rfl;exact ii;exact rfl;clear hp hq;(try clear w1);intro g w1 hp hq;simp only [zp,zq,z0,z1])|((with_reducible apply Qcq hq);exact rfl;exact zt rfl;(exact za rfl);exact rfl;(exact AggTy.size);exact rfl;exact ii;(simp only [n0,Nat.reduceAdd,nn];try rfl);(exact zl rfl);exact rfl;exact ii;(repeat (first|exact sb0|apply sb3));clear hp hq;(try clear w1);intro w1 hp hq)))|((with_reducible apply Qjr hq);clear hp hq;(try clear w1);intro w1 hp))
        go_upto_region 6 with (fail)
        have hq := hp
        refine Qcr hp hq [] (.q 0 (.q 1 (.q 2 (.q 3 (.q 4 (.q 5 (.p 6 (.q 7 (.q 8 (.q 9 (.l 10 (.l 11 (.q 12 .nil))))))))))))) (by kernel_rfl) (by kernel_rfl) ?_
        clear hp hq;(try clear w1);intro w1 hp hq
        repeat' (first|(((with_reducible apply sg_q);exact zo rfl);(first|((with_reducible apply Qcy hp);exact rfl;exact zt rfl;exact ii;exact ii;(exact zl rfl);(simp only [n0,Nat.reduceAdd,nn];try rfl);simp only [zp,zq,z0,z1])|((with_reducible apply Qie hp);(first|exact zi rfl|exact zs rfl|exact zu rfl);simp only [zp,zq,z0,z1])|((with_reducible apply Qes hp);exact zb rfl;simp only [zp,zq,z0,z1])|((with_reducible apply Qdb hp);exact rfl;exact zx rfl;exact zk rfl;exact ii;(exact AggTy.size);omega;omega;((try simp only [m0,Int.reduceToNat,m1,m2,Nat.reduceMul,Nat.reduceAdd,m3,m4,m5,n0]);exact rfl);simp only [zp,zq,z0,z1])|((with_reducible apply Qeh hp);exact rfl;(focus (intro _;go_simp;(try go_ints);try with_reducible rfl));simp only [zp,zq,z0,z1])))|(((with_reducible apply sg_p);exact zo rfl);((with_reducible apply Qgb hp);exact rfl;(focus (intro _;go_simp;try first|with_reducible rfl|exact ⟨rfl,rfl⟩));(with_reducible first|exact fun w => M2.out w);simp only [zp,zq,z0,z1]))|(((with_reducible apply sg_l);exact zo rfl);(first|((with_reducible apply Qex hq);(repeat (exact sb0));exact rfl;exact ii;exact rfl;clear hp hq;(try clear w1);intro g w1 hp hq;simp only [zp,zq,z0,z1])|((with_reducible apply Qcq hq);exact rfl;exact zt rfl;(exact za rfl);exact rfl;(exact AggTy.size);exact rfl;exact ii;(simp only [n0,Nat.reduceAdd,nn];try rfl);(exact zl rfl);exact rfl;exact ii;(repeat (first|exact sb0|apply sb3));clear hp hq;(try clear w1);intro w1 hp hq)))|((with_reducible apply Qjr hq);clear hp hq;(try clear w1);intro w1 hp))
        go_wp2_with (first|((with_reducible apply Qae hp);exact ii;exact rfl;clear hp;(try clear w1);intro g w1 hp;simp only [zp,zq,z0,z1])|((with_reducible apply Qaa hp);exact zt rfl;exact ii;exact ii;(exact zl rfl);(simp only [n0,Nat.reduceAdd,nn];try rfl);simp only [zp,zq,z0,z1])|((with_reducible apply Qad hp);exact zt rfl;exact za rfl;exact rfl;(exact AggTy.size);exact rfl;exact ii;(simp only [n0,Nat.reduceAdd,nn];try rfl);(exact zl rfl);exact rfl;exact ii;clear hp;(try clear w1);intro w1 hp)|((with_reducible refine Qah hp (A1.out _) ?_);clear hp;(try clear w1);intro w1 hp))
        go_roundw
        case rel => exact ⟨1,by omega,rfl,hp.sub (by repeat (first|exact sb0|apply sb3))⟩
        case measure => simp [intOf]
      · obtain ⟨u,v,o1,o2,o3,M1,M2,A1⟩ := HY.out
        have M1 := Lib.hid M1
        have M2 := Lib.hid M2
        have A1 := Lib.hid A1
        clear HX HY HZ
        go_upto_region 5 with (fail)
        have hq := hp
        refine Qcr hp hq [] (.q 0 (.q 1 (.q 2 (.q 3 (.q 4 (.q 5 (.p 6 (.q 7 (.q 8 (.q 9 (.l 10 (.l 11 (.q 12 .nil))))))))))))) (by kernel_rfl) (by kernel_rfl) ?_
        clear hp hq;(try clear w1);intro w1 hp hq
        repeat' (first|(((with_reducible apply sg_q);exact zo rfl);(first|((with_reducible apply Qcy hp);exact rfl;exact zt rfl;exact ii;exact ii;(exact zl rfl);(simp only [n0,Nat.reduceAdd,nn];try rfl);simp only [zp,zq,z0,z1])|((with_reducible apply Qie hp);(first|exact zi rfl|exact zs rfl|exact zu rfl);simp only [zp,zq,z0,z1])|((with_reducible apply Qes hp);exact zb rfl;simp only [zp,zq,z0,z1])|((with_reducible apply Qdb hp);exact rfl;exact zx rfl;exact zk rfl;exact ii;(exact AggTy.size);omega;omega;((try simp only [m0,Int.reduceToNat,m1,m2,Nat.reduceMul,Nat.reduceAdd,m3,m4,m5,n0]);exact rfl);simp only [zp,zq,z0,z1])|((with_reducible apply Qeh hp);exact rfl;(focus (intro _;go_simp;(try go_ints);try with_reducible rfl));simp only [zp,zq,z0,z1])))|(((with_reducible apply sg_p);exact zo rfl);((with_reducible apply Qgb hp);exact rfl;(focus (intro _;go_simp;try first|with_reducible rfl|exact ⟨rfl,rfl⟩));(with_reducible first|exact fun w => M1.out w);simp only [zp,zq,z0,z1]))|(((with_reducible apply sg_l);exact zo rfl);(first|((with_reducible apply Qex hq);(repeat (exact sb0));exact rfl;exact ii;exact rfl;clear hp hq;(try clear w1);intro g w1 hp hq;simp only [zp,zq,z0,z1])|((with_reducible apply Qcq hq);exact rfl;exact zt rfl;(exact za rfl);exact rfl;(exact AggTy.size);exact rfl;exact ii;(simp only [n0,Nat.reduceAdd,nn];try rfl);(exact zl rfl);exact rfl;exact ii;(repeat (first|exact sb0|apply sb3));clear hp hq;(try clear w1);intro w1 hp hq)))|((with_reducible apply Qjr hq);clear hp hq;(try clear w1);intro w1 hp))
        go_upto_region 6 with (fail)
        have hq := hp
        refine Qcr hp hq [] (.q 0 (.q 1 (.q 2 (.q 3 (.q 4 (.q 5 (.p 6 (.q 7 (.q 8 (.q 9 (.l 10 (.l 11 (.q 12 .nil))))))))))))) (by kernel_rfl) (by kernel_rfl) ?_
        clear hp hq;(try clear w1);intro w1 hp hq
        repeat' (first|(((with_reducible apply sg_q);exact zo rfl);(first|((with_reducible apply Qcy hp);exact rfl;exact zt rfl;exact ii;exact ii;(exact zl rfl);(simp only [n0,Nat.reduceAdd,nn];try rfl);simp only [zp,zq,z0,z1])|((with_reducible apply Qie hp);(first|exact zi rfl|exact zs rfl|exact zu rfl);simp only [zp,zq,z0,z1])|((with_reducible apply Qes hp);exact zb rfl;simp only [zp,zq,z0,z1])|((with_reducible apply Qdb hp);exact rfl;exact zx rfl;exact zk rfl;exact ii;(exact AggTy.size);omega;omega;((try simp only [m0,Int.reduceToNat,m1,m2,Nat.reduceMul,Nat.reduceAdd,m3,m4,m5,n0]);exact rfl);simp only [zp,zq,z0,z1])|((with_reducible apply Qeh hp);exact rfl;(focus (intro _;go_simp;(try go_ints);try with_reducible rfl));simp only [zp,zq,z0,z1])))|(((with_reducible apply sg_p);exact zo rfl);((with_reducible apply Qgb hp);exact rfl;(focus (intro _;go_simp;try first|with_reducible rfl|exact ⟨rfl,rfl⟩));(with_reducible first|exact fun w => M2.out w);simp only [zp,zq,z0,z1]))|(((with_reducible apply sg_l);exact zo rfl);(first|((with_reducible apply Qex hq);(repeat (exact sb0));exact rfl;exact ii;exact rfl;clear hp hq;(try clear w1);intro g w1 hp hq;simp only [zp,zq,z0,z1])|((with_reducible apply Qcq hq);exact rfl;exact zt rfl;(exact za rfl);exact rfl;(exact AggTy.size);exact rfl;exact ii;(simp only [n0,Nat.reduceAdd,nn];try rfl);(exact zl rfl);exact rfl;exact ii;(repeat (first|exact sb0|apply sb3));clear hp hq;(try clear w1);intro w1 hp hq)))|((with_reducible apply Qjr hq);clear hp hq;(try clear w1);intro w1 hp))
        go_wp2_with (first|((with_reducible apply Qae hp);exact ii;exact rfl;clear hp;(try clear w1);intro g w1 hp;simp only [zp,zq,z0,z1])|((with_reducible apply Qaa hp);exact zt rfl;exact ii;exact ii;(exact zl rfl);(simp only [n0,Nat.reduceAdd,nn];try rfl);simp only [zp,zq,z0,z1])|((with_reducible apply Qad hp);exact zt rfl;exact za rfl;exact rfl;(exact AggTy.size);exact rfl;exact ii;(simp only [n0,Nat.reduceAdd,nn];try rfl);(exact zl rfl);exact rfl;exact ii;clear hp;(try clear w1);intro w1 hp)|((with_reducible refine Qah hp (A1.out _) ?_);clear hp;(try clear w1);intro w1 hp))
        go_roundw
        case rel => exact ⟨2,by omega,rfl,hp.sub (by repeat (first|exact sb0|apply sb3))⟩
        case measure => simp [intOf]
      · obtain ⟨u,v,o1,o2,o3,M1,M2,A1⟩ := HZ.out
        have M1 := Lib.hid M1
        have M2 := Lib.hid M2
        have A1 := Lib.hid A1
        clear HX HY HZ
        go_upto_region 5 with (fail)
        have hq := hp
        refine Qcr hp hq [] (.q 0 (.q 1 (.q 2 (.q 3 (.q 4 (.q 5 (.p 6 (.q 7 (.q 8 (.q 9 (.l 10 (.l 11 (.q 12 .nil))))))))))))) (by kernel_rfl) (by kernel_rfl) ?_
        clear hp hq;(try clear w1);intro w1 hp hq
        repeat' (first|(((with_reducible apply sg_q);exact zo rfl);(first|((with_reducible apply Qcy hp);exact rfl;exact zt rfl;exact ii;exact ii;(exact zl rfl);(simp only [n0,Nat.reduceAdd,nn];try rfl);simp only [zp,zq,z0,z1])|((with_reducible apply Qie hp);(first|exact zi rfl|exact zs rfl|exact zu rfl);simp only [zp,zq,z0,z1])|((with_reducible apply Qes hp);exact zb rfl;simp only [zp,zq,z0,z1])|((with_reducible apply Qdb hp);exact rfl;exact zx rfl;exact zk rfl;exact ii;(exact AggTy.size);omega;omega;((try simp only [m0,Int.reduceToNat,m1,m2,Nat.reduceMul,Nat.reduceAdd,m3,m4,m5,n0]);exact rfl);simp only [zp,zq,z0,z1])|((with_reducible apply Qeh hp);exact rfl;(focus (intro _;go_simp;(try go_ints);try with_reducible rfl));simp only [zp,zq,z0,z1])))|(((with_reducible apply sg_p);exact zo rfl);((with_reducible apply Qgb hp);exact rfl;(focus (intro _;go_simp;try first|with_reducible rfl|exact ⟨rfl,rfl⟩));(with_reducible first|exact fun w => M1.out w);simp only [zp,zq,z0,z1]))|(((with_reducible apply sg_l);exact zo rfl);(first|((with_reducible apply Qex hq);(repeat (exact sb0));exact rfl;exact ii;exact rfl;clear hp hq;(try clear w1);intro g w1 hp hq;simp only [zp,zq,z0,z1])|((with_reducible apply Qcq hq);exact rfl;exact zt rfl;(exact za rfl);exact rfl;(exact AggTy.size);exact rfl;exact ii;(simp only [n0,Nat.reduceAdd,nn];try rfl);(exact zl rfl);exact rfl;exact ii;(repeat (first|exact sb0|apply sb3));clear hp hq;(try clear w1);intro w1 hp hq)))|((with_reducible apply Qjr hq);clear hp hq;(try clear w1);intro w1 hp))
        go_upto_region 6 with (fail)
        have hq := hp
        refine Qcr hp hq [] (.q 0 (.q 1 (.q 2 (.q 3 (.q 4 (.q 5 (.p 6 (.q 7 (.q 8 (.q 9 (.l 10 (.l 11 (.q 12 .nil))))))))))))) (by kernel_rfl) (by kernel_rfl) ?_
        clear hp hq;(try clear w1);intro w1 hp hq
        repeat' (first|(((with_reducible apply sg_q);exact zo rfl);(first|((with_reducible apply Qcy hp);exact rfl;exact zt rfl;exact ii;exact ii;(exact zl rfl);(simp only [n0,Nat.reduceAdd,nn];try rfl);simp only [zp,zq,z0,z1])|((with_reducible apply Qie hp);(first|exact zi rfl|exact zs rfl|exact zu rfl);simp only [zp,zq,z0,z1])|((with_reducible apply Qes hp);exact zb rfl;simp only [zp,zq,z0,z1])|((with_reducible apply Qdb hp);exact rfl;exact zx rfl;exact zk rfl;exact ii;(exact AggTy.size);omega;omega;((try simp only [m0,Int.reduceToNat,m1,m2,Nat.reduceMul,Nat.reduceAdd,m3,m4,m5,n0]);exact rfl);simp only [zp,zq,z0,z1])|((with_reducible apply Qeh hp);exact rfl;(focus (intro _;go_simp;(try go_ints);try with_reducible rfl));simp only [zp,zq,z0,z1])))|(((with_reducible apply sg_p);exact zo rfl);((with_reducible apply Qgb hp);exact rfl;(focus (intro _;go_simp;try first|with_reducible rfl|exact ⟨rfl,rfl⟩));(with_reducible first|exact fun w => M2.out w);simp only [zp,zq,z0,z1]))|(((with_reducible apply sg_l);exact zo rfl);(first|((with_reducible apply Qex hq);(repeat (exact sb0));exact rfl;exact ii;exact rfl;clear hp hq;(try clear w1);intro g w1 hp hq;simp only [zp,zq,z0,z1])|((with_reducible apply Qcq hq);exact rfl;exact zt rfl;(exact za rfl);exact rfl;(exact AggTy.size);exact rfl;exact ii;(simp only [n0,Nat.reduceAdd,nn];try rfl);(exact zl rfl);exact rfl;exact ii;(repeat (first|exact sb0|apply sb3));clear hp hq;(try clear w1);intro w1 hp hq)))|((with_reducible apply Qjr hq);clear hp hq;(try clear w1);intro w1 hp))
        go_wp2_with (first|((with_reducible apply Qae hp);exact ii;exact rfl;clear hp;(try clear w1);intro g w1 hp;simp only [zp,zq,z0,z1])|((with_reducible apply Qaa hp);exact zt rfl;exact ii;exact ii;(exact zl rfl);(simp only [n0,Nat.reduceAdd,nn];try rfl);simp only [zp,zq,z0,z1])|((with_reducible apply Qad hp);exact zt rfl;exact za rfl;exact rfl;(exact AggTy.size);exact rfl;exact ii;(simp only [n0,Nat.reduceAdd,nn];try rfl);(exact zl rfl);exact rfl;exact ii;clear hp;(try clear w1);intro w1 hp)|((with_reducible refine Qah hp (A1.out _) ?_);clear hp;(try clear w1);intro w1 hp))
        go_roundw
        case rel => exact ⟨3,by omega,rfl,hp.sub (by repeat (first|exact sb0|apply sb3))⟩
        case measure => simp [intOf]
      · go_wp2_with (fail)
        exact bodyPost_ret (Qab rfl rfl) rfl ⟨rfl,hp.keep⟩
end Go.Proofs.Ytdfdmeoalbpcdaa
