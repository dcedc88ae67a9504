/-
  Package wide: Div (contract).
-/
import Derived.Test.YtdfdmeoalbpcdaaGreatDd
set_option linter.unusedSimpArgs false
set_option linter.unusedVariables false
set_option maxRecDepth 100000
namespace Go.Proofs.YtdfdmeoalbpcdaaGreat
open Go Go.RowKit
def dvok (a b : Int) : Prop := b ≠ 0 ∧ Fit (fq a b)
instance (a b : Int) : Decidable (dvok a b) := inferInstanceAs (Decidable (_ ∧ _))
def dvq (a b : Int) : Int := if dvok a b then fq a b else 0
def dvr (a b : Int) : Int := if dvok a b then fr a b else 0
theorem Qhz {q r : Int} {w w1 : World} {ts : Array Value} {g8 g7 gk gr gq gb ga : Nat} {c1 c2 c4 c5 : List Value}
    (h4 : ts.getD 4 undef = .pointer (some ⟨gq,0,none⟩)) (h5 : ts.getD 5 undef = .pointer (some ⟨gr,0,none⟩)) (h6 : ts.getD 6 undef = .pointer (some ⟨gk,0,none⟩))
    (hp : Hp [] w [⟨g8,51,c1⟩,⟨g7,51,c2⟩,⟨gk,4,[.bool true]⟩,⟨gr,27,[.int .u64 (lb (r) 0),.int .u64 (lb (r) 1),.int .u64 (lb (r) 2),.int .u64 (lb (r) 3),.int .u64 (lb (r) 4),.int .u64 (lb (r) 5),.int .u64 (lb (r) 6),.int .u64 (lb (r) 7)]⟩,⟨gq,27,[.int .u64 (lb (q) 0),.int .u64 (lb (q) 1),.int .u64 (lb (q) 2),.int .u64 (lb (q) 3),.int .u64 (lb (q) 4),.int .u64 (lb (q) 5),.int .u64 (lb (q) 6),.int .u64 (lb (q) 7)]⟩,⟨gb,27,c4⟩,⟨ga,27,c5⟩] w1) :
    Leaves Tryz.prog Tryz.f20 ts (Ret (.tuple #[W q,W r,.bool true]) w) [{ target := .fn (.func 41) #[.pointer (some ⟨gq,0,none⟩),.pointer (some ⟨gr,0,none⟩),.pointer (some ⟨gk,0,none⟩)],args := #[] }] .returning w1 := by
  refine leaves_cons (f := 41) (args := #[.pointer (some ⟨gq,0,none⟩),.pointer (some ⟨gr,0,none⟩),.pointer (some ⟨gk,0,none⟩)]) (by simp) (by simp [go_sem]) ?_
  refine (div_idle gq gr gk w1).mono fun e u' w' h => ?_
  obtain ⟨rfl,rfl,rfl⟩ := h
  exact ⟨_,Qhg rfl h4 (Qac hp (Nat.le_of_ble_eq_true rfl)) h5 (Qac hp (Nat.le_of_ble_eq_true rfl)) h6 (Qbt hp rfl),rfl,hp.keep⟩
theorem ddoor_bad {w w1 : World} {ts : Array Value} {g8 g7 gk gr gq gb ga : Nat} {c1 c2 c4 c5 : List Value} {u : TypeId} {pv : Value}
    (h4 : ts.getD 4 undef = .pointer (some ⟨gq,0,none⟩)) (h5 : ts.getD 5 undef = .pointer (some ⟨gr,0,none⟩)) (h6 : ts.getD 6 undef = .pointer (some ⟨gk,0,none⟩))
    (hp : Hp [] w [⟨g8,51,c1⟩,⟨g7,51,c2⟩,⟨gk,4,[.bool false]⟩,⟨gr,27,[.int .u64 0,.int .u64 0,.int .u64 0,.int .u64 0,.int .u64 0,.int .u64 0,.int .u64 0,.int .u64 0]⟩,⟨gq,27,[.int .u64 0,.int .u64 0,.int .u64 0,.int .u64 0,.int .u64 0,.int .u64 0,.int .u64 0,.int .u64 0]⟩,⟨gb,27,c4⟩,⟨ga,27,c5⟩] w1) :
    Leaves Tryz.prog Tryz.f20 ts (Ret (.tuple #[W 0,W 0,.bool false]) w) [{ target := .fn (.func 41) #[.pointer (some ⟨gq,0,none⟩),.pointer (some ⟨gr,0,none⟩),.pointer (some ⟨gk,0,none⟩)],args := #[] }] (.panicking [{ v := .iface u pv,recovered := false }]) w1 := by
  refine leaves_cons (f := 41) (args := #[.pointer (some ⟨gq,0,none⟩),.pointer (some ⟨gr,0,none⟩),.pointer (some ⟨gk,0,none⟩)]) (by simp) (by simp [go_sem]) ?_
  have hnd : [gq,gr,gk].Nodup := by
    have := hp.nd
    simp only [List.map_cons,List.map_nil,List.nodup_cons,List.mem_cons,List.not_mem_nil,or_false,not_or] at this
    simp only [List.nodup_cons,List.mem_cons,List.not_mem_nil,or_false,not_or,not_false_eq_true,List.nodup_nil,and_true]
    exact ⟨⟨fun h => this.2.2.2.1.1 h.symm,fun h => this.2.2.1.2.1 h.symm⟩,fun h => this.2.2.1.1 h.symm⟩
  refine (div_catch gq gr gk u pv w1 hnd (hp.blk (cs := [.int .u64 0,.int .u64 0,.int .u64 0,.int .u64 0,.int .u64 0,.int .u64 0,.int .u64 0,.int .u64 0])) (hp.blk (cs := [.int .u64 0,.int .u64 0,.int .u64 0,.int .u64 0,.int .u64 0,.int .u64 0,.int .u64 0,.int .u64 0])) (hp.blk (cs := [.bool false]))).mono fun e u' w' h => ?_
  obtain ⟨rfl,rfl,hk⟩ := h
  have hp2 := hp.call hk
  rw [show W 0 = .agg #[.int .u64 0,.int .u64 0,.int .u64 0,.int .u64 0,.int .u64 0,.int .u64 0,.int .u64 0,.int .u64 0] from Qfe]
  exact ⟨_,Qhg rfl h4 (Qac hp2 (Nat.le_of_ble_eq_true rfl)) h5 (Qac hp2 (Nat.le_of_ble_eq_true rfl)) h6 (Qbt hp2 rfl),rfl,hp2.keep⟩
set_option maxHeartbeats 2000000 in
theorem div_none (a : Int) (w : World) : Calls Tryz.prog 20 #[W a,W 0] w (Ret (.tuple #[W 0,W 0,.bool false]) w) := by
  have hmf : ∀ (fn : Fn) (first cap : Array Value) (w : World),(Instr.makeFunc fn first cap).run Tryz.prog w = .ok (.func fn first cap) w := fun _ _ _ _ => rfl
  have HS : Hid (∀ w,Calls Tryz.prog 21 #[W 0] w (Ret (.int .i64 0) w)) := Lib.hid (Qcn 0 Qbp)
  go_enter_defers Tryz.func20,Tryz.ntmps20
  have hp := Hp.start [] w
  rw [show Ret (.tuple #[W 0,W 0,.bool false]) w = Ret (.tuple #[.agg #[.int .u64 0,.int .u64 0,.int .u64 0,.int .u64 0,.int .u64 0,.int .u64 0,.int .u64 0,.int .u64 0],.agg #[.int .u64 0,.int .u64 0,.int .u64 0,.int .u64 0,.int .u64 0,.int .u64 0,.int .u64 0,.int .u64 0],.bool false]) w by rw [show W 0 = .agg #[.int .u64 0,.int .u64 0,.int .u64 0,.int .u64 0,.int .u64 0,.int .u64 0,.int .u64 0,.int .u64 0] from Qfe]]
  go_wp2_with (first|((with_reducible apply Qau hp);exact za rfl;exact rfl;clear hp;(try clear w1);intro g w1 hp;simp only [zp,zq,z0,z1])|((with_reducible apply Qag hp);exact ii;exact rfl;clear hp;(try clear w1);intro g w1 hp;simp only [zp,zq,z0,z1])|((with_reducible apply Qab hp);exact zt rfl;exact ii;exact ii;(exact zl rfl);(simp only [n0,Nat.reduceAdd,nn];try rfl);simp only [zp,zq,z0,z1])|((with_reducible apply Qae hp);exact zt rfl;(first|exact za rfl|exact zb rfl);exact rfl;exact Sz.z;exact rfl;exact ii;(simp only [n0,Nat.reduceAdd,nn];try rfl);(exact zl rfl);exact rfl;exact ii;clear hp;(try clear w1);intro w1 hp)|((with_reducible refine Qaf hp (HS.out _) ?_);clear hp;(try clear w1);intro w1 hp))
  exact ⟨_,Qhg rfl rfl (Qac hp (Nat.le_of_ble_eq_true rfl)) rfl (Qac hp (Nat.le_of_ble_eq_true rfl)) rfl (Qbt hp rfl),rfl,hp.keep⟩
set_option maxHeartbeats 16000000 in
theorem Qnp (a b A B x0 y0 x y q r : Int) (sa sb : Bool) (w : World) (hs : sgn b ≠ 0)
    (HS : Hid (∀ w,Calls Tryz.prog 21 #[W b] w (Ret (.int .i64 (sgn b)) w)))
    (HA : Hid (∀ w,Calls Tryz.prog 43 #[W a] w (Ret (W A) w))) (HB : Hid (∀ w,Calls Tryz.prog 43 #[W b] w (Ret (W B) w)))
    (HP : Hid (∀ w,Calls Tryz.prog 42 #[W A,W B] w (Ret (.tuple #[W x0,W y0]) w)))
    (HNA : Hid (∀ w,Calls Tryz.prog 38 #[W a] w (Ret (.bool sa) w))) (HNB : Hid (∀ w,Calls Tryz.prog 38 #[W b] w (Ret (.bool sb) w)))
    (HI : Hid (∀ w,Calls Tryz.prog 44 #[W x0,.agg #[.int .u64 0,.int .u64 0,.int .u64 0,.int .u64 0,.int .u64 0,.int .u64 0,.int .u64 0,.int .u64 0],.int .u64 1] w (Ret (W (x0 + 1)) w))) (HN : Hid (∀ w,Calls Tryz.prog 45 #[W y0] w (Ret (W (-y0 - 1)) w)))
    (HJ : Hid (∀ w,Calls Tryz.prog 44 #[W B,W (-y0 - 1),.int .u64 1] w (Ret (W (B - y0)) w)))
    (HX : Hid (∀ w,Calls Tryz.prog 46 #[W x,.bool (!(sa == sb))] w (Ret (W q) w)))
    (HY : Hid (∀ w,Calls Tryz.prog 46 #[W y,.bool sb] w (Ret (W r) w)))
    (Hxy : ((sa == sb) = true ∧ x = x0 ∧ y = y0) ∨ ((sa == sb) = false ∧ eqb y0 0 = true ∧ x = x0 ∧ y = y0) ∨ ((sa == sb) = false ∧ eqb y0 0 = false ∧ x = x0 + 1 ∧ y = B - y0)) :
    Calls Tryz.prog 20 #[W a,W b] w (Ret (.tuple #[W q,W r,.bool true]) w) := by
  rw [Qce] at Hxy
  have HXY := Lib.hid Hxy
  clear Hxy
  have hmf : ∀ (fn : Fn) (first cap : Array Value) (w : World),(Instr.makeFunc fn first cap).run Tryz.prog w = .ok (.func fn first cap) w := fun _ _ _ _ => rfl
  have hs0 : (sgn b == 0) = false := by simp [hs]
  generalize sgn b = sg at *
  clear hs
  go_enter_defers Tryz.func20,Tryz.ntmps20
  have hp := Hp.start [] w
  go_upto_region 4 with (first|((with_reducible apply Qau hp);(exact za rfl);exact rfl;clear hp;(try clear w1);intro g w1 hp;simp only [zp,zq,z0,z1])|((with_reducible apply Qag hp);exact ii;exact rfl;clear hp;(try clear w1);intro g w1 hp;simp only [zp,zq,z0,z1])|((with_reducible apply Qab hp);exact zt rfl;exact ii;exact ii;(exact zl rfl);(simp only [n0,Nat.reduceAdd,nn];try rfl);simp only [zp,zq,z0,z1])|((with_reducible refine Qaf hp (HS.out _) ?_);clear hp;(try clear w1);intro w1 hp))
  rename_i ga gb gq gr K hK
  obtain ⟨gk,rfl⟩ : ∃ z : Nat,z = g := ⟨_,rfl⟩
  go_cut [7,8] from 16 to 25 (fun s7 s8 wx => ∃ g7 g8,s7 = .pointer (some ⟨g7,0,none⟩) ∧ s8 = .pointer (some ⟨g8,0,none⟩) ∧ Hp [] w [⟨g8,51,[.int .u64 (lb (y0) 0),.int .u64 (lb (y0) 1),.int .u64 (lb (y0) 2),.int .u64 (lb (y0) 3),.int .u64 (lb (y0) 4),.int .u64 (lb (y0) 5),.int .u64 (lb (y0) 6),.int .u64 (lb (y0) 7)]⟩,⟨g7,51,[.int .u64 (lb (x0) 0),.int .u64 (lb (x0) 1),.int .u64 (lb (x0) 2),.int .u64 (lb (x0) 3),.int .u64 (lb (x0) 4),.int .u64 (lb (x0) 5),.int .u64 (lb (x0) 6),.int .u64 (lb (x0) 7)]⟩,⟨gk,4,[.bool false]⟩,⟨gr,27,[.int .u64 0,.int .u64 0,.int .u64 0,.int .u64 0,.int .u64 0,.int .u64 0,.int .u64 0,.int .u64 0]⟩,⟨gq,27,[.int .u64 0,.int .u64 0,.int .u64 0,.int .u64 0,.int .u64 0,.int .u64 0,.int .u64 0,.int .u64 0]⟩,⟨gb,27,[.int .u64 (lb (b) 0),.int .u64 (lb (b) 1),.int .u64 (lb (b) 2),.int .u64 (lb (b) 3),.int .u64 (lb (b) 4),.int .u64 (lb (b) 5),.int .u64 (lb (b) 6),.int .u64 (lb (b) 7)]⟩,⟨ga,27,[.int .u64 (lb (a) 0),.int .u64 (lb (a) 1),.int .u64 (lb (a) 2),.int .u64 (lb (a) 3),.int .u64 (lb (a) 4),.int .u64 (lb (a) 5),.int .u64 (lb (a) 6),.int .u64 (lb (a) 7)]⟩] wx)
  case first =>
    have hq := hp
    refine Qad hp hq [13] (.q 0 (.q 1 (.q 3 (.q 4 (.b3 2 (.b3 5 (.b3 6 (.q 7 (.q 8 (.q 9 (.b2 10 (.l 11 (.l 12 (.l 13 .nil))) 11 (.l 10 (.l 12 (.l 13 .nil))))))) 10 (.b2 6 (.q 7 (.q 8 (.q 9 (.l 11 (.l 12 (.l 13 .nil)))))) 11 (.l 6 (.q 7 (.q 8 (.q 9 (.l 12 (.l 13 .nil))))))) 11 (.b2 6 (.q 7 (.q 8 (.q 9 (.l 10 (.l 12 (.l 13 .nil)))))) 10 (.l 6 (.q 7 (.q 8 (.q 9 (.l 12 (.l 13 .nil)))))))) 10 (.b2 5 (.b2 6 (.q 7 (.q 8 (.q 9 (.l 11 (.l 12 (.l 13 .nil)))))) 11 (.l 6 (.q 7 (.q 8 (.q 9 (.l 12 (.l 13 .nil))))))) 11 (.l 5 (.l 6 (.q 7 (.q 8 (.q 9 (.l 12 (.l 13 .nil)))))))) 11 (.b2 5 (.b2 6 (.q 7 (.q 8 (.q 9 (.l 10 (.l 12 (.l 13 .nil)))))) 10 (.l 6 (.q 7 (.q 8 (.q 9 (.l 12 (.l 13 .nil))))))) 10 (.l 5 (.l 6 (.q 7 (.q 8 (.q 9 (.l 12 (.l 13 .nil))))))))) 10 (.b2 2 (.b2 5 (.b2 6 (.q 7 (.q 8 (.q 9 (.l 11 (.l 12 (.l 13 .nil)))))) 11 (.l 6 (.q 7 (.q 8 (.q 9 (.l 12 (.l 13 .nil))))))) 11 (.l 5 (.l 6 (.q 7 (.q 8 (.q 9 (.l 12 (.l 13 .nil)))))))) 11 (.l 2 (.l 5 (.l 6 (.q 7 (.q 8 (.q 9 (.l 12 (.l 13 .nil))))))))) 11 (.b2 2 (.b2 5 (.b2 6 (.q 7 (.q 8 (.q 9 (.l 10 (.l 12 (.l 13 .nil)))))) 10 (.l 6 (.q 7 (.q 8 (.q 9 (.l 12 (.l 13 .nil))))))) 10 (.l 5 (.l 6 (.q 7 (.q 8 (.q 9 (.l 12 (.l 13 .nil)))))))) 10 (.l 2 (.l 5 (.l 6 (.q 7 (.q 8 (.q 9 (.l 12 (.l 13 .nil)))))))))))))) (by kernel_rfl) (by kernel_rfl) ?_
    clear hp hq;(try clear w1);intro w1 hp hq
    repeat' (first|(((with_reducible apply sd_q);exact zo rfl);(first|((with_reducible apply Qah hp);exact rfl;exact zt rfl;exact ii;exact ii;(exact zl rfl);(simp only [n0,Nat.reduceAdd,nn];try rfl);simp only [zp,zq,z0,z1])|((with_reducible apply Qaq hp);exact zu rfl;simp only [zp,zq,z0,z1])|((with_reducible apply Qaj hp);exact rfl;(focus (intro _;go_simp;(try go_ints);try with_reducible rfl));simp only [zp,zq,z0,z1])))|(((with_reducible apply sd_l);exact zo rfl);(first|((with_reducible apply Qcm hq);(repeat (first|exact sb0|apply sb3));exact rfl;exact ii;exact rfl;clear hp hq;(try clear w1);intro g w1 hp hq;simp only [zp,zq,z0,z1])|((with_reducible apply Qap hp);exact rfl;(focus (intro _;go_simp;try first|with_reducible rfl|exact ⟨rfl,rfl⟩));(with_reducible first|exact fun w => HA.out w|exact fun w => HB.out w|exact fun w => HP.out w);exact hq;clear hp hq;(try clear w1);intro w1 hp hq;simp only [zp,zq,z0,z1])|((with_reducible apply Qam hq);exact rfl;exact zt rfl;(exact za rfl);exact rfl;(exact AggTy.size);exact rfl;exact ii;(simp only [n0,Nat.reduceAdd,nn];try rfl);(exact zl rfl);exact rfl;exact ii;(repeat (first|exact sb0|apply sb3));clear hp hq;(try clear w1);intro w1 hp hq)))|(with_reducible apply Qfa)|(with_reducible apply sd_b3)|((with_reducible apply Qao);clear hp;have hp := hq;clear hq))
    all_goals (go_wp2_with fail;go_meet;first|exact ⟨_,_,rfl,rfl,hp⟩|exact ⟨_,_,rfl,rfl,hp.perm (List.Perm.swap ..)⟩)
  case rest =>
    clear hp
    obtain ⟨g7,g8,rfl,rfl,hp⟩ := hcut
    go_wp2_with (fail)
    have hq := hp
    refine Qad hp hq [] (.q 0 (.q 1 (.q 3 (.q 4 (.l 2 (.l 5 (.q 6 (.q 7 .nil)))))))) (by kernel_rfl) (by kernel_rfl) ?_
    clear hp hq;(try clear w1);intro w1 hp hq
    repeat' (first|(((with_reducible apply sd_q);exact zo rfl);(first|((with_reducible apply Qah hp);exact rfl;exact zt rfl;exact ii;exact ii;(exact zl rfl);(simp only [n0,Nat.reduceAdd,nn];try rfl);simp only [zp,zq,z0,z1])|((with_reducible apply Qat hp);exact zb rfl;simp only [zp,zq,z0,z1])|((with_reducible apply Qaj hp);exact rfl;(focus (intro _;go_simp;(try go_ints);try with_reducible rfl));simp only [zp,zq,z0,z1])))|(((with_reducible apply sd_l);exact zo rfl);((with_reducible apply Qap hp);exact rfl;(focus (intro _;go_simp;try first|with_reducible rfl|exact ⟨rfl,rfl⟩));(with_reducible first|exact fun w => HNA.out w|exact fun w => HNB.out w);exact hq;clear hp hq;(try clear w1);intro w1 hp hq;simp only [zp,zq,z0,z1]))|((with_reducible apply Qao);clear hp;have hp := hq;clear hq))
    rcases HXY.out with ⟨hu,rfl,rfl⟩|⟨hu,hz,rfl,rfl⟩|⟨hu,hz,rfl,rfl⟩
    · clear HXY
      cases sa <;> cases sb <;> first|(exfalso;revert hu;decide)|clear hu
      all_goals
        have HX1 : Hid (∀ w,Calls Tryz.prog 46 #[W x,.bool false] w (Ret (W q) w)) := HX
        go_wp2_with ((with_reducible apply Qds);exact rfl;simp only [zp,zq,z0,z1])
        have hq := hp
        clear hp
        have hp : Hp [] w [⟨g8,51,[.int .u64 (lb (y) 0),.int .u64 (lb (y) 1),.int .u64 (lb (y) 2),.int .u64 (lb (y) 3),.int .u64 (lb (y) 4),.int .u64 (lb (y) 5),.int .u64 (lb (y) 6),.int .u64 (lb (y) 7)]⟩,⟨g7,51,[.int .u64 (lb (x) 0),.int .u64 (lb (x) 1),.int .u64 (lb (x) 2),.int .u64 (lb (x) 3),.int .u64 (lb (x) 4),.int .u64 (lb (x) 5),.int .u64 (lb (x) 6),.int .u64 (lb (x) 7)]⟩,⟨gk,4,[.bool false]⟩,⟨gr,27,[.int .u64 0,.int .u64 0,.int .u64 0,.int .u64 0,.int .u64 0,.int .u64 0,.int .u64 0,.int .u64 0]⟩,⟨gb,27,[.int .u64 (lb (b) 0),.int .u64 (lb (b) 1),.int .u64 (lb (b) 2),.int .u64 (lb (b) 3),.int .u64 (lb (b) 4),.int .u64 (lb (b) 5),.int .u64 (lb (b) 6),.int .u64 (lb (b) 7)]⟩,⟨ga,27,[.int .u64 (lb (a) 0),.int .u64 (lb (a) 1),.int .u64 (lb (a) 2),.int .u64 (lb (a) 3),.int .u64 (lb (a) 4),.int .u64 (lb (a) 5),.int .u64 (lb (a) 6),.int .u64 (lb (a) 7)]⟩] _ := hq.sub (.cons_cons _ (.cons_cons _ (.cons_cons _ (.cons_cons _ (.cons _ (List.Sublist.refl _))))))
        refine Qad hp hq [9,10] (.q 0 (.q 1 (.q 3 (.q 4 (.q 5 (.l 2 (.l 6 (.l 7 (.l 8 (.l 9 (.l 10 .nil))))))))))) (by kernel_rfl) (by kernel_rfl) ?_
        clear hp hq;(try clear w1);intro w1 hp hq
        repeat' (first|(((with_reducible apply sd_q);exact zo rfl);(first|((with_reducible apply Qah hp);exact rfl;exact zt rfl;exact ii;exact ii;(exact zl rfl);(simp only [n0,Nat.reduceAdd,nn];try rfl);simp only [zp,zq,z0,z1])|((with_reducible apply Qaq hp);exact zb rfl;simp only [zp,zq,z0,z1])|((with_reducible apply Qaj hp);exact rfl;(focus (intro _;go_simp;(try go_ints);try with_reducible rfl));simp only [zp,zq,z0,z1])))|(((with_reducible apply sd_l);exact zo rfl);(first|((with_reducible apply Qap hp);exact rfl;(focus (intro _;go_simp;try first|with_reducible rfl|exact ⟨rfl,rfl⟩));(with_reducible first|exact fun w => HX.out w|exact fun w => HX1.out w|exact fun w => HY.out w|exact fun w => HNB.out w);exact hq;clear hp hq;(try clear w1);intro w1 hp hq;simp only [zp,zq,z0,z1])|((with_reducible apply Qam hq);exact rfl;exact zt rfl;(first|exact za rfl|exact zb rfl);exact rfl;exact Sz.z;exact rfl;exact ii;(simp only [n0,Nat.reduceAdd,nn];try rfl);(exact zl rfl);exact rfl;exact ii;(repeat (first|exact sb0|apply sb2|apply sb3));clear hp hq;(try clear w1);intro w1 hp hq)|((with_reducible apply Qbb hq);exact rfl;exact zt rfl;(first|exact za rfl|exact zb rfl);exact rfl;exact Sz.z;exact rfl;exact ii;(simp only [n0,Nat.reduceAdd,nn];try rfl);(exact zl rfl);exact rfl;exact ii;exact rfl;clear hp hq;(try clear w1);intro w1 hq;have hp := True.intro)))|((with_reducible apply Qao);clear hp;have hp := hq;clear hq))
        go_wp2
        exact Qhz rfl rfl rfl hp
    · clear HXY
      cases sa <;> cases sb <;> first|(exfalso;revert hu;decide)|clear hu
      all_goals
        have HX1 : Hid (∀ w,Calls Tryz.prog 46 #[W x,.bool true] w (Ret (W q) w)) := HX
        go_wp2_with (first|((with_reducible apply Qab hp);exact zt rfl;exact ii;exact ii;(exact zl rfl);(simp only [n0,Nat.reduceAdd,nn];try rfl);simp only [zp,zq,z0,z1])|((with_reducible apply Qbm);exact rfl))
        have hq := hp
        clear hp
        have hp : Hp [] w [⟨g8,51,[.int .u64 (lb (y) 0),.int .u64 (lb (y) 1),.int .u64 (lb (y) 2),.int .u64 (lb (y) 3),.int .u64 (lb (y) 4),.int .u64 (lb (y) 5),.int .u64 (lb (y) 6),.int .u64 (lb (y) 7)]⟩,⟨g7,51,[.int .u64 (lb (x) 0),.int .u64 (lb (x) 1),.int .u64 (lb (x) 2),.int .u64 (lb (x) 3),.int .u64 (lb (x) 4),.int .u64 (lb (x) 5),.int .u64 (lb (x) 6),.int .u64 (lb (x) 7)]⟩,⟨gk,4,[.bool false]⟩,⟨gr,27,[.int .u64 0,.int .u64 0,.int .u64 0,.int .u64 0,.int .u64 0,.int .u64 0,.int .u64 0,.int .u64 0]⟩,⟨gb,27,[.int .u64 (lb (b) 0),.int .u64 (lb (b) 1),.int .u64 (lb (b) 2),.int .u64 (lb (b) 3),.int .u64 (lb (b) 4),.int .u64 (lb (b) 5),.int .u64 (lb (b) 6),.int .u64 (lb (b) 7)]⟩,⟨ga,27,[.int .u64 (lb (a) 0),.int .u64 (lb (a) 1),.int .u64 (lb (a) 2),.int .u64 (lb (a) 3),.int .u64 (lb (a) 4),.int .u64 (lb (a) 5),.int .u64 (lb (a) 6),.int .u64 (lb (a) 7)]⟩] _ := hq.sub (.cons_cons _ (.cons_cons _ (.cons_cons _ (.cons_cons _ (.cons _ (List.Sublist.refl _))))))
        refine Qad hp hq [9,10] (.q 0 (.q 1 (.q 3 (.q 4 (.q 5 (.l 2 (.l 6 (.l 7 (.l 8 (.l 9 (.l 10 .nil))))))))))) (by kernel_rfl) (by kernel_rfl) ?_
        clear hp hq;(try clear w1);intro w1 hp hq
        repeat' (first|(((with_reducible apply sd_q);exact zo rfl);(first|((with_reducible apply Qah hp);exact rfl;exact zt rfl;exact ii;exact ii;(exact zl rfl);(simp only [n0,Nat.reduceAdd,nn];try rfl);simp only [zp,zq,z0,z1])|((with_reducible apply Qaq hp);exact zb rfl;simp only [zp,zq,z0,z1])|((with_reducible apply Qaj hp);exact rfl;(focus (intro _;go_simp;(try go_ints);try with_reducible rfl));simp only [zp,zq,z0,z1])))|(((with_reducible apply sd_l);exact zo rfl);(first|((with_reducible apply Qap hp);exact rfl;(focus (intro _;go_simp;try first|with_reducible rfl|exact ⟨rfl,rfl⟩));(with_reducible first|exact fun w => HX.out w|exact fun w => HX1.out w|exact fun w => HY.out w|exact fun w => HNB.out w);exact hq;clear hp hq;(try clear w1);intro w1 hp hq;simp only [zp,zq,z0,z1])|((with_reducible apply Qam hq);exact rfl;exact zt rfl;(first|exact za rfl|exact zb rfl);exact rfl;exact Sz.z;exact rfl;exact ii;(simp only [n0,Nat.reduceAdd,nn];try rfl);(exact zl rfl);exact rfl;exact ii;(repeat (first|exact sb0|apply sb2|apply sb3));clear hp hq;(try clear w1);intro w1 hp hq)|((with_reducible apply Qbb hq);exact rfl;exact zt rfl;(first|exact za rfl|exact zb rfl);exact rfl;exact Sz.z;exact rfl;exact ii;(simp only [n0,Nat.reduceAdd,nn];try rfl);(exact zl rfl);exact rfl;exact ii;exact rfl;clear hp hq;(try clear w1);intro w1 hq;have hp := True.intro)))|((with_reducible apply Qao);clear hp;have hp := hq;clear hq))
        go_wp2
        exact Qhz rfl rfl rfl hp
    · clear HXY
      cases sa <;> cases sb <;> first|(exfalso;revert hu;decide)|clear hu
      all_goals
        have HX1 : Hid (∀ w,Calls Tryz.prog 46 #[W (x0 + 1),.bool true] w (Ret (W q) w)) := HX
        go_wp2_with (first|((with_reducible apply Qab hp);exact zt rfl;exact ii;exact ii;(exact zl rfl);(simp only [n0,Nat.reduceAdd,nn];try rfl);simp only [zp,zq,z0,z1])|((with_reducible apply Qae hp);exact zt rfl;(exact za rfl);exact rfl;(exact AggTy.size);exact rfl;exact ii;(simp only [n0,Nat.reduceAdd,nn];try rfl);(exact zl rfl);exact rfl;exact ii;clear hp;(try clear w1);intro w1 hp)|((with_reducible refine Qaf hp (HI.out _) ?_);clear hp;(try clear w1);intro w1 hp)|((with_reducible apply Qbm);exact rfl))
        have hq := hp
        refine Qad hp hq [6] (.q 0 (.q 1 (.q 3 (.l 2 (.l 4 (.l 5 (.l 6 .nil))))))) (by kernel_rfl) (by kernel_rfl) ?_
        clear hp hq;(try clear w1);intro w1 hp hq
        repeat' (first|(((with_reducible apply sd_q);exact zo rfl);(first|((with_reducible apply Qah hp);exact rfl;exact zt rfl;exact ii;exact ii;(exact zl rfl);(simp only [n0,Nat.reduceAdd,nn];try rfl);simp only [zp,zq,z0,z1])|((with_reducible apply Qaj hp);exact rfl;(focus (intro _;go_simp;(try go_ints);try with_reducible rfl));simp only [zp,zq,z0,z1])))|(((with_reducible apply sd_l);exact zo rfl);(first|((with_reducible apply Qap hp);exact rfl;(focus (intro _;go_simp;try first|with_reducible rfl|exact ⟨rfl,rfl⟩));(with_reducible first|exact fun w => HB.out w|exact fun w => HN.out w|exact fun w => HJ.out w);exact hq;clear hp hq;(try clear w1);intro w1 hp hq;simp only [zp,zq,z0,z1])|((with_reducible apply Qbb hq);exact rfl;exact zt rfl;(exact za rfl);exact rfl;(exact AggTy.size);exact rfl;exact ii;(simp only [n0,Nat.reduceAdd,nn];try rfl);(exact zl rfl);exact rfl;exact ii;exact rfl;clear hp hq;(try clear w1);intro w1 hq;have hp := True.intro)))|((with_reducible apply Qao);clear hp;have hp := hq;clear hq))
        go_wp2_with (fail)
        have hq := hp
        clear hp
        have hp : Hp [] w [⟨g8,51,[.int .u64 (lb (B - y0) 0),.int .u64 (lb (B - y0) 1),.int .u64 (lb (B - y0) 2),.int .u64 (lb (B - y0) 3),.int .u64 (lb (B - y0) 4),.int .u64 (lb (B - y0) 5),.int .u64 (lb (B - y0) 6),.int .u64 (lb (B - y0) 7)]⟩,⟨g7,51,[.int .u64 (lb (x0 + 1) 0),.int .u64 (lb (x0 + 1) 1),.int .u64 (lb (x0 + 1) 2),.int .u64 (lb (x0 + 1) 3),.int .u64 (lb (x0 + 1) 4),.int .u64 (lb (x0 + 1) 5),.int .u64 (lb (x0 + 1) 6),.int .u64 (lb (x0 + 1) 7)]⟩,⟨gk,4,[.bool false]⟩,⟨gr,27,[.int .u64 0,.int .u64 0,.int .u64 0,.int .u64 0,.int .u64 0,.int .u64 0,.int .u64 0,.int .u64 0]⟩,⟨gb,27,[.int .u64 (lb (b) 0),.int .u64 (lb (b) 1),.int .u64 (lb (b) 2),.int .u64 (lb (b) 3),.int .u64 (lb (b) 4),.int .u64 (lb (b) 5),.int .u64 (lb (b) 6),.int .u64 (lb (b) 7)]⟩,⟨ga,27,[.int .u64 (lb (a) 0),.int .u64 (lb (a) 1),.int .u64 (lb (a) 2),.int .u64 (lb (a) 3),.int .u64 (lb (a) 4),.int .u64 (lb (a) 5),.int .u64 (lb (a) 6),.int .u64 (lb (a) 7)]⟩] _ := hq.sub (.cons_cons _ (.cons_cons _ (.cons_cons _ (.cons_cons _ (.cons _ (List.Sublist.refl _))))))
        refine Qad hp hq [9,10] (.q 0 (.q 1 (.q 3 (.q 4 (.q 5 (.l 2 (.l 6 (.l 7 (.l 8 (.l 9 (.l 10 .nil))))))))))) (by kernel_rfl) (by kernel_rfl) ?_
        clear hp hq;(try clear w1);intro w1 hp hq
        repeat' (first|(((with_reducible apply sd_q);exact zo rfl);(first|((with_reducible apply Qah hp);exact rfl;exact zt rfl;exact ii;exact ii;(exact zl rfl);(simp only [n0,Nat.reduceAdd,nn];try rfl);simp only [zp,zq,z0,z1])|((with_reducible apply Qaq hp);exact zb rfl;simp only [zp,zq,z0,z1])|((with_reducible apply Qaj hp);exact rfl;(focus (intro _;go_simp;(try go_ints);try with_reducible rfl));simp only [zp,zq,z0,z1])))|(((with_reducible apply sd_l);exact zo rfl);(first|((with_reducible apply Qap hp);exact rfl;(focus (intro _;go_simp;try first|with_reducible rfl|exact ⟨rfl,rfl⟩));(with_reducible first|exact fun w => HX.out w|exact fun w => HX1.out w|exact fun w => HY.out w|exact fun w => HNB.out w);exact hq;clear hp hq;(try clear w1);intro w1 hp hq;simp only [zp,zq,z0,z1])|((with_reducible apply Qam hq);exact rfl;exact zt rfl;(first|exact za rfl|exact zb rfl);exact rfl;exact Sz.z;exact rfl;exact ii;(simp only [n0,Nat.reduceAdd,nn];try rfl);(exact zl rfl);exact rfl;exact ii;(repeat (first|exact sb0|apply sb2|apply sb3));clear hp hq;(try clear w1);intro w1 hp hq)|((with_reducible apply Qbb hq);exact rfl;exact zt rfl;(first|exact za rfl|exact zb rfl);exact rfl;exact Sz.z;exact rfl;exact ii;(simp only [n0,Nat.reduceAdd,nn];try rfl);(exact zl rfl);exact rfl;exact ii;exact rfl;clear hp hq;(try clear w1);intro w1 hq;have hp := True.intro)))|((with_reducible apply Qao);clear hp;have hp := hq;clear hq))
        go_wp2
        exact Qhz rfl rfl rfl hp
set_option maxHeartbeats 16000000 in
theorem div_bad (a b A B x0 y0 : Int) (sa sb : Bool) (w : World) (hs : sgn b ≠ 0)
    (HS : Hid (∀ w,Calls Tryz.prog 21 #[W b] w (Ret (.int .i64 (sgn b)) w)))
    (HA : Hid (∀ w,Calls Tryz.prog 43 #[W a] w (Ret (W A) w))) (HB : Hid (∀ w,Calls Tryz.prog 43 #[W b] w (Ret (W B) w)))
    (HP : Hid (∀ w,Calls Tryz.prog 42 #[W A,W B] w (Ret (.tuple #[W x0,W y0]) w)))
    (HNA : Hid (∀ w,Calls Tryz.prog 38 #[W a] w (Ret (.bool sa) w))) (HNB : Hid (∀ w,Calls Tryz.prog 38 #[W b] w (Ret (.bool sb) w)))
    (HX : Hid (∀ w,Calls Tryz.prog 46 #[W x0,.bool (!(sa == sb))] w (Dies (.iface 115 (.agg #[])) w)))
    (hu : (sa == sb) = true) :
    Calls Tryz.prog 20 #[W a,W b] w (Ret (.tuple #[W 0,W 0,.bool false]) w) := by
  have hmf : ∀ (fn : Fn) (first cap : Array Value) (w : World),(Instr.makeFunc fn first cap).run Tryz.prog w = .ok (.func fn first cap) w := fun _ _ _ _ => rfl
  have hs0 : (sgn b == 0) = false := by simp [hs]
  generalize sgn b = sg at *
  clear hs
  go_enter_defers Tryz.func20,Tryz.ntmps20
  have hp := Hp.start [] w
  go_upto_region 4 with (first|((with_reducible apply Qau hp);(exact za rfl);exact rfl;clear hp;(try clear w1);intro g w1 hp;simp only [zp,zq,z0,z1])|((with_reducible apply Qag hp);exact ii;exact rfl;clear hp;(try clear w1);intro g w1 hp;simp only [zp,zq,z0,z1])|((with_reducible apply Qab hp);exact zt rfl;exact ii;exact ii;(exact zl rfl);(simp only [n0,Nat.reduceAdd,nn];try rfl);simp only [zp,zq,z0,z1])|((with_reducible refine Qaf hp (HS.out _) ?_);clear hp;(try clear w1);intro w1 hp))
  rename_i ga gb gq gr K hK
  obtain ⟨gk,rfl⟩ : ∃ z : Nat,z = g := ⟨_,rfl⟩
  go_cut [7,8] from 16 to 25 (fun s7 s8 wx => ∃ g7 g8,s7 = .pointer (some ⟨g7,0,none⟩) ∧ s8 = .pointer (some ⟨g8,0,none⟩) ∧ Hp [] w [⟨g8,51,[.int .u64 (lb (y0) 0),.int .u64 (lb (y0) 1),.int .u64 (lb (y0) 2),.int .u64 (lb (y0) 3),.int .u64 (lb (y0) 4),.int .u64 (lb (y0) 5),.int .u64 (lb (y0) 6),.int .u64 (lb (y0) 7)]⟩,⟨g7,51,[.int .u64 (lb (x0) 0),.int .u64 (lb (x0) 1),.int .u64 (lb (x0) 2),.int .u64 (lb (x0) 3),.int .u64 (lb (x0) 4),.int .u64 (lb (x0) 5),.int .u64 (lb (x0) 6),.int .u64 (lb (x0) 7)]⟩,⟨gk,4,[.bool false]⟩,⟨gr,27,[.int .u64 0,.int .u64 0,.int .u64 0,.int .u64 0,.int .u64 0,.int .u64 0,.int .u64 0,.int .u64 0]⟩,⟨gq,27,[.int .u64 0,.int .u64 0,.int .u64 0,.int .u64 0,.int .u64 0,.int .u64 0,.int .u64 0,.int .u64 0]⟩,⟨gb,27,[.int .u64 (lb (b) 0),.int .u64 (lb (b) 1),.int .u64 (lb (b) 2),.int .u64 (lb (b) 3),.int .u64 (lb (b) 4),.int .u64 (lb (b) 5),.int .u64 (lb (b) 6),.int .u64 (lb (b) 7)]⟩,⟨ga,27,[.int .u64 (lb (a) 0),.int .u64 (lb (a) 1),.int .u64 (lb (a) 2),.int .u64 (lb (a) 3),.int .u64 (lb (a) 4),.int .u64 (lb (a) 5),.int .u64 (lb (a) 6),.int .u64 (lb (a) 7)]⟩] wx)
  case first =>
    have hq := hp
    refine Qad hp hq [13] (.q 0 (.q 1 (.q 3 (.q 4 (.b3 2 (.b3 5 (.b3 6 (.q 7 (.q 8 (.q 9 (.b2 10 (.l 11 (.l 12 (.l 13 .nil))) 11 (.l 10 (.l 12 (.l 13 .nil))))))) 10 (.b2 6 (.q 7 (.q 8 (.q 9 (.l 11 (.l 12 (.l 13 .nil)))))) 11 (.l 6 (.q 7 (.q 8 (.q 9 (.l 12 (.l 13 .nil))))))) 11 (.b2 6 (.q 7 (.q 8 (.q 9 (.l 10 (.l 12 (.l 13 .nil)))))) 10 (.l 6 (.q 7 (.q 8 (.q 9 (.l 12 (.l 13 .nil)))))))) 10 (.b2 5 (.b2 6 (.q 7 (.q 8 (.q 9 (.l 11 (.l 12 (.l 13 .nil)))))) 11 (.l 6 (.q 7 (.q 8 (.q 9 (.l 12 (.l 13 .nil))))))) 11 (.l 5 (.l 6 (.q 7 (.q 8 (.q 9 (.l 12 (.l 13 .nil)))))))) 11 (.b2 5 (.b2 6 (.q 7 (.q 8 (.q 9 (.l 10 (.l 12 (.l 13 .nil)))))) 10 (.l 6 (.q 7 (.q 8 (.q 9 (.l 12 (.l 13 .nil))))))) 10 (.l 5 (.l 6 (.q 7 (.q 8 (.q 9 (.l 12 (.l 13 .nil))))))))) 10 (.b2 2 (.b2 5 (.b2 6 (.q 7 (.q 8 (.q 9 (.l 11 (.l 12 (.l 13 .nil)))))) 11 (.l 6 (.q 7 (.q 8 (.q 9 (.l 12 (.l 13 .nil))))))) 11 (.l 5 (.l 6 (.q 7 (.q 8 (.q 9 (.l 12 (.l 13 .nil)))))))) 11 (.l 2 (.l 5 (.l 6 (.q 7 (.q 8 (.q 9 (.l 12 (.l 13 .nil))))))))) 11 (.b2 2 (.b2 5 (.b2 6 (.q 7 (.q 8 (.q 9 (.l 10 (.l 12 (.l 13 .nil)))))) 10 (.l 6 (.q 7 (.q 8 (.q 9 (.l 12 (.l 13 .nil))))))) 10 (.l 5 (.l 6 (.q 7 (.q 8 (.q 9 (.l 12 (.l 13 .nil)))))))) 10 (.l 2 (.l 5 (.l 6 (.q 7 (.q 8 (.q 9 (.l 12 (.l 13 .nil)))))))))))))) (by kernel_rfl) (by kernel_rfl) ?_
    clear hp hq;(try clear w1);intro w1 hp hq
    repeat' (first|(((with_reducible apply sd_q);exact zo rfl);(first|((with_reducible apply Qah hp);exact rfl;exact zt rfl;exact ii;exact ii;(exact zl rfl);(simp only [n0,Nat.reduceAdd,nn];try rfl);simp only [zp,zq,z0,z1])|((with_reducible apply Qaq hp);exact zu rfl;simp only [zp,zq,z0,z1])|((with_reducible apply Qaj hp);exact rfl;(focus (intro _;go_simp;(try go_ints);try with_reducible rfl));simp only [zp,zq,z0,z1])))|(((with_reducible apply sd_l);exact zo rfl);(first|((with_reducible apply Qcm hq);(repeat (first|exact sb0|apply sb3));exact rfl;exact ii;exact rfl;clear hp hq;(try clear w1);intro g w1 hp hq;simp only [zp,zq,z0,z1])|((with_reducible apply Qap hp);exact rfl;(focus (intro _;go_simp;try first|with_reducible rfl|exact ⟨rfl,rfl⟩));(with_reducible first|exact fun w => HA.out w|exact fun w => HB.out w|exact fun w => HP.out w);exact hq;clear hp hq;(try clear w1);intro w1 hp hq;simp only [zp,zq,z0,z1])|((with_reducible apply Qam hq);exact rfl;exact zt rfl;(exact za rfl);exact rfl;(exact AggTy.size);exact rfl;exact ii;(simp only [n0,Nat.reduceAdd,nn];try rfl);(exact zl rfl);exact rfl;exact ii;(repeat (first|exact sb0|apply sb3));clear hp hq;(try clear w1);intro w1 hp hq)))|(with_reducible apply Qfa)|(with_reducible apply sd_b3)|((with_reducible apply Qao);clear hp;have hp := hq;clear hq))
    all_goals (go_wp2_with fail;go_meet;first|exact ⟨_,_,rfl,rfl,hp⟩|exact ⟨_,_,rfl,rfl,hp.perm (List.Perm.swap ..)⟩)
  case rest =>
    clear hp
    obtain ⟨g7,g8,rfl,rfl,hp⟩ := hcut
    go_wp2_with (fail)
    have hq := hp
    refine Qad hp hq [] (.q 0 (.q 1 (.q 3 (.q 4 (.l 2 (.l 5 (.q 6 (.q 7 .nil)))))))) (by kernel_rfl) (by kernel_rfl) ?_
    clear hp hq;(try clear w1);intro w1 hp hq
    repeat' (first|(((with_reducible apply sd_q);exact zo rfl);(first|((with_reducible apply Qah hp);exact rfl;exact zt rfl;exact ii;exact ii;(exact zl rfl);(simp only [n0,Nat.reduceAdd,nn];try rfl);simp only [zp,zq,z0,z1])|((with_reducible apply Qat hp);exact zb rfl;simp only [zp,zq,z0,z1])|((with_reducible apply Qaj hp);exact rfl;(focus (intro _;go_simp;(try go_ints);try with_reducible rfl));simp only [zp,zq,z0,z1])))|(((with_reducible apply sd_l);exact zo rfl);((with_reducible apply Qap hp);exact rfl;(focus (intro _;go_simp;try first|with_reducible rfl|exact ⟨rfl,rfl⟩));(with_reducible first|exact fun w => HNA.out w|exact fun w => HNB.out w);exact hq;clear hp hq;(try clear w1);intro w1 hp hq;simp only [zp,zq,z0,z1]))|((with_reducible apply Qao);clear hp;have hp := hq;clear hq))
    cases sa <;> cases sb <;> first|(exfalso;revert hu;decide)|clear hu
    all_goals
      have HX1 : Hid (∀ w,Calls Tryz.prog 46 #[W x0,.bool false] w (Dies (.iface 115 (.agg #[])) w)) := HX
      go_wp2_with ((with_reducible apply Qds);exact rfl;simp only [zp,zq,z0,z1])
      have hq := hp
      refine Qkp [(4,.pointer (some ⟨gq,0,none⟩)),(5,.pointer (some ⟨gr,0,none⟩)),(6,.pointer (some ⟨gk,0,none⟩))] [{ target := .fn (.func 41) #[.pointer (some ⟨gq,0,none⟩),.pointer (some ⟨gr,0,none⟩),.pointer (some ⟨gk,0,none⟩)],args := #[] }] (fun c w1 => c = [{ v := .iface 115 (.agg #[]),recovered := false }] ∧ Hp [] w [⟨g8,51,[.int .u64 (lb (y0) 0),.int .u64 (lb (y0) 1),.int .u64 (lb (y0) 2),.int .u64 (lb (y0) 3),.int .u64 (lb (y0) 4),.int .u64 (lb (y0) 5),.int .u64 (lb (y0) 6),.int .u64 (lb (y0) 7)]⟩,⟨g7,51,[.int .u64 (lb (x0) 0),.int .u64 (lb (x0) 1),.int .u64 (lb (x0) 2),.int .u64 (lb (x0) 3),.int .u64 (lb (x0) 4),.int .u64 (lb (x0) 5),.int .u64 (lb (x0) 6),.int .u64 (lb (x0) 7)]⟩,⟨gk,4,[.bool false]⟩,⟨gr,27,[.int .u64 0,.int .u64 0,.int .u64 0,.int .u64 0,.int .u64 0,.int .u64 0,.int .u64 0,.int .u64 0]⟩,⟨gq,27,[.int .u64 0,.int .u64 0,.int .u64 0,.int .u64 0,.int .u64 0,.int .u64 0,.int .u64 0,.int .u64 0]⟩,⟨gb,27,[.int .u64 (lb (b) 0),.int .u64 (lb (b) 1),.int .u64 (lb (b) 2),.int .u64 (lb (b) 3),.int .u64 (lb (b) 4),.int .u64 (lb (b) 5),.int .u64 (lb (b) 6),.int .u64 (lb (b) 7)]⟩,⟨ga,27,[.int .u64 (lb (a) 0),.int .u64 (lb (a) 1),.int .u64 (lb (a) 2),.int .u64 (lb (a) 3),.int .u64 (lb (a) 4),.int .u64 (lb (a) 5),.int .u64 (lb (a) 6),.int .u64 (lb (a) 7)]⟩] w1) (fun c a w1 hJ hD hk => by obtain ⟨rfl,hp⟩ := hk;show Leaves _ _ _ _ _ _ _;rw [hD];exact ddoor_bad (hJ (4,.pointer (some ⟨gq,0,none⟩)) (by simp)) (hJ (5,.pointer (some ⟨gr,0,none⟩)) (by simp)) (hJ (6,.pointer (some ⟨gk,0,none⟩)) (by simp)) hp) hp hq [9,10] (.q 0 (.q 1 (.q 3 (.q 4 (.q 5 (.l 2 (.l 6 (.l 7 (.l 8 (.l 9 (.l 10 .nil))))))))))) (by kernel_rfl) (by kernel_rfl) (by first|kernel_rfl|rfl) ?_
      clear hp hq;(try clear w1);intro w1 hp hq
      ((with_reducible apply sd_q);exact zo rfl)
      ((with_reducible apply Qah hp);exact rfl;exact zt rfl;exact ii;exact ii;(exact zl rfl);(simp only [n0,Nat.reduceAdd,nn];try rfl);simp only [zp,zq,z0,z1])
      ((with_reducible apply sd_q);exact zo rfl)
      ((with_reducible apply Qaq hp);exact zb rfl;simp only [zp,zq,z0,z1])
      ((with_reducible apply sd_q);exact zo rfl)
      ((with_reducible apply Qah hp);exact rfl;exact zt rfl;exact ii;exact ii;(exact zl rfl);(simp only [n0,Nat.reduceAdd,nn];try rfl);simp only [zp,zq,z0,z1])
      ((with_reducible apply sd_q);exact zo rfl)
      ((with_reducible apply Qaj hp);exact rfl;(focus (intro _;go_simp;(try go_ints);try with_reducible rfl));simp only [zp,zq,z0,z1])
      ((with_reducible apply sd_q);exact zo rfl)
      ((with_reducible apply Qah hp);exact rfl;exact zt rfl;exact ii;exact ii;(exact zl rfl);(simp only [n0,Nat.reduceAdd,nn];try rfl);simp only [zp,zq,z0,z1])
      ((with_reducible apply sd_l);exact zo rfl)
      ((with_reducible apply sd_callD hq);exact rfl;(focus (intro _;go_simp;try first|with_reducible rfl|exact ⟨rfl,rfl⟩));(with_reducible exact HX1.out _);clear hp hq;(try clear w1);intro w1 hp;exact ⟨by simp,rfl,rfl,hp⟩)
end Go.Proofs.YtdfdmeoalbpcdaaGreat
