/-
  Package ninepinref06: may, Check (contracts).
  Package grid: of, times, less (contracts).
  Package grid: numbers, and what it hands back (contracts).
  Package grid: Along (contract).
-/
import Derived.Test.YtdfdmeoalbpcdaaGreatBh
import Derived.Test.YtdfdmeoalbpcdaaGreatBn
set_option linter.unusedSimpArgs false
set_option linter.unusedVariables false
set_option maxRecDepth 100000
namespace Go.Proofs.YtdfdmeoalbpcdaaGreat
open Go Go.RowKit
set_option maxHeartbeats 1000000 in
theorem Qnd (n : Int) (w : World) : Calls Tryz.prog 57 #[.int .i64 n] w (Ret (.bool (decide (may n))) w) := by
  by_cases h1 : -268435456 ≤ n
  · by_cases h2 : n ≤ 268435456
    · rw [decide_eq_true (show may n from ⟨h1,h2⟩)]
      go_enter Tryz.func57,Tryz.ntmps57
      have hp := Hp.start [] w
      go_wp2_with ((with_reducible apply Qbm);exact rfl)
      exact bodyPost_ret (Qaa rfl rfl) rfl ⟨rfl,hp.keep⟩
    · rw [decide_eq_false (show ¬ may n from fun h => h2 h.2)]
      go_enter Tryz.func57,Tryz.ntmps57
      have hp := Hp.start [] w
      go_wp2_with ((with_reducible apply Qbm);exact rfl)
      exact bodyPost_ret (Qaa rfl rfl) rfl ⟨rfl,hp.keep⟩
  · rw [decide_eq_false (show ¬ may n from fun h => h1 h.1)]
    go_enter Tryz.func57,Tryz.ntmps57
    have hp := Hp.start [] w
    go_wp2_with (fail)
    exact bodyPost_ret (Qaa rfl rfl) rfl ⟨rfl,hp.keep⟩
set_option maxHeartbeats 4000000 in
theorem rcheck_gen (x y z r : Int) (H0 : Hid (may x ∧ may y ∧ may z → r = 0)) (H7 : Hid (¬ (may x ∧ may y ∧ may z) → r = 7)) (w : World) : Calls Tryz.prog 27 #[PV ⟨x,y,z⟩] w (Ret (.int .i64 r) w) := by
  have hx := Qnd x
  have hy := Qnd y
  have hz := Qnd z
  by_cases h1 : may x
  · rw [decide_eq_true h1] at hx
    by_cases h2 : may y
    · rw [decide_eq_true h2] at hy
      by_cases h3 : may z
      · rw [decide_eq_true h3] at hz
        obtain rfl := H0.out ⟨h1,h2,h3⟩
        have X := Lib.hid hx
        have Y := Lib.hid hy
        have Z := Lib.hid hz
        clear H0 H7 hx hy hz h1 h2 h3
        go_enter Tryz.func27,Tryz.ntmps27
        have hp := Hp.start [] w
        go_wp2_with (first|((with_reducible apply Qau hp);exact za rfl;exact rfl;clear hp;(try clear w1);intro g w1 hp;simp only [zp,zq,z0,z1])|((with_reducible apply Qai hp);exact zt rfl;exact ii;exact ii;(exact zio rfl);simp only [zp,zq,z0,z1])|((with_reducible first|refine Qaf hp (X.out _) ?_|refine Qaf hp (Y.out _) ?_|refine Qaf hp (Z.out _) ?_);clear hp;(try clear w1);intro w1 hp)|((with_reducible apply Qbm);exact rfl))
        exact bodyPost_ret (Qaa rfl rfl) rfl ⟨rfl,hp.keep⟩
      · rw [decide_eq_false h3] at hz
        obtain rfl := H7.out fun h => h3 h.2.2
        have X := Lib.hid hx
        have Y := Lib.hid hy
        have Z := Lib.hid hz
        clear H0 H7 hx hy hz h1 h2 h3
        go_enter Tryz.func27,Tryz.ntmps27
        have hp := Hp.start [] w
        go_wp2_with (first|((with_reducible apply Qau hp);exact za rfl;exact rfl;clear hp;(try clear w1);intro g w1 hp;simp only [zp,zq,z0,z1])|((with_reducible apply Qai hp);exact zt rfl;exact ii;exact ii;(exact zio rfl);simp only [zp,zq,z0,z1])|((with_reducible first|refine Qaf hp (X.out _) ?_|refine Qaf hp (Y.out _) ?_|refine Qaf hp (Z.out _) ?_);clear hp;(try clear w1);intro w1 hp)|((with_reducible apply Qbm);exact rfl))
        exact bodyPost_ret (Qaa rfl rfl) rfl ⟨rfl,hp.keep⟩
    · rw [decide_eq_false h2] at hy
      obtain rfl := H7.out fun h => h2 h.2.1
      have X := Lib.hid hx
      have Y := Lib.hid hy
      clear H0 H7 hx hy hz h1 h2
      go_enter Tryz.func27,Tryz.ntmps27
      have hp := Hp.start [] w
      go_wp2_with (first|((with_reducible apply Qau hp);exact za rfl;exact rfl;clear hp;(try clear w1);intro g w1 hp;simp only [zp,zq,z0,z1])|((with_reducible apply Qai hp);exact zt rfl;exact ii;exact ii;(exact zio rfl);simp only [zp,zq,z0,z1])|((with_reducible first|refine Qaf hp (X.out _) ?_|refine Qaf hp (Y.out _) ?_);clear hp;(try clear w1);intro w1 hp)|((with_reducible apply Qbm);exact rfl)|((with_reducible apply Qds);exact rfl;simp only [zp,zq,z0,z1]))
      exact bodyPost_ret (Qaa rfl rfl) rfl ⟨rfl,hp.keep⟩
  · rw [decide_eq_false h1] at hx
    obtain rfl := H7.out fun h => h1 h.1
    have X := Lib.hid hx
    clear H0 H7 hx hy hz h1
    go_enter Tryz.func27,Tryz.ntmps27
    have hp := Hp.start [] w
    go_wp2_with (first|((with_reducible apply Qau hp);exact za rfl;exact rfl;clear hp;(try clear w1);intro g w1 hp;simp only [zp,zq,z0,z1])|((with_reducible apply Qai hp);exact zt rfl;exact ii;exact ii;(exact zio rfl);simp only [zp,zq,z0,z1])|((with_reducible refine Qaf hp (X.out _) ?_);clear hp;(try clear w1);intro w1 hp)|((with_reducible apply Qds);exact rfl;simp only [zp,zq,z0,z1]))
    exact bodyPost_ret (Qaa rfl rfl) rfl ⟨rfl,hp.keep⟩
theorem rcheck_any (p : P3) (w : World) : Calls Tryz.prog 27 #[PV p] w (Ret (.int .i64 (if p.may then 0 else 7)) w) :=
  rcheck_gen p.x p.y p.z _ (Lib.hid fun h => if_pos h) (Lib.hid fun h => if_neg h) w
end Go.Proofs.YtdfdmeoalbpcdaaGreat

set_option linter.unusedSimpArgs false
set_option maxRecDepth 100000
namespace Go.Proofs.YtdfdmeoalbpcdaaGreat
open Go Go.RowKit
set_option maxHeartbeats 1000000 in
theorem Qmp (x y z : Int) (hx : I64 x) (hy : I64 y) (hz : I64 z) (w : World) : Calls Tryz.prog 35 #[Pv x y z] w (Ret (Sv x y z) w) := by
  have Hx := Lib.hid hx
  have Hy := Lib.hid hy
  have Hz := Lib.hid hz
  clear hx hy hz
  go_enter Tryz.func35,Tryz.ntmps35
  have hp := Hp.start [] w
  go_wp2_with (first|((with_reducible apply Qau hp);exact za rfl;exact rfl;clear hp;(try clear w1);intro g w1 hp;simp only [zp,zq,z0,z1])|((with_reducible apply Qag hp);exact ii;exact rfl;clear hp;(try clear w1);intro g w1 hp;simp only [zp,zq,z0,z1]))
  have hq := hp
  refine Qad hp hq [10] (.q 0 (.q 1 (.q 3 (.q 4 (.q 6 (.q 7 (.l 2 (.l 5 (.l 8 (.q 9 (.l 10 .nil))))))))))) (by kernel_rfl) (by kernel_rfl) ?_
  clear hp hq;(try clear w1);intro w1 hp hq
  repeat' (first|(((with_reducible apply sd_q);exact zo rfl);(first|((with_reducible apply Qba hp);exact rfl;exact zt rfl;exact ii;exact ii;(exact zio rfl);simp only [zp,zq,z0,z1])|((with_reducible apply Qaj hp);exact rfl;(focus (intro _;go_simp;(try go_ints);try with_reducible rfl));simp only [zp,zq,z0,z1])))|(((with_reducible apply sd_l);exact zo rfl);(first|((with_reducible apply Qap hp);exact rfl;(focus (intro _;go_simp;try first|with_reducible rfl|exact ⟨rfl,rfl⟩));(with_reducible first|exact fun w => Qor x Hx.out w|exact fun w => Qor y Hy.out w|exact fun w => Qor z Hz.out w);exact hq;clear hp hq;(try clear w1);intro w1 hp hq;simp only [zp,zq,z0,z1])|((with_reducible apply Qbb hq);exact rfl;exact zt rfl;(exact za rfl);exact rfl;(exact AggTy.size);exact rfl;exact ii;(simp only [n0,Nat.reduceAdd,nn];try rfl);(exact zl rfl);exact rfl;exact ii;exact rfl;clear hp hq;(try clear w1);intro w1 hq;have hp := True.intro)))|((with_reducible apply Qao);clear hp;have hp := hq;clear hq))
  go_wp2
  exact bodyPost_ret (Qaa rfl ⟨_,rfl,Qac hp (Nat.le_of_ble_eq_true rfl)⟩) rfl ⟨rfl,hp.keep⟩
set_option maxHeartbeats 1000000 in
theorem gtimes_any (a b : Int) (ha : Fit a) (hb : Fit b) (w : World) : Calls Tryz.prog 114 #[W a,W b] w (Ret (W (fz (a * b))) w) := by
  have Ha := Lib.hid ha
  have Hb := Lib.hid hb
  clear ha hb
  go_enter Tryz.func114,Tryz.ntmps114
  have hp := Hp.start [] w
  go_wp2_with (first|((with_reducible apply Qau hp);exact za rfl;exact rfl;clear hp;(try clear w1);intro g w1 hp;simp only [zp,zq,z0,z1])|((with_reducible apply Qag hp);exact ii;exact rfl;clear hp;(try clear w1);intro g w1 hp;simp only [zp,zq,z0,z1])|((with_reducible apply Qab hp);exact zt rfl;exact ii;exact ii;(exact zl rfl);(simp only [n0,Nat.reduceAdd,nn];try rfl);simp only [zp,zq,z0,z1])|((with_reducible apply Qae hp);exact zt rfl;exact za rfl;exact rfl;(exact AggTy.size);exact rfl;exact ii;(simp only [n0,Nat.reduceAdd,nn];try rfl);(exact zl rfl);exact rfl;exact ii;clear hp;(try clear w1);intro w1 hp)|((with_reducible refine Qaf hp (mul_any _ _ Ha.out Hb.out _) ?_);clear hp;(try clear w1);intro w1 hp))
  exact bodyPost_ret (Qaa rfl ⟨_,rfl,Qac hp (Nat.le_of_ble_eq_true rfl)⟩) rfl ⟨rfl,hp.keep⟩
set_option maxHeartbeats 1000000 in
theorem gless_any (a b : Int) (ha : Fit a) (hb : Fit b) (w : World) : Calls Tryz.prog 113 #[W a,W b] w (Ret (W (fz (a - b))) w) := by
  have Ha := Lib.hid ha
  have Hb := Lib.hid hb
  clear ha hb
  go_enter Tryz.func113,Tryz.ntmps113
  have hp := Hp.start [] w
  go_wp2_with (first|((with_reducible apply Qau hp);exact za rfl;exact rfl;clear hp;(try clear w1);intro g w1 hp;simp only [zp,zq,z0,z1])|((with_reducible apply Qag hp);exact ii;exact rfl;clear hp;(try clear w1);intro g w1 hp;simp only [zp,zq,z0,z1])|((with_reducible apply Qab hp);exact zt rfl;exact ii;exact ii;(exact zl rfl);(simp only [n0,Nat.reduceAdd,nn];try rfl);simp only [zp,zq,z0,z1])|((with_reducible apply Qae hp);exact zt rfl;exact za rfl;exact rfl;(exact AggTy.size);exact rfl;exact ii;(simp only [n0,Nat.reduceAdd,nn];try rfl);(exact zl rfl);exact rfl;exact ii;clear hp;(try clear w1);intro w1 hp)|((with_reducible refine Qaf hp (sub_any _ _ Ha.out Hb.out _) ?_);clear hp;(try clear w1);intro w1 hp))
  exact bodyPost_ret (Qaa rfl ⟨_,rfl,Qac hp (Nat.le_of_ble_eq_true rfl)⟩) rfl ⟨rfl,hp.keep⟩
end Go.Proofs.YtdfdmeoalbpcdaaGreat

set_option linter.unusedSimpArgs false
set_option maxRecDepth 100000
namespace Go.Proofs.YtdfdmeoalbpcdaaGreat
open Go Go.RowKit
abbrev Sl (x y z : Int) : List Value := [.int .u64 (lb (x) 0),.int .u64 (lb (x) 1),.int .u64 (lb (x) 2),.int .u64 (lb (x) 3),.int .u64 (lb (x) 4),.int .u64 (lb (x) 5),.int .u64 (lb (x) 6),.int .u64 (lb (x) 7),.int .u64 (lb (y) 0),.int .u64 (lb (y) 1),.int .u64 (lb (y) 2),.int .u64 (lb (y) 3),.int .u64 (lb (y) 4),.int .u64 (lb (y) 5),.int .u64 (lb (y) 6),.int .u64 (lb (y) 7),.int .u64 (lb (z) 0),.int .u64 (lb (z) 1),.int .u64 (lb (z) 2),.int .u64 (lb (z) 3),.int .u64 (lb (z) 4),.int .u64 (lb (z) 5),.int .u64 (lb (z) 6),.int .u64 (lb (z) 7)]
set_option maxHeartbeats 1000000 in
theorem numbers_any (x y z u v t : Int) (w : World) : Calls Tryz.prog 34 #[Sv x y z,Sv u v t] w (RetN2 (fun g h => .func (.func 74) #[] #[.pointer (some ⟨h,0,none⟩),.pointer (some ⟨g,0,none⟩)]) 29 (Sl u v t) 29 (Sl x y z) w) := by
  have hmf : ∀ (fn : Fn) (first cap : Array Value) (w : World),(Instr.makeFunc fn first cap).run Tryz.prog w = .ok (.func fn first cap) w := fun _ _ _ _ => rfl
  go_enter Tryz.func34,Tryz.ntmps34
  have hp := Hp.start [] w
  go_wp2_with ((with_reducible apply Qau hp);exact za rfl;exact rfl;clear hp;(try clear w1);intro g w1 hp;simp only [zp,zq,z0,z1])
  refine bodyPost_ret (Qaa rfl rfl) rfl ⟨g,_,rfl,?_,hp.keep,hp.fresh,hp.fresh,hp.blk,hp.blk⟩
  have := hp.nd
  simp at this
  exact this
def nth (x y z : Int) : Fin 3 → Int
  | 0 => x
  | 1 => y
  | 2 => z
/-- The blocks of a and b lie as they lay. -/
def Kept (ga gb : Nat) (W W' : World) : Prop := W'.heap[ga]? = W.heap[ga]? ∧ W'.heap[gb]? = W.heap[gb]?
def Went (pre : List (Fin 3)) : Prop := pre = [0] ∨ pre = [0,1] ∨ pre = [0,1,2]
set_option maxHeartbeats 4000000 in
theorem Qmq (n : Nat) (x y z u v t : Int) (ga gb : Nat) (hne : ga ≠ gb) (w : World) (ha : w.heap[ga]? = some (.cells (Sl x y z).toArray 29 (0,0))) (hb : w.heap[gb]? = some (.cells (Sl u v t).toArray 29 (0,0))) :
    SeqStopsK Fence.wide n Tryz.prog 74 #[.pointer (some ⟨ga,0,none⟩),.pointer (some ⟨gb,0,none⟩)] (fun i : Fin 3 => #[W (nth x y z i),W (nth u v t i)]) (Kept ga gb) (fun xs => xs = [0,1,2]) Went 3 w := by
  intro l J Jx W0 hW hJ hJx hY h0
  have hlt : ∀ {k : Nat} {o : Obj},w.heap[k]? = some o → k < w.heap.size := fun {k o} h => by
    rcases Nat.lt_or_ge k w.heap.size with h' | h'
    · exact h'
    · rw [Array.getElem?_eq_none h'] at h;cases h
  have ha := (hW.block _ (hlt ha)).trans ha
  have hb := (hW.block _ (hlt hb)).trans hb
  clear hW hJ hJx hlt
  obtain ⟨fn,tmps,asg,body,hy,hR⟩ := hY [] 0 W0 h0 (by simp)
  dsimp only [nth,List.nil_append] at hy hR
  have hp := Hp.startX2 hne ha hb
  have HY := Lib.hid hY
  clear hY
  refine callsIn_of_wp Tryz.func74 rfl trivial ?_ rfl
  simp only [Tryz.ntmps74,List.size_toArray,List.length_cons,List.length_nil,Nat.reduceAdd,Nat.reduceSub,Array.replicate_succ,Array.replicate_zero,List.push_toArray,List.append_toArray,List.nil_append,List.cons_append]
  gi_wp2_with ((with_reducible apply Qcl hp);exact zt rfl;exact ii;exact ii;(exact zl rfl);(simp only [n0,Nat.reduceAdd,nn];try rfl);simp only [zp,zq,z0,z1])
  refine ⟨fun h => by simp [Fence.wide] at h,hR.mono ?_⟩
  clear hp hR hy h0
  rintro e W1 (⟨rfl,hJ1,hk1,hk2⟩|⟨rfl,hx⟩)
  · have ha := hk1.trans ha
    have hb := hk2.trans hb
    clear hk1 hk2
    obtain ⟨fn,tmps,asg,body,hy,hR⟩ := HY.out [0] 1 W1 hJ1 (by simp)
    dsimp only [nth,List.cons_append,List.nil_append] at hy hR
    have hp := Hp.startX2 hne ha hb
    gi_wp2_with (first|((with_reducible apply Qcl hp);exact zt rfl;exact ii;exact ii;(exact zl rfl);(simp only [n0,Nat.reduceAdd,nn];try rfl);simp only [zp,zq,z0,z1])|((with_reducible apply si_strip);exact rfl))
    refine ⟨fun h => by simp [Fence.wide] at h,hR.mono ?_⟩
    clear hp hR hy hJ1
    rintro e W2 (⟨rfl,hJ2,hk1,hk2⟩|⟨rfl,hx⟩)
    · have ha := hk1.trans ha
      have hb := hk2.trans hb
      clear hk1 hk2
      obtain ⟨fn,tmps,asg,body,hy,hR⟩ := HY.out [0,1] 2 W2 hJ2 (by simp)
      dsimp only [nth,List.cons_append,List.nil_append] at hy hR
      have hp := Hp.startX2 hne ha hb
      gi_wp2_with (first|((with_reducible apply Qcl hp);exact zt rfl;exact ii;exact ii;(exact zl rfl);(simp only [n0,Nat.reduceAdd,nn];try rfl);simp only [zp,zq,z0,z1])|((with_reducible apply si_strip);exact rfl))
      refine ⟨fun h => by simp [Fence.wide] at h,hR.mono ?_⟩
      clear hp hR hy hJ2
      rintro e W3 (⟨rfl,hJ3,hk1,hk2⟩|⟨rfl,hx⟩)
      · gi_wp2_with (fail)
        go_end0
        exact ⟨⟨_,rfl⟩,.inl ⟨_,rfl,hJ3⟩⟩
      · gi_wp2_with (fail)
        go_end0
        exact ⟨⟨_,rfl⟩,.inr ⟨_,.inr (.inr rfl),hx⟩⟩
    · gi_wp2_with ((with_reducible apply Qjk);exact rfl;simp only [zp,zq,z0,z1])
      go_end0
      exact ⟨⟨_,rfl⟩,.inr ⟨_,.inr (.inl rfl),hx⟩⟩
  · gi_wp2_with ((with_reducible apply Qjk);exact rfl;simp only [zp,zq,z0,z1])
    go_end0
    exact ⟨⟨_,rfl⟩,.inr ⟨_,.inl rfl,hx⟩⟩
end Go.Proofs.YtdfdmeoalbpcdaaGreat

set_option linter.unusedSimpArgs false
set_option linter.unusedVariables false
set_option maxRecDepth 100000
namespace Go.Proofs.YtdfdmeoalbpcdaaGreat
open Go Go.RowKit
/-- The sum so far, as long as all fits. -/
def step (a b : Fin 3 → Int) (s : Option Int) (i : Fin 3) : Option Int := s.bind fun s => if Fit (a i * b i) ∧ Fit (s + a i * b i) then some (s + a i * b i) else none
def acc (a b : Fin 3 → Int) (l : List (Fin 3)) : Option Int := l.foldl (step a b) (some 0)
theorem Qhu (a b : Fin 3 → Int) (l : List (Fin 3)) (i : Fin 3) : acc a b (l ++ [i]) = step a b (acc a b l) i := by simp [acc,List.foldl_append]
theorem acc_none {a b : Fin 3 → Int} {l : List (Fin 3)} (hl : Went l) (h : acc a b l = none) : acc a b [0,1,2] = none := by
  have hs : ∀ i,step a b none i = none := fun _ => rfl
  rcases hl with rfl|rfl|rfl
  · rw [show ([0,1,2] : List (Fin 3)) = ([0] ++ [1]) ++ [2] from rfl,Qhu,Qhu,h,hs,hs]
  · rw [show ([0,1,2] : List (Fin 3)) = [0,1] ++ [2] from rfl,Qhu,h,hs]
  · exact h
theorem nth_fit {x y z : Int} (hx : Fit x) (hy : Fit y) (hz : Fit z) : ∀ i,Fit (nth x y z i)
  | 0 => hx
  | 1 => hy
  | 2 => hz
section
variable (w : World) (gs gk gp ga gb : Nat) (x y z u v t : Int)
/-- Between two rounds; and where a round has left. -/
def AI (pre : List (Fin 3)) (W' : World) : Prop := ∃ s,Fit s ∧ acc (nth x y z) (nth u v t) pre = some s ∧ Hp [] w [⟨gb,29,Sl u v t⟩,⟨ga,29,Sl x y z⟩,⟨gs,27,[.int .u64 (lb (s) 0),.int .u64 (lb (s) 1),.int .u64 (lb (s) 2),.int .u64 (lb (s) 3),.int .u64 (lb (s) 4),.int .u64 (lb (s) 5),.int .u64 (lb (s) 6),.int .u64 (lb (s) 7)]⟩,⟨gk,4,[.bool false]⟩,⟨gp,27,[.int .u64 0,.int .u64 0,.int .u64 0,.int .u64 0,.int .u64 0,.int .u64 0,.int .u64 0,.int .u64 0]⟩] W'
def AX (c : Code) (pre : List (Fin 3)) (W' : World) : Prop := c = .ret ∧ acc (nth x y z) (nth u v t) pre = none ∧ ∃ s : List Value,Hp [] w [⟨gb,29,Sl u v t⟩,⟨ga,29,Sl x y z⟩,⟨gs,27,s⟩,⟨gk,4,[.bool false]⟩,⟨gp,27,[.int .u64 0,.int .u64 0,.int .u64 0,.int .u64 0,.int .u64 0,.int .u64 0,.int .u64 0,.int .u64 0]⟩] W'
def AA (i : Fin 3) (a' : Act) (W' : World) : Prop := ∃ g7 g8 u0 u1 u2 u3 u9 u10 u11 u12 u13 u14 u15 u16 u17 u18 u19 u20 u21 u22 u23 u24 u25 u26 u27 u28 u29 u30 u31 u32 u33 u34 u35,[g8,g7,gb,ga,gs,gk,gp].Nodup ∧ w.heap.size ≤ g7 ∧ w.heap.size ≤ g8 ∧ W'.heap[g7]? = some (.cells [.int .u64 (lb (nth x y z i) 0),.int .u64 (lb (nth x y z i) 1),.int .u64 (lb (nth x y z i) 2),.int .u64 (lb (nth x y z i) 3),.int .u64 (lb (nth x y z i) 4),.int .u64 (lb (nth x y z i) 5),.int .u64 (lb (nth x y z i) 6),.int .u64 (lb (nth x y z i) 7)].toArray 27 (0,0)) ∧ W'.heap[g8]? = some (.cells [.int .u64 (lb (nth u v t i) 0),.int .u64 (lb (nth u v t i) 1),.int .u64 (lb (nth u v t i) 2),.int .u64 (lb (nth u v t i) 3),.int .u64 (lb (nth u v t i) 4),.int .u64 (lb (nth u v t i) 5),.int .u64 (lb (nth u v t i) 6),.int .u64 (lb (nth u v t i) 7)].toArray 27 (0,0)) ∧
  a' = { tmps := #[u0,u1,u2,u3,.pointer (some ⟨gp,0,none⟩),.pointer (some ⟨gk,0,none⟩),.pointer (some ⟨gs,0,none⟩),.pointer (some ⟨g7,0,none⟩),.pointer (some ⟨g8,0,none⟩),u9,u10,u11,u12,u13,u14,u15,u16,u17,u18,u19,u20,u21,u22,u23,u24,u25,u26,u27,u28,u29,u30,u31,u32,u33,u34,u35],defers := [] }
end
set_option maxHeartbeats 4000000 in
theorem Qjm (x y z p q r : Int) (hx : Fit x) (hy : Fit y) (hz0 : Fit z) (hp' : I64 p) (hq' : I64 q) (hr' : I64 r) (w : World) : Calls Tryz.prog 16 #[Sv x y z,Pv p q r] w
    (Ret (.tuple #[W ((acc (nth x y z) (nth p q r) [0,1,2]).getD 0),.bool (acc (nth x y z) (nth p q r) [0,1,2]).isSome]) w) := by
  have hof := Qmp p q r hp' hq' hr'
  have Hof := Lib.hid hof
  clear hof
  refine (callsIn_wide (n := 8)).1 (callsIn_of_wp_marks Tryz.func16 rfl trivial (wpIn_wide.2 ?_) rfl)
  simp only [Tryz.ntmps16,List.size_toArray,List.length_cons,List.length_nil,Nat.reduceAdd,Nat.reduceSub,Array.replicate_succ,Array.replicate_zero,List.push_toArray,List.append_toArray,List.nil_append,List.cons_append]
  have hp := Hp.start [] w
  go_wp2_with (first|((with_reducible apply Qau hp);exact za rfl;exact rfl;clear hp;(try clear w1);intro g w1 hp;simp only [zp,zq,z0,z1])|((with_reducible apply Qag hp);exact ii;exact rfl;clear hp;(try clear w1);intro g w1 hp;simp only [zp,zq,z0,z1]))
  have hq := hp
  refine Qad hp hq [] (.q 0 (.q 1 (.l 2 (.l 3 .nil)))) (by kernel_rfl) (by kernel_rfl) ?_
  clear hp hq;(try clear w1);intro w1 hp hq
  repeat' (first|(((with_reducible apply sd_q);exact zo rfl);((with_reducible apply Qah hp);exact rfl;exact zt rfl;exact ii;exact ii;(exact zl rfl);(simp only [n0,Nat.reduceAdd,nn];try rfl);simp only [zp,zq,z0,z1]))|(((with_reducible apply sd_l);exact zo rfl);(first|((with_reducible apply Qap hp);exact rfl;(focus (intro _;go_simp;try first|with_reducible rfl|exact ⟨rfl,rfl⟩));(with_reducible exact fun w => Hof.out w);exact hq;clear hp hq;(try clear w1);intro w1 hp hq;simp only [zp,zq,z0,z1])|((with_reducible apply sd_callN2 hq);(repeat (exact sb0));exact rfl;(focus (intro _;go_simp;try first|with_reducible rfl|exact ⟨rfl,rfl⟩));(with_reducible exact numbers_any _ _ _ _ _ _ _);clear hp hq;(try clear w1);intro gA gB w1 hp hq;simp only [zp,zq,z0,z1])))|((with_reducible apply Qao);clear hp;have hp := hq;clear hq))
  go_wp2
  rename_i gn gpt gp gk K hK
  obtain ⟨gs,rfl⟩ : ∃ x : Nat,x = g := ⟨_,rfl⟩
  have hne : gB ≠ gA := by
    have := hp.nd
    simp at this
    exact fun e => this.1.1 e.symm
  have hwl := hp.keep.size
  refine wpIn_wide.1 (wpIn_rangeFunc_ownH (α := Fin 3) rfl (show 1 ≤ 8 by omega) (gf := 74) (lb := #[.pointer (some ⟨gB,0,none⟩),.pointer (some ⟨gA,0,none⟩)]) rfl trivial (Go.Proofs.enters_of Tryz.func74 (by kernel_rfl) rfl)
    (Qmq _ x y z p q r gB gA hne _ hp.blk hp.blk) (fun h k => ⟨k.1.trans h.1,k.2.trans h.2⟩) ?keep (Below.refl _ _) (fun _ => rfl)
    (AI w gs gk gp gB gA x y z p q r) (AX w gs gk gp gB gA x y z p q r) ?ownI ?ownX ?start (AA w gs gk gp gB gA x y z p q r) ?ownA ?assign ?body ?done ?stop)
  case keep =>
    intro W l o o' hl ho hc _
    have h1 := hp.lt (b := ⟨gA,_,_⟩) (by simp;left;exact ⟨rfl,rfl⟩)
    have h2 := hp.lt (b := ⟨gB,_,_⟩) (by simp;right;left;exact ⟨rfl,rfl⟩)
    exact ⟨World.putObj_heap_other (fun e => by subst e;simp at h2;omega),World.putObj_heap_other (fun e => by subst e;simp at h1;omega)⟩
  case ownI => exact fun pre W W' row ⟨s,hs,ha,h⟩ hg hr => ⟨s,hs,ha,h.grown hp.keep.size hg hr⟩
  case ownX => exact fun c pre W W' row ⟨hc,ha,s,h⟩ hg hr => ⟨hc,ha,s,h.grown hp.keep.size hg hr⟩
  case start => exact ⟨0,Qbp,rfl,by
    have e : ([.int .u64 0,.int .u64 0,.int .u64 0,.int .u64 0,.int .u64 0,.int .u64 0,.int .u64 0,.int .u64 0] : List Value) = [.int .u64 (lb (0) 0),.int .u64 (lb (0) 1),.int .u64 (lb (0) 2),.int .u64 (lb (0) 3),.int .u64 (lb (0) 4),.int .u64 (lb (0) 5),.int .u64 (lb (0) 6),.int .u64 (lb (0) 7)] := by simp only [Qcy]
    have h := hp.sub (H' := [⟨gA,29,Sl p q r⟩,⟨gB,29,Sl x y z⟩,⟨gs,27,[.int .u64 (lb (0) 0),.int .u64 (lb (0) 1),.int .u64 (lb (0) 2),.int .u64 (lb (0) 3),.int .u64 (lb (0) 4),.int .u64 (lb (0) 5),.int .u64 (lb (0) 6),.int .u64 (lb (0) 7)]⟩,⟨gk,4,[.bool false]⟩,⟨gp,27,[.int .u64 0,.int .u64 0,.int .u64 0,.int .u64 0,.int .u64 0,.int .u64 0,.int .u64 0,.int .u64 0]⟩]) (by rw [← e];repeat (first|with_reducible exact sb1|with_reducible apply sb2))
    exact h⟩
  case ownA =>
    rintro i a' _ W W' row ⟨g7,g8,u0,u1,u2,u3,u9,u10,u11,u12,u13,u14,u15,u16,u17,u18,u19,u20,u21,u22,u23,u24,u25,u26,u27,u28,u29,u30,u31,u32,u33,u34,u35,hn,h7,h8,hb7,hb8,e⟩ hg hr
    exact ⟨g7,g8,u0,u1,u2,u3,u9,u10,u11,u12,u13,u14,u15,u16,u17,u18,u19,u20,u21,u22,u23,u24,u25,u26,u27,u28,u29,u30,u31,u32,u33,u34,u35,hn,h7,h8,Qjt rfl hb7 hg hr,Qjt rfl hb8 hg hr,e⟩
  case assign =>
    clear hK
    rintro l pre i Wr K ⟨s,hs,ha,hI⟩ hK
    have hp := hI.self
    have hc := hI.selfCells
    try dsimp only [List.map_cons,List.map_nil] at hp
    try dsimp only [List.map_cons,List.map_nil] at hc
    rw [Qoi]
    simp only [List.setIfInBounds_toArray,List.set_cons_zero,List.set_cons_succ]
    gi_wp2_with (first|((with_reducible apply Qdo hp);exact ii;exact rfl;clear hp;(try clear w1);intro g w1 hp;simp only [zp,zq,z0,z1])|((with_reducible apply Qdp hp);exact zt rfl;(exact za rfl);exact rfl;(exact AggTy.size);exact rfl;exact ii;(simp only [n0,Nat.reduceAdd,nn];try rfl);(exact zl rfl);exact rfl;exact ii;clear hp;(try clear w1);intro w1 hp))
    rename_i g1
    obtain ⟨g2,rfl⟩ : ∃ x : Nat,x = g := ⟨_,rfl⟩
    have hn := hp.nd
    try dsimp only [List.map_cons,List.map_nil] at hn
    have hn7 : g1 ∉ [gA,gB,gs,gk,gp] := (List.nodup_cons.1 (List.nodup_cons.1 hn).2).1
    have hn8 : g2 ∉ [gA,gB,gs,gk,gp] := fun h => (List.nodup_cons.1 hn).1 (List.mem_cons_of_mem _ h)
    exact hK _ _ (hp.others hc) ⟨hp.blk.trans (hI.blk).symm,hp.blk.trans (hI.blk).symm⟩ ⟨s,hs,ha,(hI.within' hp hI.selfSizes).sub ((List.Sublist.refl _).cons _ |>.cons _)⟩
      ⟨g1,g2,_,_,_,_,_,_,_,_,_,_,_,_,_,_,_,_,_,_,_,_,_,_,_,_,_,_,_,_,_,_,_,hn,Nat.le_trans hI.keep.size (hp.newX hn7),Nat.le_trans hI.keep.size (hp.newX hn8),hp.blk,hp.blk,rfl⟩
  case body =>
    clear hK
    rintro l pre i a' Wr - - ⟨s,hs,ha,hI⟩ ⟨g7,g8,u0,u1,u2,u3,u9,u10,u11,u12,u13,u14,u15,u16,u17,u18,u19,u20,u21,u22,u23,u24,u25,u26,u27,u28,u29,u30,u31,u32,u33,u34,u35,hn,h7,h8,hb7,hb8,rfl⟩ -
    have hall : ∀ b ∈ ([⟨g8,27,[.int .u64 (lb (nth p q r i) 0),.int .u64 (lb (nth p q r i) 1),.int .u64 (lb (nth p q r i) 2),.int .u64 (lb (nth p q r i) 3),.int .u64 (lb (nth p q r i) 4),.int .u64 (lb (nth p q r i) 5),.int .u64 (lb (nth p q r i) 6),.int .u64 (lb (nth p q r i) 7)]⟩,⟨g7,27,[.int .u64 (lb (nth x y z i) 0),.int .u64 (lb (nth x y z i) 1),.int .u64 (lb (nth x y z i) 2),.int .u64 (lb (nth x y z i) 3),.int .u64 (lb (nth x y z i) 4),.int .u64 (lb (nth x y z i) 5),.int .u64 (lb (nth x y z i) 6),.int .u64 (lb (nth x y z i) 7)]⟩,⟨gA,29,Sl p q r⟩,⟨gB,29,Sl x y z⟩,⟨gs,27,[.int .u64 (lb (s) 0),.int .u64 (lb (s) 1),.int .u64 (lb (s) 2),.int .u64 (lb (s) 3),.int .u64 (lb (s) 4),.int .u64 (lb (s) 5),.int .u64 (lb (s) 6),.int .u64 (lb (s) 7)]⟩,⟨gk,4,[.bool false]⟩,⟨gp,27,[.int .u64 0,.int .u64 0,.int .u64 0,.int .u64 0,.int .u64 0,.int .u64 0,.int .u64 0,.int .u64 0]⟩] : List Bk),Wr.heap[b.g]? = some (.cells b.cs.toArray b.t (0,0)) := by
      intro b hb
      rcases List.mem_cons.1 hb with rfl|hb
      · exact hb8
      · rcases List.mem_cons.1 hb with rfl|hb
        · exact hb7
        · exact (hI.own b hb).2
    have hc := Hp.hereCells hall
    have hp := Hp.here hall hn
    try dsimp only [List.map_cons,List.map_nil] at hp
    try dsimp only [List.map_cons,List.map_nil] at hc
    have hm := mul_any (nth x y z i) (nth p q r i) (nth_fit hx hy hz0 i) (nth_fit (Qdj hp') (Qdj hq') (Qdj hr') i)
    have Hm := Lib.hid hm
    clear hm
    have hX : ∀ e ∈ [g8,g7,gA,gB,gs,gk,gp],w.heap.size ≤ e := by
      intro e he
      rcases List.mem_cons.1 he with rfl|he
      · exact h8
      · rcases List.mem_cons.1 he with rfl|he
        · exact h7
        · exact hI.selfSizes e he
    have hz : W 0 = .agg #[.int .u64 0,.int .u64 0,.int .u64 0,.int .u64 0,.int .u64 0,.int .u64 0,.int .u64 0,.int .u64 0] := Qfe
    have hst : acc (nth x y z) (nth p q r) (pre ++ [i]) = step (nth x y z) (nth p q r) (some s) i := by rw [Qhu,ha]
    by_cases hf : Fit (nth x y z i * nth p q r i)
    · have hd : decide (Fit (nth x y z i * nth p q r i)) = true := decide_eq_true hf
      have hfz : fz (nth x y z i * nth p q r i) = nth x y z i * nth p q r i := if_pos hf
      have ha := add_any s (nth x y z i * nth p q r i) hs hf
      rw [hfz,hd] at Hm
      have Ha := Lib.hid ha
      clear ha
      by_cases hg : Fit (s + nth x y z i * nth p q r i)
      · have hd2 : decide (Fit (s + nth x y z i * nth p q r i)) = true := decide_eq_true hg
        have hgz : fz (s + nth x y z i * nth p q r i) = s + nth x y z i * nth p q r i := if_pos hg
        rw [hgz,hd2] at Ha
        gi_wp2_with (first|((with_reducible apply Qdo hp);exact ii;exact rfl;clear hp;(try clear w1);intro g w1 hp;simp only [zp,zq,z0,z1])|((with_reducible apply Qcl hp);exact zt rfl;exact ii;exact ii;(exact zl rfl);(simp only [n0,Nat.reduceAdd,nn];try rfl);simp only [zp,zq,z0,z1])|((with_reducible apply Qdp hp);exact zt rfl;(exact za rfl);exact rfl;(exact AggTy.size);exact rfl;exact ii;(simp only [n0,Nat.reduceAdd,nn];try rfl);(exact zl rfl);exact rfl;exact ii;clear hp;(try clear w1);intro w1 hp)|((with_reducible refine Qby hp (Hm.out _) ?_);clear hp;(try clear w1);intro w1 hp)|((with_reducible refine Qby hp (Ha.out _) ?_);clear hp;(try clear w1);intro w1 hp))
        exact ⟨hp.others hc,⟨hp.blk.trans (hI.blk).symm,hp.blk.trans (hI.blk).symm⟩,s + nth x y z i * nth p q r i,hg,by rw [hst];simp only [step,Option.bind_some,hf,hg,and_self,and_true,and_false,true_and,if_true,if_false],(hI.within' hp hX).sub (by repeat (first|with_reducible exact sb0|with_reducible apply sb3))⟩
      · have hd2 : decide (Fit (s + nth x y z i * nth p q r i)) = false := decide_eq_false hg
        have hgz : fz (s + nth x y z i * nth p q r i) = 0 := if_neg hg
        rw [hgz,hd2] at Ha
        gi_wp2_with (first|((with_reducible apply Qdo hp);exact ii;exact rfl;clear hp;(try clear w1);intro g w1 hp;simp only [zp,zq,z0,z1])|((with_reducible apply Qcl hp);exact zt rfl;exact ii;exact ii;(exact zl rfl);(simp only [n0,Nat.reduceAdd,nn];try rfl);simp only [zp,zq,z0,z1])|((with_reducible apply Qdp hp);exact zt rfl;(first|exact za rfl|exact zb rfl);exact rfl;exact Sz.z;exact rfl;exact ii;(simp only [n0,Nat.reduceAdd,nn];try rfl);(exact zl rfl);exact rfl;exact ii;clear hp;(try clear w1);intro w1 hp)|((with_reducible refine Qby hp (Hm.out _) ?_);clear hp;(try clear w1);intro w1 hp)|((with_reducible refine Qby hp (Ha.out _) ?_);clear hp;(try clear w1);intro w1 hp))
        exact ⟨hp.others hc,rfl,by rw [hst];simp only [step,Option.bind_some,hf,hg,and_self,and_true,and_false,true_and,if_true,if_false],_,(hI.within' hp hX).sub (by repeat (first|with_reducible exact sb0|with_reducible apply sb3))⟩
    · have hd : decide (Fit (nth x y z i * nth p q r i)) = false := decide_eq_false hf
      have hfz : fz (nth x y z i * nth p q r i) = 0 := if_neg hf
      rw [hfz,hd] at Hm
      gi_wp2_with (first|((with_reducible apply Qdo hp);exact ii;exact rfl;clear hp;(try clear w1);intro g w1 hp;simp only [zp,zq,z0,z1])|((with_reducible apply Qcl hp);exact zt rfl;exact ii;exact ii;(exact zl rfl);(simp only [n0,Nat.reduceAdd,nn];try rfl);simp only [zp,zq,z0,z1])|((with_reducible apply Qdp hp);exact zt rfl;(first|exact za rfl|exact zb rfl);exact rfl;exact Sz.z;exact rfl;exact ii;(simp only [n0,Nat.reduceAdd,nn];try rfl);(exact zl rfl);exact rfl;exact ii;clear hp;(try clear w1);intro w1 hp)|((with_reducible refine Qby hp (Hm.out _) ?_);clear hp;(try clear w1);intro w1 hp))
      exact ⟨hp.others hc,rfl,by rw [hst];simp only [step,Option.bind_some,hf,false_and,if_false],_,(hI.within' hp hX).sub (by repeat (first|with_reducible exact sb0|with_reducible apply sb3))⟩
  case done =>
    rintro D xs Wr hD rfl ⟨s,hs,ha,hI⟩ hdef
    have hp := hI.self
    try dsimp only [List.map_cons,List.map_nil] at hp
    go_wp2_with (first|((with_reducible apply Qab hp);exact zt rfl;exact ii;exact ii;(exact zl rfl);(simp only [n0,Nat.reduceAdd,nn];try rfl);simp only [zp,zq,z0,z1])|((with_reducible apply Qae hp);exact zt rfl;(first|exact za rfl|exact zb rfl);exact rfl;exact Sz.z;exact rfl;exact ii;(simp only [n0,Nat.reduceAdd,nn];try rfl);(exact zl rfl);exact rfl;exact ii;clear hp;(try clear w1);intro w1 hp))
    obtain ⟨hd1,hp1⟩ := Hp.shut hwl hD hI rfl hp hdef
    refine ⟨by simp,.inl ⟨_,_,rfl,run_takeDeferred hd1,?_⟩⟩
    rw [ha]
    exact ⟨_,Qan rfl ⟨_,rfl,Qac hp1 (Nat.le_of_ble_eq_true rfl)⟩ ⟨_,rfl,Qbt hp1 rfl⟩,rfl,hp1.keep⟩
  case stop =>
    rintro D c pre Wr hD hw ⟨rfl,ha,s,hI⟩ hdef
    refine wpIn_wide.2 ?_
    have hp := hI.self
    try dsimp only [List.map_cons,List.map_nil] at hp
    go_wp2_with (fail)
    obtain ⟨hd1,hp1⟩ := Hp.shut hwl hD hI rfl hp hdef
    refine ⟨by simp,.inl ⟨_,_,rfl,run_takeDeferred hd1,?_⟩⟩
    rw [acc_none hw ha,show W (Option.getD (none : Option Int) 0) = .agg #[.int .u64 0,.int .u64 0,.int .u64 0,.int .u64 0,.int .u64 0,.int .u64 0,.int .u64 0,.int .u64 0] from Qfe]
    exact ⟨_,Qan rfl ⟨_,rfl,Qac hp1 (Nat.le_of_ble_eq_true rfl)⟩ ⟨_,rfl,Qbt hp1 rfl⟩,rfl,hp1.keep⟩
end Go.Proofs.YtdfdmeoalbpcdaaGreat
