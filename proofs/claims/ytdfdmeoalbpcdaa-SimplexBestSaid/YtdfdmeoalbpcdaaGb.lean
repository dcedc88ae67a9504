/-
  Integers, points, spans: what is said of them everywhere; wide.Of.
  Package ninepinref03: Plus, Less, Times; ninepinref01.Small (contracts).
  Package ninepinref06: mul, three, Dot, Cross, Det (contracts).
  Package ninepinref06: may, Check (contracts).
  Package grid: of, times, less (contracts).
  Package grid: numbers, and what it hands back (contracts).
-/
import Derived.Test.YtdfdmeoalbpcdaaIn
set_option linter.unusedSimpArgs false
set_option maxRecDepth 100000
namespace Go.Proofs.Ytdfdmeoalbpcdaa
open Go Go.RowKit
/-- A point, a span. -/
abbrev Pv (x y z : Int) : Value := .agg #[.int .i64 x,.int .i64 y,.int .i64 z]
abbrev Sv (x y z : Int) : Value := .agg #[.int .u64 (lb (x) 0),.int .u64 (lb (x) 1),.int .u64 (lb (x) 2),.int .u64 (lb (x) 3),.int .u64 (lb (x) 4),.int .u64 (lb (x) 5),.int .u64 (lb (x) 6),.int .u64 (lb (x) 7),.int .u64 (lb (y) 0),.int .u64 (lb (y) 1),.int .u64 (lb (y) 2),.int .u64 (lb (y) 3),.int .u64 (lb (y) 4),.int .u64 (lb (y) 5),.int .u64 (lb (y) 6),.int .u64 (lb (y) 7),.int .u64 (lb (z) 0),.int .u64 (lb (z) 1),.int .u64 (lb (z) 2),.int .u64 (lb (z) 3),.int .u64 (lb (z) 4),.int .u64 (lb (z) 5),.int .u64 (lb (z) 6),.int .u64 (lb (z) 7)]
def I64 (n : Int) : Prop := -9223372036854775808 ≤ n ∧ n < 9223372036854775808
theorem Qkc (n : Int) (h : I64 n) (w : World) : Calls Try.prog 24 #[.int .i64 n] w (Ret (W n) w) := Qnj n h.1 h.2 w
theorem Qet {n : Int} (h : I64 n) : Fit n := by
  unfold I64 at h
  unfold Fit M511
  omega
/-- Three integers. -/
structure P3 where
  x : Int
  y : Int
  z : Int
deriving DecidableEq
abbrev PV (p : P3) : Value := .agg #[.int .i64 p.x,.int .i64 p.y,.int .i64 p.z]
abbrev SV (p : P3) : Value := .agg #[.int .u64 (lb (p.x) 0),.int .u64 (lb (p.x) 1),.int .u64 (lb (p.x) 2),.int .u64 (lb (p.x) 3),.int .u64 (lb (p.x) 4),.int .u64 (lb (p.x) 5),.int .u64 (lb (p.x) 6),.int .u64 (lb (p.x) 7),.int .u64 (lb (p.y) 0),.int .u64 (lb (p.y) 1),.int .u64 (lb (p.y) 2),.int .u64 (lb (p.y) 3),.int .u64 (lb (p.y) 4),.int .u64 (lb (p.y) 5),.int .u64 (lb (p.y) 6),.int .u64 (lb (p.y) 7),.int .u64 (lb (p.z) 0),.int .u64 (lb (p.z) 1),.int .u64 (lb (p.z) 2),.int .u64 (lb (p.z) 3),.int .u64 (lb (p.z) 4),.int .u64 (lb (p.z) 5),.int .u64 (lb (p.z) 6),.int .u64 (lb (p.z) 7)]
def may (n : Int) : Prop := -268435456 ≤ n ∧ n ≤ 268435456
instance (n : Int) : Decidable (may n) := inferInstanceAs (Decidable (_ ∧ _))
def P3.may (p : P3) : Prop := Ytdfdmeoalbpcdaa.may p.x ∧ Ytdfdmeoalbpcdaa.may p.y ∧ Ytdfdmeoalbpcdaa.may p.z
instance (p : P3) : Decidable p.may := inferInstanceAs (Decidable (_ ∧ _))
def P3.i64 (p : P3) : Prop := I64 p.x ∧ I64 p.y ∧ I64 p.z
def P3.sub (a b : P3) : P3 := ⟨a.x - b.x,a.y - b.y,a.z - b.z⟩
def P3.dot (a b : P3) : Int := a.x * b.x + a.y * b.y + a.z * b.z
def P3.cross (a b : P3) : P3 := ⟨a.y * b.z - a.z * b.y,a.z * b.x - a.x * b.z,a.x * b.y - a.y * b.x⟩
def P3.det (a b c : P3) : Int := (b.cross c).dot a
theorem bd_mul {a b : Int} {A B : Nat} (ha : -(A : Int) ≤ a ∧ a ≤ A) (hb : -(B : Int) ≤ b ∧ b ≤ B) : -((A * B : Nat) : Int) ≤ a * b ∧ a * b ≤ ((A * B : Nat) : Int) := by
  have h1 : (a * b).natAbs ≤ A * B := by
    rw [Int.natAbs_mul]
    exact Nat.mul_le_mul (by omega) (by omega)
  generalize A * B = C at *
  omega
theorem i64_bd {a : Int} (h : I64 a) : -((9223372036854775808 : Nat) : Int) ≤ a ∧ a ≤ ((9223372036854775808 : Nat) : Int) := by
  unfold I64 at h
  omega
theorem Qbr {a b : Int} (ha : I64 a) (hb : I64 b) : -85070591730234615865843651857942052864 ≤ a * b ∧ a * b ≤ 85070591730234615865843651857942052864 := by
  have := bd_mul (i64_bd ha) (i64_bd hb)
  omega
theorem Qig {a b : Int} (ha : -170141183460469231731687303715884105728 ≤ a ∧ a ≤ 170141183460469231731687303715884105728) (hb : I64 b) : -1569275433846670190958947355801916604025588861116008628224 ≤ a * b ∧ a * b ≤ 1569275433846670190958947355801916604025588861116008628224 := by
  have := bd_mul (A := 170141183460469231731687303715884105728) ha (i64_bd hb)
  omega
end Go.Proofs.Ytdfdmeoalbpcdaa

set_option linter.unusedSimpArgs false
set_option linter.unusedVariables false
set_option maxRecDepth 100000
namespace Go.Proofs.Ytdfdmeoalbpcdaa
open Go Go.RowKit
end Go.Proofs.Ytdfdmeoalbpcdaa

set_option linter.unusedSimpArgs false
set_option linter.unusedVariables false
set_option maxRecDepth 100000
namespace Go.Proofs.Ytdfdmeoalbpcdaa
open Go Go.RowKit
end Go.Proofs.Ytdfdmeoalbpcdaa

set_option linter.unusedSimpArgs false
set_option linter.unusedVariables false
set_option maxRecDepth 100000
namespace Go.Proofs.Ytdfdmeoalbpcdaa
open Go Go.RowKit
end Go.Proofs.Ytdfdmeoalbpcdaa

set_option linter.unusedSimpArgs false
set_option maxRecDepth 100000
namespace Go.Proofs.Ytdfdmeoalbpcdaa
open Go Go.RowKit
set_option maxHeartbeats 1000000 in
theorem Qnd (x y z : Int) (hx : I64 x) (hy : I64 y) (hz : I64 z) (w : World) : Calls Try.prog 47 #[Pv x y z] w (Ret (Sv x y z) w) := by
  have Hx := Lib.hid hx
  have Hy := Lib.hid hy
  have Hz := Lib.hid hz
  clear hx hy hz
  go_enter Try.func47,Try.ntmps47
  have hp := Hp.start [] w
  go_wp2_with (first|((with_reducible apply Qaw hp);exact za rfl;exact rfl;clear hp;(try clear w1);intro g w1 hp;simp only [zp,zq,z0,z1])|((with_reducible apply Qae hp);exact ii;exact rfl;clear hp;(try clear w1);intro g w1 hp;simp only [zp,zq,z0,z1]))
  have hq := hp
  refine Qac hp hq [10] (.q 0 (.q 1 (.q 3 (.q 4 (.q 6 (.q 7 (.l 2 (.l 5 (.l 8 (.q 9 (.l 10 .nil))))))))))) (by kernel_rfl) (by kernel_rfl) ?_
  clear hp hq;(try clear w1);intro w1 hp hq
  repeat' (first|(((with_reducible apply sd_q);exact zo rfl);(first|((with_reducible apply Qaz hp);exact rfl;exact zt rfl;exact ii;exact ii;(exact zio rfl);simp only [zp,zq,z0,z1])|((with_reducible apply Qaj hp);exact rfl;(focus (intro _;go_simp;(try go_ints);try with_reducible rfl));simp only [zp,zq,z0,z1])))|(((with_reducible apply sd_l);exact zo rfl);(first|((with_reducible apply Qap hp);exact rfl;(focus (intro _;go_simp;try first|with_reducible rfl|exact ⟨rfl,rfl⟩));(with_reducible first|exact fun w => Qkc x Hx.out w|exact fun w => Qkc y Hy.out w|exact fun w => Qkc z Hz.out w);exact hq;clear hp hq;(try clear w1);intro w1 hp hq;simp only [zp,zq,z0,z1])|((with_reducible apply Qax hq);exact rfl;exact zt rfl;(exact za rfl);exact rfl;(exact AggTy.size);exact rfl;exact ii;(simp only [n0,Nat.reduceAdd,nn];try rfl);(exact zl rfl);exact rfl;exact ii;exact rfl;clear hp hq;(try clear w1);intro w1 hq;have hp := True.intro)))|((with_reducible apply Qam);clear hp;have hp := hq;clear hq))
  go_wp2
  exact bodyPost_ret (Qab rfl ⟨_,rfl,Qag hp (Nat.le_of_ble_eq_true rfl)⟩) rfl ⟨rfl,hp.keep⟩
set_option maxHeartbeats 1000000 in
theorem gtimes_any (a b : Int) (ha : Fit a) (hb : Fit b) (w : World) : Calls Try.prog 101 #[W a,W b] w (Ret (W (fz (a * b))) w) := by
  have Ha := Lib.hid ha
  have Hb := Lib.hid hb
  clear ha hb
  go_enter Try.func101,Try.ntmps101
  have hp := Hp.start [] w
  go_wp2_with (first|((with_reducible apply Qaw hp);exact za rfl;exact rfl;clear hp;(try clear w1);intro g w1 hp;simp only [zp,zq,z0,z1])|((with_reducible apply Qae hp);exact ii;exact rfl;clear hp;(try clear w1);intro g w1 hp;simp only [zp,zq,z0,z1])|((with_reducible apply Qaa hp);exact zt rfl;exact ii;exact ii;(exact zl rfl);(simp only [n0,Nat.reduceAdd,nn];try rfl);simp only [zp,zq,z0,z1])|((with_reducible apply Qad hp);exact zt rfl;exact za rfl;exact rfl;(exact AggTy.size);exact rfl;exact ii;(simp only [n0,Nat.reduceAdd,nn];try rfl);(exact zl rfl);exact rfl;exact ii;clear hp;(try clear w1);intro w1 hp)|((with_reducible refine Qah hp (Qkr _ _ Ha.out Hb.out _) ?_);clear hp;(try clear w1);intro w1 hp))
  exact bodyPost_ret (Qab rfl ⟨_,rfl,Qag hp (Nat.le_of_ble_eq_true rfl)⟩) rfl ⟨rfl,hp.keep⟩
set_option maxHeartbeats 1000000 in
theorem gless_any (a b : Int) (ha : Fit a) (hb : Fit b) (w : World) : Calls Try.prog 100 #[W a,W b] w (Ret (W (fz (a - b))) w) := by
  have Ha := Lib.hid ha
  have Hb := Lib.hid hb
  clear ha hb
  go_enter Try.func100,Try.ntmps100
  have hp := Hp.start [] w
  go_wp2_with (first|((with_reducible apply Qaw hp);exact za rfl;exact rfl;clear hp;(try clear w1);intro g w1 hp;simp only [zp,zq,z0,z1])|((with_reducible apply Qae hp);exact ii;exact rfl;clear hp;(try clear w1);intro g w1 hp;simp only [zp,zq,z0,z1])|((with_reducible apply Qaa hp);exact zt rfl;exact ii;exact ii;(exact zl rfl);(simp only [n0,Nat.reduceAdd,nn];try rfl);simp only [zp,zq,z0,z1])|((with_reducible apply Qad hp);exact zt rfl;exact za rfl;exact rfl;(exact AggTy.size);exact rfl;exact ii;(simp only [n0,Nat.reduceAdd,nn];try rfl);(exact zl rfl);exact rfl;exact ii;clear hp;(try clear w1);intro w1 hp)|((with_reducible refine Qah hp (Qot _ _ Ha.out Hb.out _) ?_);clear hp;(try clear w1);intro w1 hp))
  exact bodyPost_ret (Qab rfl ⟨_,rfl,Qag hp (Nat.le_of_ble_eq_true rfl)⟩) rfl ⟨rfl,hp.keep⟩
end Go.Proofs.Ytdfdmeoalbpcdaa

set_option linter.unusedSimpArgs false
set_option maxRecDepth 100000
namespace Go.Proofs.Ytdfdmeoalbpcdaa
open Go Go.RowKit
abbrev Sl (x y z : Int) : List Value := [.int .u64 (lb (x) 0),.int .u64 (lb (x) 1),.int .u64 (lb (x) 2),.int .u64 (lb (x) 3),.int .u64 (lb (x) 4),.int .u64 (lb (x) 5),.int .u64 (lb (x) 6),.int .u64 (lb (x) 7),.int .u64 (lb (y) 0),.int .u64 (lb (y) 1),.int .u64 (lb (y) 2),.int .u64 (lb (y) 3),.int .u64 (lb (y) 4),.int .u64 (lb (y) 5),.int .u64 (lb (y) 6),.int .u64 (lb (y) 7),.int .u64 (lb (z) 0),.int .u64 (lb (z) 1),.int .u64 (lb (z) 2),.int .u64 (lb (z) 3),.int .u64 (lb (z) 4),.int .u64 (lb (z) 5),.int .u64 (lb (z) 6),.int .u64 (lb (z) 7)]
set_option maxHeartbeats 1000000 in
theorem Qka (x y z u v t : Int) (w : World) : Calls Try.prog 46 #[Sv x y z,Sv u v t] w (RetN2 (fun g h => .func (.func 84) #[] #[.pointer (some ⟨h,0,none⟩),.pointer (some ⟨g,0,none⟩)]) 30 (Sl u v t) 30 (Sl x y z) w) := by
  have hmf : ∀ (fn : Fn) (first cap : Array Value) (w : World),(Instr.makeFunc fn first cap).run Try.prog w = .ok (.func fn first cap) w := fun _ _ _ _ => rfl
  go_enter Try.func46,Try.ntmps46
  have hp := Hp.start [] w
  go_wp2_with ((with_reducible apply Qaw hp);exact za rfl;exact rfl;clear hp;(try clear w1);intro g w1 hp;simp only [zp,zq,z0,z1])
  refine bodyPost_ret (Qab rfl rfl) rfl ⟨g,_,rfl,?_,hp.keep,hp.fresh,hp.fresh,hp.blk,hp.blk⟩
  have := hp.nd
  simp at this
  exact this
def nth (x y z : Int) : Fin 3 → Int
  | 0 => x
  | 1 => y
  | 2 => z
/-- The blocks of a and b lie as they lay. -/
def Kept (ga gb : Nat) (W W' : World) : Prop := W'.heap[ga]? = W.heap[ga]? ∧ W'.heap[gb]? = W.heap[gb]?
def Went (pre : List (Fin 3)) : Prop := pre = [0] ∨ pre = [0,1] ∨ pre = [0,1,2]
set_option maxHeartbeats 4000000 in
theorem Qgk (n : Nat) (x y z u v t : Int) (ga gb : Nat) (hne : ga ≠ gb) (w : World) (ha : w.heap[ga]? = some (.cells (Sl x y z).toArray 30 (0,0))) (hb : w.heap[gb]? = some (.cells (Sl u v t).toArray 30 (0,0))) :
    SeqStopsK Fence.wide n Try.prog 84 #[.pointer (some ⟨ga,0,none⟩),.pointer (some ⟨gb,0,none⟩)] (fun i : Fin 3 => #[W (nth x y z i),W (nth u v t i)]) (Kept ga gb) (fun xs => xs = [0,1,2]) Went 3 w := by
  intro l J Jx W0 hW hJ hJx hY h0
  have hlt : ∀ {k : Nat} {o : Obj},w.heap[k]? = some o → k < w.heap.size := fun {k o} h => by
    rcases Nat.lt_or_ge k w.heap.size with h' | h'
    · exact h'
    · rw [Array.getElem?_eq_none h'] at h;cases h
  have ha := (hW.block _ (hlt ha)).trans ha
  have hb := (hW.block _ (hlt hb)).trans hb
  clear hW hJ hJx hlt
  obtain ⟨fn,tmps,asg,body,hy,hR⟩ := hY [] 0 W0 h0 (by simp)
  dsimp only [nth,List.nil_append] at hy hR
  have hp := Hp.startX2 hne ha hb
  have HY := Lib.hid hY
  clear hY
  refine callsIn_of_wp Try.func84 rfl trivial ?_ rfl
  simp only [Try.ntmps84,List.size_toArray,List.length_cons,List.length_nil,Nat.reduceAdd,Nat.reduceSub,Array.replicate_succ,Array.replicate_zero,List.push_toArray,List.append_toArray,List.nil_append,List.cons_append]
  gi_wp2_with ((with_reducible apply Qbs hp);exact zt rfl;exact ii;exact ii;(exact zl rfl);(simp only [n0,Nat.reduceAdd,nn];try rfl);simp only [zp,zq,z0,z1])
  refine ⟨fun h => by simp [Fence.wide] at h,hR.mono ?_⟩
  clear hp hR hy h0
  rintro e W1 (⟨rfl,hJ1,hk1,hk2⟩|⟨rfl,hx⟩)
  · have ha := hk1.trans ha
    have hb := hk2.trans hb
    clear hk1 hk2
    obtain ⟨fn,tmps,asg,body,hy,hR⟩ := HY.out [0] 1 W1 hJ1 (by simp)
    dsimp only [nth,List.cons_append,List.nil_append] at hy hR
    have hp := Hp.startX2 hne ha hb
    gi_wp2_with (first|((with_reducible apply Qbs hp);exact zt rfl;exact ii;exact ii;(exact zl rfl);(simp only [n0,Nat.reduceAdd,nn];try rfl);simp only [zp,zq,z0,z1])|((with_reducible apply si_strip);exact rfl))
    refine ⟨fun h => by simp [Fence.wide] at h,hR.mono ?_⟩
    clear hp hR hy hJ1
    rintro e W2 (⟨rfl,hJ2,hk1,hk2⟩|⟨rfl,hx⟩)
    · have ha := hk1.trans ha
      have hb := hk2.trans hb
      clear hk1 hk2
      obtain ⟨fn,tmps,asg,body,hy,hR⟩ := HY.out [0,1] 2 W2 hJ2 (by simp)
      dsimp only [nth,List.cons_append,List.nil_append] at hy hR
      have hp := Hp.startX2 hne ha hb
      gi_wp2_with (first|((with_reducible apply Qbs hp);exact zt rfl;exact ii;exact ii;(exact zl rfl);(simp only [n0,Nat.reduceAdd,nn];try rfl);simp only [zp,zq,z0,z1])|((with_reducible apply si_strip);exact rfl))
      refine ⟨fun h => by simp [Fence.wide] at h,hR.mono ?_⟩
      clear hp hR hy hJ2
      rintro e W3 (⟨rfl,hJ3,hk1,hk2⟩|⟨rfl,hx⟩)
      · gi_wp2_with (fail)
        go_end0
        exact ⟨⟨_,rfl⟩,.inl ⟨_,rfl,hJ3⟩⟩
      · gi_wp2_with (fail)
        go_end0
        exact ⟨⟨_,rfl⟩,.inr ⟨_,.inr (.inr rfl),hx⟩⟩
    · gi_wp2_with ((with_reducible apply Qjj);exact rfl;simp only [zp,zq,z0,z1])
      go_end0
      exact ⟨⟨_,rfl⟩,.inr ⟨_,.inr (.inl rfl),hx⟩⟩
  · gi_wp2_with ((with_reducible apply Qjj);exact rfl;simp only [zp,zq,z0,z1])
    go_end0
    exact ⟨⟨_,rfl⟩,.inr ⟨_,.inl rfl,hx⟩⟩
end Go.Proofs.Ytdfdmeoalbpcdaa
