/-
  Package simplex: times, plus, less, from, square, Past (contracts).
-/
import Derived.Test.YtdfdmeoalbpcdaaLl
import Derived.Test.YtdfdmeoalbpcdaaGb
import Derived.Test.YtdfdmeoalbpcdaaEc
import Derived.Test.YtdfdmeoalbpcdaaCa
set_option linter.unusedSimpArgs false
set_option linter.unusedVariables false
set_option maxRecDepth 100000
namespace Go.Proofs.Ytdfdmeoalbpcdaa
open Go Go.RowKit
set_option maxHeartbeats 1000000 in
theorem Qcb (a b : Int) (ha : Fit a) (hb : Fit b) (w : World) : Calls Try.prog 27 #[W a,W b] w (Ret (W (fz (a * b))) w) := by
  have HC := Lib.hid (Qkr a b ha hb)
  clear ha hb
  go_enter Try.func27,Try.ntmps27
  have hp := Hp.start [] w
  go_wp2_with (first|((with_reducible apply Qaw hp);exact za rfl;exact rfl;clear hp;(try clear w1);intro g w1 hp;simp only [zp,zq,z0,z1])|((with_reducible apply Qae hp);exact ii;exact rfl;clear hp;(try clear w1);intro g w1 hp;simp only [zp,zq,z0,z1])|((with_reducible apply Qaa hp);exact zt rfl;exact ii;exact ii;(exact zl rfl);(simp only [n0,Nat.reduceAdd,nn];try rfl);simp only [zp,zq,z0,z1])|((with_reducible apply Qad hp);exact zt rfl;exact za rfl;exact rfl;(exact AggTy.size);exact rfl;exact ii;(simp only [n0,Nat.reduceAdd,nn];try rfl);(exact zl rfl);exact rfl;exact ii;clear hp;(try clear w1);intro w1 hp)|((with_reducible refine Qah hp (HC.out _) ?_);clear hp;(try clear w1);intro w1 hp))
  exact bodyPost_ret (Qab rfl ⟨_,rfl,Qag hp (Nat.le_of_ble_eq_true rfl)⟩) rfl ⟨rfl,hp.keep⟩
set_option maxHeartbeats 1000000 in
theorem Qgf (a b : Int) (ha : Fit a) (hb : Fit b) (w : World) : Calls Try.prog 49 #[W a,W b] w (Ret (W (fz (a + b))) w) := by
  have HC := Lib.hid (add_any a b ha hb)
  clear ha hb
  go_enter Try.func49,Try.ntmps49
  have hp := Hp.start [] w
  go_wp2_with (first|((with_reducible apply Qaw hp);exact za rfl;exact rfl;clear hp;(try clear w1);intro g w1 hp;simp only [zp,zq,z0,z1])|((with_reducible apply Qae hp);exact ii;exact rfl;clear hp;(try clear w1);intro g w1 hp;simp only [zp,zq,z0,z1])|((with_reducible apply Qaa hp);exact zt rfl;exact ii;exact ii;(exact zl rfl);(simp only [n0,Nat.reduceAdd,nn];try rfl);simp only [zp,zq,z0,z1])|((with_reducible apply Qad hp);exact zt rfl;exact za rfl;exact rfl;(exact AggTy.size);exact rfl;exact ii;(simp only [n0,Nat.reduceAdd,nn];try rfl);(exact zl rfl);exact rfl;exact ii;clear hp;(try clear w1);intro w1 hp)|((with_reducible refine Qah hp (HC.out _) ?_);clear hp;(try clear w1);intro w1 hp))
  exact bodyPost_ret (Qab rfl ⟨_,rfl,Qag hp (Nat.le_of_ble_eq_true rfl)⟩) rfl ⟨rfl,hp.keep⟩
set_option maxHeartbeats 1000000 in
theorem Qdr (a b : Int) (ha : Fit a) (hb : Fit b) (w : World) : Calls Try.prog 82 #[W a,W b] w (Ret (W (fz (a - b))) w) := by
  have HC := Lib.hid (Qot a b ha hb)
  clear ha hb
  go_enter Try.func82,Try.ntmps82
  have hp := Hp.start [] w
  go_wp2_with (first|((with_reducible apply Qaw hp);exact za rfl;exact rfl;clear hp;(try clear w1);intro g w1 hp;simp only [zp,zq,z0,z1])|((with_reducible apply Qae hp);exact ii;exact rfl;clear hp;(try clear w1);intro g w1 hp;simp only [zp,zq,z0,z1])|((with_reducible apply Qaa hp);exact zt rfl;exact ii;exact ii;(exact zl rfl);(simp only [n0,Nat.reduceAdd,nn];try rfl);simp only [zp,zq,z0,z1])|((with_reducible apply Qad hp);exact zt rfl;exact za rfl;exact rfl;(exact AggTy.size);exact rfl;exact ii;(simp only [n0,Nat.reduceAdd,nn];try rfl);(exact zl rfl);exact rfl;exact ii;clear hp;(try clear w1);intro w1 hp)|((with_reducible refine Qah hp (HC.out _) ?_);clear hp;(try clear w1);intro w1 hp))
  exact bodyPost_ret (Qab rfl ⟨_,rfl,Qag hp (Nat.le_of_ble_eq_true rfl)⟩) rfl ⟨rfl,hp.keep⟩
theorem Qen (a b : P3) (h : (a.sub b).i64) (w : World) : Calls Try.prog 78 #[PV a,PV b] w (Ret (PV (a.sub b)) w) := by
  obtain ⟨⟨h1,h2⟩,⟨h3,h4⟩,h5,h6⟩ := h
  obtain ⟨x,y,z⟩ := a
  obtain ⟨u,v,t⟩ := b
  dsimp only [P3.sub] at *
  go_enter Try.func78,Try.ntmps78
  have hp := Hp.start [] w
  go_wp2_with (first|((with_reducible apply Qaw hp);exact za rfl;exact rfl;clear hp;(try clear w1);intro g w1 hp;simp only [zp,zq,z0,z1])|((with_reducible apply Qae hp);exact ii;exact rfl;clear hp;(try clear w1);intro g w1 hp;simp only [zp,zq,z0,z1])|((with_reducible apply Qai hp);exact zt rfl;exact ii;exact ii;(exact zio rfl);simp only [zp,zq,z0,z1])|((with_reducible apply Qad hp);exact zt rfl;exact za rfl;exact rfl;(exact AggTy.size);exact rfl;exact ii;(simp only [n0,Nat.reduceAdd,nn];try rfl);(exact zl rfl);exact rfl;exact ii;clear hp;(try clear w1);intro w1 hp))
  exact bodyPost_ret (Qab rfl ⟨_,rfl,Qag hp (Nat.le_of_ble_eq_true rfl)⟩) rfl ⟨rfl,hp.keep⟩
/-- A span's square, as the program reckons it. -/
def sqF (x y z : Int) : Int := fz (fz (fz (x * x) + fz (y * y)) + fz (z * z))
theorem sqF_fit (x y z : Int) : Fit (sqF x y z) := Qdh _
set_option maxHeartbeats 2000000 in
theorem Qfz (x y z : Int) (hx : Fit x) (hy : Fit y) (hz0 : Fit z) (w : World) : Calls Try.prog 28 #[Sv x y z] w (Ret (W (sqF x y z)) w) := by
  unfold sqF
  have T1 := Lib.hid (Qcb x x hx hx)
  have T2 := Lib.hid (Qcb y y hy hy)
  have T3 := Lib.hid (Qcb z z hz0 hz0)
  have P1 := Lib.hid (Qgf (fz (x * x)) (fz (y * y)) (Qdh _) (Qdh _))
  have P2 := Lib.hid (Qgf (fz (fz (x * x) + fz (y * y))) (fz (z * z)) (Qdh _) (Qdh _))
  clear hx hy hz0
  go_enter Try.func28,Try.ntmps28
  have hp := Hp.start [] w
  go_upto_region 1 with (first|((with_reducible apply Qaw hp);(exact za rfl);exact rfl;clear hp;(try clear w1);intro g w1 hp;simp only [zp,zq,z0,z1])|((with_reducible apply Qae hp);exact ii;exact rfl;clear hp;(try clear w1);intro g w1 hp;simp only [zp,zq,z0,z1]))
  have hq := hp
  refine Qac hp hq [17] (.q 0 (.q 1 (.q 2 (.q 3 (.q 5 (.q 6 (.q 7 (.q 8 (.q 11 (.q 12 (.q 13 (.q 14 (.l 4 (.l 9 (.l 10 (.l 15 (.l 16 (.l 17 .nil)))))))))))))))))) (by kernel_rfl) (by kernel_rfl) ?_
  clear hp hq;(try clear w1);intro w1 hp hq
  repeat' (first|(((with_reducible apply sd_q);exact zo rfl);(first|((with_reducible apply Qaf hp);exact rfl;exact zt rfl;exact ii;exact ii;(exact zl rfl);(simp only [n0,Nat.reduceAdd,nn];try rfl);simp only [zp,zq,z0,z1])|((with_reducible apply Qaj hp);exact rfl;(focus (intro _;go_simp;(try go_ints);try with_reducible rfl));simp only [zp,zq,z0,z1])))|(((with_reducible apply sd_l);exact zo rfl);(first|((with_reducible apply Qap hp);exact rfl;(focus (intro _;go_simp;try first|with_reducible rfl|exact ⟨rfl,rfl⟩));(with_reducible first|exact fun w => T1.out w|exact fun w => T2.out w|exact fun w => T3.out w|exact fun w => P1.out w|exact fun w => P2.out w);exact hq;clear hp hq;(try clear w1);intro w1 hp hq;simp only [zp,zq,z0,z1])|((with_reducible apply Qax hq);exact rfl;exact zt rfl;(exact za rfl);exact rfl;(exact AggTy.size);exact rfl;exact ii;(simp only [n0,Nat.reduceAdd,nn];try rfl);(exact zl rfl);exact rfl;exact ii;exact rfl;clear hp hq;(try clear w1);intro w1 hq;have hp := True.intro)))|((with_reducible apply Qam);clear hp;have hp := hq;clear hq))
  go_wp2
  exact bodyPost_ret (Qab rfl ⟨_,rfl,Qag hp (Nat.le_of_ble_eq_true rfl)⟩) rfl ⟨rfl,hp.keep⟩
/-- A nearest one, as it lies. -/
abbrev NrV (x y z d : Int) (s : Value) : Value := .agg #[.int .u64 (lb (x) 0),.int .u64 (lb (x) 1),.int .u64 (lb (x) 2),.int .u64 (lb (x) 3),.int .u64 (lb (x) 4),.int .u64 (lb (x) 5),.int .u64 (lb (x) 6),.int .u64 (lb (x) 7),.int .u64 (lb (y) 0),.int .u64 (lb (y) 1),.int .u64 (lb (y) 2),.int .u64 (lb (y) 3),.int .u64 (lb (y) 4),.int .u64 (lb (y) 5),.int .u64 (lb (y) 6),.int .u64 (lb (y) 7),.int .u64 (lb (z) 0),.int .u64 (lb (z) 1),.int .u64 (lb (z) 2),.int .u64 (lb (z) 3),.int .u64 (lb (z) 4),.int .u64 (lb (z) 5),.int .u64 (lb (z) 6),.int .u64 (lb (z) 7),.int .u64 (lb (d) 0),.int .u64 (lb (d) 1),.int .u64 (lb (d) 2),.int .u64 (lb (d) 3),.int .u64 (lb (d) 4),.int .u64 (lb (d) 5),.int .u64 (lb (d) 6),.int .u64 (lb (d) 7),s]
def alF (x y z : Int) (p : P3) : Int := (acc (nth x y z) (nth p.x p.y p.z) [0,1,2]).getD 0
/-- Is p past it? -/
def pastF (x y z d : Int) (p : P3) : Bool := decide (cmp (fz (alF x y z p * d)) (sqF x y z) < 0)
set_option maxHeartbeats 4000000 in
theorem spast_core (x y z d : Int) (p : P3) (s : Value) (al pd sq cc : Int) (ok : Bool) (AL : Hid (∀ w,Calls Try.prog 25 #[Sv x y z,Pv p.x p.y p.z] w (Ret (.tuple #[W al,.bool ok]) w))) (T1 : Hid (∀ w,Calls Try.prog 27 #[W al,W d] w (Ret (W pd) w)))
    (S1 : Hid (∀ w,Calls Try.prog 28 #[Sv x y z] w (Ret (W sq) w))) (C1 : Hid (∀ w,Calls Try.prog 26 #[W pd,W sq] w (Ret (.int .i64 cc) w))) (w : World) :
    Calls Try.prog 10 #[NrV x y z d s,PV p] w (Ret (.bool (decide (cc < 0))) w) := by
  go_enter Try.func10,Try.ntmps10
  have hp := Hp.start [] w
  go_wp2_with (first|((with_reducible apply Qaw hp);exact za rfl;exact rfl;clear hp;(try clear w1);intro g w1 hp;simp only [zp,zq,z0,z1])|((with_reducible apply Qae hp);exact ii;exact rfl;clear hp;(try clear w1);intro g w1 hp;simp only [zp,zq,z0,z1])|((with_reducible apply Qaa hp);exact zt rfl;exact ii;exact ii;(exact zl rfl);(simp only [n0,Nat.reduceAdd,nn];try rfl);simp only [zp,zq,z0,z1])|((with_reducible apply Qad hp);exact zt rfl;exact za rfl;exact rfl;(exact AggTy.size);exact rfl;exact ii;(simp only [n0,Nat.reduceAdd,nn];try rfl);(exact zl rfl);exact rfl;exact ii;clear hp;(try clear w1);intro w1 hp)|((with_reducible refine Qah hp (AL.out _) ?_);clear hp;(try clear w1);intro w1 hp))
  have hq := hp
  refine Qac hp hq [] (.q 0 (.q 1 (.q 2 (.q 4 (.q 5 (.l 3 (.l 6 (.l 7 (.q 8 (.q 9 .nil)))))))))) (by kernel_rfl) (by kernel_rfl) ?_
  clear hp hq;(try clear w1);intro w1 hp hq
  repeat' (first|(((with_reducible apply sd_q);exact zo rfl);(first|((with_reducible apply Qaf hp);exact rfl;exact zt rfl;exact ii;exact ii;(exact zl rfl);(simp only [n0,Nat.reduceAdd,nn];try rfl);simp only [zp,zq,z0,z1])|((with_reducible apply Qas hp);exact zb rfl;simp only [zp,zq,z0,z1])|((with_reducible apply Qaj hp);exact rfl;(focus (intro _;go_simp;(try go_ints);try with_reducible rfl));simp only [zp,zq,z0,z1])))|(((with_reducible apply sd_l);exact zo rfl);((with_reducible apply Qap hp);exact rfl;(focus (intro _;go_simp;try first|with_reducible rfl|exact ⟨rfl,rfl⟩));(with_reducible first|exact fun w => T1.out w|exact fun w => S1.out w|exact fun w => C1.out w);exact hq;clear hp hq;(try clear w1);intro w1 hp hq;simp only [zp,zq,z0,z1]))|((with_reducible apply Qam);clear hp;have hp := hq;clear hq))
  go_wp2
  exact bodyPost_ret (Qab rfl rfl) rfl ⟨rfl,hp.keep⟩
theorem step_fit {a b : Fin 3 → Int} {o : Option Int} {i : Fin 3} {s : Int} (h : step a b o i = some s) : Fit s := by
  unfold step at h
  cases o with
  | none => cases h
  | some u =>
    simp only [Option.bind_some] at h
    split at h
    · rename_i hf
      injection h with h
      rw [← h]
      exact hf.2
    · cases h
theorem alF_fit (x y z : Int) (p : P3) : Fit (alF x y z p) := by
  unfold alF
  cases h : acc (nth x y z) (nth p.x p.y p.z) [0,1,2] with
  | none => exact Qbn
  | some s =>
    rw [show ([0,1,2] : List (Fin 3)) = [0,1] ++ [2] from rfl,Qge] at h
    exact step_fit h
theorem spast_any (x y z d : Int) (hx : Fit x) (hy : Fit y) (hz0 : Fit z) (hd : Fit d) (p : P3) (hp : p.i64) (s : Value) (w : World) : Calls Try.prog 10 #[NrV x y z d s,PV p] w (Ret (.bool (pastF x y z d p)) w) :=
  spast_core x y z d p s _ _ _ _ _ (Lib.hid (Qjh x y z p.x p.y p.z hx hy hz0 hp.1 hp.2.1 hp.2.2)) (Lib.hid (Qcb _ _ (alF_fit x y z p) hd)) (Lib.hid (Qfz x y z hx hy hz0)) (Lib.hid (cmp_any _ _ (Qdh _) (sqF_fit x y z))) w
end Go.Proofs.Ytdfdmeoalbpcdaa
