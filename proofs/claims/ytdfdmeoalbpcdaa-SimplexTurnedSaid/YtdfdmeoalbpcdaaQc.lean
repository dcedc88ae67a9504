/-
  Package simplex: weights (contracts).
-/
import Derived.Test.YtdfdmeoalbpcdaaQb
set_option linter.unusedSimpArgs false
set_option linter.unusedVariables false
set_option maxRecDepth 100000
namespace Go.Proofs.Ytdfdmeoalbpcdaa
open Go Go.RowKit
attribute [local irreducible] wpList
theorem Qcs {p q : P3} (hp : p.i64) (hq : q.i64) : Fit (p.dot q) := by
  have h1 := Qbn hp.1 hq.1
  have h2 := Qbn hp.2.1 hq.2.1
  have h3 := Qbn hp.2.2 hq.2.2
  unfold P3.dot Fit M511
  omega
set_option maxHeartbeats 4000000 in
theorem g_ne (n : Int) (i k : Nat) (p q : P3) (hp' : p.i64) (hq' : q.i64) (hkn : ((k : Int) == n) = false) (hi3 : (i : Int) < 3) (hk3 : (k : Int) < 3) (gn ge gl : Nat) (ec : List Value) (he9 : ec.length = 9) (w : World) (hn : w.heap[gn]? = some (.cells #[.int .i64 n] 3 (0,0))) (he : w.heap[ge]? = some (.cells ec.toArray 111 (0,0)))
    (hei : (ec.drop (i * 3)).take 3 = [.int .i64 p.x,.int .i64 p.y,.int .i64 p.z]) (hek : (ec.drop (k * 3)).take 3 = [.int .i64 q.x,.int .i64 q.y,.int .i64 q.z]) :
    Calls Try.prog 79 #[.int .i64 (i : Int),.int .i64 (k : Int),.pointer (some ⟨gn,0,none⟩),.pointer (some ⟨ge,0,none⟩),.pointer (some ⟨gl,0,none⟩)] w (Ret (W (p.dot q)) w) := by
  have D1 := Lib.hid (dot_any p q hp' hq')
  clear hp' hq'
  generalize p.dot q = x at *
  have l1 : i * 3 + 3 ≤ ec.length := by omega
  have l2 : k * 3 + 3 ≤ ec.length := by omega
  have i0 : (0 : Int) ≤ (i : Int) := by omega
  have k0 : (0 : Int) ≤ (k : Int) := by omega
  go_enter Try.func79,Try.ntmps79
  have hp := Hp.start [] w
  go_upto_region 4 with (first|((with_reducible apply Qaf hp);exact ii;exact rfl;clear hp;(try clear w1);intro g w1 hp;simp only [zp,zq,z0,z1])|((with_reducible apply Qbi hp);exact zt rfl;assumption;exact ii;(exact zio rfl);simp only [zp,zq,z0,z1]))
  have hq := hp
  refine Qac hp hq [7] (.q 0 (.q 1 (.q 2 (.q 3 (.q 4 (.q 5 (.l 6 (.l 7 .nil)))))))) (by kernel_rfl) (by kernel_rfl) ?_
  clear hp hq;(try clear w1);intro w1 hp hq
  repeat' (first|(((with_reducible apply sd_q);exact zo rfl);(first|((with_reducible apply Qbj hp);exact rfl;exact zt rfl;assumption;exact ii;assumption;(omega);simp only [zp,zq,z0,z1])|((with_reducible apply Qaq hp);exact zi rfl;simp only [zp,zq,z0,z1])|((with_reducible apply Qaj hp);exact rfl;(focus (intro _;go_simp;(try go_ints);try with_reducible rfl));simp only [zp,zq,z0,z1])))|(((with_reducible apply sd_l);exact zo rfl);(first|((with_reducible apply Qan hp);exact rfl;(focus (intro _;go_simp;try first|with_reducible rfl|exact ⟨rfl,rfl⟩));(with_reducible exact fun w => D1.out w);exact hq;clear hp hq;(try clear w1);intro w1 hp hq;simp only [zp,zq,z0,z1])|((with_reducible apply Qaz hq);exact rfl;exact zt rfl;(exact za rfl);exact rfl;(exact AggTy.size);exact rfl;exact ii;(simp only [n0,Nat.reduceAdd,nn];try rfl);(exact zl rfl);exact rfl;exact ii;exact rfl;clear hp hq;(try clear w1);intro w1 hq;have hp := True.intro)))|((with_reducible apply Qao);clear hp;have hp := hq;clear hq))
  go_wp2
  exact bodyPost_ret (Qab rfl ⟨_,rfl,Qad hp (Nat.le_of_ble_eq_true rfl)⟩) rfl ⟨rfl,hp.keep⟩
set_option maxHeartbeats 4000000 in
theorem g_eq (n : Int) (i : Nat) (p a : P3) (hp' : p.i64) (hq' : a.i64) (hi3 : (i : Int) < 3) (gn ge gl g0 off len cap : Nat) (t0 : TypeId) (z0' : Nat × Nat) (ec bc : List Value) (he9 : ec.length = 9) (w : World) (hn : w.heap[gn]? = some (.cells #[.int .i64 n] 3 (0,0))) (he : w.heap[ge]? = some (.cells ec.toArray 111 (0,0)))
    (hl : w.heap[gl]? = some (.cells #[.slice (some ⟨g0,off,none⟩) len cap] 22 (0,0))) (hb : w.heap[g0]? = some (.cells bc.toArray t0 z0')) (hlen : (0 : Int) < len)
    (hei : (ec.drop (i * 3)).take 3 = [.int .i64 p.x,.int .i64 p.y,.int .i64 p.z]) (hea : (bc.drop off).take 3 = [.int .i64 a.x,.int .i64 a.y,.int .i64 a.z]) (hbl : off + 3 ≤ bc.length) :
    Calls Try.prog 79 #[.int .i64 (i : Int),.int .i64 n,.pointer (some ⟨gn,0,none⟩),.pointer (some ⟨ge,0,none⟩),.pointer (some ⟨gl,0,none⟩)] w (Ret (W (fz (-(p.dot a)))) w) := by
  have hf := Qcs hp' hq'
  have D1 := Lib.hid (dot_any p a hp' hq')
  clear hp' hq'
  generalize p.dot a = x at *
  have N1 := Lib.hid (Qju x hf)
  clear hf
  generalize fz (-x) = y at *
  generalize decide (Fit (-x)) = ok at *
  have z0 : (n == n) = true := beq_self_eq_true _
  have l1 : i * 3 + 3 ≤ ec.length := by omega
  have i0 : (0 : Int) ≤ (i : Int) := by omega
  go_enter Try.func79,Try.ntmps79
  have hp := Hp.start [] w
  go_upto_region 2 with (first|((with_reducible apply Qaf hp);exact ii;exact rfl;clear hp;(try clear w1);intro g w1 hp;simp only [zp,zq,z0,z1])|((with_reducible apply Qbi hp);exact zt rfl;assumption;exact ii;(exact zio rfl);simp only [zp,zq,z0,z1]))
  have hq := hp
  refine Qac hp hq [] (.q 0 (.q 1 (.q 2 (.q 3 (.q 4 (.q 5 (.b2 6 (.b2 7 (.q 8 (.q 9 (.q 10 (.l 11 (.l 12 (.q 13 .nil)))))) 11 (.l 7 (.q 8 (.q 9 (.q 10 (.l 12 (.q 13 .nil))))))) 11 (.l 6 (.l 7 (.q 8 (.q 9 (.q 10 (.l 12 (.q 13 .nil)))))))))))))) (by kernel_rfl) (by kernel_rfl) ?_
  clear hp hq;(try clear w1);intro w1 hp hq
  repeat' (first|(((with_reducible apply sd_q);exact zo rfl);(first|((with_reducible apply Qbj hp);exact rfl;exact zt rfl;assumption;exact ii;assumption;(omega);simp only [zp,zq,z0,z1])|((with_reducible apply Qdh hp);exact rfl;exact zt rfl;assumption;exact ii;(exact zso rfl);simp only [zp,zq,z0,z1])|((with_reducible apply Qaq hp);(first|exact zi rfl|exact zu rfl);simp only [zp,zq,z0,z1])|((with_reducible apply Qas hp);exact zb rfl;simp only [zp,zq,z0,z1])|((with_reducible apply Qbg hp);exact rfl;exact zx rfl;exact zk rfl;exact ii;(exact AggTy.size);omega;omega;((try simp only [m0,Int.reduceToNat,m1,m2,Nat.reduceMul,Nat.reduceAdd,m3,m4,m5,n0]);exact rfl);simp only [zp,zq,z0,z1])|((with_reducible apply Qaj hp);exact rfl;(focus (intro _;go_simp;(try go_ints);try with_reducible rfl));simp only [zp,zq,z0,z1])))|(((with_reducible apply sd_l);exact zo rfl);(first|((with_reducible apply Qdt hq);(repeat (exact sb0));exact rfl;exact ii;exact rfl;clear hp hq;(try clear w1);intro g w1 hp hq;simp only [zp,zq,z0,z1])|((with_reducible apply Qan hp);exact rfl;(focus (intro _;go_simp;try first|with_reducible rfl|exact ⟨rfl,rfl⟩));(with_reducible first|exact fun w => D1.out w|exact fun w => N1.out w);exact hq;clear hp hq;(try clear w1);intro w1 hp hq;simp only [zp,zq,z0,z1])|((with_reducible apply Qau hq);exact rfl;exact zt rfl;(exact za rfl);exact rfl;(exact AggTy.size);exact rfl;exact ii;(simp only [n0,Nat.reduceAdd,nn];try rfl);(exact zl rfl);exact rfl;exact ii;(repeat (first|exact sb0|apply sb3));clear hp hq;(try clear w1);intro w1 hp hq)))|(with_reducible apply Qjy)|((with_reducible apply Qao);clear hp;have hp := hq;clear hq))
  all_goals
    go_wp2_with (first|((with_reducible apply Qaa hp);exact zt rfl;exact ii;exact ii;(exact zl rfl);(simp only [n0,Nat.reduceAdd,nn];try rfl);simp only [zp,zq,z0,z1])|((with_reducible apply Qae hp);exact zt rfl;exact za rfl;exact rfl;(exact AggTy.size);exact rfl;exact ii;(simp only [n0,Nat.reduceAdd,nn];try rfl);(exact zl rfl);exact rfl;exact ii;clear hp;(try clear w1);intro w1 hp))
    exact bodyPost_ret (Qab rfl ⟨_,rfl,Qad hp (Nat.le_of_ble_eq_true rfl)⟩) rfl ⟨rfl,hp.keep⟩
end Go.Proofs.Ytdfdmeoalbpcdaa
