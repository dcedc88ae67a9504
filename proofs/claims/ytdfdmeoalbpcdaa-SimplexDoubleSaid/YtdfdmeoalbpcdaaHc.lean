/-
  Package orient: raises (contracts).
-/
import Derived.Test.YtdfdmeoalbpcdaaHb
import Derived.Test.YtdfdmeoalbpcdaaEr
set_option linter.unusedSimpArgs false
set_option maxRecDepth 100000
namespace Go.Proofs.Ytdfdmeoalbpcdaa
open Go Go.RowKit
/-- Does a point raise the rank of those? -/
def Qcm : List P3 → P3 → Bool
  | [],_ => true
  | [a],p => decide (p ≠ a)
  | [a,b],p => decide ((b.sub a).cross (p.sub a) ≠ ⟨0,0,0⟩)
  | [a,b,c],p => decide (P3.det (b.sub a) (c.sub a) (p.sub a) ≠ 0)
  | _,_ => false
theorem p3_ne (p a : P3) : (!(p.x == a.x && (p.y == a.y && p.z == a.z))) = decide (p ≠ a) := by
  obtain ⟨px,py,pz⟩ := p
  obtain ⟨ax,ay,az⟩ := a
  rw [Bool.eq_iff_iff]
  simp
theorem span_ne {p : P3} (hx : Fit p.x) (hy : Fit p.y) (hz : Fit p.z) : (!(eqb p.x 0 && (eqb p.y 0 && eqb p.z 0))) = decide (p ≠ ⟨0,0,0⟩) := by
  rw [Qcg hx Qbn,Qcg hy Qbn,Qcg hz Qbn]
  obtain ⟨px,py,pz⟩ := p
  rw [Bool.eq_iff_iff]
  simp
theorem cross_fit {a b : P3} (ha : a.i64) (hb : b.i64) : Fit (a.cross b).x ∧ Fit (a.cross b).y ∧ Fit (a.cross b).z := by
  have hxx := Qbr ha.1 hb.2.1
  have hxy := Qbr ha.2.1 hb.1
  have hxz := Qbr ha.1 hb.2.2
  have hzx := Qbr ha.2.2 hb.1
  have hyz := Qbr ha.2.1 hb.2.2
  have hzy := Qbr ha.2.2 hb.2.1
  unfold P3.cross Fit M511
  dsimp only
  omega
theorem sgn_zero (n : Int) : sgn n = 0 ↔ n = 0 := by
  unfold sgn
  split
  · omega
  · split <;> omega
section
variable (w : World) (gt g cap : Nat) (t : TypeId) (bc : List Value)
set_option maxHeartbeats 1000000 in
theorem raises0 (p : P3) (ht : w.heap[gt]? = some (.cells [Value.slice none 0 0].toArray 106 (0,0))) :
    Calls Try.prog 73 #[.pointer (some ⟨gt,0,none⟩),PV p] w (Ret (.bool true) w) := by
  go_enter Try.func73,Try.ntmps73
  have hp := Hp.start [] w
  go_wp2_with (first|((with_reducible apply Qaw hp);exact za rfl;exact rfl;clear hp;(try clear w1);intro g w1 hp;simp only [zp,zq,z0,z1])|((with_reducible apply Qbm hp);exact zt rfl;assumption;exact ii;(exact zso rfl);simp only [zp,zq,z0,z1]))
  exact bodyPost_ret (Qab rfl rfl) rfl ⟨rfl,hp.keep⟩
set_option maxHeartbeats 1000000 in
theorem raises0' (p : P3) (ht : w.heap[gt]? = some (.cells [Value.slice (some ⟨g,0,none⟩) 0 cap].toArray 106 (0,0))) :
    Calls Try.prog 73 #[.pointer (some ⟨gt,0,none⟩),PV p] w (Ret (.bool true) w) := by
  go_enter Try.func73,Try.ntmps73
  have hp := Hp.start [] w
  go_wp2_with (first|((with_reducible apply Qaw hp);exact za rfl;exact rfl;clear hp;(try clear w1);intro g w1 hp;simp only [zp,zq,z0,z1])|((with_reducible apply Qbm hp);exact zt rfl;assumption;exact ii;(exact zso rfl);simp only [zp,zq,z0,z1]))
  exact bodyPost_ret (Qab rfl rfl) rfl ⟨rfl,hp.keep⟩
set_option maxHeartbeats 1000000 in
theorem raises1 (a p : P3) (ht : w.heap[gt]? = some (.cells [Value.slice (some ⟨g,0,none⟩) 1 cap].toArray 106 (0,0))) (hb : w.heap[g]? = some (.cells bc.toArray t (0,0))) (hl : 3 ≤ bc.length)
    (h0 : (bc.drop 0).take 3 = [.int .i64 a.x,.int .i64 a.y,.int .i64 a.z]) :
    Calls Try.prog 73 #[.pointer (some ⟨gt,0,none⟩),PV p] w (Ret (.bool (decide (p ≠ a))) w) := by
  go_enter Try.func73,Try.ntmps73
  have hp := Hp.start [] w
  go_wp2_with (first|((with_reducible apply Qaw hp);exact za rfl;exact rfl;clear hp;(try clear w1);intro g w1 hp;simp only [zp,zq,z0,z1])|((with_reducible apply Qbm hp);exact zt rfl;assumption;exact ii;(exact zso rfl);simp only [zp,zq,z0,z1]))
  have hq := hp
  refine Qac hp hq [] (.q 0 (.q 1 (.q 2 (.q 3 (.q 4 (.q 5 (.q 6 (.q 7 (.q 8 .nil))))))))) (by kernel_rfl) (by kernel_rfl) ?_
  clear hp hq;(try clear w1);intro w1 hp hq
  repeat' (first|(((with_reducible apply sd_q);exact zo rfl);(first|((with_reducible apply Qaf hp);exact rfl;exact zt rfl;exact ii;exact ii;(exact zl rfl);(simp only [n0,Nat.reduceAdd,nn];try rfl);simp only [zp,zq,z0,z1])|((with_reducible apply Qbk hp);exact rfl;exact zt rfl;assumption;exact ii;assumption;(omega);simp only [zp,zq,z0,z1])|((with_reducible apply Qde hp);exact rfl;exact zt rfl;assumption;exact ii;(exact zso rfl);simp only [zp,zq,z0,z1])|((with_reducible apply Qar hp);exact zr rfl;simp only [zp,zq,z0,z1])|((with_reducible apply Qas hp);exact zb rfl;simp only [zp,zq,z0,z1])|((with_reducible apply Qbe hp);exact rfl;exact zx rfl;exact zk rfl;exact ii;(exact AggTy.size);omega;omega;((try simp only [m0,Int.reduceToNat,m1,m2,Nat.reduceMul,Nat.reduceAdd,m3,m4,m5,n0]);exact rfl);simp only [zp,zq,z0,z1])|((with_reducible apply Qaj hp);exact rfl;(focus (intro _;go_simp;(try go_ints);try with_reducible rfl));simp only [zp,zq,z0,z1])))|((with_reducible apply Qam);clear hp;have hp := hq;clear hq))
  go_wp2
  rw [← p3_ne,Bool.not_and,Bool.not_and]
  exact bodyPost_ret (Qab rfl rfl) rfl ⟨rfl,hp.keep⟩
set_option maxHeartbeats 1000000 in
theorem raises2 (a b p : P3) (ha : a.may) (hb' : b.may) (hp' : p.may) (ht : w.heap[gt]? = some (.cells [Value.slice (some ⟨g,0,none⟩) 2 cap].toArray 106 (0,0))) (hb : w.heap[g]? = some (.cells bc.toArray t (0,0))) (hl : 6 ≤ bc.length)
    (h0 : (bc.drop 0).take 3 = [.int .i64 a.x,.int .i64 a.y,.int .i64 a.z]) (h1 : (bc.drop 3).take 3 = [.int .i64 b.x,.int .i64 b.y,.int .i64 b.z]) :
    Calls Try.prog 73 #[.pointer (some ⟨gt,0,none⟩),PV p] w (Ret (.bool (Qcm [a,b] p)) w) := by
  have L1 := Lib.hid (Qfl b a (Qda hb' ha))
  have L2 := Lib.hid (Qfl p a (Qda hp' ha))
  have C := Lib.hid (Qog _ _ (Qda hb' ha) (Qda hp' ha))
  have hcf := cross_fit (Qda hb' ha) (Qda hp' ha)
  have hr : (!(eqb ((b.sub a).cross (p.sub a)).x 0 && (eqb ((b.sub a).cross (p.sub a)).y 0 && eqb ((b.sub a).cross (p.sub a)).z 0))) = Qcm [a,b] p := span_ne hcf.1 hcf.2.1 hcf.2.2
  rw [Qcd,Qcd,Qcd] at hr
  simp only [Bool.not_and] at hr
  rw [← hr]
  clear ha hb' hp' hcf hr
  go_enter Try.func73,Try.ntmps73
  have hp := Hp.start [] w
  go_wp2_with (first|((with_reducible apply Qaw hp);exact za rfl;exact rfl;clear hp;(try clear w1);intro g w1 hp;simp only [zp,zq,z0,z1])|((with_reducible apply Qbm hp);exact zt rfl;assumption;exact ii;(exact zso rfl);simp only [zp,zq,z0,z1]))
  have hq := hp
  refine Qac hp hq [] (.q 0 (.q 1 (.q 2 (.q 3 (.q 4 (.q 5 (.q 6 (.q 7 (.q 8 (.q 9 (.q 10 (.q 11 (.q 13 (.q 14 (.q 15 (.q 16 (.q 17 (.q 18 (.q 19 (.q 22 (.l 12 (.l 20 (.l 21 (.q 23 (.q 24 .nil))))))))))))))))))))))))) (by kernel_rfl) (by kernel_rfl) ?_
  clear hp hq;(try clear w1);intro w1 hp hq
  repeat' (first|(((with_reducible apply sd_q);exact zo rfl);(first|((with_reducible apply Qaf hp);exact rfl;exact zt rfl;exact ii;exact ii;(exact zl rfl);(simp only [n0,Nat.reduceAdd,nn];try rfl);simp only [zp,zq,z0,z1])|((with_reducible apply Qbk hp);exact rfl;exact zt rfl;assumption;exact ii;assumption;(omega);simp only [zp,zq,z0,z1])|((with_reducible apply Qde hp);exact rfl;exact zt rfl;assumption;exact ii;(exact zso rfl);simp only [zp,zq,z0,z1])|((with_reducible apply Qar hp);exact zr rfl;simp only [zp,zq,z0,z1])|((with_reducible apply Qas hp);exact zb rfl;simp only [zp,zq,z0,z1])|((with_reducible apply Qbe hp);exact rfl;exact zx rfl;exact zk rfl;exact ii;(exact AggTy.size);omega;omega;((try simp only [m0,Int.reduceToNat,m1,m2,Nat.reduceMul,Nat.reduceAdd,m3,m4,m5,n0]);exact rfl);simp only [zp,zq,z0,z1])|((with_reducible apply Qaj hp);exact rfl;(focus (intro _;go_simp;(try go_ints);try with_reducible rfl));simp only [zp,zq,z0,z1])))|(((with_reducible apply sd_l);exact zo rfl);((with_reducible apply Qap hp);exact rfl;(focus (intro _;go_simp;try first|with_reducible rfl|exact ⟨rfl,rfl⟩));(with_reducible first|exact fun w => L1.out w|exact fun w => L2.out w|exact fun w => C.out w);exact hq;clear hp hq;(try clear w1);intro w1 hp hq;simp only [zp,zq,z0,z1]))|((with_reducible apply Qam);clear hp;have hp := hq;clear hq))
  go_wp2
  exact bodyPost_ret (Qab rfl rfl) rfl ⟨rfl,hp.keep⟩
set_option maxHeartbeats 2000000 in
theorem raises3 (a b c p : P3) (ha : a.may) (hb' : b.may) (hc' : c.may) (hp' : p.may) (ht : w.heap[gt]? = some (.cells [Value.slice (some ⟨g,0,none⟩) 3 cap].toArray 106 (0,0))) (hb : w.heap[g]? = some (.cells bc.toArray t (0,0))) (hl : 9 ≤ bc.length)
    (h0 : (bc.drop 0).take 3 = [.int .i64 a.x,.int .i64 a.y,.int .i64 a.z]) (h1 : (bc.drop 3).take 3 = [.int .i64 b.x,.int .i64 b.y,.int .i64 b.z]) (h2 : (bc.drop 6).take 3 = [.int .i64 c.x,.int .i64 c.y,.int .i64 c.z]) :
    Calls Try.prog 73 #[.pointer (some ⟨gt,0,none⟩),PV p] w (Ret (.bool (Qcm [a,b,c] p)) w) := by
  have L1 := Lib.hid (Qfl b a (Qda hb' ha))
  have L2 := Lib.hid (Qfl p a (Qda hp' ha))
  have L3 := Lib.hid (Qfl c a (Qda hc' ha))
  have D := Lib.hid (det_any _ _ _ (Qda hb' ha) (Qda hc' ha) (Qda hp' ha))
  have Sg := Lib.hid (Qbu _ (det_fit (Qda hb' ha) (Qda hc' ha) (Qda hp' ha)))
  have hr : (!(sgn (P3.det (b.sub a) (c.sub a) (p.sub a)) == 0)) = Qcm [a,b,c] p := by
    have hz := sgn_zero (P3.det (b.sub a) (c.sub a) (p.sub a))
    rw [Qcm]
    by_cases h : P3.det (b.sub a) (c.sub a) (p.sub a) = 0
    · rw [hz.2 h];simp [h]
    · have : sgn (P3.det (b.sub a) (c.sub a) (p.sub a)) ≠ 0 := fun h' => h (hz.1 h')
      simp [h,this]
  rw [← hr]
  clear ha hb' hc' hp' hr
  go_enter Try.func73,Try.ntmps73
  have hp := Hp.start [] w
  go_wp2_with (first|((with_reducible apply Qaw hp);exact za rfl;exact rfl;clear hp;(try clear w1);intro g w1 hp;simp only [zp,zq,z0,z1])|((with_reducible apply Qbm hp);exact zt rfl;assumption;exact ii;(exact zso rfl);simp only [zp,zq,z0,z1]))
  have hq := hp
  refine Qac hp hq [] (.q 0 (.q 1 (.q 2 (.q 3 (.q 4 (.q 5 (.q 6 (.q 7 (.q 8 (.q 9 (.q 10 (.q 11 (.q 13 (.q 14 (.q 15 (.q 16 (.q 17 (.q 18 (.q 19 (.q 20 (.q 21 (.q 22 (.q 23 (.q 24 (.q 26 (.q 27 (.q 28 (.q 29 (.q 30 (.q 31 (.q 32 (.l 12 (.l 25 (.l 33 (.l 34 (.l 35 (.q 36 (.q 37 .nil)))))))))))))))))))))))))))))))))))))) (by kernel_rfl) (by kernel_rfl) ?_
  clear hp hq;(try clear w1);intro w1 hp hq
  repeat' (first|(((with_reducible apply sd_q);exact zo rfl);(first|((with_reducible apply Qaf hp);exact rfl;exact zt rfl;exact ii;exact ii;(exact zl rfl);(simp only [n0,Nat.reduceAdd,nn];try rfl);simp only [zp,zq,z0,z1])|((with_reducible apply Qbk hp);exact rfl;exact zt rfl;assumption;exact ii;assumption;(omega);simp only [zp,zq,z0,z1])|((with_reducible apply Qde hp);exact rfl;exact zt rfl;assumption;exact ii;(exact zso rfl);simp only [zp,zq,z0,z1])|((with_reducible apply Qar hp);exact zr rfl;simp only [zp,zq,z0,z1])|((with_reducible apply Qas hp);exact zb rfl;simp only [zp,zq,z0,z1])|((with_reducible apply Qbe hp);exact rfl;exact zx rfl;exact zk rfl;exact ii;(exact AggTy.size);omega;omega;((try simp only [m0,Int.reduceToNat,m1,m2,Nat.reduceMul,Nat.reduceAdd,m3,m4,m5,n0]);exact rfl);simp only [zp,zq,z0,z1])|((with_reducible apply Qaj hp);exact rfl;(focus (intro _;go_simp;(try go_ints);try with_reducible rfl));simp only [zp,zq,z0,z1])))|(((with_reducible apply sd_l);exact zo rfl);((with_reducible apply Qap hp);exact rfl;(focus (intro _;go_simp;try first|with_reducible rfl|exact ⟨rfl,rfl⟩));(with_reducible first|exact fun w => L1.out w|exact fun w => L2.out w|exact fun w => L3.out w|exact fun w => D.out w|exact fun w => Sg.out w);exact hq;clear hp hq;(try clear w1);intro w1 hp hq;simp only [zp,zq,z0,z1]))|((with_reducible apply Qam);clear hp;have hp := hq;clear hq))
  go_wp2
  exact bodyPost_ret (Qab rfl rfl) rfl ⟨rfl,hp.keep⟩
set_option maxHeartbeats 1000000 in
theorem raises4 (p : P3) (ht : w.heap[gt]? = some (.cells [Value.slice (some ⟨g,0,none⟩) 4 cap].toArray 106 (0,0))) :
    Calls Try.prog 73 #[.pointer (some ⟨gt,0,none⟩),PV p] w (Ret (.bool false) w) := by
  go_enter Try.func73,Try.ntmps73
  have hp := Hp.start [] w
  go_wp2_with (first|((with_reducible apply Qaw hp);exact za rfl;exact rfl;clear hp;(try clear w1);intro g w1 hp;simp only [zp,zq,z0,z1])|((with_reducible apply Qbm hp);exact zt rfl;assumption;exact ii;(exact zso rfl);simp only [zp,zq,z0,z1]))
  exact bodyPost_ret (Qab rfl rfl) rfl ⟨rfl,hp.keep⟩
end
end Go.Proofs.Ytdfdmeoalbpcdaa
