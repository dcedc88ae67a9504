/-
  Package orient: fine, Side (contracts).
-/
import Derived.Test.YtdfdmeoalbpcdaaHa
set_option linter.unusedSimpArgs false
set_option maxRecDepth 100000
namespace Go.Proofs.Ytdfdmeoalbpcdaa
open Go Go.RowKit
theorem Qoa (w : World) : Calls Try.prog 74 #[.slice none 0 0] w (Ret (.bool true) w) := by
  go_enter Try.func74,Try.ntmps74
  have hp := Hp.start [] w
  go_wp2_with (first|((with_reducible apply Qaf hp);exact ii;exact rfl;clear hp;(try clear w1);intro g w1 hp;simp only [zp,zq,z0,z1])|((with_reducible apply Qab hp);exact zt rfl;exact ii;exact ii;(first|exact zl rfl|exact Qac (by omega));(first|(with_reducible exact Qaa (by omega))|(simp only [n0,Nat.reduceAdd,nn];try rfl));simp only [zp,zq,z0,z1])|((with_reducible apply Qag hp);exact zt rfl;exact za rfl;exact rfl;exact Sz.z;exact rfl;exact ii;(first|(with_reducible exact Qaa (by omega))|(simp only [n0,Nat.reduceAdd,nn];try rfl));(first|exact zl rfl|exact Qac (by omega));exact rfl;exact ii;clear hp;(try clear w1);intro w1 hp)|((with_reducible apply Qah);exact zx rfl;exact zk rfl;exact ii;exact Sz.z;omega;omega;((try simp only [m0,Int.reduceToNat,m1,m2,Nat.reduceMul,Nat.reduceAdd,m3,m4,m5,n0]);exact rfl);simp only [zp,zq,z0,z1])|((with_reducible apply Qaj hp);exact zt rfl;assumption;exact ii;assumption;(first|exact zl rfl|omega);simp only [zp,zq,z0,z1]))
  apply wp_loop_once
  go_wp2_with (first|((with_reducible apply Qaf hp);exact ii;exact rfl;clear hp;(try clear w1);intro g w1 hp;simp only [zp,zq,z0,z1])|((with_reducible apply Qab hp);exact zt rfl;exact ii;exact ii;(first|exact zl rfl|exact Qac (by omega));(first|(with_reducible exact Qaa (by omega))|(simp only [n0,Nat.reduceAdd,nn];try rfl));simp only [zp,zq,z0,z1])|((with_reducible apply Qag hp);exact zt rfl;exact za rfl;exact rfl;exact Sz.z;exact rfl;exact ii;(first|(with_reducible exact Qaa (by omega))|(simp only [n0,Nat.reduceAdd,nn];try rfl));(first|exact zl rfl|exact Qac (by omega));exact rfl;exact ii;clear hp;(try clear w1);intro w1 hp)|((with_reducible apply Qah);exact zx rfl;exact zk rfl;exact ii;exact Sz.z;omega;omega;((try simp only [m0,Int.reduceToNat,m1,m2,Nat.reduceMul,Nat.reduceAdd,m3,m4,m5,n0]);exact rfl);simp only [zp,zq,z0,z1])|((with_reducible apply Qaj hp);exact zt rfl;assumption;exact ii;assumption;(first|exact zl rfl|omega);simp only [zp,zq,z0,z1]))
  exact bodyPost_ret (Qak rfl rfl) rfl ⟨rfl,hp.keep⟩
theorem fine_any {ps : List P3} {v : Value} (hlen : ps.length ≤ maxLen) (w : World) (h : PSl w v ps) : Calls Try.prog 74 #[v] w (Ret (.bool (Qdw ps)) w) := by
  rcases h with ⟨rfl,rfl⟩|⟨g,off,cap,bc,t,z,rfl,hb,hv⟩
  · exact Qoa w
  · exact Qnq ps _ (Lib.hid rfl) hlen w g off cap bc t hb hv
theorem Qdf {a b : P3} (ha : a.may) (hb : b.may) : (a.sub b).i64 := by
  unfold P3.may may at ha hb
  unfold P3.i64 P3.sub I64
  dsimp only
  omega
theorem det_fit {a b c : P3} (ha : a.i64) (hb : b.i64) (hc : c.i64) : Fit (P3.det a b c) := by
  have hxx := Qcf hb.1 hc.2.1
  have hxy := Qcf hb.2.1 hc.1
  have hxz := Qcf hb.1 hc.2.2
  have hzx := Qcf hb.2.2 hc.1
  have hyz := Qcf hb.2.1 hc.2.2
  have hzy := Qcf hb.2.2 hc.2.1
  have h1 := Qgn (a := (b.cross c).x) (by unfold P3.cross;dsimp only;omega) ha.1
  have h2 := Qgn (a := (b.cross c).y) (by unfold P3.cross;dsimp only;omega) ha.2.1
  have h3 := Qgn (a := (b.cross c).z) (by unfold P3.cross;dsimp only;omega) ha.2.2
  unfold P3.det P3.dot Fit M511
  omega
theorem Qlc {ps : List P3} (h : Qdw ps = true) {p : P3} (hp : p ∈ ps) : p.may := by
  have := List.all_eq_true.1 h p hp
  simpa using this
end Go.Proofs.Ytdfdmeoalbpcdaa
