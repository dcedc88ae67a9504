/-
  Law 23: slices read at one place; the same bodies, the same rows; a row among arguments.
-/
import Derived.Test.YtblffafmkpnjdaaGreatUp
import Derived.Test.YtblffafmkpnjdaaGreatLt
set_option linter.unusedSimpArgs false
set_option linter.unusedVariables false
set_option maxRecDepth 100000
namespace Go.Proofs.YtblffafmkpnjdaaGreat
open Go Go.RowKit Go.ChangeShapes Go.WideShapes Go.ChangeAt Go.Joins
attribute [local irreducible] wpList
@[go_sem 100000] theorem eq_inr_self (w : World) (d : Nat) (b : Inr) : (Op.equalIn (d + 5) 29 (.agg #[.int .i64 b.m,.int .i64 b.p.x,.int .i64 b.p.y,.int .i64 b.p.z,.int .i64 b.q.x,.int .i64 b.q.y,.int .i64 b.q.z,.int .i64 b.r.x,.int .i64 b.r.y,.int .i64 b.r.z,.int .i64 b.v.x,.int .i64 b.v.y,.int .i64 b.v.z,.int .i64 b.s.x,.int .i64 b.s.y,.int .i64 b.s.z]) (.agg #[.int .i64 b.m,.int .i64 b.p.x,.int .i64 b.p.y,.int .i64 b.p.z,.int .i64 b.q.x,.int .i64 b.q.y,.int .i64 b.q.z,.int .i64 b.r.x,.int .i64 b.r.y,.int .i64 b.r.z,.int .i64 b.v.x,.int .i64 b.v.y,.int .i64 b.v.z,.int .i64 b.s.x,.int .i64 b.s.y,.int .i64 b.s.z])).run Tryz.prog w = .ok true w := by
  rw [eq_inr w d b b,decide_eq_true rfl]
theorem fsl_at {α : Type} {f : α → List Value} {m n k : Nat} {w : World} {b : Option Addr} {c : Nat} {L : List α} (h : FSl f m w (.slice b n c) L) (hm : 0 < m) (hf : ∀ x,(f x).length = m) (hk : k < L.length) :
    ∃ g off bc t z,b = some ⟨g,off,none⟩ ∧ w.heap[g]? = some (.cells (bc : List Value).toArray t z) ∧ (bc.drop (off + k * m)).take m = f L[k] ∧ off + k * m + m ≤ bc.length := by
  obtain ⟨g,off,cap,bc,t,z,e,h1,h2⟩ := h.some (by intro e;rw [e] at hk;cases hk)
  injection e with e1 e2 e3
  obtain ⟨h3,h4⟩ := fl_at hm hf h2 hk
  exact ⟨g,off,bc,t,z,e1,h1,h3,h4⟩
set_option maxHeartbeats 2000000 in
theorem Qoq (L : List Inr) (b0 b1 : Option Addr) (c0 c1 n : Nat) (hn : n ≤ 4294967296) (w : World) (HL : Hid (L.length = n)) (H1 : Hid (FSl NVl 16 w (.slice b0 n c0) L)) (H2 : Hid (FSl NVl 16 w (.slice b1 n c1) L)) : Calls Tryz.prog 12 #[.slice b0 n c0,.slice b1 n c1] w (Ret (.bool true) w) := by
  go_enter Tryz.func12,Tryz.ntmps12
  have hp := Hp.start [] w
  go_wp2_with (first | ((with_reducible apply Qaa hp);exact zt rfl;exact ii;exact ii;(first | exact zl rfl | exact Qad (by omega));(first | (with_reducible exact Qab (by omega)) | (simp only [n0,Nat.reduceAdd,n1,n2,n3,n4,n5,n6,n7,n8,n9];try rfl));simp only [zp,zq,z0,z1]) | ((with_reducible apply Qaj);exact zx rfl;exact zk rfl;exact ii;exact Sz.z;omega;omega;((try simp only [m0,Int.reduceToNat,m1,m2,Nat.reduceMul,Nat.reduceAdd,m3,m4,m5,n0]);exact rfl);simp only [zp,zq,z0,z1]) | ((with_reducible apply Qam hp);exact zt rfl;assumption;exact ii;assumption;(first | exact zl rfl | omega);simp only [zp,zq,z0,z1]))
  go_loopw [5] (fun i wr => ∃ k : Nat,k ≤ n ∧ i = .int .i64 k ∧ Hp [] w [] wr) (fun i _ => n - (intOf i).toNat)
  case atStart => exact ⟨0,by omega,rfl,hp⟩
  case round =>
    clear hp
    obtain ⟨k,hk,rfl,hp⟩ := hrel
    by_cases hk1 : k < n
    · have hk2 : (k : Int) < n := by omega
      obtain ⟨g1,o1,d1,t1,y1,rfl,hd1,ha1,hl1⟩ := fsl_at H1.out (by omega) Qcc (by rw [HL.out];exact hk1)
      obtain ⟨g3,o3,d3,t3,y3,rfl,hd3,ha3,hl3⟩ := fsl_at H2.out (by omega) Qcc (by rw [HL.out];exact hk1)
      have hkl : k < L.length := by rw [HL.out];exact hk1
      generalize L[k] = bb at *
      unfold NVl at ha1 ha3
      clear hkl
      go_wp2_with (first | ((with_reducible apply Qaa hp);exact zt rfl;exact ii;exact ii;(first | exact zl rfl | exact Qad (by omega));(first | (with_reducible exact Qab (by omega)) | (simp only [n0,Nat.reduceAdd,n1,n2,n3,n4,n5,n6,n7,n8,n9];try rfl));simp only [zp,zq,z0,z1]) | ((with_reducible apply Qaj);exact zx rfl;exact zk rfl;exact ii;exact Sz.z;omega;omega;((try simp only [m0,Int.reduceToNat,m1,m2,Nat.reduceMul,Nat.reduceAdd,m3,m4,m5,n0]);exact rfl);simp only [zp,zq,z0,z1]) | ((with_reducible apply Qam hp);exact zt rfl;assumption;exact ii;assumption;(first | exact zl rfl | omega);simp only [zp,zq,z0,z1]))
      have hq := hp
      refine Qau hp hq [] (.q 0 (.q 1 (.q 2 (.q 3 (.q 4 (.q 5 (.q 6 (.q 7 (.q 8 .nil))))))))) (by kernel_rfl) (by kernel_rfl) ?_
      clear hp hq;(try clear w1);intro w1 hp hq
      repeat' (first | (((with_reducible apply sg_q);exact zo rfl);(first | ((with_reducible apply Qbg hp);exact rfl;exact zt rfl;exact ii;exact ii;(first | exact zl rfl | exact Qad (by omega));(first | (with_reducible exact Qab (by omega)) | (simp only [n0,Nat.reduceAdd,n1,n2,n3,n4,n5,n6,n7,n8,n9];try rfl));simp only [zp,zq,z0,z1]) | ((with_reducible apply Qcd hp);exact rfl;exact zt rfl;assumption;exact ii;assumption;(first | exact zl rfl | omega);simp only [zp,zq,z0,z1]) | ((with_reducible apply Qbv hp);(first | exact zi rfl | exact zs rfl);simp only [zp,zq,z0,z1]) | ((with_reducible apply Qci hp);exact rfl;exact zx rfl;exact zk rfl;exact ii;exact Sz.z;omega;omega;((try simp only [m0,Int.reduceToNat,m1,m2,Nat.reduceMul,Nat.reduceAdd,m3,m4,m5,n0]);exact rfl);simp only [zp,zq,z0,z1]) | ((with_reducible apply Qbm hp);exact rfl;(focus (intro _;go_simp;(try go_ints);try with_reducible rfl));simp only [zp,zq,z0,z1]))) | ((with_reducible apply Qbt hq);clear hp hq;(try clear w1);intro w1 hp))
      go_wp2_with (first | ((with_reducible apply Qaa hp);exact zt rfl;exact ii;exact ii;(first | exact zl rfl | exact Qad (by omega));(first | (with_reducible exact Qab (by omega)) | (simp only [n0,Nat.reduceAdd,n1,n2,n3,n4,n5,n6,n7,n8,n9];try rfl));simp only [zp,zq,z0,z1]) | ((with_reducible apply Qaj);exact zx rfl;exact zk rfl;exact ii;exact Sz.z;omega;omega;((try simp only [m0,Int.reduceToNat,m1,m2,Nat.reduceMul,Nat.reduceAdd,m3,m4,m5,n0]);exact rfl);simp only [zp,zq,z0,z1]) | ((with_reducible apply Qam hp);exact zt rfl;assumption;exact ii;assumption;(first | exact zl rfl | omega);simp only [zp,zq,z0,z1]))
      go_roundw
      case rel => exact ⟨k + 1,by omega,by go_num,hp.sub (List.nil_sublist _)⟩
      case measure => simp [intOf];omega
    · obtain rfl : k = n := by omega
      go_wp2_with (first | ((with_reducible apply Qaa hp);exact zt rfl;exact ii;exact ii;(first | exact zl rfl | exact Qad (by omega));(first | (with_reducible exact Qab (by omega)) | (simp only [n0,Nat.reduceAdd,n1,n2,n3,n4,n5,n6,n7,n8,n9];try rfl));simp only [zp,zq,z0,z1]) | ((with_reducible apply Qaj);exact zx rfl;exact zk rfl;exact ii;exact Sz.z;omega;omega;((try simp only [m0,Int.reduceToNat,m1,m2,Nat.reduceMul,Nat.reduceAdd,m3,m4,m5,n0]);exact rfl);simp only [zp,zq,z0,z1]) | ((with_reducible apply Qam hp);exact zt rfl;assumption;exact ii;assumption;(first | exact zl rfl | omega);simp only [zp,zq,z0,z1]))
      exact bodyPost_ret (Qaf rfl rfl) rfl ⟨rfl,hp.keep⟩
theorem Qjz (L : List Inr) (v1 v2 : Value) (hn : L.length ≤ 4294967296) (w : World) (h1 : FSl NVl 16 w v1 L) (h2 : FSl NVl 16 w v2 L) : Calls Tryz.prog 12 #[v1,v2] w (Ret (.bool true) w) := by
  obtain ⟨b0,c0,rfl⟩ := h1.shape
  obtain ⟨b1,c1,rfl⟩ := h2.shape
  exact Qoq L b0 b1 c0 c1 _ hn w (Lib.hid rfl) (Lib.hid h1) (Lib.hid h2)
set_option maxHeartbeats 2000000 in
theorem same_rows0 (L : List Rw) (b0 b1 : Option Addr) (c0 c1 n : Nat) (hn : n ≤ 4294967296) (w : World) (HL : Hid (L.length = n)) (H1 : Hid (FSl RVl 25 w (.slice b0 n c0) L)) (H2 : Hid (FSl RVl 25 w (.slice b1 n c1) L)) : Calls Tryz.prog 13 #[.slice b0 n c0,.slice b1 n c1] w (Ret (.bool true) w) := by
  go_enter Tryz.func13,Tryz.ntmps13
  have hp := Hp.start [] w
  go_wp2_with (first | ((with_reducible apply Qaa hp);exact zt rfl;exact ii;exact ii;(first | exact zl rfl | exact Qad (by omega));(first | (with_reducible exact Qab (by omega)) | (simp only [n0,Nat.reduceAdd,n1,n2,n3,n4,n5,n6,n7,n8,n9];try rfl));simp only [zp,zq,z0,z1]) | ((with_reducible apply Qaj);exact zx rfl;exact zk rfl;exact ii;exact Sz.z;omega;omega;((try simp only [m0,Int.reduceToNat,m1,m2,Nat.reduceMul,Nat.reduceAdd,m3,m4,m5,n0]);exact rfl);simp only [zp,zq,z0,z1]) | ((with_reducible apply Qam hp);exact zt rfl;assumption;exact ii;assumption;(first | exact zl rfl | omega);simp only [zp,zq,z0,z1]))
  go_loopw [5] (fun i wr => ∃ k : Nat,k ≤ n ∧ i = .int .i64 k ∧ Hp [] w [] wr) (fun i _ => n - (intOf i).toNat)
  case atStart => exact ⟨0,by omega,rfl,hp⟩
  case round =>
    clear hp
    obtain ⟨k,hk,rfl,hp⟩ := hrel
    by_cases hk1 : k < n
    · have hk2 : (k : Int) < n := by omega
      obtain ⟨g1,o1,d1,t1,y1,rfl,hd1,ha1,hl1⟩ := fsl_at H1.out (by omega) Qbx (by rw [HL.out];exact hk1)
      obtain ⟨g3,o3,d3,t3,y3,rfl,hd3,ha3,hl3⟩ := fsl_at H2.out (by omega) Qbx (by rw [HL.out];exact hk1)
      have hkl : k < L.length := by rw [HL.out];exact hk1
      generalize L[k] = bb at *
      unfold RVl at ha1 ha3
      clear hkl
      go_wp2_with (first | ((with_reducible apply Qaa hp);exact zt rfl;exact ii;exact ii;(first | exact zl rfl | exact Qad (by omega));(first | (with_reducible exact Qab (by omega)) | (simp only [n0,Nat.reduceAdd,n1,n2,n3,n4,n5,n6,n7,n8,n9];try rfl));simp only [zp,zq,z0,z1]) | ((with_reducible apply Qaj);exact zx rfl;exact zk rfl;exact ii;exact Sz.z;omega;omega;((try simp only [m0,Int.reduceToNat,m1,m2,Nat.reduceMul,Nat.reduceAdd,m3,m4,m5,n0]);exact rfl);simp only [zp,zq,z0,z1]) | ((with_reducible apply Qam hp);exact zt rfl;assumption;exact ii;assumption;(first | exact zl rfl | omega);simp only [zp,zq,z0,z1]))
      have hq := hp
      refine Qau hp hq [] (.q 0 (.q 1 (.q 2 (.q 3 (.q 4 (.q 5 (.q 6 (.q 7 (.q 8 .nil))))))))) (by kernel_rfl) (by kernel_rfl) ?_
      clear hp hq;(try clear w1);intro w1 hp hq
      repeat' (first | (((with_reducible apply sg_q);exact zo rfl);(first | ((with_reducible apply Qbg hp);exact rfl;exact zt rfl;exact ii;exact ii;(first | exact zl rfl | exact Qad (by omega));(first | (with_reducible exact Qab (by omega)) | (simp only [n0,Nat.reduceAdd,n1,n2,n3,n4,n5,n6,n7,n8,n9];try rfl));simp only [zp,zq,z0,z1]) | ((with_reducible apply Qcd hp);exact rfl;exact zt rfl;assumption;exact ii;assumption;(first | exact zl rfl | omega);simp only [zp,zq,z0,z1]) | ((with_reducible apply Qbv hp);(first | exact zi rfl | exact zs rfl);simp only [zp,zq,z0,z1]) | ((with_reducible apply Qci hp);exact rfl;exact zx rfl;exact zk rfl;exact ii;exact Sz.z;omega;omega;((try simp only [m0,Int.reduceToNat,m1,m2,Nat.reduceMul,Nat.reduceAdd,m3,m4,m5,n0]);exact rfl);simp only [zp,zq,z0,z1]) | ((with_reducible apply Qbm hp);exact rfl;(focus (intro _;go_simp;(try go_ints);try with_reducible rfl));simp only [zp,zq,z0,z1]))) | ((with_reducible apply Qbt hq);clear hp hq;(try clear w1);intro w1 hp))
      go_wp2_with (first | ((with_reducible apply Qaa hp);exact zt rfl;exact ii;exact ii;(first | exact zl rfl | exact Qad (by omega));(first | (with_reducible exact Qab (by omega)) | (simp only [n0,Nat.reduceAdd,n1,n2,n3,n4,n5,n6,n7,n8,n9];try rfl));simp only [zp,zq,z0,z1]) | ((with_reducible apply Qaj);exact zx rfl;exact zk rfl;exact ii;exact Sz.z;omega;omega;((try simp only [m0,Int.reduceToNat,m1,m2,Nat.reduceMul,Nat.reduceAdd,m3,m4,m5,n0]);exact rfl);simp only [zp,zq,z0,z1]) | ((with_reducible apply Qam hp);exact zt rfl;assumption;exact ii;assumption;(first | exact zl rfl | omega);simp only [zp,zq,z0,z1]))
      go_roundw
      case rel => exact ⟨k + 1,by omega,by go_num,hp.sub (List.nil_sublist _)⟩
      case measure => simp [intOf];omega
    · obtain rfl : k = n := by omega
      go_wp2_with (first | ((with_reducible apply Qaa hp);exact zt rfl;exact ii;exact ii;(first | exact zl rfl | exact Qad (by omega));(first | (with_reducible exact Qab (by omega)) | (simp only [n0,Nat.reduceAdd,n1,n2,n3,n4,n5,n6,n7,n8,n9];try rfl));simp only [zp,zq,z0,z1]) | ((with_reducible apply Qaj);exact zx rfl;exact zk rfl;exact ii;exact Sz.z;omega;omega;((try simp only [m0,Int.reduceToNat,m1,m2,Nat.reduceMul,Nat.reduceAdd,m3,m4,m5,n0]);exact rfl);simp only [zp,zq,z0,z1]) | ((with_reducible apply Qam hp);exact zt rfl;assumption;exact ii;assumption;(first | exact zl rfl | omega);simp only [zp,zq,z0,z1]))
      exact bodyPost_ret (Qaf rfl rfl) rfl ⟨rfl,hp.keep⟩
theorem Qnz (L : List Rw) (v1 v2 : Value) (hn : L.length ≤ 4294967296) (w : World) (h1 : FSl RVl 25 w v1 L) (h2 : FSl RVl 25 w v2 L) : Calls Tryz.prog 13 #[v1,v2] w (Ret (.bool true) w) := by
  obtain ⟨b0,c0,rfl⟩ := h1.shape
  obtain ⟨b1,c1,rfl⟩ := h2.shape
  exact same_rows0 L b0 b1 c0 c1 _ hn w (Lib.hid rfl) (Lib.hid h1) (Lib.hid h2)
end Go.Proofs.YtblffafmkpnjdaaGreat
