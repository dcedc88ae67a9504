/-
  Package simplex: minor (contracts).
-/
import Derived.Test.YtdfdmeoalbpcdaaGreatQa
set_option linter.unusedSimpArgs false
set_option linter.unusedVariables false
set_option maxRecDepth 100000
namespace Go.Proofs.YtdfdmeoalbpcdaaGreat
open Go Go.RowKit
abbrev Qnx (w : World) (f : FuncId) (args : Array Value) (x : Int) : Prop := ∀ w',Keep [] w w' → Calls Tryz.prog f args w' (Ret (W x) w')
set_option maxHeartbeats 2000000 in
theorem at_eq (n i k x : Int) (c1 c2 c3 : Value) (b2 b3 b4 : Nat) (w : World) (h2 : w.heap[b2]? = some (.cells #[.int .i64 k] 3 (0,0))) (h3 : w.heap[b3]? = some (.cells #[.func (.func 51) #[] #[c1,c2,c3]] 97 (0,0))) (h4 : w.heap[b4]? = some (.cells #[.int .i64 n] 3 (0,0)))
    (G1 : Hid (Qnx w 51 #[.int .i64 i,.int .i64 n,c1,c2,c3] x)) : Calls Tryz.prog 90 #[.int .i64 i,.int .i64 k,.pointer (some ⟨b2,0,none⟩),.pointer (some ⟨b3,0,none⟩),.pointer (some ⟨b4,0,none⟩)] w (Ret (W x) w) := by
  have z0 : (k == k) = true := beq_self_eq_true _
  go_enter Tryz.func90,Tryz.ntmps90
  have hp := Hp.start [] w
  go_wp2_with (first|((with_reducible apply Qag hp);exact ii;exact rfl;clear hp;(try clear w1);intro g w1 hp;simp only [zp,zq,z0,z1])|((with_reducible apply Qae hp);exact zt rfl;exact za rfl;exact rfl;(exact AggTy.size);exact rfl;exact ii;(simp only [n0,Nat.reduceAdd,nn];try rfl);(exact zl rfl);exact rfl;exact ii;clear hp;(try clear w1);intro w1 hp)|((with_reducible apply Qbf hp);exact zt rfl;assumption;exact ii;(first|exact zfo rfl|exact zio rfl);simp only [zp,zq,z0,z1])|((with_reducible refine Qaf hp (G1.out _ hp.keep) ?_);clear hp;(try clear w1);intro w1 hp))
  exact bodyPost_ret (Qaa rfl ⟨_,rfl,Qac hp (Nat.le_of_ble_eq_true rfl)⟩) rfl ⟨rfl,hp.keep⟩
set_option maxHeartbeats 2000000 in
theorem at_ne (n i k wi x : Int) (hk : (k == wi) = false) (c1 c2 c3 : Value) (b2 b3 b4 : Nat) (w : World) (h2 : w.heap[b2]? = some (.cells #[.int .i64 wi] 3 (0,0))) (h3 : w.heap[b3]? = some (.cells #[.func (.func 51) #[] #[c1,c2,c3]] 97 (0,0))) (h4 : w.heap[b4]? = some (.cells #[.int .i64 n] 3 (0,0)))
    (G1 : Hid (Qnx w 51 #[.int .i64 i,.int .i64 k,c1,c2,c3] x)) : Calls Tryz.prog 90 #[.int .i64 i,.int .i64 k,.pointer (some ⟨b2,0,none⟩),.pointer (some ⟨b3,0,none⟩),.pointer (some ⟨b4,0,none⟩)] w (Ret (W x) w) := by
  go_enter Tryz.func90,Tryz.ntmps90
  have hp := Hp.start [] w
  go_wp2_with (first|((with_reducible apply Qag hp);exact ii;exact rfl;clear hp;(try clear w1);intro g w1 hp;simp only [zp,zq,z0,z1])|((with_reducible apply Qae hp);exact zt rfl;exact za rfl;exact rfl;(exact AggTy.size);exact rfl;exact ii;(simp only [n0,Nat.reduceAdd,nn];try rfl);(exact zl rfl);exact rfl;exact ii;clear hp;(try clear w1);intro w1 hp)|((with_reducible apply Qbf hp);exact zt rfl;assumption;exact ii;(first|exact zfo rfl|exact zio rfl);simp only [zp,zq,z0,z1])|((with_reducible refine Qaf hp (G1.out _ hp.keep) ?_);clear hp;(try clear w1);intro w1 hp))
  exact bodyPost_ret (Qaa rfl ⟨_,rfl,Qac hp (Nat.le_of_ble_eq_true rfl)⟩) rfl ⟨rfl,hp.keep⟩
def tw2 (x1 x2 x3 x4 : Int) : Int := fz (fz (x1 * x2) - fz (x3 * x4))
set_option maxHeartbeats 4000000 in
theorem two_any (a b i k x1 x2 x3 x4 : Int) (hx1 : Fit x1) (hx2 : Fit x2) (hx3 : Fit x3) (hx4 : Fit x4) (c1 c2 c3 : Value) (b5 : Nat) (w : World) (h5 : w.heap[b5]? = some (.cells #[.func (.func 90) #[] #[c1,c2,c3]] 97 (0,0)))
    (G1 : Hid (Qnx w 90 #[.int .i64 a,.int .i64 i,c1,c2,c3] x1)) (G2 : Hid (Qnx w 90 #[.int .i64 b,.int .i64 k,c1,c2,c3] x2)) (G3 : Hid (Qnx w 90 #[.int .i64 a,.int .i64 k,c1,c2,c3] x3)) (G4 : Hid (Qnx w 90 #[.int .i64 b,.int .i64 i,c1,c2,c3] x4)) :
    Calls Tryz.prog 91 #[.int .i64 a,.int .i64 b,.int .i64 i,.int .i64 k,.pointer (some ⟨b5,0,none⟩)] w (Ret (W (tw2 x1 x2 x3 x4)) w) := by
  unfold tw2
  have T1 := Lib.hid (Qch x1 x2 hx1 hx2)
  have T2 := Lib.hid (Qch x3 x4 hx3 hx4)
  have L1 := Lib.hid (Qer (fz (x1 * x2)) (fz (x3 * x4)) (Qbx _) (Qbx _))
  clear hx1 hx2 hx3 hx4
  go_enter Tryz.func91,Tryz.ntmps91
  have hp := Hp.start [] w
  go_upto_region 1 with ((with_reducible apply Qag hp);exact ii;exact rfl;clear hp;(try clear w1);intro g w1 hp;simp only [zp,zq,z0,z1])
  have hq := hp
  refine Qad hp hq [19] (.q 0 (.q 1 (.q 2 (.q 4 (.q 5 (.q 6 (.q 9 (.q 10 (.q 11 (.q 13 (.q 14 (.q 15 (.l 3 (.l 7 (.l 8 (.l 12 (.l 16 (.l 17 (.l 18 (.l 19 .nil)))))))))))))))))))) (by kernel_rfl) (by kernel_rfl) ?_
  clear hp hq;(try clear w1);intro w1 hp hq
  repeat' (first|(((with_reducible apply sd_q);exact zo rfl);(first|((with_reducible apply Qbl hp);exact rfl;exact zt rfl;assumption;exact ii;(exact zfo rfl);simp only [zp,zq,z0,z1])|((with_reducible apply Qaq hp);exact zi rfl;simp only [zp,zq,z0,z1])))|(((with_reducible apply sd_l);exact zo rfl);(first|((with_reducible apply Qap hp);exact rfl;(focus (intro _;go_simp;try first|with_reducible rfl|exact ⟨rfl,rfl⟩));(with_reducible first|exact fun w => T1.out w|exact fun w => T2.out w|exact fun w => L1.out w);exact hq;clear hp hq;(try clear w1);intro w1 hp hq;simp only [zp,zq,z0,z1])|((with_reducible apply Qck hp);exact rfl;(focus (intro _;go_simp;try first|with_reducible rfl|exact ⟨rfl,rfl⟩));(with_reducible exact G1.out _ hq.keep);exact hq;clear hp hq;(try clear w1);intro w1 hp hq;simp only [zp,zq,z0,z1])|((with_reducible apply Qck hp);exact rfl;(focus (intro _;go_simp;try first|with_reducible rfl|exact ⟨rfl,rfl⟩));(with_reducible exact G2.out _ hq.keep);exact hq;clear hp hq;(try clear w1);intro w1 hp hq;simp only [zp,zq,z0,z1])|((with_reducible apply Qck hp);exact rfl;(focus (intro _;go_simp;try first|with_reducible rfl|exact ⟨rfl,rfl⟩));(with_reducible exact G3.out _ hq.keep);exact hq;clear hp hq;(try clear w1);intro w1 hp hq;simp only [zp,zq,z0,z1])|((with_reducible apply Qck hp);exact rfl;(focus (intro _;go_simp;try first|with_reducible rfl|exact ⟨rfl,rfl⟩));(with_reducible exact G4.out _ hq.keep);exact hq;clear hp hq;(try clear w1);intro w1 hp hq;simp only [zp,zq,z0,z1])|((with_reducible apply Qbb hq);exact rfl;exact zt rfl;(exact za rfl);exact rfl;(exact AggTy.size);exact rfl;exact ii;(simp only [n0,Nat.reduceAdd,nn];try rfl);(exact zl rfl);exact rfl;exact ii;exact rfl;clear hp hq;(try clear w1);intro w1 hq;have hp := True.intro)))|((with_reducible apply Qao);clear hp;have hp := hq;clear hq))
  go_wp2
  exact bodyPost_ret (Qaa rfl ⟨_,rfl,Qac hp (Nat.le_of_ble_eq_true rfl)⟩) rfl ⟨rfl,hp.keep⟩
/-- A row of products, with a column in place of another. -/
def aF (G : Int → Int → Int) (n wi i k : Int) : Int := if k = wi then G i n else G i k
abbrev GGs (w : World) (G : Int → Int → Int) (n : Int) (c1 c2 c3 : Value) : Prop := ∀ i k : Int,0 ≤ i → i < n → 0 ≤ k → k ≤ n → Qnx w 51 #[.int .i64 i,.int .i64 k,c1,c2,c3] (G i k) ∧ Fit (G i k)
theorem Qlc {w : World} {G : Int → Int → Int} {n wi i k : Int} {c1 c2 c3 : Value} (hG : GGs w G n c1 c2 c3) (h0 : 0 ≤ i) (h1 : i < n) (h2 : 0 ≤ k) (h3 : k < n) : Fit (aF G n wi i k) := by
  unfold aF
  split
  · exact (hG i n h0 h1 (by omega) (by omega)).2
  · exact (hG i k h0 h1 h2 (by omega)).2
theorem Qal {w w1 : World} (hk : Keep [] w w1) {g : Nat} {o : Obj} (h : w.heap[g]? = some o) : w1.heap[g]? = some o := by
  have hl : g < w.heap.size := by
    rcases Nat.lt_or_ge g w.heap.size with h' | h'
    · exact h'
    · simp [Array.getElem?_eq_none h'] at h
  rw [hk.block g hl (by simp)]
  exact h
theorem at_in {w : World} {G : Int → Int → Int} {n : Int} (wi : Int) {c1 c2 c3 : Value} (hG : GGs w G n c1 c2 c3) (i k : Int) (h0 : 0 ≤ i) (h1 : i < n) (h2 : 0 ≤ k) (h3 : k < n) (b2 b3 b4 : Nat) (w' : World) (hk : Keep [] w w') : w'.heap[b2]? = some (.cells #[.int .i64 wi] 3 (0,0)) → w'.heap[b3]? = some (.cells #[.func (.func 51) #[] #[c1,c2,c3]] 97 (0,0)) → w'.heap[b4]? = some (.cells #[.int .i64 n] 3 (0,0)) →
    Calls Tryz.prog 90 #[.int .i64 i,.int .i64 k,.pointer (some ⟨b2,0,none⟩),.pointer (some ⟨b3,0,none⟩),.pointer (some ⟨b4,0,none⟩)] w' (Ret (W (aF G n wi i k)) w') := by
  intro f2 f3 f4
  unfold aF
  by_cases h : k = wi
  · subst h
    rw [if_pos rfl]
    exact at_eq n i k _ c1 c2 c3 b2 b3 b4 w' f2 f3 f4 (Lib.hid fun w2 k2 => (hG i n h0 h1 (by omega) (by omega)).1 w2 (hk.trans k2))
  · rw [if_neg h]
    exact at_ne n i k wi _ (beq_eq_false_iff_ne.2 h) c1 c2 c3 b2 b3 b4 w' f2 f3 f4 (Lib.hid fun w2 k2 => (hG i k h0 h1 h2 (by omega)).1 w2 (hk.trans k2))
theorem two_in {w : World} {G : Int → Int → Int} {n : Int} (wi : Int) {c1 c2 c3 : Value} (hG : GGs w G n c1 c2 c3) (a b i k : Int) (ha : 0 ≤ a ∧ a < n) (hb : 0 ≤ b ∧ b < n) (hi : 0 ≤ i ∧ i < n) (hk1 : 0 ≤ k ∧ k < n) (b2 b3 b4 b5 : Nat) (w' : World) (hk : Keep [] w w') : w'.heap[b2]? = some (.cells #[.int .i64 wi] 3 (0,0)) → w'.heap[b3]? = some (.cells #[.func (.func 51) #[] #[c1,c2,c3]] 97 (0,0)) → w'.heap[b4]? = some (.cells #[.int .i64 n] 3 (0,0)) → w'.heap[b5]? = some (.cells #[.func (.func 90) #[] #[.pointer (some ⟨b2,0,none⟩),.pointer (some ⟨b3,0,none⟩),.pointer (some ⟨b4,0,none⟩)]] 97 (0,0)) →
    Calls Tryz.prog 91 #[.int .i64 a,.int .i64 b,.int .i64 i,.int .i64 k,.pointer (some ⟨b5,0,none⟩)] w' (Ret (W (tw2 (aF G n wi a i) (aF G n wi b k) (aF G n wi a k) (aF G n wi b i))) w') := by
  intro f2 f3 f4 f5
  have AT : ∀ x y,0 ≤ x ∧ x < n → 0 ≤ y ∧ y < n → Hid (Qnx w' 90 #[.int .i64 x,.int .i64 y,.pointer (some ⟨b2,0,none⟩),.pointer (some ⟨b3,0,none⟩),.pointer (some ⟨b4,0,none⟩)] (aF G n wi x y)) := fun x y hx hy => Lib.hid fun w2 k2 => at_in wi hG x y hx.1 hx.2 hy.1 hy.2 b2 b3 b4 w2 (hk.trans k2) (Qal k2 f2) (Qal k2 f3) (Qal k2 f4)
  exact two_any a b i k _ _ _ _ (Qlc hG ha.1 ha.2 hi.1 hi.2) (Qlc hG hb.1 hb.2 hk1.1 hk1.2) (Qlc hG ha.1 ha.2 hk1.1 hk1.2) (Qlc hG hb.1 hb.2 hi.1 hi.2) _ _ _ b5 w' f5 (AT a i ha hi) (AT b k hb hk1) (AT a k ha hk1) (AT b i hb hi)
theorem Qid (a b c d : Int) : Fit (tw2 a b c d) := Qbx _
section
variable (w : World) (c1 c2 c3 : Value) (G : Int → Int → Int) (wi : Int)
theorem minor_0 : Calls Tryz.prog 54 #[.int .i64 0,.func (.func 51) #[] #[c1,c2,c3],.int .i64 wi] w (Ret (W 1) w) := by
  have hmf : ∀ (fn : Fn) (first cap : Array Value) (w : World),(Instr.makeFunc fn first cap).run Tryz.prog w = .ok (.func fn first cap) w := fun _ _ _ _ => rfl
  have O1 := Lib.hid (Qnv 1 (by decide) (by decide))
  go_enter Tryz.func54,Tryz.ntmps54
  have hp := Hp.start [] w
  go_wp2_with (first|((with_reducible apply Qau hp);(first|exact zf rfl|exact zi rfl);exact rfl;clear hp;(try clear w1);intro g w1 hp;simp only [zp,zq,z0,z1])|((with_reducible apply Qag hp);exact ii;exact rfl;clear hp;(try clear w1);intro g w1 hp;simp only [zp,zq,z0,z1])|((with_reducible apply Qai hp);exact zt rfl;exact ii;exact ii;(exact zio rfl);simp only [zp,zq,z0,z1])|((with_reducible apply Qae hp);exact zt rfl;(first|exact za rfl|exact zf rfl);exact rfl;exact Sz.z;exact rfl;exact ii;(simp only [n0,Nat.reduceAdd,nn];try rfl);(exact zl rfl);exact rfl;exact ii;clear hp;(try clear w1);intro w1 hp)|((with_reducible refine Qaf hp (O1.out _) ?_);clear hp;(try clear w1);intro w1 hp))
  exact bodyPost_ret (Qaa rfl ⟨_,rfl,Qac hp (Nat.le_of_ble_eq_true rfl)⟩) rfl ⟨rfl,hp.keep⟩
theorem minor_1 (hG : GGs w G 1 c1 c2 c3) : Calls Tryz.prog 54 #[.int .i64 1,.func (.func 51) #[] #[c1,c2,c3],.int .i64 wi] w (Ret (W (aF G 1 wi 0 0)) w) := by
  have hmf : ∀ (fn : Fn) (first cap : Array Value) (w : World),(Instr.makeFunc fn first cap).run Tryz.prog w = .ok (.func fn first cap) w := fun _ _ _ _ => rfl
  have A1 := Lib.hid (at_in wi hG 0 0 (by decide) (by decide) (by decide) (by decide))
  clear hG
  generalize aF G 1 wi 0 0 = x at *
  go_enter Tryz.func54,Tryz.ntmps54
  have hp := Hp.start [] w
  go_wp2_with (first|((with_reducible apply Qau hp);(first|exact zf rfl|exact zi rfl);exact rfl;clear hp;(try clear w1);intro g w1 hp;simp only [zp,zq,z0,z1])|((with_reducible apply Qag hp);exact ii;exact rfl;clear hp;(try clear w1);intro g w1 hp;simp only [zp,zq,z0,z1])|((with_reducible apply Qai hp);exact zt rfl;exact ii;exact ii;(first|exact zfo rfl|exact zio rfl);simp only [zp,zq,z0,z1])|((with_reducible apply Qae hp);exact zt rfl;(first|exact za rfl|exact zf rfl);exact rfl;exact Sz.z;exact rfl;exact ii;(simp only [n0,Nat.reduceAdd,nn];try rfl);(exact zl rfl);exact rfl;exact ii;clear hp;(try clear w1);intro w1 hp)|((with_reducible refine Qaf hp (A1.out _ _ _ _ hp.keep hp.blk hp.blk hp.blk) ?_);clear hp;(try clear w1);intro w1 hp))
  exact bodyPost_ret (Qaa rfl ⟨_,rfl,Qac hp (Nat.le_of_ble_eq_true rfl)⟩) rfl ⟨rfl,hp.keep⟩
theorem minor_2 (hG : GGs w G 2 c1 c2 c3) : Calls Tryz.prog 54 #[.int .i64 2,.func (.func 51) #[] #[c1,c2,c3],.int .i64 wi] w (Ret (W (tw2 (aF G 2 wi 0 0) (aF G 2 wi 1 1) (aF G 2 wi 0 1) (aF G 2 wi 1 0))) w) := by
  have hmf : ∀ (fn : Fn) (first cap : Array Value) (w : World),(Instr.makeFunc fn first cap).run Tryz.prog w = .ok (.func fn first cap) w := fun _ _ _ _ => rfl
  have T1 := Lib.hid (two_in wi hG 0 1 0 1 (by decide) (by decide) (by decide) (by decide))
  clear hG
  generalize tw2 (aF G 2 wi 0 0) (aF G 2 wi 1 1) (aF G 2 wi 0 1) (aF G 2 wi 1 0) = x at *
  go_enter Tryz.func54,Tryz.ntmps54
  have hp := Hp.start [] w
  go_wp2_with (first|((with_reducible apply Qau hp);(first|exact zf rfl|exact zi rfl);exact rfl;clear hp;(try clear w1);intro g w1 hp;simp only [zp,zq,z0,z1])|((with_reducible apply Qag hp);exact ii;exact rfl;clear hp;(try clear w1);intro g w1 hp;simp only [zp,zq,z0,z1])|((with_reducible apply Qai hp);exact zt rfl;exact ii;exact ii;(exact zio rfl);simp only [zp,zq,z0,z1])|((with_reducible apply Qae hp);exact zt rfl;(first|exact za rfl|exact zf rfl);exact rfl;exact Sz.z;exact rfl;exact ii;(simp only [n0,Nat.reduceAdd,nn];try rfl);(exact zl rfl);exact rfl;exact ii;clear hp;(try clear w1);intro w1 hp)|((with_reducible refine Qaf hp (T1.out _ _ _ _ _ hp.keep hp.blk hp.blk hp.blk hp.blk) ?_);clear hp;(try clear w1);intro w1 hp))
  exact bodyPost_ret (Qaa rfl ⟨_,rfl,Qac hp (Nat.le_of_ble_eq_true rfl)⟩) rfl ⟨rfl,hp.keep⟩
/-- The determinant of three rows. -/
def m3F (a0 t0 a1 t1 a2 t2 : Int) : Int := fz (fz (fz (a0 * t0) - fz (a1 * t1)) + fz (a2 * t2))
set_option maxHeartbeats 8000000 in
theorem Qno (hG : GGs w G 3 c1 c2 c3) : Calls Tryz.prog 54 #[.int .i64 3,.func (.func 51) #[] #[c1,c2,c3],.int .i64 wi] w (Ret (W (m3F (aF G 3 wi 0 0) (tw2 (aF G 3 wi 1 1) (aF G 3 wi 2 2) (aF G 3 wi 1 2) (aF G 3 wi 2 1)) (aF G 3 wi 0 1) (tw2 (aF G 3 wi 1 0) (aF G 3 wi 2 2) (aF G 3 wi 1 2) (aF G 3 wi 2 0)) (aF G 3 wi 0 2) (tw2 (aF G 3 wi 1 0) (aF G 3 wi 2 1) (aF G 3 wi 1 1) (aF G 3 wi 2 0)))) w) := by
  have hmf : ∀ (fn : Fn) (first cap : Array Value) (w : World),(Instr.makeFunc fn first cap).run Tryz.prog w = .ok (.func fn first cap) w := fun _ _ _ _ => rfl
  unfold m3F
  have A0 := Lib.hid (at_in wi hG 0 0 (by decide) (by decide) (by decide) (by decide))
  have A1 := Lib.hid (at_in wi hG 0 1 (by decide) (by decide) (by decide) (by decide))
  have A2 := Lib.hid (at_in wi hG 0 2 (by decide) (by decide) (by decide) (by decide))
  have T0 := Lib.hid (two_in wi hG 1 2 1 2 (by decide) (by decide) (by decide) (by decide))
  have T1 := Lib.hid (two_in wi hG 1 2 0 2 (by decide) (by decide) (by decide) (by decide))
  have T2 := Lib.hid (two_in wi hG 1 2 0 1 (by decide) (by decide) (by decide) (by decide))
  have f0 : Fit (aF G 3 wi 0 0) := Qlc hG (by decide) (by decide) (by decide) (by decide)
  have f1 : Fit (aF G 3 wi 0 1) := Qlc hG (by decide) (by decide) (by decide) (by decide)
  have f2 : Fit (aF G 3 wi 0 2) := Qlc hG (by decide) (by decide) (by decide) (by decide)
  have u0 := Qid (aF G 3 wi 1 1) (aF G 3 wi 2 2) (aF G 3 wi 1 2) (aF G 3 wi 2 1)
  have u1 := Qid (aF G 3 wi 1 0) (aF G 3 wi 2 2) (aF G 3 wi 1 2) (aF G 3 wi 2 0)
  have u2 := Qid (aF G 3 wi 1 0) (aF G 3 wi 2 1) (aF G 3 wi 1 1) (aF G 3 wi 2 0)
  clear hG
  generalize tw2 (aF G 3 wi 1 1) (aF G 3 wi 2 2) (aF G 3 wi 1 2) (aF G 3 wi 2 1) = y0 at *
  generalize tw2 (aF G 3 wi 1 0) (aF G 3 wi 2 2) (aF G 3 wi 1 2) (aF G 3 wi 2 0) = y1 at *
  generalize tw2 (aF G 3 wi 1 0) (aF G 3 wi 2 1) (aF G 3 wi 1 1) (aF G 3 wi 2 0) = y2 at *
  generalize aF G 3 wi 0 0 = x0 at *
  generalize aF G 3 wi 0 1 = x1 at *
  generalize aF G 3 wi 0 2 = x2 at *
  have M0 := Lib.hid (Qch x0 y0 f0 u0)
  have M1 := Lib.hid (Qch x1 y1 f1 u1)
  have M2 := Lib.hid (Qch x2 y2 f2 u2)
  have L1 := Lib.hid (Qer (fz (x0 * y0)) (fz (x1 * y1)) (Qbx _) (Qbx _))
  have P1 := Lib.hid (Qhn (fz (fz (x0 * y0) - fz (x1 * y1))) (fz (x2 * y2)) (Qbx _) (Qbx _))
  clear f0 f1 f2 u0 u1 u2
  go_enter Tryz.func54,Tryz.ntmps54
  have hp := Hp.start [] w
  go_upto_region 10 with (first|((with_reducible apply Qau hp);(first|exact zf rfl|exact zi rfl);exact rfl;clear hp;(try clear w1);intro g w1 hp;simp only [zp,zq,z0,z1])|((with_reducible apply Qag hp);exact ii;exact rfl;clear hp;(try clear w1);intro g w1 hp;simp only [zp,zq,z0,z1])|((with_reducible apply Qai hp);exact zt rfl;exact ii;exact ii;(exact zio rfl);simp only [zp,zq,z0,z1])|((with_reducible apply Qae hp);exact zt rfl;(exact zf rfl);exact rfl;(exact OneTy.size);exact rfl;exact ii;(simp only [n0,Nat.reduceAdd,nn];try rfl);(exact zl rfl);exact rfl;exact ii;clear hp;(try clear w1);intro w1 hp))
  have hq := hp
  refine Qad hp hq [17] (.q 0 (.q 2 (.q 5 (.q 7 (.q 11 (.q 13 (.l 1 (.l 3 (.l 4 (.l 6 (.l 8 (.l 9 (.l 10 (.l 12 (.l 14 (.l 15 (.l 16 (.l 17 .nil)))))))))))))))))) (by kernel_rfl) (by kernel_rfl) ?_
  clear hp hq;(try clear w1);intro w1 hp hq
  repeat' (first|(((with_reducible apply sd_q);exact zo rfl);(first|((with_reducible apply Qba hp);exact rfl;exact zt rfl;exact ii;exact ii;(exact zfo rfl);simp only [zp,zq,z0,z1])|((with_reducible apply Qaq hp);(exact zf rfl);simp only [zp,zq,z0,z1])))|(((with_reducible apply sd_l);exact zo rfl);(first|((with_reducible apply Qap hp);exact rfl;(focus (intro _;go_simp;try first|with_reducible rfl|exact ⟨rfl,rfl⟩));(with_reducible first|exact fun w => M0.out w|exact fun w => M1.out w|exact fun w => M2.out w|exact fun w => L1.out w|exact fun w => P1.out w);exact hq;clear hp hq;(try clear w1);intro w1 hp hq;simp only [zp,zq,z0,z1])|((with_reducible apply Qck hp);exact rfl;(focus (intro _;go_simp;try first|with_reducible rfl|exact ⟨rfl,rfl⟩));(with_reducible exact A0.out _ _ _ _ hq.keep hq.blk hq.blk hq.blk);exact hq;clear hp hq;(try clear w1);intro w1 hp hq;simp only [zp,zq,z0,z1])|((with_reducible apply Qck hp);exact rfl;(focus (intro _;go_simp;try first|with_reducible rfl|exact ⟨rfl,rfl⟩));(with_reducible exact A1.out _ _ _ _ hq.keep hq.blk hq.blk hq.blk);exact hq;clear hp hq;(try clear w1);intro w1 hp hq;simp only [zp,zq,z0,z1])|((with_reducible apply Qck hp);exact rfl;(focus (intro _;go_simp;try first|with_reducible rfl|exact ⟨rfl,rfl⟩));(with_reducible exact A2.out _ _ _ _ hq.keep hq.blk hq.blk hq.blk);exact hq;clear hp hq;(try clear w1);intro w1 hp hq;simp only [zp,zq,z0,z1])|((with_reducible apply Qck hp);exact rfl;(focus (intro _;go_simp;try first|with_reducible rfl|exact ⟨rfl,rfl⟩));(with_reducible exact T0.out _ _ _ _ _ hq.keep hq.blk hq.blk hq.blk hq.blk);exact hq;clear hp hq;(try clear w1);intro w1 hp hq;simp only [zp,zq,z0,z1])|((with_reducible apply Qck hp);exact rfl;(focus (intro _;go_simp;try first|with_reducible rfl|exact ⟨rfl,rfl⟩));(with_reducible exact T1.out _ _ _ _ _ hq.keep hq.blk hq.blk hq.blk hq.blk);exact hq;clear hp hq;(try clear w1);intro w1 hp hq;simp only [zp,zq,z0,z1])|((with_reducible apply Qck hp);exact rfl;(focus (intro _;go_simp;try first|with_reducible rfl|exact ⟨rfl,rfl⟩));(with_reducible exact T2.out _ _ _ _ _ hq.keep hq.blk hq.blk hq.blk hq.blk);exact hq;clear hp hq;(try clear w1);intro w1 hp hq;simp only [zp,zq,z0,z1])|((with_reducible apply Qbb hq);exact rfl;exact zt rfl;(exact za rfl);exact rfl;(exact AggTy.size);exact rfl;exact ii;(simp only [n0,Nat.reduceAdd,nn];try rfl);(exact zl rfl);exact rfl;exact ii;exact rfl;clear hp hq;(try clear w1);intro w1 hq;have hp := True.intro)))|((with_reducible apply Qao);clear hp;have hp := hq;clear hq))
  go_wp2
  exact bodyPost_ret (Qaa rfl ⟨_,rfl,Qac hp (Nat.le_of_ble_eq_true rfl)⟩) rfl ⟨rfl,hp.keep⟩
end
end Go.Proofs.YtdfdmeoalbpcdaaGreat
