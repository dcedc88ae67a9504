/-
  Package simplex: sum (contract; printed by gen_qf.py).
-/
import Derived.Test.YtdfdmeoalbpcdaaGreatQe
import Derived.Test.YtdfdmeoalbpcdaaGreatFi
set_option linter.unusedSimpArgs false
set_option linter.unusedVariables false
set_option maxRecDepth 100000
namespace Go.Proofs.YtdfdmeoalbpcdaaGreat
open Go Go.RowKit
attribute [local irreducible] wpList
set_option maxHeartbeats 2000000 in
theorem by_any (a g : Int) (ha : Fit a) (hg : Fit g) (gb : Nat) (w : World) (h : w.heap[gb]? = some (.cells [.int .u64 (lb (g) 0),.int .u64 (lb (g) 1),.int .u64 (lb (g) 2),.int .u64 (lb (g) 3),.int .u64 (lb (g) 4),.int .u64 (lb (g) 5),.int .u64 (lb (g) 6),.int .u64 (lb (g) 7)].toArray 27 (0,0))) : Calls Tryz.prog 56 #[W a,.pointer (some ⟨gb,0,none⟩)] w (Ret (W (dvq a g)) w) := by
  have hc := Qgc a g ha hg
  generalize dvq a g = q at *
  generalize dvr a g = r at *
  generalize decide (dvok a g) = ok at *
  have HC := Lib.hid hc
  clear hc ha hg
  have hv : (([.int .u64 (lb (g) 0),.int .u64 (lb (g) 1),.int .u64 (lb (g) 2),.int .u64 (lb (g) 3),.int .u64 (lb (g) 4),.int .u64 (lb (g) 5),.int .u64 (lb (g) 6),.int .u64 (lb (g) 7)] : List Value).drop 0).take 8 = [.int .u64 (lb (g) 0),.int .u64 (lb (g) 1),.int .u64 (lb (g) 2),.int .u64 (lb (g) 3),.int .u64 (lb (g) 4),.int .u64 (lb (g) 5),.int .u64 (lb (g) 6),.int .u64 (lb (g) 7)] := rfl
  go_enter Tryz.func56,Tryz.ntmps56
  have hp := Hp.start [] w
  go_wp2_with (first|((with_reducible apply Qau hp);exact za rfl;exact rfl;clear hp;(try clear w1);intro g w1 hp;simp only [zp,zq,z0,z1])|((with_reducible apply Qag hp);exact ii;exact rfl;clear hp;(try clear w1);intro g w1 hp;simp only [zp,zq,z0,z1])|((with_reducible apply Qab hp);exact zt rfl;exact ii;exact ii;(exact zl rfl);(simp only [n0,Nat.reduceAdd,nn];try rfl);simp only [zp,zq,z0,z1])|((with_reducible apply Qae hp);exact zt rfl;exact za rfl;exact rfl;(exact AggTy.size);exact rfl;exact ii;(simp only [n0,Nat.reduceAdd,nn];try rfl);(exact zl rfl);exact rfl;exact ii;clear hp;(try clear w1);intro w1 hp)|((with_reducible apply Qbr hp);exact zt rfl;assumption;exact ii;assumption;(exact zl rfl);simp only [zp,zq,z0,z1])|((with_reducible refine Qaf hp (HC.out _) ?_);clear hp;(try clear w1);intro w1 hp))
  exact bodyPost_ret (Qaa rfl ⟨_,rfl,Qac hp (Nat.le_of_ble_eq_true rfl)⟩) rfl ⟨rfl,hp.keep⟩
/-- The partial sums. -/
def psm (ws : List Int) (S : List P3) (k : Nat) : P3 := cmb (ws.take k) (S.take k)
theorem psm_succ {ws : List Int} {S : List P3} {k : Nat} {x : Int} {p : P3} (hx : ws[k]? = some x) (hp : S[k]? = some p) (hl : ws.length = S.length) : psm ws S (k + 1) = (psm ws S k).add (p.scale x) := by
  unfold psm
  have hk : k < S.length := by
    rcases Nat.lt_or_ge k S.length with h|h
    · exact h
    · rw [List.getElem?_eq_none h] at hp;cases hp
  rw [List.take_add_one,List.take_add_one,hx,hp]
  show cmb (ws.take k ++ [x]) (S.take k ++ [p]) = _
  rw [Qii _ _ _ _ (by simp [hl])]
  apply Qcr <;> simp [cmb,P3.add,P3.scale]
def axG (d : Int) (X : P3) : Nat → Int
  | 0 => d
  | 1 => cg d (ab X.x)
  | 2 => cg (cg d (ab X.x)) (ab X.y)
  | _ => cg (cg (cg d (ab X.x)) (ab X.y)) (ab X.z)
theorem axG_nn {d : Int} (hd : 0 ≤ d) (X : P3) : ∀ k,0 ≤ axG d X k
  | 0 => hd
  | 1 => Int.natCast_nonneg _
  | 2 => Int.natCast_nonneg _
  | _ + 3 => Int.natCast_nonneg _
set_option maxHeartbeats 16000000 in
theorem sum_core (S : List P3) (ws : List Int) (X : P3) (d : Int) (q0 q1 q2 q3 : Int) (n g0 off cap g1 off1 cap1 : Nat) (bc bw : List Value) (t0 t1 : TypeId) (u0 u1 : Nat × Nat) (w : World) (hb : w.heap[g0]? = some (.cells bc.toArray t0 u0)) (hbw : w.heap[g1]? = some (.cells bw.toArray t1 u1))
    (Hn : Hid (n = S.length ∧ ws.length = S.length ∧ psm ws S n = X)) (hn : (n : Int) ≤ 4)
    (HS : Hid (∀ (k : Nat) (p : P3),S[k]? = some p → (bc.drop (off + k * 3)).take 3 = [.int .i64 p.x,.int .i64 p.y,.int .i64 p.z] ∧ off + k * 3 + 3 ≤ bc.length))
    (HW : Hid (∀ (k : Nat) (x : Int),ws[k]? = some x → (bw.drop (off1 + k * 8)).take 8 = [.int .u64 (lb (x) 0),.int .u64 (lb (x) 1),.int .u64 (lb (x) 2),.int .u64 (lb (x) 3),.int .u64 (lb (x) 4),.int .u64 (lb (x) 5),.int .u64 (lb (x) 6),.int .u64 (lb (x) 7)] ∧ off1 + k * 8 + 8 ≤ bw.length))
    (HO : Hid (∀ (k : Nat) (x : Int) (p : P3),ws[k]? = some x → S[k]? = some p → ∀ w1,Calls Tryz.prog 8 #[.int .i64 p.x] w1 (Ret (W p.x) w1) ∧ Calls Tryz.prog 8 #[.int .i64 p.y] w1 (Ret (W p.y) w1) ∧ Calls Tryz.prog 8 #[.int .i64 p.z] w1 (Ret (W p.z) w1)))
    (HT : Hid (∀ (k : Nat) (x : Int) (p : P3),ws[k]? = some x → S[k]? = some p → ∀ w1,Calls Tryz.prog 18 #[W x,W p.x] w1 (Ret (W (x * p.x)) w1) ∧ Calls Tryz.prog 18 #[W x,W p.y] w1 (Ret (W (x * p.y)) w1) ∧ Calls Tryz.prog 18 #[W x,W p.z] w1 (Ret (W (x * p.z)) w1)))
    (HP : Hid (∀ (k : Nat) (x : Int) (p : P3),ws[k]? = some x → S[k]? = some p → ∀ w1,Calls Tryz.prog 40 #[W (psm ws S k).x,W (x * p.x)] w1 (Ret (W (psm ws S (k + 1)).x) w1) ∧ Calls Tryz.prog 40 #[W (psm ws S k).y,W (x * p.y)] w1 (Ret (W (psm ws S (k + 1)).y) w1) ∧ Calls Tryz.prog 40 #[W (psm ws S k).z,W (x * p.z)] w1 (Ret (W (psm ws S (k + 1)).z) w1)))
    (hd : Hid (0 ≤ d ∧ Fit d)) (HF : Hid ((Fit X.x ∧ Fit (-X.x)) ∧ (Fit X.y ∧ Fit (-X.y)) ∧ Fit X.z ∧ Fit (-X.z))) (HG : Hid (∀ k,Fit (axG d X k)))
    (BY : Hid (∀ (gb : Nat) (w1 : World),w1.heap[gb]? = some (.cells [.int .u64 (lb (axG d X 3) 0),.int .u64 (lb (axG d X 3) 1),.int .u64 (lb (axG d X 3) 2),.int .u64 (lb (axG d X 3) 3),.int .u64 (lb (axG d X 3) 4),.int .u64 (lb (axG d X 3) 5),.int .u64 (lb (axG d X 3) 6),.int .u64 (lb (axG d X 3) 7)].toArray 27 (0,0)) → Calls Tryz.prog 56 #[W X.x,.pointer (some ⟨gb,0,none⟩)] w1 (Ret (W q0) w1) ∧ Calls Tryz.prog 56 #[W X.y,.pointer (some ⟨gb,0,none⟩)] w1 (Ret (W q1) w1) ∧ Calls Tryz.prog 56 #[W X.z,.pointer (some ⟨gb,0,none⟩)] w1 (Ret (W q2) w1) ∧ Calls Tryz.prog 56 #[W d,.pointer (some ⟨gb,0,none⟩)] w1 (Ret (W q3) w1))) :
    Calls Tryz.prog 26 #[.slice (some ⟨g0,off,none⟩) n cap,.slice (some ⟨g1,off1,none⟩) n cap1,W d] w (Ret (NrV q0 q1 q2 q3 (.slice none 0 0)) w) := by
  have hmf : ∀ (fn : Fn) (first cap : Array Value) (w : World),(Instr.makeFunc fn first cap).run Tryz.prog w = .ok (.func fn first cap) w := fun _ _ _ _ => rfl
  go_enter Tryz.func26,Tryz.ntmps26
  have hp := Hp.start [] w
  go_wp2_with (first|((with_reducible apply Qau hp);exact za rfl;exact rfl;clear hp;(try clear w1);intro g w1 hp;simp only [zp,zq,z0,z1])|((with_reducible apply Qag hp);exact ii;exact rfl;clear hp;(try clear w1);intro g w1 hp;simp only [zp,zq,z0,z1]))
  rename_i gA gB K hK
  obtain ⟨g7,rfl⟩ : ∃ z : Nat,z = g := ⟨_,rfl⟩
  obtain ⟨g6,rfl⟩ : ∃ z : Nat,z = gB := ⟨_,rfl⟩
  obtain ⟨g5,rfl⟩ : ∃ z : Nat,z = gA := ⟨_,rfl⟩
  go_loopw [21] (fun i wr => ∃ (k : Nat) (N : P3),(k : Int) ≤ n ∧ i = .int .i64 k ∧ Hid (psm ws S k = N) ∧ Hp [] w [⟨g7,99,[.int .u64 (lb (N.x) 0),.int .u64 (lb (N.x) 1),.int .u64 (lb (N.x) 2),.int .u64 (lb (N.x) 3),.int .u64 (lb (N.x) 4),.int .u64 (lb (N.x) 5),.int .u64 (lb (N.x) 6),.int .u64 (lb (N.x) 7),.int .u64 (lb (N.y) 0),.int .u64 (lb (N.y) 1),.int .u64 (lb (N.y) 2),.int .u64 (lb (N.y) 3),.int .u64 (lb (N.y) 4),.int .u64 (lb (N.y) 5),.int .u64 (lb (N.y) 6),.int .u64 (lb (N.y) 7),.int .u64 (lb (N.z) 0),.int .u64 (lb (N.z) 1),.int .u64 (lb (N.z) 2),.int .u64 (lb (N.z) 3),.int .u64 (lb (N.z) 4),.int .u64 (lb (N.z) 5),.int .u64 (lb (N.z) 6),.int .u64 (lb (N.z) 7)]⟩,⟨g6,32,(.int .u64 0 :: .int .u64 0 :: .int .u64 0 :: .int .u64 0 :: .int .u64 0 :: .int .u64 0 :: .int .u64 0 :: .int .u64 0 :: .int .u64 0 :: .int .u64 0 :: .int .u64 0 :: .int .u64 0 :: .int .u64 0 :: .int .u64 0 :: .int .u64 0 :: .int .u64 0 :: .int .u64 0 :: .int .u64 0 :: .int .u64 0 :: .int .u64 0 :: .int .u64 0 :: .int .u64 0 :: .int .u64 0 :: .int .u64 0 :: .int .u64 0 :: .int .u64 0 :: .int .u64 0 :: .int .u64 0 :: .int .u64 0 :: .int .u64 0 :: .int .u64 0 :: .int .u64 0 :: .slice none 0 0 :: [])⟩,⟨g5,27,[.int .u64 (lb (d) 0),.int .u64 (lb (d) 1),.int .u64 (lb (d) 2),.int .u64 (lb (d) 3),.int .u64 (lb (d) 4),.int .u64 (lb (d) 5),.int .u64 (lb (d) 6),.int .u64 (lb (d) 7)]⟩] wr) (fun i _ => n - (intOf i).toNat)
  case atStart =>
    refine ⟨0,⟨0,0,0⟩,by omega,rfl,rfl,?_⟩
    have e : ([.int .u64 0,.int .u64 0,.int .u64 0,.int .u64 0,.int .u64 0,.int .u64 0,.int .u64 0,.int .u64 0] : List Value) = [.int .u64 (lb (0) 0),.int .u64 (lb (0) 1),.int .u64 (lb (0) 2),.int .u64 (lb (0) 3),.int .u64 (lb (0) 4),.int .u64 (lb (0) 5),.int .u64 (lb (0) 6),.int .u64 (lb (0) 7)] := by simp only [Qcy]
    simp only [Qcy]
    exact hp
  case round =>
    clear hp
    obtain ⟨k,N,hk,rfl,hN,hp⟩ := hrel
    by_cases hkn : (k : Int) < n
    · obtain ⟨p,hpk⟩ : ∃ p,S[k]? = some p := ⟨_,List.getElem?_eq_getElem (by have := Hn.out.1;omega)⟩
      obtain ⟨x,hxk⟩ : ∃ x,ws[k]? = some x := ⟨_,List.getElem?_eq_getElem (by have := Hn.out.1;have := Hn.out.2.1;omega)⟩
      obtain ⟨f1,l1⟩ := HS.out k p hpk
      obtain ⟨f2,l2⟩ := HW.out k x hxk
      have O0 := Lib.hid (fun w1 => (HO.out k x p hxk hpk w1).1)
      have T0 := Lib.hid (fun w1 => (HT.out k x p hxk hpk w1).1)
      have O1 := Lib.hid (fun w1 => (HO.out k x p hxk hpk w1).2.1)
      have T1 := Lib.hid (fun w1 => (HT.out k x p hxk hpk w1).2.1)
      have O2 := Lib.hid (fun w1 => (HO.out k x p hxk hpk w1).2.2)
      have T2 := Lib.hid (fun w1 => (HT.out k x p hxk hpk w1).2.2)
      have PL := HP.out k x p hxk hpk
      rw [hN.out] at PL
      obtain ⟨N',eN⟩ : ∃ N',psm ws S (k + 1) = N' := ⟨_,rfl⟩
      rw [eN] at PL
      have hN' := Lib.hid eN
      clear eN
      have PL0 := Lib.hid (fun w1 => (PL w1).1)
      have PL1 := Lib.hid (fun w1 => (PL w1).2.1)
      have PL2 := Lib.hid (fun w1 => (PL w1).2.2)
      clear PL
      clear hpk hxk
      have k0 : (0 : Int) ≤ (k : Int) := by omega
      go_wp2_with (first|((with_reducible apply Qag hp);exact ii;exact rfl;clear hp;(try clear w1);intro g w1 hp;simp only [zp,zq,z0,z1])|((with_reducible apply Qai hp);exact zt rfl;exact ii;exact ii;(exact zio rfl);simp only [zp,zq,z0,z1])|((with_reducible apply Qae hp);exact zt rfl;exact za rfl;exact rfl;(exact AggTy.size);exact rfl;exact ii;(simp only [n0,Nat.reduceAdd,nn];try rfl);(exact zl rfl);exact rfl;exact ii;clear hp;(try clear w1);intro w1 hp)|((with_reducible apply Qar);exact zx rfl;exact zk rfl;exact ii;(exact AggTy.size);omega;omega;((try simp only [m0,Int.reduceToNat,m1,m2,Nat.reduceMul,Nat.reduceAdd,m3,m4,m5,n0]);exact rfl);simp only [zp,zq,z0,z1])|((with_reducible apply Qbr hp);exact zt rfl;assumption;exact ii;assumption;(omega);simp only [zp,zq,z0,z1]))
      refine wp_loop_rounds 4 ?_
      rw [rounds_succ]
      go_upto_region 8 with ((with_reducible apply Qbs);exact za rfl;exact zk rfl;exact ii;exact ii;omega;omega;(exact rfl);simp only [zp,zq,z0,z1])
      have hq := hp
      refine Qad hp hq [13] (.q 0 (.q 1 (.q 2 (.q 3 (.q 4 (.q 5 (.q 6 (.q 7 (.q 8 (.l 9 (.l 10 (.l 11 (.q 12 (.l 13 .nil)))))))))))))) (by kernel_rfl) (by kernel_rfl) ?_
      clear hp hq;(try clear w1);intro w1 hp hq
      repeat' (first|(((with_reducible apply sd_q);exact zo rfl);(first|((with_reducible apply Qah hp);exact rfl;exact zt rfl;exact ii;exact ii;(exact zl rfl);(simp only [n0,Nat.reduceAdd,nn];try rfl);simp only [zp,zq,z0,z1])|((with_reducible apply Qbe hp);exact rfl;exact zt rfl;assumption;exact ii;assumption;(omega);simp only [zp,zq,z0,z1])|((with_reducible apply Qaq hp);(first|exact zi rfl|exact zs rfl);simp only [zp,zq,z0,z1])|((with_reducible apply Qas hp);exact rfl;exact zx rfl;exact zk rfl;exact ii;(exact AggTy.size);omega;omega;((try simp only [m0,Int.reduceToNat,m1,m2,Nat.reduceMul,Nat.reduceAdd,m3,m4,m5,n0]);exact rfl);simp only [zp,zq,z0,z1])|((with_reducible apply Qaj hp);exact rfl;(focus (intro _;go_simp;(try go_ints);try with_reducible rfl));simp only [zp,zq,z0,z1])))|(((with_reducible apply sd_l);exact zo rfl);(first|((with_reducible apply Qap hp);exact rfl;(focus (intro _;go_simp;try first|with_reducible rfl|exact ⟨rfl,rfl⟩));(with_reducible first|exact fun w => O0.out w|exact fun w => T0.out w|exact fun w => PL0.out w);exact hq;clear hp hq;(try clear w1);intro w1 hp hq;simp only [zp,zq,z0,z1])|((with_reducible apply Qbb hq);exact rfl;exact zt rfl;(exact za rfl);exact rfl;(exact AggTy.size);exact rfl;exact ii;(simp only [n0,Nat.reduceAdd,nn];try rfl);(exact zl rfl);exact rfl;exact ii;exact rfl;clear hp hq;(try clear w1);intro w1 hq;have hp := True.intro)))|((with_reducible apply Qao);clear hp;have hp := hq;clear hq))
      go_wp2
      rw [rounds_succ]
      go_upto_region 8 with ((with_reducible apply Qbs);exact za rfl;exact zk rfl;exact ii;exact ii;omega;omega;(exact rfl);simp only [zp,zq,z0,z1])
      have hq := hp
      refine Qad hp hq [13] (.q 0 (.q 1 (.q 2 (.q 3 (.q 4 (.q 5 (.q 6 (.q 7 (.q 8 (.l 9 (.l 10 (.l 11 (.q 12 (.l 13 .nil)))))))))))))) (by kernel_rfl) (by kernel_rfl) ?_
      clear hp hq;(try clear w1);intro w1 hp hq
      repeat' (first|(((with_reducible apply sd_q);exact zo rfl);(first|((with_reducible apply Qah hp);exact rfl;exact zt rfl;exact ii;exact ii;(exact zl rfl);(simp only [n0,Nat.reduceAdd,nn];try rfl);simp only [zp,zq,z0,z1])|((with_reducible apply Qbe hp);exact rfl;exact zt rfl;assumption;exact ii;assumption;(omega);simp only [zp,zq,z0,z1])|((with_reducible apply Qaq hp);(first|exact zi rfl|exact zs rfl);simp only [zp,zq,z0,z1])|((with_reducible apply Qas hp);exact rfl;exact zx rfl;exact zk rfl;exact ii;(exact AggTy.size);omega;omega;((try simp only [m0,Int.reduceToNat,m1,m2,Nat.reduceMul,Nat.reduceAdd,m3,m4,m5,n0]);exact rfl);simp only [zp,zq,z0,z1])|((with_reducible apply Qaj hp);exact rfl;(focus (intro _;go_simp;(try go_ints);try with_reducible rfl));simp only [zp,zq,z0,z1])))|(((with_reducible apply sd_l);exact zo rfl);(first|((with_reducible apply Qap hp);exact rfl;(focus (intro _;go_simp;try first|with_reducible rfl|exact ⟨rfl,rfl⟩));(with_reducible first|exact fun w => O1.out w|exact fun w => T1.out w|exact fun w => PL1.out w);exact hq;clear hp hq;(try clear w1);intro w1 hp hq;simp only [zp,zq,z0,z1])|((with_reducible apply Qbb hq);exact rfl;exact zt rfl;(exact za rfl);exact rfl;(exact AggTy.size);exact rfl;exact ii;(simp only [n0,Nat.reduceAdd,nn];try rfl);(exact zl rfl);exact rfl;exact ii;exact rfl;clear hp hq;(try clear w1);intro w1 hq;have hp := True.intro)))|((with_reducible apply Qao);clear hp;have hp := hq;clear hq))
      go_wp2
      rw [rounds_succ]
      go_upto_region 8 with ((with_reducible apply Qbs);exact za rfl;exact zk rfl;exact ii;exact ii;omega;omega;(exact rfl);simp only [zp,zq,z0,z1])
      have hq := hp
      refine Qad hp hq [13] (.q 0 (.q 1 (.q 2 (.q 3 (.q 4 (.q 5 (.q 6 (.q 7 (.q 8 (.l 9 (.l 10 (.l 11 (.q 12 (.l 13 .nil)))))))))))))) (by kernel_rfl) (by kernel_rfl) ?_
      clear hp hq;(try clear w1);intro w1 hp hq
      repeat' (first|(((with_reducible apply sd_q);exact zo rfl);(first|((with_reducible apply Qah hp);exact rfl;exact zt rfl;exact ii;exact ii;(exact zl rfl);(simp only [n0,Nat.reduceAdd,nn];try rfl);simp only [zp,zq,z0,z1])|((with_reducible apply Qbe hp);exact rfl;exact zt rfl;assumption;exact ii;assumption;(omega);simp only [zp,zq,z0,z1])|((with_reducible apply Qaq hp);(first|exact zi rfl|exact zs rfl);simp only [zp,zq,z0,z1])|((with_reducible apply Qas hp);exact rfl;exact zx rfl;exact zk rfl;exact ii;(exact AggTy.size);omega;omega;((try simp only [m0,Int.reduceToNat,m1,m2,Nat.reduceMul,Nat.reduceAdd,m3,m4,m5,n0]);exact rfl);simp only [zp,zq,z0,z1])|((with_reducible apply Qaj hp);exact rfl;(focus (intro _;go_simp;(try go_ints);try with_reducible rfl));simp only [zp,zq,z0,z1])))|(((with_reducible apply sd_l);exact zo rfl);(first|((with_reducible apply Qap hp);exact rfl;(focus (intro _;go_simp;try first|with_reducible rfl|exact ⟨rfl,rfl⟩));(with_reducible first|exact fun w => O2.out w|exact fun w => T2.out w|exact fun w => PL2.out w);exact hq;clear hp hq;(try clear w1);intro w1 hp hq;simp only [zp,zq,z0,z1])|((with_reducible apply Qbb hq);exact rfl;exact zt rfl;(exact za rfl);exact rfl;(exact AggTy.size);exact rfl;exact ii;(simp only [n0,Nat.reduceAdd,nn];try rfl);(exact zl rfl);exact rfl;exact ii;exact rfl;clear hp hq;(try clear w1);intro w1 hq;have hp := True.intro)))|((with_reducible apply Qao);clear hp;have hp := hq;clear hq))
      go_wp2
      rw [rounds_succ]
      go_wp2_with (fail)
      go_roundw
      case rel =>
        exact ⟨k + 1,N',by omega,rfl,hN',hp.sub (List.sublist_cons_self _ _)⟩
      case measure => simp [intOf];omega
    · obtain rfl : k = n := by omega
      obtain rfl : N = X := hN.out.symm.trans Hn.out.2.2
      clear hN
      go_wp2_with (first|((with_reducible apply Qag hp);exact ii;exact rfl;clear hp;(try clear w1);intro g w1 hp;simp only [zp,zq,z0,z1])|((with_reducible apply Qab hp);exact zt rfl;exact ii;exact ii;(exact zl rfl);(simp only [n0,Nat.reduceAdd,nn];try rfl);simp only [zp,zq,z0,z1])|((with_reducible apply Qae hp);exact zt rfl;exact za rfl;exact rfl;(exact AggTy.size);exact rfl;exact ii;(simp only [n0,Nat.reduceAdd,nn];try rfl);(exact zl rfl);exact rfl;exact ii;clear hp;(try clear w1);intro w1 hp))
      obtain ⟨gw,rfl⟩ : ∃ z : Nat,z = g := ⟨_,rfl⟩
      clear hk
      go_loopw [54] (fun i wr => ∃ (k : Nat) (y : Int),k ≤ 3 ∧ i = .int .i64 k ∧ Hid (Fit y ∧ 0 ≤ y ∧ axG d N k = y) ∧ Hp [] w [⟨gw,27,[.int .u64 (lb (y) 0),.int .u64 (lb (y) 1),.int .u64 (lb (y) 2),.int .u64 (lb (y) 3),.int .u64 (lb (y) 4),.int .u64 (lb (y) 5),.int .u64 (lb (y) 6),.int .u64 (lb (y) 7)]⟩,⟨g7,99,[.int .u64 (lb (N.x) 0),.int .u64 (lb (N.x) 1),.int .u64 (lb (N.x) 2),.int .u64 (lb (N.x) 3),.int .u64 (lb (N.x) 4),.int .u64 (lb (N.x) 5),.int .u64 (lb (N.x) 6),.int .u64 (lb (N.x) 7),.int .u64 (lb (N.y) 0),.int .u64 (lb (N.y) 1),.int .u64 (lb (N.y) 2),.int .u64 (lb (N.y) 3),.int .u64 (lb (N.y) 4),.int .u64 (lb (N.y) 5),.int .u64 (lb (N.y) 6),.int .u64 (lb (N.y) 7),.int .u64 (lb (N.z) 0),.int .u64 (lb (N.z) 1),.int .u64 (lb (N.z) 2),.int .u64 (lb (N.z) 3),.int .u64 (lb (N.z) 4),.int .u64 (lb (N.z) 5),.int .u64 (lb (N.z) 6),.int .u64 (lb (N.z) 7)]⟩,⟨g6,32,(.int .u64 0 :: .int .u64 0 :: .int .u64 0 :: .int .u64 0 :: .int .u64 0 :: .int .u64 0 :: .int .u64 0 :: .int .u64 0 :: .int .u64 0 :: .int .u64 0 :: .int .u64 0 :: .int .u64 0 :: .int .u64 0 :: .int .u64 0 :: .int .u64 0 :: .int .u64 0 :: .int .u64 0 :: .int .u64 0 :: .int .u64 0 :: .int .u64 0 :: .int .u64 0 :: .int .u64 0 :: .int .u64 0 :: .int .u64 0 :: .int .u64 0 :: .int .u64 0 :: .int .u64 0 :: .int .u64 0 :: .int .u64 0 :: .int .u64 0 :: .int .u64 0 :: .int .u64 0 :: .slice none 0 0 :: [])⟩,⟨g5,27,[.int .u64 (lb (d) 0),.int .u64 (lb (d) 1),.int .u64 (lb (d) 2),.int .u64 (lb (d) 3),.int .u64 (lb (d) 4),.int .u64 (lb (d) 5),.int .u64 (lb (d) 6),.int .u64 (lb (d) 7)]⟩] wr) (fun i _ => 3 - (intOf i).toNat)
      case atStart => exact ⟨0,d,by omega,rfl,⟨hd.out.2,hd.out.1,rfl⟩,hp⟩
      case round =>
        clear hp
        obtain ⟨k,y,hk,rfl,hy,hp⟩ := hrel
        obtain rfl|rfl|rfl|rfl : k = 0 ∨ k = 1 ∨ k = 2 ∨ k = 3 := by omega
        · by_cases hs : N.x < 0
          · have f1 := HF.out.1.1
            have f2 := HF.out.1.2
            have SG := Lib.hid (fun w1 => by have := Qcn N.x f1 w1;rw [show sgn N.x = -1 from if_pos hs] at this;exact this)
            have NG := Lib.hid (fun w1 => by have := Qnb N.x f1 w1;rw [show fz (-N.x) = -N.x from if_pos f2] at this;exact this)
            have eab : ab N.x = -N.x := if_pos hs
            have hv0 : 0 ≤ -N.x := by omega
            have hvf := f2
            have eG : axG d N 1 = cg y ((-N.x)) := by rw [show axG d N 1 = cg (axG d N 0) (ab N.x) from rfl,hy.out.2.2,eab]
            have EG := Lib.hid eG
            have VF := Lib.hid (And.intro hvf hv0)
            clear eG f1 f2 eab hv0 hvf hs
            generalize eV : -N.x = V at *
            clear eV
            go_wp2_with (first|((with_reducible apply Qag hp);exact ii;exact rfl;clear hp;(try clear w1);intro g w1 hp;simp only [zp,zq,z0,z1])|((with_reducible apply Qab hp);exact zt rfl;exact ii;exact ii;(exact zl rfl);(simp only [n0,Nat.reduceAdd,nn];try rfl);simp only [zp,zq,z0,z1])|((with_reducible apply Qae hp);exact zt rfl;exact za rfl;exact rfl;(exact AggTy.size);exact rfl;exact ii;(simp only [n0,Nat.reduceAdd,nn];try rfl);(exact zl rfl);exact rfl;exact ii;clear hp;(try clear w1);intro w1 hp)|((with_reducible apply Qdz);exact za rfl;exact zk rfl;exact ii;exact ii;omega;omega;((try simp only [m0,Int.reduceToNat,m1,m2,Nat.reduceMul,m3,m4,n5,n1,n2,n3,n4,n6]);exact rfl);simp only [zp,zq,z0,z1])|((with_reducible first|refine Qaf hp (SG.out _) ?_|refine Qaf hp (NG.out _) ?_);clear hp;(try clear w1);intro w1 hp))
            obtain ⟨gv,rfl⟩ : ∃ z : Nat,z = g := ⟨_,rfl⟩
            obtain ⟨w3,hw3⟩ : ∃ x : World,x = wr := ⟨_,rfl⟩
            subst hw3
            go_loopw [17] (fun ok wr => ∃ x z : Int,Hid (Fit x ∧ Fit z ∧ 0 ≤ x ∧ 0 ≤ z ∧ cg x z = cg y V) ∧ Hp [] w [⟨gv,27,[.int .u64 (lb (z) 0),.int .u64 (lb (z) 1),.int .u64 (lb (z) 2),.int .u64 (lb (z) 3),.int .u64 (lb (z) 4),.int .u64 (lb (z) 5),.int .u64 (lb (z) 6),.int .u64 (lb (z) 7)]⟩,⟨gw,27,[.int .u64 (lb (x) 0),.int .u64 (lb (x) 1),.int .u64 (lb (x) 2),.int .u64 (lb (x) 3),.int .u64 (lb (x) 4),.int .u64 (lb (x) 5),.int .u64 (lb (x) 6),.int .u64 (lb (x) 7)]⟩,⟨g7,99,[.int .u64 (lb (N.x) 0),.int .u64 (lb (N.x) 1),.int .u64 (lb (N.x) 2),.int .u64 (lb (N.x) 3),.int .u64 (lb (N.x) 4),.int .u64 (lb (N.x) 5),.int .u64 (lb (N.x) 6),.int .u64 (lb (N.x) 7),.int .u64 (lb (N.y) 0),.int .u64 (lb (N.y) 1),.int .u64 (lb (N.y) 2),.int .u64 (lb (N.y) 3),.int .u64 (lb (N.y) 4),.int .u64 (lb (N.y) 5),.int .u64 (lb (N.y) 6),.int .u64 (lb (N.y) 7),.int .u64 (lb (N.z) 0),.int .u64 (lb (N.z) 1),.int .u64 (lb (N.z) 2),.int .u64 (lb (N.z) 3),.int .u64 (lb (N.z) 4),.int .u64 (lb (N.z) 5),.int .u64 (lb (N.z) 6),.int .u64 (lb (N.z) 7)]⟩,⟨g6,32,(.int .u64 0 :: .int .u64 0 :: .int .u64 0 :: .int .u64 0 :: .int .u64 0 :: .int .u64 0 :: .int .u64 0 :: .int .u64 0 :: .int .u64 0 :: .int .u64 0 :: .int .u64 0 :: .int .u64 0 :: .int .u64 0 :: .int .u64 0 :: .int .u64 0 :: .int .u64 0 :: .int .u64 0 :: .int .u64 0 :: .int .u64 0 :: .int .u64 0 :: .int .u64 0 :: .int .u64 0 :: .int .u64 0 :: .int .u64 0 :: .int .u64 0 :: .int .u64 0 :: .int .u64 0 :: .int .u64 0 :: .int .u64 0 :: .int .u64 0 :: .int .u64 0 :: .int .u64 0 :: .slice none 0 0 :: [])⟩,⟨g5,27,[.int .u64 (lb (d) 0),.int .u64 (lb (d) 1),.int .u64 (lb (d) 2),.int .u64 (lb (d) 3),.int .u64 (lb (d) 4),.int .u64 (lb (d) 5),.int .u64 (lb (d) 6),.int .u64 (lb (d) 7)]⟩] wr) (fun _ wr => bval gv wr)
            case atStart => exact ⟨y,V,⟨hy.out.1,VF.out.1,hy.out.2.1,VF.out.2,rfl⟩,hp⟩
            case round =>
              clear hp
              obtain ⟨x,z,HXZ,hp⟩ := hrel
              obtain ⟨hx,hz',hx0,hz0,hg⟩ := HXZ.out
              have hz := Qdr hz' Qbp
              rw [Qce] at hz
              by_cases h0 : z = 0
              · rw [decide_eq_true h0] at hz
                have e : axG d N 1 = x := by rw [EG.out,← hg,h0,Qgy hx0]
                have E := Lib.hid e
                clear hx hz' hx0 hz0 hg h0 e
                go_wp2_with ((with_reducible apply Qab hp);exact zt rfl;exact ii;exact ii;(exact zl rfl);(simp only [n0,Nat.reduceAdd,nn];try rfl);simp only [zp,zq,z0,z1])
                go_roundw
                case rel => exact ⟨1,x,by omega,rfl,⟨HXZ.out.1,HXZ.out.2.2.1,E.out⟩,hp.sub (List.sublist_cons_self _ _)⟩
                case measure => simp [intOf]
              · rw [decide_eq_false h0] at hz
                have hm := Qdm (g := gv) (y := z) hp hz0 (by unfold Fit M511 at hz';unfold M512;omega)
                have hok : dvok x z := ⟨h0,by unfold fq Fit at *;rw [if_neg (by omega)];have := Int.ediv_nonneg hx0 hz0;have := Int.ediv_le_self z hx0;omega⟩
                have hr : dvr x z = x % z := by
                  unfold dvr
                  rw [if_pos hok]
                  exact (Qfh (q := x / z) (by have := Int.mul_ediv_add_emod x z;rw [Int.mul_comm] at this;omega) (.inl ⟨by omega,Int.emod_nonneg _ h0,Int.emod_lt_of_pos _ (by omega)⟩)).2
                have hd := Qgc x z hx hz'
                rw [hr] at hd
                have HD := Lib.hid hd
                have HM := Lib.hid hm
                have HZ0 := Lib.hid h0
                clear hd hr hok hm h0 hx hz' hx0 hz0 hg
                generalize hrm : x % z = r at HD
                have HR := Lib.hid hrm
                clear hrm
                go_wp2_with (first|((with_reducible apply Qag hp);exact ii;exact rfl;clear hp;(try clear w1);intro g w1 hp;simp only [zp,zq,z0,z1])|((with_reducible apply Qab hp);exact zt rfl;exact ii;exact ii;(exact zl rfl);(simp only [n0,Nat.reduceAdd,nn];try rfl);simp only [zp,zq,z0,z1])|((with_reducible apply Qae hp);exact zt rfl;exact za rfl;exact rfl;(exact AggTy.size);exact rfl;exact ii;(simp only [n0,Nat.reduceAdd,nn];try rfl);(exact zl rfl);exact rfl;exact ii;clear hp;(try clear w1);intro w1 hp)|((with_reducible refine Qaf hp (HD.out _) ?_);clear hp;(try clear w1);intro w1 hp))
                have hq := hp
                clear hp
                have hp := hq.sub (.cons_cons _ (.cons_cons _ (.cons_cons _ (.cons _ (List.Sublist.refl _)))))
                refine Qad hp hq [3] (.q 0 (.q 1 (.l 2 (.l 3 .nil)))) (by kernel_rfl) (by kernel_rfl) ?_
                clear hp hq;(try clear w1);intro w1 hp hq
                repeat' (first|(((with_reducible apply sd_q);exact zo rfl);((with_reducible apply Qah hp);exact rfl;exact zt rfl;exact ii;exact ii;(exact zl rfl);(simp only [n0,Nat.reduceAdd,nn];try rfl);simp only [zp,zq,z0,z1]))|(((with_reducible apply sd_l);exact zo rfl);(first|((with_reducible apply Qam hq);exact rfl;exact zt rfl;(exact za rfl);exact rfl;(exact AggTy.size);exact rfl;exact ii;(simp only [n0,Nat.reduceAdd,nn];try rfl);(exact zl rfl);exact rfl;exact ii;(repeat (first|exact sb0|apply sb2|apply sb3));clear hp hq;(try clear w1);intro w1 hp hq)|((with_reducible apply Qbb hq);exact rfl;exact zt rfl;(exact za rfl);exact rfl;(exact AggTy.size);exact rfl;exact ii;(simp only [n0,Nat.reduceAdd,nn];try rfl);(exact zl rfl);exact rfl;exact ii;exact rfl;clear hp hq;(try clear w1);intro w1 hq;have hp := True.intro)))|((with_reducible apply Qao);clear hp;have hp := hq;clear hq))
                go_wp2
                go_roundw
                case rel =>
                  obtain ⟨hx,hz',hx0,hz0,hg⟩ := HXZ.out
                  have h0 := HZ0.out
                  have hrm := HR.out
                  have := Int.emod_lt_of_pos x (show 0 < z by omega)
                  have h2 := Int.emod_nonneg x h0
                  refine ⟨z,r,⟨hz',?_,hz0,by omega,?_⟩,?_⟩
                  · unfold Fit at *;omega
                  · rw [← hrm,Qhb hx0 (by omega)];exact hg
                  · exact hp.sub ((List.Sublist.refl _).cons _ |>.cons _)
                case measure =>
                  obtain ⟨hx,hz',hx0,hz0,hg⟩ := HXZ.out
                  have h0 := HZ0.out
                  have hrm := HR.out
                  have h1 := Int.emod_lt_of_pos x (show 0 < z by omega)
                  have h2 := Int.emod_nonneg x h0
                  rw [HM.out,Qdm (g := gv) (y := r) hp (by omega) (by unfold Fit M511 at hz';unfold M512;omega)]
                  omega
          · have f1 := HF.out.1.1
            have f2 := HF.out.1.2
            obtain ⟨sg,hsg,hsg0⟩ : ∃ sg,sgn N.x = sg ∧ ¬ sg < 0 := ⟨_,rfl,by unfold sgn;split;omega;split <;> omega⟩
            have SG := Lib.hid (fun w1 => by have := Qcn N.x f1 w1;rw [hsg] at this;exact this)
            clear hsg
            have eab : ab N.x = N.x := if_neg hs
            have hv0 : 0 ≤ N.x := by omega
            have hvf := f1
            have eG : axG d N 1 = cg y (N.x) := by rw [show axG d N 1 = cg (axG d N 0) (ab N.x) from rfl,hy.out.2.2,eab]
            have EG := Lib.hid eG
            have VF := Lib.hid (And.intro hvf hv0)
            clear eG f1 f2 eab hv0 hvf hs
            go_wp2_with (first|((with_reducible apply Qag hp);exact ii;exact rfl;clear hp;(try clear w1);intro g w1 hp;simp only [zp,zq,z0,z1])|((with_reducible apply Qab hp);exact zt rfl;exact ii;exact ii;(exact zl rfl);(simp only [n0,Nat.reduceAdd,nn];try rfl);simp only [zp,zq,z0,z1])|((with_reducible apply Qae hp);exact zt rfl;exact za rfl;exact rfl;(exact AggTy.size);exact rfl;exact ii;(simp only [n0,Nat.reduceAdd,nn];try rfl);(exact zl rfl);exact rfl;exact ii;clear hp;(try clear w1);intro w1 hp)|((with_reducible apply Qdz);exact za rfl;exact zk rfl;exact ii;exact ii;omega;omega;((try simp only [m0,Int.reduceToNat,m1,m2,Nat.reduceMul,m3,m4,n5,n1,n2,n3,n4,n6]);exact rfl);simp only [zp,zq,z0,z1])|((with_reducible refine Qaf hp (SG.out _) ?_);clear hp;(try clear w1);intro w1 hp))
            obtain ⟨gv,rfl⟩ : ∃ z : Nat,z = g := ⟨_,rfl⟩
            obtain ⟨w3,hw3⟩ : ∃ x : World,x = wr := ⟨_,rfl⟩
            subst hw3
            go_loopw [17] (fun ok wr => ∃ x z : Int,Hid (Fit x ∧ Fit z ∧ 0 ≤ x ∧ 0 ≤ z ∧ cg x z = cg y N.x) ∧ Hp [] w [⟨gv,27,[.int .u64 (lb (z) 0),.int .u64 (lb (z) 1),.int .u64 (lb (z) 2),.int .u64 (lb (z) 3),.int .u64 (lb (z) 4),.int .u64 (lb (z) 5),.int .u64 (lb (z) 6),.int .u64 (lb (z) 7)]⟩,⟨gw,27,[.int .u64 (lb (x) 0),.int .u64 (lb (x) 1),.int .u64 (lb (x) 2),.int .u64 (lb (x) 3),.int .u64 (lb (x) 4),.int .u64 (lb (x) 5),.int .u64 (lb (x) 6),.int .u64 (lb (x) 7)]⟩,⟨g7,99,[.int .u64 (lb (N.x) 0),.int .u64 (lb (N.x) 1),.int .u64 (lb (N.x) 2),.int .u64 (lb (N.x) 3),.int .u64 (lb (N.x) 4),.int .u64 (lb (N.x) 5),.int .u64 (lb (N.x) 6),.int .u64 (lb (N.x) 7),.int .u64 (lb (N.y) 0),.int .u64 (lb (N.y) 1),.int .u64 (lb (N.y) 2),.int .u64 (lb (N.y) 3),.int .u64 (lb (N.y) 4),.int .u64 (lb (N.y) 5),.int .u64 (lb (N.y) 6),.int .u64 (lb (N.y) 7),.int .u64 (lb (N.z) 0),.int .u64 (lb (N.z) 1),.int .u64 (lb (N.z) 2),.int .u64 (lb (N.z) 3),.int .u64 (lb (N.z) 4),.int .u64 (lb (N.z) 5),.int .u64 (lb (N.z) 6),.int .u64 (lb (N.z) 7)]⟩,⟨g6,32,(.int .u64 0 :: .int .u64 0 :: .int .u64 0 :: .int .u64 0 :: .int .u64 0 :: .int .u64 0 :: .int .u64 0 :: .int .u64 0 :: .int .u64 0 :: .int .u64 0 :: .int .u64 0 :: .int .u64 0 :: .int .u64 0 :: .int .u64 0 :: .int .u64 0 :: .int .u64 0 :: .int .u64 0 :: .int .u64 0 :: .int .u64 0 :: .int .u64 0 :: .int .u64 0 :: .int .u64 0 :: .int .u64 0 :: .int .u64 0 :: .int .u64 0 :: .int .u64 0 :: .int .u64 0 :: .int .u64 0 :: .int .u64 0 :: .int .u64 0 :: .int .u64 0 :: .int .u64 0 :: .slice none 0 0 :: [])⟩,⟨g5,27,[.int .u64 (lb (d) 0),.int .u64 (lb (d) 1),.int .u64 (lb (d) 2),.int .u64 (lb (d) 3),.int .u64 (lb (d) 4),.int .u64 (lb (d) 5),.int .u64 (lb (d) 6),.int .u64 (lb (d) 7)]⟩] wr) (fun _ wr => bval gv wr)
            case atStart => exact ⟨y,N.x,⟨hy.out.1,VF.out.1,hy.out.2.1,VF.out.2,rfl⟩,hp⟩
            case round =>
              clear hp
              obtain ⟨x,z,HXZ,hp⟩ := hrel
              obtain ⟨hx,hz',hx0,hz0,hg⟩ := HXZ.out
              have hz := Qdr hz' Qbp
              rw [Qce] at hz
              by_cases h0 : z = 0
              · rw [decide_eq_true h0] at hz
                have e : axG d N 1 = x := by rw [EG.out,← hg,h0,Qgy hx0]
                have E := Lib.hid e
                clear hx hz' hx0 hz0 hg h0 e
                go_wp2_with ((with_reducible apply Qab hp);exact zt rfl;exact ii;exact ii;(exact zl rfl);(simp only [n0,Nat.reduceAdd,nn];try rfl);simp only [zp,zq,z0,z1])
                go_roundw
                case rel => exact ⟨1,x,by omega,rfl,⟨HXZ.out.1,HXZ.out.2.2.1,E.out⟩,hp.sub (List.sublist_cons_self _ _)⟩
                case measure => simp [intOf]
              · rw [decide_eq_false h0] at hz
                have hm := Qdm (g := gv) (y := z) hp hz0 (by unfold Fit M511 at hz';unfold M512;omega)
                have hok : dvok x z := ⟨h0,by unfold fq Fit at *;rw [if_neg (by omega)];have := Int.ediv_nonneg hx0 hz0;have := Int.ediv_le_self z hx0;omega⟩
                have hr : dvr x z = x % z := by
                  unfold dvr
                  rw [if_pos hok]
                  exact (Qfh (q := x / z) (by have := Int.mul_ediv_add_emod x z;rw [Int.mul_comm] at this;omega) (.inl ⟨by omega,Int.emod_nonneg _ h0,Int.emod_lt_of_pos _ (by omega)⟩)).2
                have hd := Qgc x z hx hz'
                rw [hr] at hd
                have HD := Lib.hid hd
                have HM := Lib.hid hm
                have HZ0 := Lib.hid h0
                clear hd hr hok hm h0 hx hz' hx0 hz0 hg
                generalize hrm : x % z = r at HD
                have HR := Lib.hid hrm
                clear hrm
                go_wp2_with (first|((with_reducible apply Qag hp);exact ii;exact rfl;clear hp;(try clear w1);intro g w1 hp;simp only [zp,zq,z0,z1])|((with_reducible apply Qab hp);exact zt rfl;exact ii;exact ii;(exact zl rfl);(simp only [n0,Nat.reduceAdd,nn];try rfl);simp only [zp,zq,z0,z1])|((with_reducible apply Qae hp);exact zt rfl;exact za rfl;exact rfl;(exact AggTy.size);exact rfl;exact ii;(simp only [n0,Nat.reduceAdd,nn];try rfl);(exact zl rfl);exact rfl;exact ii;clear hp;(try clear w1);intro w1 hp)|((with_reducible refine Qaf hp (HD.out _) ?_);clear hp;(try clear w1);intro w1 hp))
                have hq := hp
                clear hp
                have hp := hq.sub (.cons_cons _ (.cons_cons _ (.cons_cons _ (.cons _ (List.Sublist.refl _)))))
                refine Qad hp hq [3] (.q 0 (.q 1 (.l 2 (.l 3 .nil)))) (by kernel_rfl) (by kernel_rfl) ?_
                clear hp hq;(try clear w1);intro w1 hp hq
                repeat' (first|(((with_reducible apply sd_q);exact zo rfl);((with_reducible apply Qah hp);exact rfl;exact zt rfl;exact ii;exact ii;(exact zl rfl);(simp only [n0,Nat.reduceAdd,nn];try rfl);simp only [zp,zq,z0,z1]))|(((with_reducible apply sd_l);exact zo rfl);(first|((with_reducible apply Qam hq);exact rfl;exact zt rfl;(exact za rfl);exact rfl;(exact AggTy.size);exact rfl;exact ii;(simp only [n0,Nat.reduceAdd,nn];try rfl);(exact zl rfl);exact rfl;exact ii;(repeat (first|exact sb0|apply sb2|apply sb3));clear hp hq;(try clear w1);intro w1 hp hq)|((with_reducible apply Qbb hq);exact rfl;exact zt rfl;(exact za rfl);exact rfl;(exact AggTy.size);exact rfl;exact ii;(simp only [n0,Nat.reduceAdd,nn];try rfl);(exact zl rfl);exact rfl;exact ii;exact rfl;clear hp hq;(try clear w1);intro w1 hq;have hp := True.intro)))|((with_reducible apply Qao);clear hp;have hp := hq;clear hq))
                go_wp2
                go_roundw
                case rel =>
                  obtain ⟨hx,hz',hx0,hz0,hg⟩ := HXZ.out
                  have h0 := HZ0.out
                  have hrm := HR.out
                  have := Int.emod_lt_of_pos x (show 0 < z by omega)
                  have h2 := Int.emod_nonneg x h0
                  refine ⟨z,r,⟨hz',?_,hz0,by omega,?_⟩,?_⟩
                  · unfold Fit at *;omega
                  · rw [← hrm,Qhb hx0 (by omega)];exact hg
                  · exact hp.sub ((List.Sublist.refl _).cons _ |>.cons _)
                case measure =>
                  obtain ⟨hx,hz',hx0,hz0,hg⟩ := HXZ.out
                  have h0 := HZ0.out
                  have hrm := HR.out
                  have h1 := Int.emod_lt_of_pos x (show 0 < z by omega)
                  have h2 := Int.emod_nonneg x h0
                  rw [HM.out,Qdm (g := gv) (y := r) hp (by omega) (by unfold Fit M511 at hz';unfold M512;omega)]
                  omega
        · by_cases hs : N.y < 0
          · have f1 := HF.out.2.1.1
            have f2 := HF.out.2.1.2
            have SG := Lib.hid (fun w1 => by have := Qcn N.y f1 w1;rw [show sgn N.y = -1 from if_pos hs] at this;exact this)
            have NG := Lib.hid (fun w1 => by have := Qnb N.y f1 w1;rw [show fz (-N.y) = -N.y from if_pos f2] at this;exact this)
            have eab : ab N.y = -N.y := if_pos hs
            have hv0 : 0 ≤ -N.y := by omega
            have hvf := f2
            have eG : axG d N 2 = cg y ((-N.y)) := by rw [show axG d N 2 = cg (axG d N 1) (ab N.y) from rfl,hy.out.2.2,eab]
            have EG := Lib.hid eG
            have VF := Lib.hid (And.intro hvf hv0)
            clear eG f1 f2 eab hv0 hvf hs
            generalize eV : -N.y = V at *
            clear eV
            go_wp2_with (first|((with_reducible apply Qag hp);exact ii;exact rfl;clear hp;(try clear w1);intro g w1 hp;simp only [zp,zq,z0,z1])|((with_reducible apply Qab hp);exact zt rfl;exact ii;exact ii;(exact zl rfl);(simp only [n0,Nat.reduceAdd,nn];try rfl);simp only [zp,zq,z0,z1])|((with_reducible apply Qae hp);exact zt rfl;exact za rfl;exact rfl;(exact AggTy.size);exact rfl;exact ii;(simp only [n0,Nat.reduceAdd,nn];try rfl);(exact zl rfl);exact rfl;exact ii;clear hp;(try clear w1);intro w1 hp)|((with_reducible apply Qdz);exact za rfl;exact zk rfl;exact ii;exact ii;omega;omega;((try simp only [m0,Int.reduceToNat,m1,m2,Nat.reduceMul,m3,m4,n5,n1,n2,n3,n4,n6]);exact rfl);simp only [zp,zq,z0,z1])|((with_reducible first|refine Qaf hp (SG.out _) ?_|refine Qaf hp (NG.out _) ?_);clear hp;(try clear w1);intro w1 hp))
            obtain ⟨gv,rfl⟩ : ∃ z : Nat,z = g := ⟨_,rfl⟩
            obtain ⟨w3,hw3⟩ : ∃ x : World,x = wr := ⟨_,rfl⟩
            subst hw3
            go_loopw [17] (fun ok wr => ∃ x z : Int,Hid (Fit x ∧ Fit z ∧ 0 ≤ x ∧ 0 ≤ z ∧ cg x z = cg y V) ∧ Hp [] w [⟨gv,27,[.int .u64 (lb (z) 0),.int .u64 (lb (z) 1),.int .u64 (lb (z) 2),.int .u64 (lb (z) 3),.int .u64 (lb (z) 4),.int .u64 (lb (z) 5),.int .u64 (lb (z) 6),.int .u64 (lb (z) 7)]⟩,⟨gw,27,[.int .u64 (lb (x) 0),.int .u64 (lb (x) 1),.int .u64 (lb (x) 2),.int .u64 (lb (x) 3),.int .u64 (lb (x) 4),.int .u64 (lb (x) 5),.int .u64 (lb (x) 6),.int .u64 (lb (x) 7)]⟩,⟨g7,99,[.int .u64 (lb (N.x) 0),.int .u64 (lb (N.x) 1),.int .u64 (lb (N.x) 2),.int .u64 (lb (N.x) 3),.int .u64 (lb (N.x) 4),.int .u64 (lb (N.x) 5),.int .u64 (lb (N.x) 6),.int .u64 (lb (N.x) 7),.int .u64 (lb (N.y) 0),.int .u64 (lb (N.y) 1),.int .u64 (lb (N.y) 2),.int .u64 (lb (N.y) 3),.int .u64 (lb (N.y) 4),.int .u64 (lb (N.y) 5),.int .u64 (lb (N.y) 6),.int .u64 (lb (N.y) 7),.int .u64 (lb (N.z) 0),.int .u64 (lb (N.z) 1),.int .u64 (lb (N.z) 2),.int .u64 (lb (N.z) 3),.int .u64 (lb (N.z) 4),.int .u64 (lb (N.z) 5),.int .u64 (lb (N.z) 6),.int .u64 (lb (N.z) 7)]⟩,⟨g6,32,(.int .u64 0 :: .int .u64 0 :: .int .u64 0 :: .int .u64 0 :: .int .u64 0 :: .int .u64 0 :: .int .u64 0 :: .int .u64 0 :: .int .u64 0 :: .int .u64 0 :: .int .u64 0 :: .int .u64 0 :: .int .u64 0 :: .int .u64 0 :: .int .u64 0 :: .int .u64 0 :: .int .u64 0 :: .int .u64 0 :: .int .u64 0 :: .int .u64 0 :: .int .u64 0 :: .int .u64 0 :: .int .u64 0 :: .int .u64 0 :: .int .u64 0 :: .int .u64 0 :: .int .u64 0 :: .int .u64 0 :: .int .u64 0 :: .int .u64 0 :: .int .u64 0 :: .int .u64 0 :: .slice none 0 0 :: [])⟩,⟨g5,27,[.int .u64 (lb (d) 0),.int .u64 (lb (d) 1),.int .u64 (lb (d) 2),.int .u64 (lb (d) 3),.int .u64 (lb (d) 4),.int .u64 (lb (d) 5),.int .u64 (lb (d) 6),.int .u64 (lb (d) 7)]⟩] wr) (fun _ wr => bval gv wr)
            case atStart => exact ⟨y,V,⟨hy.out.1,VF.out.1,hy.out.2.1,VF.out.2,rfl⟩,hp⟩
            case round =>
              clear hp
              obtain ⟨x,z,HXZ,hp⟩ := hrel
              obtain ⟨hx,hz',hx0,hz0,hg⟩ := HXZ.out
              have hz := Qdr hz' Qbp
              rw [Qce] at hz
              by_cases h0 : z = 0
              · rw [decide_eq_true h0] at hz
                have e : axG d N 2 = x := by rw [EG.out,← hg,h0,Qgy hx0]
                have E := Lib.hid e
                clear hx hz' hx0 hz0 hg h0 e
                go_wp2_with ((with_reducible apply Qab hp);exact zt rfl;exact ii;exact ii;(exact zl rfl);(simp only [n0,Nat.reduceAdd,nn];try rfl);simp only [zp,zq,z0,z1])
                go_roundw
                case rel => exact ⟨2,x,by omega,rfl,⟨HXZ.out.1,HXZ.out.2.2.1,E.out⟩,hp.sub (List.sublist_cons_self _ _)⟩
                case measure => simp [intOf]
              · rw [decide_eq_false h0] at hz
                have hm := Qdm (g := gv) (y := z) hp hz0 (by unfold Fit M511 at hz';unfold M512;omega)
                have hok : dvok x z := ⟨h0,by unfold fq Fit at *;rw [if_neg (by omega)];have := Int.ediv_nonneg hx0 hz0;have := Int.ediv_le_self z hx0;omega⟩
                have hr : dvr x z = x % z := by
                  unfold dvr
                  rw [if_pos hok]
                  exact (Qfh (q := x / z) (by have := Int.mul_ediv_add_emod x z;rw [Int.mul_comm] at this;omega) (.inl ⟨by omega,Int.emod_nonneg _ h0,Int.emod_lt_of_pos _ (by omega)⟩)).2
                have hd := Qgc x z hx hz'
                rw [hr] at hd
                have HD := Lib.hid hd
                have HM := Lib.hid hm
                have HZ0 := Lib.hid h0
                clear hd hr hok hm h0 hx hz' hx0 hz0 hg
                generalize hrm : x % z = r at HD
                have HR := Lib.hid hrm
                clear hrm
                go_wp2_with (first|((with_reducible apply Qag hp);exact ii;exact rfl;clear hp;(try clear w1);intro g w1 hp;simp only [zp,zq,z0,z1])|((with_reducible apply Qab hp);exact zt rfl;exact ii;exact ii;(exact zl rfl);(simp only [n0,Nat.reduceAdd,nn];try rfl);simp only [zp,zq,z0,z1])|((with_reducible apply Qae hp);exact zt rfl;exact za rfl;exact rfl;(exact AggTy.size);exact rfl;exact ii;(simp only [n0,Nat.reduceAdd,nn];try rfl);(exact zl rfl);exact rfl;exact ii;clear hp;(try clear w1);intro w1 hp)|((with_reducible refine Qaf hp (HD.out _) ?_);clear hp;(try clear w1);intro w1 hp))
                have hq := hp
                clear hp
                have hp := hq.sub (.cons_cons _ (.cons_cons _ (.cons_cons _ (.cons _ (List.Sublist.refl _)))))
                refine Qad hp hq [3] (.q 0 (.q 1 (.l 2 (.l 3 .nil)))) (by kernel_rfl) (by kernel_rfl) ?_
                clear hp hq;(try clear w1);intro w1 hp hq
                repeat' (first|(((with_reducible apply sd_q);exact zo rfl);((with_reducible apply Qah hp);exact rfl;exact zt rfl;exact ii;exact ii;(exact zl rfl);(simp only [n0,Nat.reduceAdd,nn];try rfl);simp only [zp,zq,z0,z1]))|(((with_reducible apply sd_l);exact zo rfl);(first|((with_reducible apply Qam hq);exact rfl;exact zt rfl;(exact za rfl);exact rfl;(exact AggTy.size);exact rfl;exact ii;(simp only [n0,Nat.reduceAdd,nn];try rfl);(exact zl rfl);exact rfl;exact ii;(repeat (first|exact sb0|apply sb2|apply sb3));clear hp hq;(try clear w1);intro w1 hp hq)|((with_reducible apply Qbb hq);exact rfl;exact zt rfl;(exact za rfl);exact rfl;(exact AggTy.size);exact rfl;exact ii;(simp only [n0,Nat.reduceAdd,nn];try rfl);(exact zl rfl);exact rfl;exact ii;exact rfl;clear hp hq;(try clear w1);intro w1 hq;have hp := True.intro)))|((with_reducible apply Qao);clear hp;have hp := hq;clear hq))
                go_wp2
                go_roundw
                case rel =>
                  obtain ⟨hx,hz',hx0,hz0,hg⟩ := HXZ.out
                  have h0 := HZ0.out
                  have hrm := HR.out
                  have := Int.emod_lt_of_pos x (show 0 < z by omega)
                  have h2 := Int.emod_nonneg x h0
                  refine ⟨z,r,⟨hz',?_,hz0,by omega,?_⟩,?_⟩
                  · unfold Fit at *;omega
                  · rw [← hrm,Qhb hx0 (by omega)];exact hg
                  · exact hp.sub ((List.Sublist.refl _).cons _ |>.cons _)
                case measure =>
                  obtain ⟨hx,hz',hx0,hz0,hg⟩ := HXZ.out
                  have h0 := HZ0.out
                  have hrm := HR.out
                  have h1 := Int.emod_lt_of_pos x (show 0 < z by omega)
                  have h2 := Int.emod_nonneg x h0
                  rw [HM.out,Qdm (g := gv) (y := r) hp (by omega) (by unfold Fit M511 at hz';unfold M512;omega)]
                  omega
          · have f1 := HF.out.2.1.1
            have f2 := HF.out.2.1.2
            obtain ⟨sg,hsg,hsg0⟩ : ∃ sg,sgn N.y = sg ∧ ¬ sg < 0 := ⟨_,rfl,by unfold sgn;split;omega;split <;> omega⟩
            have SG := Lib.hid (fun w1 => by have := Qcn N.y f1 w1;rw [hsg] at this;exact this)
            clear hsg
            have eab : ab N.y = N.y := if_neg hs
            have hv0 : 0 ≤ N.y := by omega
            have hvf := f1
            have eG : axG d N 2 = cg y (N.y) := by rw [show axG d N 2 = cg (axG d N 1) (ab N.y) from rfl,hy.out.2.2,eab]
            have EG := Lib.hid eG
            have VF := Lib.hid (And.intro hvf hv0)
            clear eG f1 f2 eab hv0 hvf hs
            go_wp2_with (first|((with_reducible apply Qag hp);exact ii;exact rfl;clear hp;(try clear w1);intro g w1 hp;simp only [zp,zq,z0,z1])|((with_reducible apply Qab hp);exact zt rfl;exact ii;exact ii;(exact zl rfl);(simp only [n0,Nat.reduceAdd,nn];try rfl);simp only [zp,zq,z0,z1])|((with_reducible apply Qae hp);exact zt rfl;exact za rfl;exact rfl;(exact AggTy.size);exact rfl;exact ii;(simp only [n0,Nat.reduceAdd,nn];try rfl);(exact zl rfl);exact rfl;exact ii;clear hp;(try clear w1);intro w1 hp)|((with_reducible apply Qdz);exact za rfl;exact zk rfl;exact ii;exact ii;omega;omega;((try simp only [m0,Int.reduceToNat,m1,m2,Nat.reduceMul,m3,m4,n5,n1,n2,n3,n4,n6]);exact rfl);simp only [zp,zq,z0,z1])|((with_reducible refine Qaf hp (SG.out _) ?_);clear hp;(try clear w1);intro w1 hp))
            obtain ⟨gv,rfl⟩ : ∃ z : Nat,z = g := ⟨_,rfl⟩
            obtain ⟨w3,hw3⟩ : ∃ x : World,x = wr := ⟨_,rfl⟩
            subst hw3
            go_loopw [17] (fun ok wr => ∃ x z : Int,Hid (Fit x ∧ Fit z ∧ 0 ≤ x ∧ 0 ≤ z ∧ cg x z = cg y N.y) ∧ Hp [] w [⟨gv,27,[.int .u64 (lb (z) 0),.int .u64 (lb (z) 1),.int .u64 (lb (z) 2),.int .u64 (lb (z) 3),.int .u64 (lb (z) 4),.int .u64 (lb (z) 5),.int .u64 (lb (z) 6),.int .u64 (lb (z) 7)]⟩,⟨gw,27,[.int .u64 (lb (x) 0),.int .u64 (lb (x) 1),.int .u64 (lb (x) 2),.int .u64 (lb (x) 3),.int .u64 (lb (x) 4),.int .u64 (lb (x) 5),.int .u64 (lb (x) 6),.int .u64 (lb (x) 7)]⟩,⟨g7,99,[.int .u64 (lb (N.x) 0),.int .u64 (lb (N.x) 1),.int .u64 (lb (N.x) 2),.int .u64 (lb (N.x) 3),.int .u64 (lb (N.x) 4),.int .u64 (lb (N.x) 5),.int .u64 (lb (N.x) 6),.int .u64 (lb (N.x) 7),.int .u64 (lb (N.y) 0),.int .u64 (lb (N.y) 1),.int .u64 (lb (N.y) 2),.int .u64 (lb (N.y) 3),.int .u64 (lb (N.y) 4),.int .u64 (lb (N.y) 5),.int .u64 (lb (N.y) 6),.int .u64 (lb (N.y) 7),.int .u64 (lb (N.z) 0),.int .u64 (lb (N.z) 1),.int .u64 (lb (N.z) 2),.int .u64 (lb (N.z) 3),.int .u64 (lb (N.z) 4),.int .u64 (lb (N.z) 5),.int .u64 (lb (N.z) 6),.int .u64 (lb (N.z) 7)]⟩,⟨g6,32,(.int .u64 0 :: .int .u64 0 :: .int .u64 0 :: .int .u64 0 :: .int .u64 0 :: .int .u64 0 :: .int .u64 0 :: .int .u64 0 :: .int .u64 0 :: .int .u64 0 :: .int .u64 0 :: .int .u64 0 :: .int .u64 0 :: .int .u64 0 :: .int .u64 0 :: .int .u64 0 :: .int .u64 0 :: .int .u64 0 :: .int .u64 0 :: .int .u64 0 :: .int .u64 0 :: .int .u64 0 :: .int .u64 0 :: .int .u64 0 :: .int .u64 0 :: .int .u64 0 :: .int .u64 0 :: .int .u64 0 :: .int .u64 0 :: .int .u64 0 :: .int .u64 0 :: .int .u64 0 :: .slice none 0 0 :: [])⟩,⟨g5,27,[.int .u64 (lb (d) 0),.int .u64 (lb (d) 1),.int .u64 (lb (d) 2),.int .u64 (lb (d) 3),.int .u64 (lb (d) 4),.int .u64 (lb (d) 5),.int .u64 (lb (d) 6),.int .u64 (lb (d) 7)]⟩] wr) (fun _ wr => bval gv wr)
            case atStart => exact ⟨y,N.y,⟨hy.out.1,VF.out.1,hy.out.2.1,VF.out.2,rfl⟩,hp⟩
            case round =>
              clear hp
              obtain ⟨x,z,HXZ,hp⟩ := hrel
              obtain ⟨hx,hz',hx0,hz0,hg⟩ := HXZ.out
              have hz := Qdr hz' Qbp
              rw [Qce] at hz
              by_cases h0 : z = 0
              · rw [decide_eq_true h0] at hz
                have e : axG d N 2 = x := by rw [EG.out,← hg,h0,Qgy hx0]
                have E := Lib.hid e
                clear hx hz' hx0 hz0 hg h0 e
                go_wp2_with ((with_reducible apply Qab hp);exact zt rfl;exact ii;exact ii;(exact zl rfl);(simp only [n0,Nat.reduceAdd,nn];try rfl);simp only [zp,zq,z0,z1])
                go_roundw
                case rel => exact ⟨2,x,by omega,rfl,⟨HXZ.out.1,HXZ.out.2.2.1,E.out⟩,hp.sub (List.sublist_cons_self _ _)⟩
                case measure => simp [intOf]
              · rw [decide_eq_false h0] at hz
                have hm := Qdm (g := gv) (y := z) hp hz0 (by unfold Fit M511 at hz';unfold M512;omega)
                have hok : dvok x z := ⟨h0,by unfold fq Fit at *;rw [if_neg (by omega)];have := Int.ediv_nonneg hx0 hz0;have := Int.ediv_le_self z hx0;omega⟩
                have hr : dvr x z = x % z := by
                  unfold dvr
                  rw [if_pos hok]
                  exact (Qfh (q := x / z) (by have := Int.mul_ediv_add_emod x z;rw [Int.mul_comm] at this;omega) (.inl ⟨by omega,Int.emod_nonneg _ h0,Int.emod_lt_of_pos _ (by omega)⟩)).2
                have hd := Qgc x z hx hz'
                rw [hr] at hd
                have HD := Lib.hid hd
                have HM := Lib.hid hm
                have HZ0 := Lib.hid h0
                clear hd hr hok hm h0 hx hz' hx0 hz0 hg
                generalize hrm : x % z = r at HD
                have HR := Lib.hid hrm
                clear hrm
                go_wp2_with (first|((with_reducible apply Qag hp);exact ii;exact rfl;clear hp;(try clear w1);intro g w1 hp;simp only [zp,zq,z0,z1])|((with_reducible apply Qab hp);exact zt rfl;exact ii;exact ii;(exact zl rfl);(simp only [n0,Nat.reduceAdd,nn];try rfl);simp only [zp,zq,z0,z1])|((with_reducible apply Qae hp);exact zt rfl;exact za rfl;exact rfl;(exact AggTy.size);exact rfl;exact ii;(simp only [n0,Nat.reduceAdd,nn];try rfl);(exact zl rfl);exact rfl;exact ii;clear hp;(try clear w1);intro w1 hp)|((with_reducible refine Qaf hp (HD.out _) ?_);clear hp;(try clear w1);intro w1 hp))
                have hq := hp
                clear hp
                have hp := hq.sub (.cons_cons _ (.cons_cons _ (.cons_cons _ (.cons _ (List.Sublist.refl _)))))
                refine Qad hp hq [3] (.q 0 (.q 1 (.l 2 (.l 3 .nil)))) (by kernel_rfl) (by kernel_rfl) ?_
                clear hp hq;(try clear w1);intro w1 hp hq
                repeat' (first|(((with_reducible apply sd_q);exact zo rfl);((with_reducible apply Qah hp);exact rfl;exact zt rfl;exact ii;exact ii;(exact zl rfl);(simp only [n0,Nat.reduceAdd,nn];try rfl);simp only [zp,zq,z0,z1]))|(((with_reducible apply sd_l);exact zo rfl);(first|((with_reducible apply Qam hq);exact rfl;exact zt rfl;(exact za rfl);exact rfl;(exact AggTy.size);exact rfl;exact ii;(simp only [n0,Nat.reduceAdd,nn];try rfl);(exact zl rfl);exact rfl;exact ii;(repeat (first|exact sb0|apply sb2|apply sb3));clear hp hq;(try clear w1);intro w1 hp hq)|((with_reducible apply Qbb hq);exact rfl;exact zt rfl;(exact za rfl);exact rfl;(exact AggTy.size);exact rfl;exact ii;(simp only [n0,Nat.reduceAdd,nn];try rfl);(exact zl rfl);exact rfl;exact ii;exact rfl;clear hp hq;(try clear w1);intro w1 hq;have hp := True.intro)))|((with_reducible apply Qao);clear hp;have hp := hq;clear hq))
                go_wp2
                go_roundw
                case rel =>
                  obtain ⟨hx,hz',hx0,hz0,hg⟩ := HXZ.out
                  have h0 := HZ0.out
                  have hrm := HR.out
                  have := Int.emod_lt_of_pos x (show 0 < z by omega)
                  have h2 := Int.emod_nonneg x h0
                  refine ⟨z,r,⟨hz',?_,hz0,by omega,?_⟩,?_⟩
                  · unfold Fit at *;omega
                  · rw [← hrm,Qhb hx0 (by omega)];exact hg
                  · exact hp.sub ((List.Sublist.refl _).cons _ |>.cons _)
                case measure =>
                  obtain ⟨hx,hz',hx0,hz0,hg⟩ := HXZ.out
                  have h0 := HZ0.out
                  have hrm := HR.out
                  have h1 := Int.emod_lt_of_pos x (show 0 < z by omega)
                  have h2 := Int.emod_nonneg x h0
                  rw [HM.out,Qdm (g := gv) (y := r) hp (by omega) (by unfold Fit M511 at hz';unfold M512;omega)]
                  omega
        · by_cases hs : N.z < 0
          · have f1 := HF.out.2.2.1
            have f2 := HF.out.2.2.2
            have SG := Lib.hid (fun w1 => by have := Qcn N.z f1 w1;rw [show sgn N.z = -1 from if_pos hs] at this;exact this)
            have NG := Lib.hid (fun w1 => by have := Qnb N.z f1 w1;rw [show fz (-N.z) = -N.z from if_pos f2] at this;exact this)
            have eab : ab N.z = -N.z := if_pos hs
            have hv0 : 0 ≤ -N.z := by omega
            have hvf := f2
            have eG : axG d N 3 = cg y ((-N.z)) := by rw [show axG d N 3 = cg (axG d N 2) (ab N.z) from rfl,hy.out.2.2,eab]
            have EG := Lib.hid eG
            have VF := Lib.hid (And.intro hvf hv0)
            clear eG f1 f2 eab hv0 hvf hs
            generalize eV : -N.z = V at *
            clear eV
            go_wp2_with (first|((with_reducible apply Qag hp);exact ii;exact rfl;clear hp;(try clear w1);intro g w1 hp;simp only [zp,zq,z0,z1])|((with_reducible apply Qab hp);exact zt rfl;exact ii;exact ii;(exact zl rfl);(simp only [n0,Nat.reduceAdd,nn];try rfl);simp only [zp,zq,z0,z1])|((with_reducible apply Qae hp);exact zt rfl;exact za rfl;exact rfl;(exact AggTy.size);exact rfl;exact ii;(simp only [n0,Nat.reduceAdd,nn];try rfl);(exact zl rfl);exact rfl;exact ii;clear hp;(try clear w1);intro w1 hp)|((with_reducible apply Qdz);exact za rfl;exact zk rfl;exact ii;exact ii;omega;omega;((try simp only [m0,Int.reduceToNat,m1,m2,Nat.reduceMul,m3,m4,n5,n1,n2,n3,n4,n6]);exact rfl);simp only [zp,zq,z0,z1])|((with_reducible first|refine Qaf hp (SG.out _) ?_|refine Qaf hp (NG.out _) ?_);clear hp;(try clear w1);intro w1 hp))
            obtain ⟨gv,rfl⟩ : ∃ z : Nat,z = g := ⟨_,rfl⟩
            obtain ⟨w3,hw3⟩ : ∃ x : World,x = wr := ⟨_,rfl⟩
            subst hw3
            go_loopw [17] (fun ok wr => ∃ x z : Int,Hid (Fit x ∧ Fit z ∧ 0 ≤ x ∧ 0 ≤ z ∧ cg x z = cg y V) ∧ Hp [] w [⟨gv,27,[.int .u64 (lb (z) 0),.int .u64 (lb (z) 1),.int .u64 (lb (z) 2),.int .u64 (lb (z) 3),.int .u64 (lb (z) 4),.int .u64 (lb (z) 5),.int .u64 (lb (z) 6),.int .u64 (lb (z) 7)]⟩,⟨gw,27,[.int .u64 (lb (x) 0),.int .u64 (lb (x) 1),.int .u64 (lb (x) 2),.int .u64 (lb (x) 3),.int .u64 (lb (x) 4),.int .u64 (lb (x) 5),.int .u64 (lb (x) 6),.int .u64 (lb (x) 7)]⟩,⟨g7,99,[.int .u64 (lb (N.x) 0),.int .u64 (lb (N.x) 1),.int .u64 (lb (N.x) 2),.int .u64 (lb (N.x) 3),.int .u64 (lb (N.x) 4),.int .u64 (lb (N.x) 5),.int .u64 (lb (N.x) 6),.int .u64 (lb (N.x) 7),.int .u64 (lb (N.y) 0),.int .u64 (lb (N.y) 1),.int .u64 (lb (N.y) 2),.int .u64 (lb (N.y) 3),.int .u64 (lb (N.y) 4),.int .u64 (lb (N.y) 5),.int .u64 (lb (N.y) 6),.int .u64 (lb (N.y) 7),.int .u64 (lb (N.z) 0),.int .u64 (lb (N.z) 1),.int .u64 (lb (N.z) 2),.int .u64 (lb (N.z) 3),.int .u64 (lb (N.z) 4),.int .u64 (lb (N.z) 5),.int .u64 (lb (N.z) 6),.int .u64 (lb (N.z) 7)]⟩,⟨g6,32,(.int .u64 0 :: .int .u64 0 :: .int .u64 0 :: .int .u64 0 :: .int .u64 0 :: .int .u64 0 :: .int .u64 0 :: .int .u64 0 :: .int .u64 0 :: .int .u64 0 :: .int .u64 0 :: .int .u64 0 :: .int .u64 0 :: .int .u64 0 :: .int .u64 0 :: .int .u64 0 :: .int .u64 0 :: .int .u64 0 :: .int .u64 0 :: .int .u64 0 :: .int .u64 0 :: .int .u64 0 :: .int .u64 0 :: .int .u64 0 :: .int .u64 0 :: .int .u64 0 :: .int .u64 0 :: .int .u64 0 :: .int .u64 0 :: .int .u64 0 :: .int .u64 0 :: .int .u64 0 :: .slice none 0 0 :: [])⟩,⟨g5,27,[.int .u64 (lb (d) 0),.int .u64 (lb (d) 1),.int .u64 (lb (d) 2),.int .u64 (lb (d) 3),.int .u64 (lb (d) 4),.int .u64 (lb (d) 5),.int .u64 (lb (d) 6),.int .u64 (lb (d) 7)]⟩] wr) (fun _ wr => bval gv wr)
            case atStart => exact ⟨y,V,⟨hy.out.1,VF.out.1,hy.out.2.1,VF.out.2,rfl⟩,hp⟩
            case round =>
              clear hp
              obtain ⟨x,z,HXZ,hp⟩ := hrel
              obtain ⟨hx,hz',hx0,hz0,hg⟩ := HXZ.out
              have hz := Qdr hz' Qbp
              rw [Qce] at hz
              by_cases h0 : z = 0
              · rw [decide_eq_true h0] at hz
                have e : axG d N 3 = x := by rw [EG.out,← hg,h0,Qgy hx0]
                have E := Lib.hid e
                clear hx hz' hx0 hz0 hg h0 e
                go_wp2_with ((with_reducible apply Qab hp);exact zt rfl;exact ii;exact ii;(exact zl rfl);(simp only [n0,Nat.reduceAdd,nn];try rfl);simp only [zp,zq,z0,z1])
                go_roundw
                case rel => exact ⟨3,x,by omega,rfl,⟨HXZ.out.1,HXZ.out.2.2.1,E.out⟩,hp.sub (List.sublist_cons_self _ _)⟩
                case measure => simp [intOf]
              · rw [decide_eq_false h0] at hz
                have hm := Qdm (g := gv) (y := z) hp hz0 (by unfold Fit M511 at hz';unfold M512;omega)
                have hok : dvok x z := ⟨h0,by unfold fq Fit at *;rw [if_neg (by omega)];have := Int.ediv_nonneg hx0 hz0;have := Int.ediv_le_self z hx0;omega⟩
                have hr : dvr x z = x % z := by
                  unfold dvr
                  rw [if_pos hok]
                  exact (Qfh (q := x / z) (by have := Int.mul_ediv_add_emod x z;rw [Int.mul_comm] at this;omega) (.inl ⟨by omega,Int.emod_nonneg _ h0,Int.emod_lt_of_pos _ (by omega)⟩)).2
                have hd := Qgc x z hx hz'
                rw [hr] at hd
                have HD := Lib.hid hd
                have HM := Lib.hid hm
                have HZ0 := Lib.hid h0
                clear hd hr hok hm h0 hx hz' hx0 hz0 hg
                generalize hrm : x % z = r at HD
                have HR := Lib.hid hrm
                clear hrm
                go_wp2_with (first|((with_reducible apply Qag hp);exact ii;exact rfl;clear hp;(try clear w1);intro g w1 hp;simp only [zp,zq,z0,z1])|((with_reducible apply Qab hp);exact zt rfl;exact ii;exact ii;(exact zl rfl);(simp only [n0,Nat.reduceAdd,nn];try rfl);simp only [zp,zq,z0,z1])|((with_reducible apply Qae hp);exact zt rfl;exact za rfl;exact rfl;(exact AggTy.size);exact rfl;exact ii;(simp only [n0,Nat.reduceAdd,nn];try rfl);(exact zl rfl);exact rfl;exact ii;clear hp;(try clear w1);intro w1 hp)|((with_reducible refine Qaf hp (HD.out _) ?_);clear hp;(try clear w1);intro w1 hp))
                have hq := hp
                clear hp
                have hp := hq.sub (.cons_cons _ (.cons_cons _ (.cons_cons _ (.cons _ (List.Sublist.refl _)))))
                refine Qad hp hq [3] (.q 0 (.q 1 (.l 2 (.l 3 .nil)))) (by kernel_rfl) (by kernel_rfl) ?_
                clear hp hq;(try clear w1);intro w1 hp hq
                repeat' (first|(((with_reducible apply sd_q);exact zo rfl);((with_reducible apply Qah hp);exact rfl;exact zt rfl;exact ii;exact ii;(exact zl rfl);(simp only [n0,Nat.reduceAdd,nn];try rfl);simp only [zp,zq,z0,z1]))|(((with_reducible apply sd_l);exact zo rfl);(first|((with_reducible apply Qam hq);exact rfl;exact zt rfl;(exact za rfl);exact rfl;(exact AggTy.size);exact rfl;exact ii;(simp only [n0,Nat.reduceAdd,nn];try rfl);(exact zl rfl);exact rfl;exact ii;(repeat (first|exact sb0|apply sb2|apply sb3));clear hp hq;(try clear w1);intro w1 hp hq)|((with_reducible apply Qbb hq);exact rfl;exact zt rfl;(exact za rfl);exact rfl;(exact AggTy.size);exact rfl;exact ii;(simp only [n0,Nat.reduceAdd,nn];try rfl);(exact zl rfl);exact rfl;exact ii;exact rfl;clear hp hq;(try clear w1);intro w1 hq;have hp := True.intro)))|((with_reducible apply Qao);clear hp;have hp := hq;clear hq))
                go_wp2
                go_roundw
                case rel =>
                  obtain ⟨hx,hz',hx0,hz0,hg⟩ := HXZ.out
                  have h0 := HZ0.out
                  have hrm := HR.out
                  have := Int.emod_lt_of_pos x (show 0 < z by omega)
                  have h2 := Int.emod_nonneg x h0
                  refine ⟨z,r,⟨hz',?_,hz0,by omega,?_⟩,?_⟩
                  · unfold Fit at *;omega
                  · rw [← hrm,Qhb hx0 (by omega)];exact hg
                  · exact hp.sub ((List.Sublist.refl _).cons _ |>.cons _)
                case measure =>
                  obtain ⟨hx,hz',hx0,hz0,hg⟩ := HXZ.out
                  have h0 := HZ0.out
                  have hrm := HR.out
                  have h1 := Int.emod_lt_of_pos x (show 0 < z by omega)
                  have h2 := Int.emod_nonneg x h0
                  rw [HM.out,Qdm (g := gv) (y := r) hp (by omega) (by unfold Fit M511 at hz';unfold M512;omega)]
                  omega
          · have f1 := HF.out.2.2.1
            have f2 := HF.out.2.2.2
            obtain ⟨sg,hsg,hsg0⟩ : ∃ sg,sgn N.z = sg ∧ ¬ sg < 0 := ⟨_,rfl,by unfold sgn;split;omega;split <;> omega⟩
            have SG := Lib.hid (fun w1 => by have := Qcn N.z f1 w1;rw [hsg] at this;exact this)
            clear hsg
            have eab : ab N.z = N.z := if_neg hs
            have hv0 : 0 ≤ N.z := by omega
            have hvf := f1
            have eG : axG d N 3 = cg y (N.z) := by rw [show axG d N 3 = cg (axG d N 2) (ab N.z) from rfl,hy.out.2.2,eab]
            have EG := Lib.hid eG
            have VF := Lib.hid (And.intro hvf hv0)
            clear eG f1 f2 eab hv0 hvf hs
            go_wp2_with (first|((with_reducible apply Qag hp);exact ii;exact rfl;clear hp;(try clear w1);intro g w1 hp;simp only [zp,zq,z0,z1])|((with_reducible apply Qab hp);exact zt rfl;exact ii;exact ii;(exact zl rfl);(simp only [n0,Nat.reduceAdd,nn];try rfl);simp only [zp,zq,z0,z1])|((with_reducible apply Qae hp);exact zt rfl;exact za rfl;exact rfl;(exact AggTy.size);exact rfl;exact ii;(simp only [n0,Nat.reduceAdd,nn];try rfl);(exact zl rfl);exact rfl;exact ii;clear hp;(try clear w1);intro w1 hp)|((with_reducible apply Qdz);exact za rfl;exact zk rfl;exact ii;exact ii;omega;omega;((try simp only [m0,Int.reduceToNat,m1,m2,Nat.reduceMul,m3,m4,n5,n1,n2,n3,n4,n6]);exact rfl);simp only [zp,zq,z0,z1])|((with_reducible refine Qaf hp (SG.out _) ?_);clear hp;(try clear w1);intro w1 hp))
            obtain ⟨gv,rfl⟩ : ∃ z : Nat,z = g := ⟨_,rfl⟩
            obtain ⟨w3,hw3⟩ : ∃ x : World,x = wr := ⟨_,rfl⟩
            subst hw3
            go_loopw [17] (fun ok wr => ∃ x z : Int,Hid (Fit x ∧ Fit z ∧ 0 ≤ x ∧ 0 ≤ z ∧ cg x z = cg y N.z) ∧ Hp [] w [⟨gv,27,[.int .u64 (lb (z) 0),.int .u64 (lb (z) 1),.int .u64 (lb (z) 2),.int .u64 (lb (z) 3),.int .u64 (lb (z) 4),.int .u64 (lb (z) 5),.int .u64 (lb (z) 6),.int .u64 (lb (z) 7)]⟩,⟨gw,27,[.int .u64 (lb (x) 0),.int .u64 (lb (x) 1),.int .u64 (lb (x) 2),.int .u64 (lb (x) 3),.int .u64 (lb (x) 4),.int .u64 (lb (x) 5),.int .u64 (lb (x) 6),.int .u64 (lb (x) 7)]⟩,⟨g7,99,[.int .u64 (lb (N.x) 0),.int .u64 (lb (N.x) 1),.int .u64 (lb (N.x) 2),.int .u64 (lb (N.x) 3),.int .u64 (lb (N.x) 4),.int .u64 (lb (N.x) 5),.int .u64 (lb (N.x) 6),.int .u64 (lb (N.x) 7),.int .u64 (lb (N.y) 0),.int .u64 (lb (N.y) 1),.int .u64 (lb (N.y) 2),.int .u64 (lb (N.y) 3),.int .u64 (lb (N.y) 4),.int .u64 (lb (N.y) 5),.int .u64 (lb (N.y) 6),.int .u64 (lb (N.y) 7),.int .u64 (lb (N.z) 0),.int .u64 (lb (N.z) 1),.int .u64 (lb (N.z) 2),.int .u64 (lb (N.z) 3),.int .u64 (lb (N.z) 4),.int .u64 (lb (N.z) 5),.int .u64 (lb (N.z) 6),.int .u64 (lb (N.z) 7)]⟩,⟨g6,32,(.int .u64 0 :: .int .u64 0 :: .int .u64 0 :: .int .u64 0 :: .int .u64 0 :: .int .u64 0 :: .int .u64 0 :: .int .u64 0 :: .int .u64 0 :: .int .u64 0 :: .int .u64 0 :: .int .u64 0 :: .int .u64 0 :: .int .u64 0 :: .int .u64 0 :: .int .u64 0 :: .int .u64 0 :: .int .u64 0 :: .int .u64 0 :: .int .u64 0 :: .int .u64 0 :: .int .u64 0 :: .int .u64 0 :: .int .u64 0 :: .int .u64 0 :: .int .u64 0 :: .int .u64 0 :: .int .u64 0 :: .int .u64 0 :: .int .u64 0 :: .int .u64 0 :: .int .u64 0 :: .slice none 0 0 :: [])⟩,⟨g5,27,[.int .u64 (lb (d) 0),.int .u64 (lb (d) 1),.int .u64 (lb (d) 2),.int .u64 (lb (d) 3),.int .u64 (lb (d) 4),.int .u64 (lb (d) 5),.int .u64 (lb (d) 6),.int .u64 (lb (d) 7)]⟩] wr) (fun _ wr => bval gv wr)
            case atStart => exact ⟨y,N.z,⟨hy.out.1,VF.out.1,hy.out.2.1,VF.out.2,rfl⟩,hp⟩
            case round =>
              clear hp
              obtain ⟨x,z,HXZ,hp⟩ := hrel
              obtain ⟨hx,hz',hx0,hz0,hg⟩ := HXZ.out
              have hz := Qdr hz' Qbp
              rw [Qce] at hz
              by_cases h0 : z = 0
              · rw [decide_eq_true h0] at hz
                have e : axG d N 3 = x := by rw [EG.out,← hg,h0,Qgy hx0]
                have E := Lib.hid e
                clear hx hz' hx0 hz0 hg h0 e
                go_wp2_with ((with_reducible apply Qab hp);exact zt rfl;exact ii;exact ii;(exact zl rfl);(simp only [n0,Nat.reduceAdd,nn];try rfl);simp only [zp,zq,z0,z1])
                go_roundw
                case rel => exact ⟨3,x,by omega,rfl,⟨HXZ.out.1,HXZ.out.2.2.1,E.out⟩,hp.sub (List.sublist_cons_self _ _)⟩
                case measure => simp [intOf]
              · rw [decide_eq_false h0] at hz
                have hm := Qdm (g := gv) (y := z) hp hz0 (by unfold Fit M511 at hz';unfold M512;omega)
                have hok : dvok x z := ⟨h0,by unfold fq Fit at *;rw [if_neg (by omega)];have := Int.ediv_nonneg hx0 hz0;have := Int.ediv_le_self z hx0;omega⟩
                have hr : dvr x z = x % z := by
                  unfold dvr
                  rw [if_pos hok]
                  exact (Qfh (q := x / z) (by have := Int.mul_ediv_add_emod x z;rw [Int.mul_comm] at this;omega) (.inl ⟨by omega,Int.emod_nonneg _ h0,Int.emod_lt_of_pos _ (by omega)⟩)).2
                have hd := Qgc x z hx hz'
                rw [hr] at hd
                have HD := Lib.hid hd
                have HM := Lib.hid hm
                have HZ0 := Lib.hid h0
                clear hd hr hok hm h0 hx hz' hx0 hz0 hg
                generalize hrm : x % z = r at HD
                have HR := Lib.hid hrm
                clear hrm
                go_wp2_with (first|((with_reducible apply Qag hp);exact ii;exact rfl;clear hp;(try clear w1);intro g w1 hp;simp only [zp,zq,z0,z1])|((with_reducible apply Qab hp);exact zt rfl;exact ii;exact ii;(exact zl rfl);(simp only [n0,Nat.reduceAdd,nn];try rfl);simp only [zp,zq,z0,z1])|((with_reducible apply Qae hp);exact zt rfl;exact za rfl;exact rfl;(exact AggTy.size);exact rfl;exact ii;(simp only [n0,Nat.reduceAdd,nn];try rfl);(exact zl rfl);exact rfl;exact ii;clear hp;(try clear w1);intro w1 hp)|((with_reducible refine Qaf hp (HD.out _) ?_);clear hp;(try clear w1);intro w1 hp))
                have hq := hp
                clear hp
                have hp := hq.sub (.cons_cons _ (.cons_cons _ (.cons_cons _ (.cons _ (List.Sublist.refl _)))))
                refine Qad hp hq [3] (.q 0 (.q 1 (.l 2 (.l 3 .nil)))) (by kernel_rfl) (by kernel_rfl) ?_
                clear hp hq;(try clear w1);intro w1 hp hq
                repeat' (first|(((with_reducible apply sd_q);exact zo rfl);((with_reducible apply Qah hp);exact rfl;exact zt rfl;exact ii;exact ii;(exact zl rfl);(simp only [n0,Nat.reduceAdd,nn];try rfl);simp only [zp,zq,z0,z1]))|(((with_reducible apply sd_l);exact zo rfl);(first|((with_reducible apply Qam hq);exact rfl;exact zt rfl;(exact za rfl);exact rfl;(exact AggTy.size);exact rfl;exact ii;(simp only [n0,Nat.reduceAdd,nn];try rfl);(exact zl rfl);exact rfl;exact ii;(repeat (first|exact sb0|apply sb2|apply sb3));clear hp hq;(try clear w1);intro w1 hp hq)|((with_reducible apply Qbb hq);exact rfl;exact zt rfl;(exact za rfl);exact rfl;(exact AggTy.size);exact rfl;exact ii;(simp only [n0,Nat.reduceAdd,nn];try rfl);(exact zl rfl);exact rfl;exact ii;exact rfl;clear hp hq;(try clear w1);intro w1 hq;have hp := True.intro)))|((with_reducible apply Qao);clear hp;have hp := hq;clear hq))
                go_wp2
                go_roundw
                case rel =>
                  obtain ⟨hx,hz',hx0,hz0,hg⟩ := HXZ.out
                  have h0 := HZ0.out
                  have hrm := HR.out
                  have := Int.emod_lt_of_pos x (show 0 < z by omega)
                  have h2 := Int.emod_nonneg x h0
                  refine ⟨z,r,⟨hz',?_,hz0,by omega,?_⟩,?_⟩
                  · unfold Fit at *;omega
                  · rw [← hrm,Qhb hx0 (by omega)];exact hg
                  · exact hp.sub ((List.Sublist.refl _).cons _ |>.cons _)
                case measure =>
                  obtain ⟨hx,hz',hx0,hz0,hg⟩ := HXZ.out
                  have h0 := HZ0.out
                  have hrm := HR.out
                  have h1 := Int.emod_lt_of_pos x (show 0 < z by omega)
                  have h2 := Int.emod_nonneg x h0
                  rw [HM.out,Qdm (g := gv) (y := r) hp (by omega) (by unfold Fit M511 at hz';unfold M512;omega)]
                  omega
        · have BYg := fun gb w1 h => BY.out gb w1 (by rw [hy.out.2.2];exact h)
          have B0 := Lib.hid (fun gb w1 h => (BYg gb w1 h).1)
          have B1' := Lib.hid (fun gb w1 h => (BYg gb w1 h).2.1)
          have B2' := Lib.hid (fun gb w1 h => (BYg gb w1 h).2.2.1)
          have B3' := Lib.hid (fun gb w1 h => (BYg gb w1 h).2.2.2)
          clear BYg
          go_upto_region 22 with (fail)
          have hq := hp
          refine Qad hp hq [17] (.q 0 (.q 1 (.q 2 (.q 4 (.q 5 (.q 6 (.q 8 (.q 9 (.q 10 (.q 13 (.q 14 (.l 3 (.l 7 (.l 11 (.q 12 (.l 15 (.q 16 (.l 17 .nil)))))))))))))))))) (by kernel_rfl) (by kernel_rfl) ?_
          clear hp hq;(try clear w1);intro w1 hp hq
          repeat' (first|(((with_reducible apply sd_q);exact zo rfl);(first|((with_reducible apply Qah hp);exact rfl;exact zt rfl;exact ii;exact ii;(exact zl rfl);(simp only [n0,Nat.reduceAdd,nn];try rfl);simp only [zp,zq,z0,z1])|((with_reducible apply Qaq hp);(exact zf rfl);simp only [zp,zq,z0,z1])|((with_reducible apply Qaj hp);exact rfl;(focus (intro _;go_simp;(try go_ints);try with_reducible rfl));simp only [zp,zq,z0,z1])))|(((with_reducible apply sd_l);exact zo rfl);(first|((with_reducible apply Qck hp);exact rfl;(focus (intro _;go_simp;try first|with_reducible rfl|exact ⟨rfl,rfl⟩));(with_reducible exact B0.out _ _ hq.blk);exact hq;clear hp hq;(try clear w1);intro w1 hp hq;simp only [zp,zq,z0,z1])|((with_reducible apply Qck hp);exact rfl;(focus (intro _;go_simp;try first|with_reducible rfl|exact ⟨rfl,rfl⟩));(with_reducible exact B1'.out _ _ hq.blk);exact hq;clear hp hq;(try clear w1);intro w1 hp hq;simp only [zp,zq,z0,z1])|((with_reducible apply Qck hp);exact rfl;(focus (intro _;go_simp;try first|with_reducible rfl|exact ⟨rfl,rfl⟩));(with_reducible exact B2'.out _ _ hq.blk);exact hq;clear hp hq;(try clear w1);intro w1 hp hq;simp only [zp,zq,z0,z1])|((with_reducible apply Qck hp);exact rfl;(focus (intro _;go_simp;try first|with_reducible rfl|exact ⟨rfl,rfl⟩));(with_reducible exact B3'.out _ _ hq.blk);exact hq;clear hp hq;(try clear w1);intro w1 hp hq;simp only [zp,zq,z0,z1])|((with_reducible apply Qbb hq);exact rfl;exact zt rfl;(exact za rfl);exact rfl;(exact AggTy.size);exact rfl;exact ii;(simp only [n0,Nat.reduceAdd,nn];try rfl);(exact zl rfl);exact rfl;exact ii;exact rfl;clear hp hq;(try clear w1);intro w1 hq;have hp := True.intro)))|((with_reducible apply Qao);clear hp;have hp := hq;clear hq))
          go_wp2
          exact bodyPost_ret (Qaa rfl ⟨_,rfl,Qac hp (Nat.le_of_ble_eq_true rfl)⟩) rfl ⟨rfl,hp.keep⟩
end Go.Proofs.YtdfdmeoalbpcdaaGreat
