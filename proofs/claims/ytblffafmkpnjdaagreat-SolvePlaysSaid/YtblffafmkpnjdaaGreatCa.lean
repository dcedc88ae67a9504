/-
  Bits shifted up, and held against one another.
  Package ninepinref01: further, least (contracts).
-/
import Derived.Test.YtblffafmkpnjdaaGreatBg
set_option linter.unusedSimpArgs false
set_option linter.unusedVariables false
set_option maxRecDepth 100000
namespace Go.Proofs.YtblffafmkpnjdaaGreat
open Go Go.RowKit
theorem Qme (A : Int) {i j : Nat} (h : j < i) : bt (A * 2 ^ i) j = 0 := by
  have := bt_low 0 A h
  rw [Int.zero_add,Qif] at this
  exact this
theorem fur_start (x : Int) (n L : Nat) : tab (fun _ => 0) L = tab (fun j => if j < 0 + n then bt (x * 2 ^ n) j else 0) L := by
  refine Qcv fun j _ => ?_
  split
  · exact (Qme x (by omega)).symm
  · rfl
theorem fur_step {x V : Int} {n k L : Nat} (hV : V = bt x k) : tab (upd (fun j => if j < k + n then bt (x * 2 ^ n) j else 0) ((k + n) * 1) V) L = tab (fun j => if j < k + 1 + n then bt (x * 2 ^ n) j else 0) L := by
  refine Qcv fun j _ => ?_
  rw [Nat.mul_one]
  by_cases h : j = k + n
  · subst h
    rw [Qch,hV,if_pos (by omega),Nat.add_comm k n,Qfs]
  · rw [Qdq _ _ h]
    by_cases h2 : j < k + n
    · rw [if_pos h2,if_pos (by omega)]
    · rw [if_neg h2,if_neg (by omega)]
set_option maxHeartbeats 4000000 in
theorem Qni (x : Int) (L n : Nat) (hL : L ≤ 4096) (hn : n ≤ L) (v1 : Value) (w : World) (h1 : BSl w v1 x L) : Calls Tryz.prog 114 #[v1,.int .i64 n] w (RetN (fun g => .slice (some ⟨g,0,none⟩) L L) 3 (tab (bt (x * 2 ^ n)) L) w) := by
  obtain ⟨ga,oa,ca,bca,ta,qa,rfl,hba,hga⟩ := h1
  have HGA := Lib.hid hga
  clear hga
  go_enter Tryz.func114,Tryz.ntmps114
  have hp := Hp.start [] w
  go_wp2_with (first | ((with_reducible apply Qac hp);exact zt rfl;exact ii;exact ii;(first | exact zio rfl | exact Qae (by omega));simp only [zp,zq,z0,z1]) | ((with_reducible apply Qah hp);exact zt rfl;exact zi rfl;exact rfl;exact Sz.z;exact rfl;exact ii;(first | (with_reducible exact Qab (by omega)) | (simp only [n0,Nat.reduceAdd,n1,n2,n3,n4,n5,n6,n7,n8,n9];try rfl));(first | exact zl rfl | exact Qad (by omega));exact rfl;exact ii;clear hp;(try clear w1);intro w1 hp) | ((with_reducible apply Qaj);exact zx rfl;exact zk rfl;exact ii;exact Sz.z;omega;omega;((try simp only [m0,Int.reduceToNat,m1,m2,Nat.reduceMul,Nat.reduceAdd,m3,m4,m5,n0]);exact rfl);simp only [zp,zq,z0,z1]) | ((with_reducible apply Qai hp);exact zt rfl;assumption;exact ii;(first | assumption | (first | exact zio rfl | exact Qae (by omega)));simp only [zp,zq,z0,z1]) | ((with_reducible apply Qcx hp);exact ii;exact ii;exact zk rfl;exact zk rfl;omega;omega;clear hp;(try clear w1);intro g w1 hp;simp only [zp,zq,z0,z1]))
  obtain ⟨gl,rfl⟩ : ∃ x : Nat,x = g := ⟨_,rfl⟩
  go_loopw [6] (fun i wr => ∃ (k : Nat),k + n ≤ L ∧ i = .int .i64 k ∧ Hp [] w [⟨gl,3,tab (fun j => if j < k + n then bt (x * 2 ^ n) j else 0) L⟩] wr) (fun i _ => L - (intOf i).toNat)
  case atStart => exact ⟨0,by omega,rfl,by rw [← fur_start];exact hp⟩
  case round =>
    clear hp
    obtain ⟨k,hk,rfl,hp⟩ := hrel
    by_cases hk1 : k + n < L
    · have hk2 : (k : Int) + n < L := by omega
      have ha := HGA.out k (by omega)
      have hs : bt x k = bt x k := rfl
      generalize hz : bt x k = a at *
      have HS := Lib.hid hz
      clear hz hs
      have hk3 : k < L := by omega
      have hkk : ((k : Int) + (n : Int)).toNat = k + n := by omega
      have HKK := Lib.hid hkk
      clear hkk
      go_wp2_with (first | ((with_reducible apply Qac hp);exact zt rfl;exact ii;exact ii;(first | exact zio rfl | exact Qae (by omega) | assumption | exact Qbd (by omega));simp only [zp,zq,z0,z1]) | ((with_reducible apply Qah hp);exact zt rfl;exact zi rfl;exact rfl;exact Sz.z;exact rfl;exact ii;(first | (with_reducible exact Qab (by omega)) | (with_reducible exact Qby (by omega)) | (simp only [n0,Nat.reduceAdd,n1,n2,n3,n4,n5,n6,n7,n8,n9];try rfl));(first | exact zl rfl | exact Qad (by omega) | exact Qcm (by omega));exact rfl;exact ii;clear hp;(try clear w1);intro w1 hp) | ((with_reducible apply Qaj);exact zx rfl;exact zk rfl;exact ii;exact Sz.z;omega;omega;((try simp only [m0,Int.reduceToNat,m1,m2,Nat.reduceMul,Nat.reduceAdd,m3,m4,m5,n0]);exact rfl);simp only [zp,zq,z0,z1]) | ((with_reducible apply Qai hp);exact zt rfl;assumption;exact ii;(first | assumption | (first | exact zio rfl | exact Qae (by omega) | assumption | exact Qbd (by omega)));simp only [zp,zq,z0,z1]))
      go_roundw
      case rel =>
        refine ⟨k + 1,by omega,by go_num,?_⟩
        rw [← fur_step HS.out.symm,← HKK.out]
        exact hp
      case measure => simp [intOf];omega
    · have hk2 : ¬ (k : Int) + n < L := by omega
      obtain rfl : L = k + n := by omega
      go_wp2_with (first | ((with_reducible apply Qac hp);exact zt rfl;exact ii;exact ii;(first | exact zio rfl | exact Qae (by omega) | exact Qbd (by omega));simp only [zp,zq,z0,z1]) | ((with_reducible apply Qah hp);exact zt rfl;exact zi rfl;exact rfl;exact Sz.z;exact rfl;exact ii;(first | (with_reducible exact Qab (by omega)) | (with_reducible exact Qby (by omega)) | (simp only [n0,Nat.reduceAdd,n1,n2,n3,n4,n5,n6,n7,n8,n9];try rfl));(first | exact zl rfl | exact Qad (by omega) | exact Qcm (by omega));exact rfl;exact ii;clear hp;(try clear w1);intro w1 hp) | ((with_reducible apply Qaj);exact zx rfl;exact zk rfl;exact ii;exact Sz.z;omega;omega;((try simp only [m0,Int.reduceToNat,m1,m2,Nat.reduceMul,Nat.reduceAdd,m3,m4,m5,n0]);exact rfl);simp only [zp,zq,z0,z1]) | ((with_reducible apply Qai hp);exact zt rfl;assumption;exact ii;(first | assumption | (first | exact zio rfl | exact Qae (by omega) | exact Qbd (by omega)));simp only [zp,zq,z0,z1]))
      rw [Qjd] at hp
      exact bodyPost_ret (Qaf rfl rfl) rfl ⟨gl,rfl,hp.keep,hp.fresh,hp.blk⟩
theorem Qmw (x : Int) (i : Nat) : x / 2 ^ i = 2 * (x / 2 ^ (i + 1)) + bt x i := by
  unfold bt
  rw [Int.pow_succ,← Int.ediv_ediv_of_nonneg (Int.le_of_lt (Qap i))]
  omega
theorem Qlf {x y : Int} {i : Nat} (h : x / 2 ^ i < y / 2 ^ i) : x < y := by
  rcases Int.lt_or_le x y with h1 | h1
  · exact h1
  · have := Int.ediv_le_ediv (Qap i) h1
    omega
theorem least_bit {x y : Int} {i : Nat} (h : x / 2 ^ (i + 1) = y / 2 ^ (i + 1)) (hne : bt x i ≠ bt y i) : decide (bt x i < bt y i) = decide (x < y) := by
  have h1 := Qmw x i
  have h2 := Qmw y i
  have h3 := Qgl x i
  have h4 := Qgl y i
  rw [decide_eq_decide]
  constructor
  · intro h5
    exact Qlf (i := i) (by omega)
  · intro h5
    rcases Int.lt_or_le (bt x i) (bt y i) with h6 | h6
    · exact h6
    · have : y < x := Qlf (i := i) (by omega)
      omega
theorem least_bit' {x y a b : Int} {i : Nat} (ea : a = bt x i) (eb : b = bt y i) (h : x / 2 ^ (i + 1) = y / 2 ^ (i + 1)) (hne : (a == b) = false) : decide (a < b) = decide (x < y) := by
  subst ea eb
  exact least_bit h (by simpa using hne)
theorem least_same {x y a b : Int} {i : Nat} (ea : a = bt x i) (eb : b = bt y i) (h : x / 2 ^ (i + 1) = y / 2 ^ (i + 1)) (he : a = b) : x / 2 ^ i = y / 2 ^ i := by
  rw [Qmw x i,Qmw y i,h,← ea,← eb,he]
set_option maxHeartbeats 4000000 in
theorem Qgs (x y : Int) (L : Nat) (hL : L ≤ 4096) (hxy : x / 2 ^ L = y / 2 ^ L) (v1 v2 : Value) (w : World) (h1 : BSl w v1 x L) (h2 : BSl w v2 y L) : Calls Tryz.prog 115 #[v1,v2] w (Ret (.bool (decide (x < y))) w) := by
  obtain ⟨ga,oa,ca,bca,ta,qa,rfl,hba,hga⟩ := h1
  obtain ⟨gb,ob,cb',bcb,tb,qb,rfl,hbb,hgb⟩ := h2
  have HGA := Lib.hid hga
  have HGB := Lib.hid hgb
  have HXY := Lib.hid hxy
  clear hga hgb hxy
  go_enter Tryz.func115,Tryz.ntmps115
  have hp := Hp.start [] w
  go_wp2_with (first | ((with_reducible apply Qac hp);exact zt rfl;exact ii;exact ii;(first | exact zio rfl | exact Qae (by omega));simp only [zp,zq,z0,z1]) | ((with_reducible apply Qaj);exact zx rfl;exact zk rfl;exact ii;exact Sz.z;omega;omega;((try simp only [m0,Int.reduceToNat,m1,m2,Nat.reduceMul,Nat.reduceAdd,m3,m4,m5,n0]);exact rfl);simp only [zp,zq,z0,z1]) | ((with_reducible apply Qai hp);exact zt rfl;assumption;exact ii;(first | assumption | (first | exact zio rfl | exact Qae (by omega)));simp only [zp,zq,z0,z1]))
  go_loopw [5] (fun i wr => ∃ (k : Nat) (c : Int),k ≤ L ∧ c = k - 1 ∧ i = .int .i64 c ∧ x / 2 ^ k = y / 2 ^ k ∧ Hp [] w [] wr) (fun i _ => (intOf i + 1).toNat)
  case atStart => exact ⟨L,_,by omega,rfl,rfl,HXY.out,hp⟩
  case round =>
    clear hp
    obtain ⟨k,c,hk,hc,rfl,he,hp⟩ := hrel
    have HE := Lib.hid he
    clear he
    cases k with
    | zero =>
      have hc0 : c < 0 := by omega
      have hx : x = y := by have := HE.out;simpa using this
      have e : decide (x < y) = false := by simp;omega
      have E := Lib.hid e
      clear hx e hc
      go_wp2_with (first | ((with_reducible apply Qac hp);exact zt rfl;exact ii;exact ii;(first | exact zio rfl | exact Qae (by omega));simp only [zp,zq,z0,z1]) | ((with_reducible apply Qaj);exact zx rfl;exact zk rfl;exact ii;exact Sz.z;omega;omega;((try simp only [m0,Int.reduceToNat,m1,m2,Nat.reduceMul,Nat.reduceAdd,m3,m4,m5,n0]);exact rfl);simp only [zp,zq,z0,z1]) | ((with_reducible apply Qai hp);exact zt rfl;assumption;exact ii;(first | assumption | (first | exact zio rfl | exact Qae (by omega)));simp only [zp,zq,z0,z1]))
      exact bodyPost_ret (Qaf rfl rfl) rfl ⟨by rw [E.out];rfl,hp.keep⟩
    | succ j =>
      have ha := HGA.out j (by omega)
      have hb := HGB.out j (by omega)
      obtain rfl : c = (j : Int) := by omega
      have HX : Hid (bt x j = bt x j) := Lib.hid rfl
      generalize hza : bt x j = a at *
      generalize hzb : bt y j = b at *
      have HZA := Lib.hid hza
      have HZB := Lib.hid hzb
      clear hza hzb HX hc
      have hj : (j : Int) < L := by omega
      by_cases hab : a = b
      · have hbb : (a == b) = true := by simp [hab]
        have HAB := Lib.hid hab
        clear hab
        go_wp2_with (first | ((with_reducible apply Qac hp);exact zt rfl;exact ii;exact ii;(first | exact zio rfl | exact Qae (by omega) | assumption);simp only [zp,zq,z0,z1]) | ((with_reducible apply Qaj);exact zx rfl;exact zk rfl;exact ii;exact Sz.z;omega;omega;((try simp only [m0,Int.reduceToNat,m1,m2,Nat.reduceMul,Nat.reduceAdd,m3,m4,m5,n0]);exact rfl);simp only [zp,zq,z0,z1]) | ((with_reducible apply Qai hp);exact zt rfl;assumption;exact ii;(first | assumption | (first | exact zio rfl | exact Qae (by omega) | assumption));simp only [zp,zq,z0,z1]))
        have hq := hp
        refine Qaq hp hq [] (.q 0 (.q 1 (.q 2 (.q 3 (.q 4 (.q 5 (.q 6 (.q 7 (.q 8 .nil))))))))) (by kernel_rfl) (by kernel_rfl) ?_
        clear hp hq;(try clear w1);intro w1 hp hq
        repeat' (first | (((with_reducible apply sd_q);exact zo rfl);(first | ((with_reducible apply Qaw hp);exact rfl;exact zt rfl;exact ii;exact ii;(first | exact zio rfl | exact Qae (by omega) | assumption);simp only [zp,zq,z0,z1]) | ((with_reducible apply Qbr hp);exact rfl;exact zt rfl;assumption;exact ii;(first | assumption | (first | exact zio rfl | exact Qae (by omega) | assumption));simp only [zp,zq,z0,z1]) | ((with_reducible apply Qbh hp);(first | exact zi rfl | exact zs rfl);simp only [zp,zq,z0,z1]) | ((with_reducible apply Qbc hp);exact rfl;exact zx rfl;exact zk rfl;exact ii;exact Sz.z;omega;omega;((try simp only [m0,Int.reduceToNat,m1,m2,Nat.reduceMul,Nat.reduceAdd,m3,m4,m5,n0]);exact rfl);simp only [zp,zq,z0,z1]) | ((with_reducible apply Qav hp);exact rfl;(focus (intro _;go_simp;(try go_ints);try with_reducible rfl));simp only [zp,zq,z0,z1]))) | ((with_reducible apply Qba);clear hp;have hp := hq;clear hq))
        go_wp2_with (first | ((with_reducible apply Qac hp);exact zt rfl;exact ii;exact ii;(first | exact zio rfl | exact Qae (by omega) | assumption);simp only [zp,zq,z0,z1]) | ((with_reducible apply Qaj);exact zx rfl;exact zk rfl;exact ii;exact Sz.z;omega;omega;((try simp only [m0,Int.reduceToNat,m1,m2,Nat.reduceMul,Nat.reduceAdd,m3,m4,m5,n0]);exact rfl);simp only [zp,zq,z0,z1]) | ((with_reducible apply Qai hp);exact zt rfl;assumption;exact ii;(first | assumption | (first | exact zio rfl | exact Qae (by omega) | assumption));simp only [zp,zq,z0,z1]))
        go_roundw
        case rel => exact ⟨j,_,by omega,rfl,rfl,least_same HZA.out.symm HZB.out.symm HE.out HAB.out,hp⟩
        case measure => simp [intOf]
      · have hbb : (a == b) = false := by simp [hab]
        clear hab
        have e := least_bit' HZA.out.symm HZB.out.symm HE.out hbb
        have E := Lib.hid e
        clear e
        go_wp2_with (first | ((with_reducible apply Qac hp);exact zt rfl;exact ii;exact ii;(first | exact zio rfl | exact Qae (by omega) | assumption);simp only [zp,zq,z0,z1]) | ((with_reducible apply Qaj);exact zx rfl;exact zk rfl;exact ii;exact Sz.z;omega;omega;((try simp only [m0,Int.reduceToNat,m1,m2,Nat.reduceMul,Nat.reduceAdd,m3,m4,m5,n0]);exact rfl);simp only [zp,zq,z0,z1]) | ((with_reducible apply Qai hp);exact zt rfl;assumption;exact ii;(first | assumption | (first | exact zio rfl | exact Qae (by omega) | assumption));simp only [zp,zq,z0,z1]))
        have hq := hp
        refine Qaq hp hq [] (.q 0 (.q 1 (.q 2 (.q 3 (.q 4 (.q 5 (.q 6 (.q 7 (.q 8 .nil))))))))) (by kernel_rfl) (by kernel_rfl) ?_
        clear hp hq;(try clear w1);intro w1 hp hq
        repeat' (first | (((with_reducible apply sd_q);exact zo rfl);(first | ((with_reducible apply Qaw hp);exact rfl;exact zt rfl;exact ii;exact ii;(first | exact zio rfl | exact Qae (by omega) | assumption);simp only [zp,zq,z0,z1]) | ((with_reducible apply Qbr hp);exact rfl;exact zt rfl;assumption;exact ii;(first | assumption | (first | exact zio rfl | exact Qae (by omega) | assumption));simp only [zp,zq,z0,z1]) | ((with_reducible apply Qbh hp);(first | exact zi rfl | exact zs rfl);simp only [zp,zq,z0,z1]) | ((with_reducible apply Qbc hp);exact rfl;exact zx rfl;exact zk rfl;exact ii;exact Sz.z;omega;omega;((try simp only [m0,Int.reduceToNat,m1,m2,Nat.reduceMul,Nat.reduceAdd,m3,m4,m5,n0]);exact rfl);simp only [zp,zq,z0,z1]) | ((with_reducible apply Qav hp);exact rfl;(focus (intro _;go_simp;(try go_ints);try with_reducible rfl));simp only [zp,zq,z0,z1]))) | ((with_reducible apply Qba);clear hp;have hp := hq;clear hq))
        go_wp2_with (first | ((with_reducible apply Qac hp);exact zt rfl;exact ii;exact ii;(first | exact zio rfl | exact Qae (by omega) | assumption);simp only [zp,zq,z0,z1]) | ((with_reducible apply Qaj);exact zx rfl;exact zk rfl;exact ii;exact Sz.z;omega;omega;((try simp only [m0,Int.reduceToNat,m1,m2,Nat.reduceMul,Nat.reduceAdd,m3,m4,m5,n0]);exact rfl);simp only [zp,zq,z0,z1]) | ((with_reducible apply Qai hp);exact zt rfl;assumption;exact ii;(first | assumption | (first | exact zio rfl | exact Qae (by omega) | assumption));simp only [zp,zq,z0,z1]))
        have hq := hp
        refine Qaq hp hq [] (.q 0 (.q 1 (.q 2 (.q 3 (.q 4 (.q 5 (.q 6 (.q 7 (.q 8 (.q 9 .nil)))))))))) (by kernel_rfl) (by kernel_rfl) ?_
        clear hp hq;(try clear w1);intro w1 hp hq
        repeat' (first | (((with_reducible apply sd_q);exact zo rfl);(first | ((with_reducible apply Qaw hp);exact rfl;exact zt rfl;exact ii;exact ii;(first | exact zio rfl | exact Qae (by omega) | assumption);simp only [zp,zq,z0,z1]) | ((with_reducible apply Qbr hp);exact rfl;exact zt rfl;assumption;exact ii;(first | assumption | (first | exact zio rfl | exact Qae (by omega) | assumption));simp only [zp,zq,z0,z1]) | ((with_reducible apply Qbh hp);(first | exact zi rfl | exact zs rfl);simp only [zp,zq,z0,z1]) | ((with_reducible apply Qbo hp);exact zb rfl;simp only [zp,zq,z0,z1]) | ((with_reducible apply Qbc hp);exact rfl;exact zx rfl;exact zk rfl;exact ii;exact Sz.z;omega;omega;((try simp only [m0,Int.reduceToNat,m1,m2,Nat.reduceMul,Nat.reduceAdd,m3,m4,m5,n0]);exact rfl);simp only [zp,zq,z0,z1]) | ((with_reducible apply Qav hp);exact rfl;(focus (intro _;go_simp;(try go_ints);try with_reducible rfl));simp only [zp,zq,z0,z1]))) | ((with_reducible apply Qba);clear hp;have hp := hq;clear hq))
        go_wp2
        exact bodyPost_ret (Qaf rfl rfl) rfl ⟨by rw [← E.out];rfl,hp.keep⟩
end Go.Proofs.YtblffafmkpnjdaaGreat
