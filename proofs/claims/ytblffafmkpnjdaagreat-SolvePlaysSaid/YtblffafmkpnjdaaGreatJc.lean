/-
  Package ninepinref01: Cmp, Shl; package ninepinref02: Within (contracts).
-/
import Derived.Test.YtblffafmkpnjdaaGreatCa
import Derived.Test.YtblffafmkpnjdaaGreatGx
import Derived.Test.YtblffafmkpnjdaaGreatJb
set_option linter.unusedSimpArgs false
set_option linter.unusedVariables false
set_option maxRecDepth 100000
namespace Go.Proofs.YtblffafmkpnjdaaGreat
open Go Go.RowKit
attribute [local irreducible] wpList
theorem bt_top {x : Int} {E : Nat} (h : -(2 ^ E) ≤ x ∧ x < 2 ^ E) : bt x E = if x < 0 then 1 else 0 := by
  unfold bt
  have hp := Qap E
  generalize (2 : Int) ^ E = P at *
  split
  · have : x / P = -1 := by
      rw [Int.ediv_eq_iff_of_pos hp]
      omega
    rw [this];rfl
  · rw [Int.ediv_eq_zero_of_lt (by omega) (by omega)];rfl
theorem low_step {x : Int} {k : Nat} (h : x % 2 ^ k = 0) (hb : bt x k = 0) : x % 2 ^ (k + 1) = 0 := by
  rw [Int.pow_succ,Qcj x _ _ (Qap k) (by omega),h]
  unfold bt at hb
  rw [hb]
  omega
theorem low_one {x : Int} {k : Nat} (hb : bt x k = 1) : x ≠ 0 := fun h => by
  rw [h,Qif] at hb
  omega
theorem low_all {x : Int} {E : Nat} (h0 : 0 ≤ x) (h1 : x < 2 ^ E) (h : x % 2 ^ (E + 1) = 0) : x = 0 := by
  rw [Int.emod_eq_of_lt h0 (by rw [Int.pow_succ];have := Qap E;omega)] at h
  exact h
theorem cmp_room {a b : Int} (ha : Fit a) (hb : Fit b) {E : Nat} (hE : E = 519) : -(2 ^ E) ≤ a + -b ∧ a + -b < 2 ^ E := by
  obtain ⟨c,hc⟩ : ∃ c : Nat,c = 511 := ⟨_,rfl⟩
  have h4 : (2 : Int) ^ E = 2 ^ c * 2 ^ (E - c) := Qdg (by omega)
  rw [← Qev hc,show E - c = 8 by omega] at h4
  have : (2 : Int) ^ 8 = 256 := rfl
  rw [h4,this]
  unfold Fit M511 at *
  omega
set_option maxHeartbeats 4000000 in
theorem Qje (a b : Int) (ha : Fit a) (hb : Fit b) (w : World) : Calls Tryz.prog 63 #[W a,W b] w (Ret (.int .i64 (sgn (a - b))) w) := by
  rw [Int.sub_eq_add_neg]
  have HT := Lib.hid (bt_top (cmp_room ha hb rfl))
  have HL := Lib.hid (@low_all (a + -b) 519)
  have HR := Lib.hid (cmp_room ha hb rfl)
  have RP : Hid (∀ v1 v2 w,BSl w v1 a 520 → BSl w v2 (-b) 520 → Calls Tryz.prog 107 #[v1,v2] w (RetN (fun g => .slice (some ⟨g,0,none⟩) 520 520) 3 (tab (bt (a + -b)) 520) w)) := Lib.hid fun v1 v2 w h1 h2 => Qeo a (-b) 520 (by omega) v1 v2 w h1 h2
  generalize a + -b = x at *
  have LA := Lib.hid fun w => Qft a ha w
  have LB' := Lib.hid fun w => Qft b hb w
  clear ha hb
  go_enter Tryz.func63,Tryz.ntmps63
  have hp := Hp.start [] w
  go_upto_region 1 with (first | ((with_reducible apply Qao hp);(first | exact za rfl | exact zu rfl | exact zi rfl | exact zb rfl | exact zr rfl | exact zs rfl | exact zf rfl | exact zg rfl | exact zn rfl | exact zv rfl | exact zw rfl);exact rfl;clear hp;(try clear w1);intro g w1 hp;simp only [zp,zq,z0,z1]) | ((with_reducible apply Qag hp);exact ii;exact rfl;clear hp;(try clear w1);intro g w1 hp;simp only [zp,zq,z0,z1]))
  rename_i ga K hK
  obtain ⟨gb,rfl⟩ : ∃ k : Nat,k = g := ⟨_,rfl⟩
  have hq := hp
  refine Qaq hp hq [] (.q 0 (.q 2 (.l 1 (.l 3 (.l 4 (.l 5 (.q 6 .nil))))))) (by kernel_rfl) (by kernel_rfl) ?_
  clear hp hq;(try clear w1);intro w1 hp hq
  repeat' (first | (((with_reducible apply sd_q);exact zo rfl);(first | ((with_reducible apply Qas hp);exact rfl;exact zt rfl;exact ii;exact ii;(first | exact zl rfl | exact Qad (by omega));(first | (with_reducible exact Qab (by omega)) | (simp only [n0,Nat.reduceAdd,n1,n2,n3,n4,n5,n6,n7,n8,n9];try rfl));simp only [zp,zq,z0,z1]) | ((with_reducible apply Qbw hp);exact rfl;exact zt rfl;assumption;exact ii;assumption;(first | exact zl rfl | omega);simp only [zp,zq,z0,z1]) | ((with_reducible apply Qbo hp);exact zs rfl;simp only [zp,zq,z0,z1]) | ((with_reducible apply Qav hp);exact rfl;(focus (intro _;go_simp;(try go_ints);try with_reducible rfl));simp only [zp,zq,z0,z1]))) | (((with_reducible apply sd_l);exact zo rfl);(first | ((with_reducible apply Qcy hq);(repeat (first | exact List.Sublist.refl _ | apply List.Sublist.cons));exact rfl;(focus (intro _;go_simp;try first | with_reducible rfl | exact ⟨rfl,rfl⟩));(with_reducible exact LA.out _);clear hp hq;(try clear w1);intro g w1 hp hq;simp only [zp,zq,z0,z1]) | ((with_reducible apply Qcy hq);(repeat (first | exact List.Sublist.refl _ | apply List.Sublist.cons));exact rfl;(focus (intro _;go_simp;try first | with_reducible rfl | exact ⟨rfl,rfl⟩));(with_reducible exact LB'.out _);clear hp hq;(try clear w1);intro g w1 hp hq;simp only [zp,zq,z0,z1]) | ((with_reducible apply Qcy hq);(repeat (first | exact List.Sublist.refl _ | apply List.Sublist.cons));exact rfl;(focus (intro _;go_simp;try first | with_reducible rfl | exact ⟨rfl,rfl⟩));(with_reducible exact Qcw b 520 (by omega) _ _ (BSl.of hq.blk));clear hp hq;(try clear w1);intro g w1 hp hq;simp only [zp,zq,z0,z1]) | ((with_reducible apply Qcy hq);(repeat (first | exact List.Sublist.refl _ | apply List.Sublist.cons));exact rfl;(focus (intro _;go_simp;try first | with_reducible rfl | exact ⟨rfl,rfl⟩));(with_reducible exact RP.out _ _ _ (BSl.of hq.blk) (BSl.of hq.blk));clear hp hq;(try clear w1);intro g w1 hp hq;simp only [zp,zq,z0,z1]))) | ((with_reducible apply Qba);clear hp;have hp := hq;clear hq))
  obtain ⟨gl,rfl⟩ : ∃ k : Nat,k = g := ⟨_,rfl⟩
  by_cases hneg : x < 0
  · have hb1 : bt x 519 = 1 := by rw [HT.out,if_pos hneg]
    have hb2 : (bt x 519 == 1) = true := by rw [hb1];rfl
    have e : sgn x = -1 := if_pos hneg
    have HEE := Lib.hid e
    clear hb1 e hneg
    go_wp2_with (first | ((with_reducible apply Qao hp);exact za rfl;exact rfl;clear hp;(try clear w1);intro g w1 hp;simp only [zp,zq,z0,z1]) | ((with_reducible apply Qaa hp);exact zt rfl;exact ii;exact ii;(first | exact zl rfl | exact Qad (by omega) | exact Qcm (by omega));(first | (with_reducible exact Qab (by omega)) | (with_reducible exact Qby (by omega)) | (simp only [n0,Nat.reduceAdd,n1,n2,n3,n4,n5,n6,n7,n8,n9];try rfl));simp only [zp,zq,z0,z1]) | ((with_reducible apply Qac hp);exact zt rfl;exact ii;exact ii;(first | exact zio rfl | exact Qae (by omega) | exact Qbd (by omega));simp only [zp,zq,z0,z1]) | ((with_reducible apply Qaj);exact zx rfl;exact zk rfl;exact ii;exact Sz.z;omega;omega;((try simp only [m0,Int.reduceToNat,m1,m2,Nat.reduceMul,Nat.reduceAdd,m3,m4,m5,n0]);exact rfl);simp only [zp,zq,z0,z1]) | ((with_reducible apply Qam hp);exact zt rfl;assumption;exact ii;assumption;(first | exact zl rfl | omega);simp only [zp,zq,z0,z1]) | ((with_reducible apply Qai hp);exact zt rfl;assumption;exact ii;(first | assumption | (first | exact zio rfl | exact Qae (by omega) | exact Qbd (by omega)));simp only [zp,zq,z0,z1]))
    exact bodyPost_ret (Qaf rfl rfl) rfl ⟨by rw [HEE.out];rfl,hp.keep⟩
  · have hb1 : bt x 519 = 0 := by rw [HT.out,if_neg hneg]
    have hb2 : (bt x 519 == 1) = false := by rw [hb1];rfl
    have HNG := Lib.hid hneg
    clear hb1 hneg
    have hp' := hp.sub (H' := [⟨gl,3,tab (bt x) 520⟩]) (by repeat (first | exact List.Sublist.refl _ | apply List.Sublist.cons_cons | apply List.Sublist.cons | exact List.nil_sublist _))
    clear hp
    have hp := hp'
    clear hp'
    go_wp2_with (first | ((with_reducible apply Qao hp);exact za rfl;exact rfl;clear hp;(try clear w1);intro g w1 hp;simp only [zp,zq,z0,z1]) | ((with_reducible apply Qaa hp);exact zt rfl;exact ii;exact ii;(first | exact zl rfl | exact Qad (by omega) | exact Qcm (by omega));(first | (with_reducible exact Qab (by omega)) | (with_reducible exact Qby (by omega)) | (simp only [n0,Nat.reduceAdd,n1,n2,n3,n4,n5,n6,n7,n8,n9];try rfl));simp only [zp,zq,z0,z1]) | ((with_reducible apply Qac hp);exact zt rfl;exact ii;exact ii;(first | exact zio rfl | exact Qae (by omega) | exact Qbd (by omega));simp only [zp,zq,z0,z1]) | ((with_reducible apply Qaj);exact zx rfl;exact zk rfl;exact ii;exact Sz.z;omega;omega;((try simp only [m0,Int.reduceToNat,m1,m2,Nat.reduceMul,Nat.reduceAdd,m3,m4,m5,n0]);exact rfl);simp only [zp,zq,z0,z1]) | ((with_reducible apply Qam hp);exact zt rfl;assumption;exact ii;assumption;(first | exact zl rfl | omega);simp only [zp,zq,z0,z1]) | ((with_reducible apply Qai hp);exact zt rfl;assumption;exact ii;(first | assumption | (first | exact zio rfl | exact Qae (by omega) | exact Qbd (by omega)));simp only [zp,zq,z0,z1]))
    clear hb2
    go_loopw [6] (fun i wr => ∃ k : Nat,k ≤ 520 ∧ i = .int .i64 k ∧ x % 2 ^ k = 0 ∧ Hp [] w [⟨gl,3,tab (bt x) 520⟩] wr) (fun i _ => 520 - (intOf i).toNat)
    case atStart => exact ⟨0,by omega,rfl,by rw [Int.pow_zero,Int.emod_one],hp⟩
    case round =>
      clear hp
      obtain ⟨k,hk,rfl,hlow,hp⟩ := hrel
      have HLO := Lib.hid hlow
      clear hlow
      by_cases hk1 : k < 520
      · have hk2 : (k : Int) < 520 := by omega
        by_cases hb : bt x k = 1
        · have hb2 : (bt x k == 1) = true := by rw [hb];rfl
          have e : sgn x = 1 := by unfold sgn;rw [if_neg (show ¬ x < 0 by have := HNG.out;omega),if_neg (low_one hb)]
          have HEE := Lib.hid e
          clear hb e
          go_wp2_with (first | ((with_reducible apply Qao hp);exact za rfl;exact rfl;clear hp;(try clear w1);intro g w1 hp;simp only [zp,zq,z0,z1]) | ((with_reducible apply Qaa hp);exact zt rfl;exact ii;exact ii;(first | exact zl rfl | exact Qad (by omega) | exact Qcm (by omega));(first | (with_reducible exact Qab (by omega)) | (with_reducible exact Qby (by omega)) | (simp only [n0,Nat.reduceAdd,n1,n2,n3,n4,n5,n6,n7,n8,n9];try rfl));simp only [zp,zq,z0,z1]) | ((with_reducible apply Qac hp);exact zt rfl;exact ii;exact ii;(first | exact zio rfl | exact Qae (by omega) | exact Qbd (by omega));simp only [zp,zq,z0,z1]) | ((with_reducible apply Qaj);exact zx rfl;exact zk rfl;exact ii;exact Sz.z;omega;omega;((try simp only [m0,Int.reduceToNat,m1,m2,Nat.reduceMul,Nat.reduceAdd,m3,m4,m5,n0]);exact rfl);simp only [zp,zq,z0,z1]) | ((with_reducible apply Qam hp);exact zt rfl;assumption;exact ii;assumption;(first | exact zl rfl | omega);simp only [zp,zq,z0,z1]) | ((with_reducible apply Qai hp);exact zt rfl;assumption;exact ii;(first | assumption | (first | exact zio rfl | exact Qae (by omega) | exact Qbd (by omega)));simp only [zp,zq,z0,z1]))
          exact bodyPost_ret (Qaf rfl rfl) rfl ⟨by rw [HEE.out];rfl,hp.keep⟩
        · have hb2 : (bt x k == 1) = false := by simp [hb]
          have HB := Lib.hid hb
          clear hb
          go_wp2_with (first | ((with_reducible apply Qao hp);exact za rfl;exact rfl;clear hp;(try clear w1);intro g w1 hp;simp only [zp,zq,z0,z1]) | ((with_reducible apply Qaa hp);exact zt rfl;exact ii;exact ii;(first | exact zl rfl | exact Qad (by omega) | exact Qcm (by omega));(first | (with_reducible exact Qab (by omega)) | (with_reducible exact Qby (by omega)) | (simp only [n0,Nat.reduceAdd,n1,n2,n3,n4,n5,n6,n7,n8,n9];try rfl));simp only [zp,zq,z0,z1]) | ((with_reducible apply Qac hp);exact zt rfl;exact ii;exact ii;(first | exact zio rfl | exact Qae (by omega) | exact Qbd (by omega));simp only [zp,zq,z0,z1]) | ((with_reducible apply Qaj);exact zx rfl;exact zk rfl;exact ii;exact Sz.z;omega;omega;((try simp only [m0,Int.reduceToNat,m1,m2,Nat.reduceMul,Nat.reduceAdd,m3,m4,m5,n0]);exact rfl);simp only [zp,zq,z0,z1]) | ((with_reducible apply Qam hp);exact zt rfl;assumption;exact ii;assumption;(first | exact zl rfl | omega);simp only [zp,zq,z0,z1]) | ((with_reducible apply Qai hp);exact zt rfl;assumption;exact ii;(first | assumption | (first | exact zio rfl | exact Qae (by omega) | exact Qbd (by omega)));simp only [zp,zq,z0,z1]))
          go_roundw
          case rel => exact ⟨k + 1,by omega,by go_num,low_step HLO.out (by have := HB.out;have := Qgl x k;omega),hp⟩
          case measure => simp [intOf];omega
      · obtain rfl : k = 520 := by omega
        have e : sgn x = 0 := by rw [HL.out (by have := HNG.out;omega) HR.out.2 HLO.out];rfl
        have HEE := Lib.hid e
        clear e
        rw [show ((520 : Nat) : Int) = 520 from rfl]
        go_wp2_with (first | ((with_reducible apply Qao hp);exact za rfl;exact rfl;clear hp;(try clear w1);intro g w1 hp;simp only [zp,zq,z0,z1]) | ((with_reducible apply Qaa hp);exact zt rfl;exact ii;exact ii;(first | exact zl rfl | exact Qad (by omega) | exact Qcm (by omega));(first | (with_reducible exact Qab (by omega)) | (with_reducible exact Qby (by omega)) | (simp only [n0,Nat.reduceAdd,n1,n2,n3,n4,n5,n6,n7,n8,n9];try rfl));simp only [zp,zq,z0,z1]) | ((with_reducible apply Qac hp);exact zt rfl;exact ii;exact ii;(first | exact zio rfl | exact Qae (by omega) | exact Qbd (by omega));simp only [zp,zq,z0,z1]) | ((with_reducible apply Qaj);exact zx rfl;exact zk rfl;exact ii;exact Sz.z;omega;omega;((try simp only [m0,Int.reduceToNat,m1,m2,Nat.reduceMul,Nat.reduceAdd,m3,m4,m5,n0]);exact rfl);simp only [zp,zq,z0,z1]) | ((with_reducible apply Qam hp);exact zt rfl;assumption;exact ii;assumption;(first | exact zl rfl | omega);simp only [zp,zq,z0,z1]) | ((with_reducible apply Qai hp);exact zt rfl;assumption;exact ii;(first | assumption | (first | exact zio rfl | exact Qae (by omega) | exact Qbd (by omega)));simp only [zp,zq,z0,z1]))
        exact bodyPost_ret (Qaf rfl rfl) rfl ⟨by rw [HEE.out];rfl,hp.keep⟩
/-! ### Brought in -/
/-- An integer, brought in. -/
def cl (n : Int) : Int := if n < -9223372036854775808 then -9223372036854775808 else if 9223372036854775807 < n then 9223372036854775807 else n
theorem Qbu (n : Int) : I64 (cl n) := by unfold cl I64;split <;> (try split) <;> omega
theorem cl_id {n : Int} (h : I64 n) : cl n = n := by unfold cl;unfold I64 at h;rw [if_neg (by omega),if_neg (by omega)]
set_option maxHeartbeats 4000000 in
theorem Qdw (n : Int) (hn : Fit n) (w : World) : Calls Tryz.prog 69 #[W n] w (Ret (.int .i64 (cl n)) w) := by
  have S1 := Lib.hid fun w => Qem 9223372036854775807 (by omega) (by omega) w
  have S2 := Lib.hid fun w => Qem (-9223372036854775808) (by omega) (by omega) w
  have C1 := Lib.hid fun w => Qje n 9223372036854775807 hn (by unfold Fit M511;omega) w
  have C2 := Lib.hid fun w => Qje n (-9223372036854775808) hn (by unfold Fit M511;omega) w
  have W1 := @wrap_lb n
  unfold I64 at W1
  clear hn
  by_cases h1 : 9223372036854775807 < n
  · have e : cl n = 9223372036854775807 := by unfold cl;rw [if_neg (by omega),if_pos h1]
    have e1 : sgn (n - 9223372036854775807) = 1 := by unfold sgn;rw [if_neg (by omega),if_neg (by omega)]
    have HEE := Lib.hid e
    rw [e1] at C1
    clear e e1 h1 W1
    go_enter Tryz.func69,Tryz.ntmps69
    have hp := Hp.start [] w
    go_upto_region 1 with (first | ((with_reducible apply Qao hp);(first | exact za rfl | exact zu rfl | exact zi rfl | exact zb rfl | exact zr rfl | exact zs rfl | exact zf rfl | exact zg rfl | exact zn rfl | exact zv rfl | exact zw rfl);exact rfl;clear hp;(try clear w1);intro g w1 hp;simp only [zp,zq,z0,z1]) | ((with_reducible apply Qag hp);exact ii;exact rfl;clear hp;(try clear w1);intro g w1 hp;simp only [zp,zq,z0,z1]))
    have hq := hp
    refine Qaq hp hq [] (.q 0 (.l 1 (.l 2 (.q 3 .nil)))) (by kernel_rfl) (by kernel_rfl) ?_
    clear hp hq;(try clear w1);intro w1 hp hq
    repeat' (first | (((with_reducible apply sd_q);exact zo rfl);(first | ((with_reducible apply Qas hp);exact rfl;exact zt rfl;exact ii;exact ii;(first | exact zl rfl | exact Qad (by omega));(first | (with_reducible exact Qab (by omega)) | (simp only [n0,Nat.reduceAdd,n1,n2,n3,n4,n5,n6,n7,n8,n9];try rfl));simp only [zp,zq,z0,z1]) | ((with_reducible apply Qav hp);exact rfl;(focus (intro _;go_simp;(try go_ints);try with_reducible rfl));simp only [zp,zq,z0,z1]))) | (((with_reducible apply sd_l);exact zo rfl);((with_reducible apply Qbf hp);exact rfl;(focus (intro _;go_simp;try first | with_reducible rfl | exact ⟨rfl,rfl⟩));(with_reducible first | exact fun w => S1.out w | exact fun w => C1.out w);exact hq;clear hp hq;(try clear w1);intro w1 hp hq;simp only [zp,zq,z0,z1])) | ((with_reducible apply Qba);clear hp;have hp := hq;clear hq))
    go_wp2_with (first | ((with_reducible apply Qao hp);exact za rfl;exact rfl;clear hp;(try clear w1);intro g w1 hp;simp only [zp,zq,z0,z1]) | ((with_reducible apply Qaa hp);exact zt rfl;exact ii;exact ii;(first | exact zl rfl | exact Qad (by omega));(first | (with_reducible exact Qab (by omega)) | (simp only [n0,Nat.reduceAdd,n1,n2,n3,n4,n5,n6,n7,n8,n9];try rfl));simp only [zp,zq,z0,z1]) | ((with_reducible apply Qac hp);exact zt rfl;exact ii;exact ii;(first | exact zio rfl | exact Qae (by omega));simp only [zp,zq,z0,z1]))
    exact bodyPost_ret (Qaf rfl rfl) rfl ⟨by rw [HEE.out];rfl,hp.keep⟩
  · by_cases h2 : n < -9223372036854775808
    · have e : cl n = -9223372036854775808 := by unfold cl;rw [if_pos h2]
      have e1 : ¬ 0 < sgn (n - 9223372036854775807) := by unfold sgn;rw [if_pos (by omega)];omega
      have e2 : sgn (n - -9223372036854775808) = -1 := by unfold sgn;rw [if_pos (by omega)]
      have HEE := Lib.hid e
      rw [e2] at C2
      obtain ⟨s1,hs1⟩ : ∃ s,s = sgn (n - 9223372036854775807) := ⟨_,rfl⟩
      rw [← hs1] at C1 e1
      clear e e2 h1 h2 W1 hs1
      go_enter Tryz.func69,Tryz.ntmps69
      have hp := Hp.start [] w
      go_upto_region 1 with (first | ((with_reducible apply Qao hp);(first | exact za rfl | exact zu rfl | exact zi rfl | exact zb rfl | exact zr rfl | exact zs rfl | exact zf rfl | exact zg rfl | exact zn rfl | exact zv rfl | exact zw rfl);exact rfl;clear hp;(try clear w1);intro g w1 hp;simp only [zp,zq,z0,z1]) | ((with_reducible apply Qag hp);exact ii;exact rfl;clear hp;(try clear w1);intro g w1 hp;simp only [zp,zq,z0,z1]))
      have hq := hp
      refine Qaq hp hq [] (.q 0 (.l 1 (.l 2 (.q 3 .nil)))) (by kernel_rfl) (by kernel_rfl) ?_
      clear hp hq;(try clear w1);intro w1 hp hq
      repeat' (first | (((with_reducible apply sd_q);exact zo rfl);(first | ((with_reducible apply Qas hp);exact rfl;exact zt rfl;exact ii;exact ii;(first | exact zl rfl | exact Qad (by omega));(first | (with_reducible exact Qab (by omega)) | (simp only [n0,Nat.reduceAdd,n1,n2,n3,n4,n5,n6,n7,n8,n9];try rfl));simp only [zp,zq,z0,z1]) | ((with_reducible apply Qav hp);exact rfl;(focus (intro _;go_simp;(try go_ints);try with_reducible rfl));simp only [zp,zq,z0,z1]))) | (((with_reducible apply sd_l);exact zo rfl);((with_reducible apply Qbf hp);exact rfl;(focus (intro _;go_simp;try first | with_reducible rfl | exact ⟨rfl,rfl⟩));(with_reducible first | exact fun w => S1.out w | exact fun w => C1.out w);exact hq;clear hp hq;(try clear w1);intro w1 hp hq;simp only [zp,zq,z0,z1])) | ((with_reducible apply Qba);clear hp;have hp := hq;clear hq))
      have e1 : ¬ 0 < s1 := by omega
      go_wp2_with (first | ((with_reducible apply Qao hp);exact za rfl;exact rfl;clear hp;(try clear w1);intro g w1 hp;simp only [zp,zq,z0,z1]) | ((with_reducible apply Qaa hp);exact zt rfl;exact ii;exact ii;(first | exact zl rfl | exact Qad (by omega));(first | (with_reducible exact Qab (by omega)) | (simp only [n0,Nat.reduceAdd,n1,n2,n3,n4,n5,n6,n7,n8,n9];try rfl));simp only [zp,zq,z0,z1]) | ((with_reducible apply Qac hp);exact zt rfl;exact ii;exact ii;(first | exact zio rfl | exact Qae (by omega));simp only [zp,zq,z0,z1]))
      have hq := hp
      refine Qaq hp hq [] (.q 0 (.l 1 (.l 2 (.q 3 .nil)))) (by kernel_rfl) (by kernel_rfl) ?_
      clear hp hq;(try clear w1);intro w1 hp hq
      repeat' (first | (((with_reducible apply sd_q);exact zo rfl);(first | ((with_reducible apply Qas hp);exact rfl;exact zt rfl;exact ii;exact ii;(first | exact zl rfl | exact Qad (by omega));(first | (with_reducible exact Qab (by omega)) | (simp only [n0,Nat.reduceAdd,n1,n2,n3,n4,n5,n6,n7,n8,n9];try rfl));simp only [zp,zq,z0,z1]) | ((with_reducible apply Qav hp);exact rfl;(focus (intro _;go_simp;(try go_ints);try with_reducible rfl));simp only [zp,zq,z0,z1]))) | (((with_reducible apply sd_l);exact zo rfl);((with_reducible apply Qbf hp);exact rfl;(focus (intro _;go_simp;try first | with_reducible rfl | exact ⟨rfl,rfl⟩));(with_reducible first | exact fun w => S2.out w | exact fun w => C2.out w);exact hq;clear hp hq;(try clear w1);intro w1 hp hq;simp only [zp,zq,z0,z1])) | ((with_reducible apply Qba);clear hp;have hp := hq;clear hq))
      go_wp2_with (first | ((with_reducible apply Qao hp);exact za rfl;exact rfl;clear hp;(try clear w1);intro g w1 hp;simp only [zp,zq,z0,z1]) | ((with_reducible apply Qaa hp);exact zt rfl;exact ii;exact ii;(first | exact zl rfl | exact Qad (by omega));(first | (with_reducible exact Qab (by omega)) | (simp only [n0,Nat.reduceAdd,n1,n2,n3,n4,n5,n6,n7,n8,n9];try rfl));simp only [zp,zq,z0,z1]) | ((with_reducible apply Qac hp);exact zt rfl;exact ii;exact ii;(first | exact zio rfl | exact Qae (by omega));simp only [zp,zq,z0,z1]))
      exact bodyPost_ret (Qaf rfl rfl) rfl ⟨by rw [HEE.out];rfl,hp.keep⟩
    · have e : cl n = n := by unfold cl;rw [if_neg h2,if_neg h1]
      have e1 : ¬ 0 < sgn (n - 9223372036854775807) := by unfold sgn;split <;> (try split) <;> omega
      have e2 : ¬ sgn (n - -9223372036854775808) < 0 := by unfold sgn;split <;> (try split) <;> omega
      have hw := e.trans (W1.1.2 (by omega)).symm
      have HW := Lib.hid hw
      obtain ⟨s1,hs1⟩ : ∃ s,s = sgn (n - 9223372036854775807) := ⟨_,rfl⟩
      obtain ⟨s2,hs2⟩ : ∃ s,s = sgn (n - -9223372036854775808) := ⟨_,rfl⟩
      rw [← hs1] at C1 e1
      rw [← hs2] at C2 e2
      clear e h1 h2 W1 hw hs1 hs2
      go_enter Tryz.func69,Tryz.ntmps69
      have hp := Hp.start [] w
      go_upto_region 1 with (first | ((with_reducible apply Qao hp);(first | exact za rfl | exact zu rfl | exact zi rfl | exact zb rfl | exact zr rfl | exact zs rfl | exact zf rfl | exact zg rfl | exact zn rfl | exact zv rfl | exact zw rfl);exact rfl;clear hp;(try clear w1);intro g w1 hp;simp only [zp,zq,z0,z1]) | ((with_reducible apply Qag hp);exact ii;exact rfl;clear hp;(try clear w1);intro g w1 hp;simp only [zp,zq,z0,z1]))
      have hq := hp
      refine Qaq hp hq [] (.q 0 (.l 1 (.l 2 (.q 3 .nil)))) (by kernel_rfl) (by kernel_rfl) ?_
      clear hp hq;(try clear w1);intro w1 hp hq
      repeat' (first | (((with_reducible apply sd_q);exact zo rfl);(first | ((with_reducible apply Qas hp);exact rfl;exact zt rfl;exact ii;exact ii;(first | exact zl rfl | exact Qad (by omega));(first | (with_reducible exact Qab (by omega)) | (simp only [n0,Nat.reduceAdd,n1,n2,n3,n4,n5,n6,n7,n8,n9];try rfl));simp only [zp,zq,z0,z1]) | ((with_reducible apply Qav hp);exact rfl;(focus (intro _;go_simp;(try go_ints);try with_reducible rfl));simp only [zp,zq,z0,z1]))) | (((with_reducible apply sd_l);exact zo rfl);((with_reducible apply Qbf hp);exact rfl;(focus (intro _;go_simp;try first | with_reducible rfl | exact ⟨rfl,rfl⟩));(with_reducible first | exact fun w => S1.out w | exact fun w => C1.out w);exact hq;clear hp hq;(try clear w1);intro w1 hp hq;simp only [zp,zq,z0,z1])) | ((with_reducible apply Qba);clear hp;have hp := hq;clear hq))
      have e1 : ¬ 0 < s1 := by omega
      go_wp2_with (first | ((with_reducible apply Qao hp);exact za rfl;exact rfl;clear hp;(try clear w1);intro g w1 hp;simp only [zp,zq,z0,z1]) | ((with_reducible apply Qaa hp);exact zt rfl;exact ii;exact ii;(first | exact zl rfl | exact Qad (by omega));(first | (with_reducible exact Qab (by omega)) | (simp only [n0,Nat.reduceAdd,n1,n2,n3,n4,n5,n6,n7,n8,n9];try rfl));simp only [zp,zq,z0,z1]) | ((with_reducible apply Qac hp);exact zt rfl;exact ii;exact ii;(first | exact zio rfl | exact Qae (by omega));simp only [zp,zq,z0,z1]))
      have hq := hp
      refine Qaq hp hq [] (.q 0 (.l 1 (.l 2 (.q 3 .nil)))) (by kernel_rfl) (by kernel_rfl) ?_
      clear hp hq;(try clear w1);intro w1 hp hq
      repeat' (first | (((with_reducible apply sd_q);exact zo rfl);(first | ((with_reducible apply Qas hp);exact rfl;exact zt rfl;exact ii;exact ii;(first | exact zl rfl | exact Qad (by omega));(first | (with_reducible exact Qab (by omega)) | (simp only [n0,Nat.reduceAdd,n1,n2,n3,n4,n5,n6,n7,n8,n9];try rfl));simp only [zp,zq,z0,z1]) | ((with_reducible apply Qav hp);exact rfl;(focus (intro _;go_simp;(try go_ints);try with_reducible rfl));simp only [zp,zq,z0,z1]))) | (((with_reducible apply sd_l);exact zo rfl);((with_reducible apply Qbf hp);exact rfl;(focus (intro _;go_simp;try first | with_reducible rfl | exact ⟨rfl,rfl⟩));(with_reducible first | exact fun w => S2.out w | exact fun w => C2.out w);exact hq;clear hp hq;(try clear w1);intro w1 hp hq;simp only [zp,zq,z0,z1])) | ((with_reducible apply Qba);clear hp;have hp := hq;clear hq))
      have e2 : ¬ s2 < 0 := by omega
      go_wp2_with (first | ((with_reducible apply Qao hp);exact za rfl;exact rfl;clear hp;(try clear w1);intro g w1 hp;simp only [zp,zq,z0,z1]) | ((with_reducible apply Qaa hp);exact zt rfl;exact ii;exact ii;(first | exact zl rfl | exact Qad (by omega));(first | (with_reducible exact Qab (by omega)) | (simp only [n0,Nat.reduceAdd,n1,n2,n3,n4,n5,n6,n7,n8,n9];try rfl));simp only [zp,zq,z0,z1]) | ((with_reducible apply Qac hp);exact zt rfl;exact ii;exact ii;(first | exact zio rfl | exact Qae (by omega));simp only [zp,zq,z0,z1]))
      exact bodyPost_ret (Qaf rfl rfl) rfl ⟨by rw [HW.out];rfl,hp.keep⟩
/-! ### Further up -/
theorem shl_room {a : Int} (ha : Fit a) (n : Nat) : -(2 ^ (n + 520 - 1)) ≤ a * 2 ^ n ∧ a * 2 ^ n < 2 ^ (n + 520 - 1) := by
  obtain ⟨c,hc⟩ : ∃ c : Nat,c = 519 := ⟨_,rfl⟩
  have h1 : (2 : Int) ^ (n + 520 - 1) = 2 ^ c * 2 ^ n := by rw [← Int.pow_add,show c + n = n + 520 - 1 by omega]
  obtain ⟨d,hd⟩ : ∃ d : Nat,d = 511 := ⟨_,rfl⟩
  have h2 : (2 : Int) ^ d ≤ 2 ^ c := by
    rw [Qdg (show d ≤ c by omega)]
    have h3 := Qap (c - d)
    have := Int.mul_le_mul_of_nonneg_left (show (1 : Int) ≤ 2 ^ (c - d) by omega) (Int.le_of_lt (Qap d))
    omega
  rw [← Qev hd] at h2
  have hp := Qap n
  rw [h1]
  have h4 : a < 2 ^ c := by unfold Fit at ha;omega
  have h5 : -(2 ^ c) ≤ a := by unfold Fit at ha;omega
  have h6 := Int.mul_lt_mul_of_pos_right h4 hp
  have h7 := Int.mul_le_mul_of_nonneg_right h5 (Int.le_of_lt hp)
  rw [Int.neg_mul] at h7
  exact ⟨h7,h6⟩
theorem shl_bsl {w : World} {g n cap : Nat} {t : TypeId} {a : Int} {junk : List Value} (h : w.heap[g]? = some (.cells (tab (fun _ => 0) n ++ tab (bt a) 520 ++ junk).toArray t (0,0))) : BSl w (.slice (some ⟨g,0,none⟩) (n + 520) cap) (a * 2 ^ n) (n + 520) := by
  refine ⟨g,0,cap,_,t,_,rfl,h,fun k hk => ?_⟩
  rw [Nat.zero_add,Nat.mul_one]
  rcases Nat.lt_or_ge k n with h1 | h1
  · rw [List.getElem?_append_left (by simp [Qbq];omega),List.getElem?_append_left (by rw [Qbq];exact h1),Qbd h1,Qme a h1]
  · rw [List.getElem?_append_left (by simp [Qbq];omega),List.getElem?_append_right (by rw [Qbq];exact h1),Qbq,Qbd (by omega)]
    obtain ⟨m,rfl⟩ : ∃ m,k = n + m := ⟨k - n,by omega⟩
    rw [Qfs,show n + m - n = m by omega]
theorem Qeg (F : Nat → Int) (L : Nat) : (tab F L).all (·.oneCell') = true := by
  unfold tab
  rw [List.all_eq_true]
  intro v hv
  obtain ⟨i,_,rfl⟩ := List.mem_map.1 hv
  rfl
set_option maxHeartbeats 4000000 in
theorem rshl_any (a n : Int) (ha : Fit a) (w : World) : Calls Tryz.prog 137 #[W a,.int .i64 n] w (Ret (.tuple #[W (shlv a n),.bool (decide (shok a n))]) w) := by
  have hs := fun w => Qgf a ha w
  by_cases h0 : n < 0
  · have hk : ¬ shok a n := fun h => by have := h.1;omega
    unfold shlv
    rw [if_neg hk,decide_eq_false hk,Qdn]
    clear ha hs hk
    go_enter Tryz.func137,Tryz.ntmps137
    have hp := Hp.start [] w
    go_wp2_with (first | ((with_reducible refine Qbj ?_);(conv => whnf);refine Bx.mk ?_;(try simp only [zp,zq,z0,z1])) | ((with_reducible apply Qao hp);exact za rfl;exact rfl;clear hp;(try clear w1);intro g w1 hp;simp only [zp,zq,z0,z1]) | ((with_reducible apply Qag hp);exact ii;exact rfl;clear hp;(try clear w1);intro g w1 hp;simp only [zp,zq,z0,z1]) | ((with_reducible apply Qaa hp);exact zt rfl;exact ii;exact ii;(first | exact zl rfl | exact Qad (by omega));(first | (with_reducible exact Qab (by omega)) | (simp only [n0,Nat.reduceAdd,n1,n2,n3,n4,n5,n6,n7,n8,n9];try rfl));simp only [zp,zq,z0,z1]) | ((with_reducible apply Qah hp);exact zt rfl;exact za rfl;exact rfl;exact Sz.z;exact rfl;exact ii;(first | (with_reducible exact Qab (by omega)) | (simp only [n0,Nat.reduceAdd,n1,n2,n3,n4,n5,n6,n7,n8,n9];try rfl));(first | exact zl rfl | exact Qad (by omega));exact rfl;exact ii;clear hp;(try clear w1);intro w1 hp) | ((with_reducible apply Qar hp);exact ii;exact ii;exact rfl;decide;exact (rfl : _ = Value.slice none 0 0);exact zy rfl;exact ii;exact rfl;exact rfl;decide;(unfold maxLen;decide);decide;clear hp;(try clear w1);intro g cap junk w1 hl1 hl2 hl3 hp;simp only [zp,zq,z0,z1]) | ((with_reducible apply Qay hp);exact ii;exact ii;exact rfl;decide;exact zy rfl;(first | exact List.Perm.refl _ | exact List.perm_middle (l₁ := [_]) | exact List.perm_middle (l₁ := [_,_]) | exact List.perm_middle (l₁ := [_,_,_]) | exact List.perm_middle (l₁ := [_,_,_,_]) | exact List.perm_middle (l₁ := [_,_,_,_,_]));(first | exact pcs_length _ | (simp only [List.length_map,Nat.mul_one]));assumption;assumption;assumption;exact zy rfl;exact ii;exact rfl;exact rfl;decide;(unfold maxLen;omega);omega;clear hp;(try clear w1);intro g cap junk w1 hl1 hl2 hl3 hp;(try dsimp only [List.cons_append,List.nil_append] at hp);simp only [zp,zq,z0,z1]))
    exact bodyPost_ret (Qaz rfl ⟨_,rfl,Qal hp (Nat.le_of_ble_eq_true rfl)⟩ rfl) rfl ⟨rfl,hp.keep⟩
  · by_cases ha0 : a = 0
    · have hk : shok a n := ⟨by omega,.inl ha0⟩
      unfold shlv
      rw [if_pos hk,decide_eq_true hk,ha0,Int.zero_mul,Qdn]
      have HS : Hid (∀ w,Calls Tryz.prog 111 #[.agg #[.int .u64 0,.int .u64 0,.int .u64 0,.int .u64 0,.int .u64 0,.int .u64 0,.int .u64 0,.int .u64 0]] w (Ret (.int .i64 0) w)) := Lib.hid fun w => by
        have := Qgf 0 Qct w
        rw [Qdn] at this
        exact this
      clear ha hs hk ha0
      by_cases h1 : 511 < n
      · skip
        go_enter Tryz.func137,Tryz.ntmps137
        have hp := Hp.start [] w
        go_wp2_with (first | ((with_reducible refine Qbj ?_);(conv => whnf);refine Bx.mk ?_;(try simp only [zp,zq,z0,z1])) | ((with_reducible apply Qao hp);exact za rfl;exact rfl;clear hp;(try clear w1);intro g w1 hp;simp only [zp,zq,z0,z1]) | ((with_reducible apply Qag hp);exact ii;exact rfl;clear hp;(try clear w1);intro g w1 hp;simp only [zp,zq,z0,z1]) | ((with_reducible apply Qaa hp);exact zt rfl;exact ii;exact ii;(first | exact zl rfl | exact Qad (by omega));(first | (with_reducible exact Qab (by omega)) | (simp only [n0,Nat.reduceAdd,n1,n2,n3,n4,n5,n6,n7,n8,n9];try rfl));simp only [zp,zq,z0,z1]) | ((with_reducible apply Qah hp);exact zt rfl;exact za rfl;exact rfl;exact Sz.z;exact rfl;exact ii;(first | (with_reducible exact Qab (by omega)) | (simp only [n0,Nat.reduceAdd,n1,n2,n3,n4,n5,n6,n7,n8,n9];try rfl));(first | exact zl rfl | exact Qad (by omega));exact rfl;exact ii;clear hp;(try clear w1);intro w1 hp) | ((with_reducible apply Qar hp);exact ii;exact ii;exact rfl;decide;exact (rfl : _ = Value.slice none 0 0);exact zy rfl;exact ii;exact rfl;exact rfl;decide;(unfold maxLen;decide);decide;clear hp;(try clear w1);intro g cap junk w1 hl1 hl2 hl3 hp;simp only [zp,zq,z0,z1]) | ((with_reducible apply Qay hp);exact ii;exact ii;exact rfl;decide;exact zy rfl;(first | exact List.Perm.refl _ | exact List.perm_middle (l₁ := [_]) | exact List.perm_middle (l₁ := [_,_]) | exact List.perm_middle (l₁ := [_,_,_]) | exact List.perm_middle (l₁ := [_,_,_,_]) | exact List.perm_middle (l₁ := [_,_,_,_,_]));(first | exact pcs_length _ | (simp only [List.length_map,Nat.mul_one]));assumption;assumption;assumption;exact zy rfl;exact ii;exact rfl;exact rfl;decide;(unfold maxLen;omega);omega;clear hp;(try clear w1);intro g cap junk w1 hl1 hl2 hl3 hp;(try dsimp only [List.cons_append,List.nil_append] at hp);simp only [zp,zq,z0,z1]) | ((with_reducible refine Qak hp (HS.out _) ?_);clear hp;(try clear w1);intro w1 hp))
        exact bodyPost_ret (Qaz rfl ⟨_,rfl,Qal hp (Nat.le_of_ble_eq_true rfl)⟩ rfl) rfl ⟨rfl,hp.keep⟩
      · skip
        go_enter Tryz.func137,Tryz.ntmps137
        have hp := Hp.start [] w
        go_wp2_with (first | ((with_reducible refine Qbj ?_);(conv => whnf);refine Bx.mk ?_;(try simp only [zp,zq,z0,z1])) | ((with_reducible apply Qao hp);exact za rfl;exact rfl;clear hp;(try clear w1);intro g w1 hp;simp only [zp,zq,z0,z1]) | ((with_reducible apply Qag hp);exact ii;exact rfl;clear hp;(try clear w1);intro g w1 hp;simp only [zp,zq,z0,z1]) | ((with_reducible apply Qaa hp);exact zt rfl;exact ii;exact ii;(first | exact zl rfl | exact Qad (by omega));(first | (with_reducible exact Qab (by omega)) | (simp only [n0,Nat.reduceAdd,n1,n2,n3,n4,n5,n6,n7,n8,n9];try rfl));simp only [zp,zq,z0,z1]) | ((with_reducible apply Qah hp);exact zt rfl;exact za rfl;exact rfl;exact Sz.z;exact rfl;exact ii;(first | (with_reducible exact Qab (by omega)) | (simp only [n0,Nat.reduceAdd,n1,n2,n3,n4,n5,n6,n7,n8,n9];try rfl));(first | exact zl rfl | exact Qad (by omega));exact rfl;exact ii;clear hp;(try clear w1);intro w1 hp) | ((with_reducible apply Qar hp);exact ii;exact ii;exact rfl;decide;exact (rfl : _ = Value.slice none 0 0);exact zy rfl;exact ii;exact rfl;exact rfl;decide;(unfold maxLen;decide);decide;clear hp;(try clear w1);intro g cap junk w1 hl1 hl2 hl3 hp;simp only [zp,zq,z0,z1]) | ((with_reducible apply Qay hp);exact ii;exact ii;exact rfl;decide;exact zy rfl;(first | exact List.Perm.refl _ | exact List.perm_middle (l₁ := [_]) | exact List.perm_middle (l₁ := [_,_]) | exact List.perm_middle (l₁ := [_,_,_]) | exact List.perm_middle (l₁ := [_,_,_,_]) | exact List.perm_middle (l₁ := [_,_,_,_,_]));(first | exact pcs_length _ | (simp only [List.length_map,Nat.mul_one]));assumption;assumption;assumption;exact zy rfl;exact ii;exact rfl;exact rfl;decide;(unfold maxLen;omega);omega;clear hp;(try clear w1);intro g cap junk w1 hl1 hl2 hl3 hp;(try dsimp only [List.cons_append,List.nil_append] at hp);simp only [zp,zq,z0,z1]) | ((with_reducible refine Qak hp (HS.out _) ?_);clear hp;(try clear w1);intro w1 hp))
        exact bodyPost_ret (Qaz rfl ⟨_,rfl,Qal hp (Nat.le_of_ble_eq_true rfl)⟩ rfl) rfl ⟨rfl,hp.keep⟩
    · have hsg : (sgn a == 0) = false := by
        have : sgn a ≠ 0 := by unfold sgn;split <;> (try split) <;> omega
        simp [this]
      by_cases h1 : 511 < n
      · have hk : ¬ shok a n := fun h => by rcases h.2 with h | h;exact ha0 h;omega
        unfold shlv
        rw [if_neg hk,decide_eq_false hk,Qdn]
        have HS := Lib.hid hs
        clear ha hs hk ha0
        go_enter Tryz.func137,Tryz.ntmps137
        have hp := Hp.start [] w
        go_wp2_with (first | ((with_reducible refine Qbj ?_);(conv => whnf);refine Bx.mk ?_;(try simp only [zp,zq,z0,z1])) | ((with_reducible apply Qao hp);exact za rfl;exact rfl;clear hp;(try clear w1);intro g w1 hp;simp only [zp,zq,z0,z1]) | ((with_reducible apply Qag hp);exact ii;exact rfl;clear hp;(try clear w1);intro g w1 hp;simp only [zp,zq,z0,z1]) | ((with_reducible apply Qaa hp);exact zt rfl;exact ii;exact ii;(first | exact zl rfl | exact Qad (by omega));(first | (with_reducible exact Qab (by omega)) | (simp only [n0,Nat.reduceAdd,n1,n2,n3,n4,n5,n6,n7,n8,n9];try rfl));simp only [zp,zq,z0,z1]) | ((with_reducible apply Qah hp);exact zt rfl;exact za rfl;exact rfl;exact Sz.z;exact rfl;exact ii;(first | (with_reducible exact Qab (by omega)) | (simp only [n0,Nat.reduceAdd,n1,n2,n3,n4,n5,n6,n7,n8,n9];try rfl));(first | exact zl rfl | exact Qad (by omega));exact rfl;exact ii;clear hp;(try clear w1);intro w1 hp) | ((with_reducible apply Qar hp);exact ii;exact ii;exact rfl;decide;exact (rfl : _ = Value.slice none 0 0);exact zy rfl;exact ii;exact rfl;exact rfl;decide;(unfold maxLen;decide);decide;clear hp;(try clear w1);intro g cap junk w1 hl1 hl2 hl3 hp;simp only [zp,zq,z0,z1]) | ((with_reducible apply Qay hp);exact ii;exact ii;exact rfl;decide;exact zy rfl;(first | exact List.Perm.refl _ | exact List.perm_middle (l₁ := [_]) | exact List.perm_middle (l₁ := [_,_]) | exact List.perm_middle (l₁ := [_,_,_]) | exact List.perm_middle (l₁ := [_,_,_,_]) | exact List.perm_middle (l₁ := [_,_,_,_,_]));(first | exact pcs_length _ | (simp only [List.length_map,Nat.mul_one]));assumption;assumption;assumption;exact zy rfl;exact ii;exact rfl;exact rfl;decide;(unfold maxLen;omega);omega;clear hp;(try clear w1);intro g cap junk w1 hl1 hl2 hl3 hp;(try dsimp only [List.cons_append,List.nil_append] at hp);simp only [zp,zq,z0,z1]) | ((with_reducible refine Qak hp (HS.out _) ?_);clear hp;(try clear w1);intro w1 hp))
        exact bodyPost_ret (Qaz rfl ⟨_,rfl,Qal hp (Nat.le_of_ble_eq_true rfl)⟩ rfl) rfl ⟨rfl,hp.keep⟩
      · obtain ⟨m,rfl⟩ : ∃ m : Nat,n = m := ⟨n.toNat,by omega⟩
        have hm : m ≤ 511 := by omega
        have key : shok a m ↔ Fit (a * 2 ^ m) := by
          unfold shok
          rw [Int.toNat_natCast]
          exact ⟨fun h => by rcases h.2 with h | h;exact absurd h ha0;exact h.2,fun h => ⟨by omega,.inr ⟨by omega,h⟩⟩⟩
        have e1 : shlv a m = fz (a * 2 ^ m) := by
          unfold shlv fz
          rw [Int.toNat_natCast]
          by_cases hf : Fit (a * 2 ^ m)
          · rw [if_pos (key.2 hf),if_pos hf]
          · rw [if_neg (fun h => hf (key.1 h)),if_neg hf]
        have e2 : decide (shok a m) = decide (Fit (a * 2 ^ m)) := decide_eq_decide.2 key
        rw [e1,e2]
        have RO : Hid (∀ v w,BSl w v (a * 2 ^ m) (m + 520) → Calls Tryz.prog 110 #[v] w (Ret (.tuple #[W (fz (a * 2 ^ m)),.bool (decide (Fit (a * 2 ^ m)))]) w)) := Lib.hid fun v w h => Qmf (a * 2 ^ m) (m + 520) (by omega) (by omega) (shl_room ha m) v w h
        have HS := Lib.hid hs
        have LA := Lib.hid fun w => Qft a ha w
        clear e1 e2 ha hs ha0 key
        generalize fz (a * 2 ^ m) = r at *
        generalize decide (Fit (a * 2 ^ m)) = o at *
        go_enter Tryz.func137,Tryz.ntmps137
        have hp := Hp.start [] w
        go_upto_region 6 with (first | ((with_reducible refine Qbj ?_);(conv => whnf);refine Bx.mk ?_;(try simp only [zp,zq,z0,z1])) | ((with_reducible apply Qao hp);exact za rfl;exact rfl;clear hp;(try clear w1);intro g w1 hp;simp only [zp,zq,z0,z1]) | ((with_reducible apply Qag hp);exact ii;exact rfl;clear hp;(try clear w1);intro g w1 hp;simp only [zp,zq,z0,z1]) | ((with_reducible apply Qaa hp);exact zt rfl;exact ii;exact ii;(first | exact zl rfl | exact Qad (by omega));(first | (with_reducible exact Qab (by omega)) | (simp only [n0,Nat.reduceAdd,n1,n2,n3,n4,n5,n6,n7,n8,n9];try rfl));simp only [zp,zq,z0,z1]) | ((with_reducible apply Qah hp);exact zt rfl;exact za rfl;exact rfl;exact Sz.z;exact rfl;exact ii;(first | (with_reducible exact Qab (by omega)) | (simp only [n0,Nat.reduceAdd,n1,n2,n3,n4,n5,n6,n7,n8,n9];try rfl));(first | exact zl rfl | exact Qad (by omega));exact rfl;exact ii;clear hp;(try clear w1);intro w1 hp) | ((with_reducible apply Qar hp);exact ii;exact ii;exact rfl;decide;exact (rfl : _ = Value.slice none 0 0);exact zy rfl;exact ii;exact rfl;exact rfl;decide;(unfold maxLen;decide);decide;clear hp;(try clear w1);intro g cap junk w1 hl1 hl2 hl3 hp;simp only [zp,zq,z0,z1]) | ((with_reducible apply Qay hp);exact ii;exact ii;exact rfl;decide;exact zy rfl;(first | exact List.Perm.refl _ | exact List.perm_middle (l₁ := [_]) | exact List.perm_middle (l₁ := [_,_]) | exact List.perm_middle (l₁ := [_,_,_]) | exact List.perm_middle (l₁ := [_,_,_,_]) | exact List.perm_middle (l₁ := [_,_,_,_,_]));(first | exact pcs_length _ | (simp only [List.length_map,Nat.mul_one]));assumption;assumption;assumption;exact zy rfl;exact ii;exact rfl;exact rfl;decide;(unfold maxLen;omega);omega;clear hp;(try clear w1);intro g cap junk w1 hl1 hl2 hl3 hp;(try dsimp only [List.cons_append,List.nil_append] at hp);simp only [zp,zq,z0,z1]) | ((with_reducible refine Qak hp (HS.out _) ?_);clear hp;(try clear w1);intro w1 hp) | ((with_reducible apply Qcx hp);exact ii;exact ii;exact zk rfl;exact zk rfl;omega;omega;clear hp;(try clear w1);intro g w1 hp;simp only [zp,zq,z0,z1]))
        rw [← List.append_nil (tab (fun _ => 0) m)] at hp
        go_wp2_with (first | ((with_reducible apply Qao hp);exact za rfl;exact rfl;clear hp;(try clear w1);intro g w1 hp;simp only [zp,zq,z0,z1]) | ((with_reducible apply Qag hp);exact ii;exact rfl;clear hp;(try clear w1);intro g w1 hp;simp only [zp,zq,z0,z1]) | ((with_reducible apply Qaa hp);exact zt rfl;exact ii;exact ii;(first | exact zl rfl | exact Qad (by omega));(first | (with_reducible exact Qab (by omega)) | (simp only [n0,Nat.reduceAdd,n1,n2,n3,n4,n5,n6,n7,n8,n9];try rfl));simp only [zp,zq,z0,z1]) | ((with_reducible apply Qah hp);exact zt rfl;exact za rfl;exact rfl;exact Sz.z;exact rfl;exact ii;(first | (with_reducible exact Qab (by omega)) | (simp only [n0,Nat.reduceAdd,n1,n2,n3,n4,n5,n6,n7,n8,n9];try rfl));(first | exact zl rfl | exact Qad (by omega));exact rfl;exact ii;clear hp;(try clear w1);intro w1 hp) | ((with_reducible apply Qar hp);exact ii;exact ii;exact rfl;decide;exact (rfl : _ = Value.slice none 0 0);exact zy rfl;exact ii;exact rfl;exact rfl;decide;(unfold maxLen;decide);decide;clear hp;(try clear w1);intro g cap junk w1 hl1 hl2 hl3 hp;simp only [zp,zq,z0,z1]) | ((with_reducible apply Qay hp);exact ii;exact ii;exact rfl;decide;exact zy rfl;(first | exact List.Perm.refl _ | exact List.perm_middle (l₁ := [_]) | exact List.perm_middle (l₁ := [_,_]) | exact List.perm_middle (l₁ := [_,_,_]) | exact List.perm_middle (l₁ := [_,_,_,_]) | exact List.perm_middle (l₁ := [_,_,_,_,_]));(first | exact pcs_length _ | (simp only [List.length_map,Nat.mul_one]));assumption;assumption;assumption;exact zy rfl;exact ii;exact rfl;exact rfl;decide;(unfold maxLen;omega);omega;clear hp;(try clear w1);intro g cap junk w1 hl1 hl2 hl3 hp;(try dsimp only [List.cons_append,List.nil_append] at hp);simp only [zp,zq,z0,z1]) | ((with_reducible refine Qca hp (LA.out _) ?_);clear hp;(try clear w1);intro g w1 hp) | ((with_reducible apply Qay (n := m) (m := 520) (size := 1) (cap := m) (xs := tab (fun _ => 0) m) (junk := []) (news := tab (bt a) 520) hp);exact ii;exact ii;exact rfl;decide;exact zy rfl;exact List.perm_middle (l₁ := [_]);(rw [Qbq,Nat.mul_one]);(simp [Qbq]);omega;(unfold maxLen;omega);exact zy rfl;exact ii;(rw [Qbq]);exact Qeg _ _;omega;(unfold maxLen;omega);omega;clear hp;(try clear w1);intro g cap junk w1 hl1 hl2 hl3 hp;(try dsimp only [List.cons_append,List.nil_append] at hp);simp only [zp,zq,z0,z1]) | ((with_reducible refine Qak hp (RO.out _ _ (shl_bsl hp.blk)) ?_);clear hp;(try clear w1);intro w1 hp))
        exact bodyPost_ret (Qaz rfl ⟨_,rfl,Qal hp (Nat.le_of_ble_eq_true rfl)⟩ rfl) rfl ⟨rfl,hp.keep⟩
end Go.Proofs.YtblffafmkpnjdaaGreat
