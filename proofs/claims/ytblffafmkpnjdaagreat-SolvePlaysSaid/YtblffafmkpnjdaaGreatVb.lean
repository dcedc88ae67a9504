/-
  Package ninepinref01: Shr; package ninepinref02: In, raw, Add, Sub, Quotient, Mul; package fix: raw, sum, opposite, Add, Sub, quotient, times, Mul (contracts).
  Package fix: raw, sum, opposite, Add, Sub, quotient, times, Mul; package ninepinref02: raw, Add, Sub, Quotient, Mul (contracts).
-/
import Derived.Test.YtblffafmkpnjdaaGreatSb
import Derived.Test.YtblffafmkpnjdaaGreatCd
import Derived.Test.YtblffafmkpnjdaaGreatDf
set_option linter.unusedSimpArgs false
set_option linter.unusedVariables false
set_option maxRecDepth 100000
namespace Go.Proofs.YtblffafmkpnjdaaGreat
open Go Go.RowKit
attribute [local irreducible] wpList
theorem bt_down (a : Int) (n k : Nat) : bt a (n + k) = bt (a / 2 ^ n) k := by
  unfold bt
  rw [Int.pow_add,Int.ediv_ediv_of_nonneg (Int.le_of_lt (Qap n))]
theorem BSl.window {w : World} {g cap n : Nat} {t : TypeId} {x : Int} {L : Nat} (h : w.heap[g]? = some (.cells (tab (bt x) L).toArray t (0,0))) (m : Nat) (hm : n + m ≤ L) : BSl w (.slice (some ⟨g,n,none⟩) m cap) (x / 2 ^ n) m :=
  ⟨g,n,cap,_,t,_,rfl,h,fun k hk => by
    rw [Nat.mul_one,Qbd (by omega),bt_down]⟩
theorem shr_bd {a : Int} (ha : Fit a) (n : Nat) : Fit (a / 2 ^ n) := by
  have h := Qly (n := (n : Int)) ha
  by_cases hn : n ≤ 511
  · unfold shv at h
    rw [if_neg (by omega),Int.toNat_natCast,Nat.min_eq_left hn] at h
    exact h
  · have h1 := Qap n
    unfold Fit at *
    have e : (2 : Int) ^ n = M511 * 2 ^ (n - 511) := by rw [Qev (a := 511) rfl,← Int.pow_add,show 511 + (n - 511) = n by omega]
    have h2 := Qap (n - 511)
    have h3 : M511 ≤ 2 ^ n := by
      rw [e]
      have := Int.mul_le_mul_of_nonneg_left (show (1 : Int) ≤ 2 ^ (n - 511) by omega) (show (0 : Int) ≤ M511 by unfold M511;omega)
      omega
    constructor
    · exact (Int.le_ediv_iff_mul_le h1).2 (by have := Int.mul_le_mul_of_nonneg_left (show (1 : Int) ≤ 2 ^ n by omega) (show (0 : Int) ≤ M511 by unfold M511;omega);rw [Int.neg_mul];omega)
    · exact Int.lt_of_lt_of_le (Int.ediv_lt_of_lt_mul h1 (by have := Int.mul_le_mul_of_nonneg_left (show (1 : Int) ≤ 2 ^ n by omega) (show (0 : Int) ≤ M511 by unfold M511;omega);omega)) (Int.le_refl _)
set_option maxHeartbeats 4000000 in
theorem rshr_at (a : Int) (ha : Fit a) (n : Nat) (hn : n ≤ 511) (k : Int) (hk : k = n ∨ (511 < k ∧ n = 511)) (w : World) : Calls Tryz.prog 136 #[W a,.int .i64 k] w (Ret (W (a / 2 ^ n)) w) := by
  have LA := Lib.hid fun w => Qmh a ha 1024 (by omega) w
  have hf := shr_bd ha n
  obtain ⟨r,hr⟩ : ∃ r,r = a / 2 ^ n := ⟨_,rfl⟩
  rw [← hr]
  have RO : Hid (∀ v w,BSl w v (a / 2 ^ n) 512 → Calls Tryz.prog 110 #[v] w (Ret (.tuple #[W r,.bool true]) w)) := Lib.hid fun v w h => by
    rw [hr]
    have := Qmf (a / 2 ^ n) 512 (by omega) (by omega) (by rw [show 512 - 1 = 511 from rfl,← Qev (a := 511) rfl];exact hf) v w h
    rw [if_pos hf,decide_eq_true hf] at this
    exact this
  clear hf hr
  rcases hk with rfl | ⟨h1,rfl⟩
  · have h0 : ¬ (n : Int) < 0 := by omega
    have h5 : ¬ (511 : Int) < (n : Int) := by omega
    have h6 : (n : Int) + 512 ≤ 1024 := by omega
    have h7 : (n : Int) ≤ (n : Int) + 512 := by omega
    have h8 : (0 : Int) ≤ (n : Int) + 512 := by omega
    clear ha
    go_enter Tryz.func136,Tryz.ntmps136
    have hp := Hp.start [] w
    go_wp2_with (first | ((with_reducible apply Qao hp);exact za rfl;exact rfl;clear hp;(try clear w1);intro g w1 hp;simp only [zp,zq,z0,z1]) | ((with_reducible apply Qag hp);exact ii;exact rfl;clear hp;(try clear w1);intro g w1 hp;simp only [zp,zq,z0,z1]) | ((with_reducible apply Qaa hp);exact zt rfl;exact ii;exact ii;(first | exact zl rfl | exact Qad (by omega));(first | (with_reducible exact Qab (by omega)) | (simp only [n0,Nat.reduceAdd,n1,n2,n3,n4,n5,n6,n7,n8,n9];try rfl));simp only [zp,zq,z0,z1]) | ((with_reducible apply Qah hp);exact zt rfl;exact za rfl;exact rfl;exact Sz.z;exact rfl;exact ii;(first | (with_reducible exact Qab (by omega)) | (simp only [n0,Nat.reduceAdd,n1,n2,n3,n4,n5,n6,n7,n8,n9];try rfl));(first | exact zl rfl | exact Qad (by omega));exact rfl;exact ii;clear hp;(try clear w1);intro w1 hp) | ((with_reducible refine Qca hp (LA.out _) ?_);clear hp;(try clear w1);intro g w1 hp) | ((with_reducible refine Qak hp (RO.out _ _ (BSl.window hp.blk 512 (by omega))) ?_);clear hp;(try clear w1);intro w1 hp))
    exact bodyPost_ret (Qaf rfl ⟨_,rfl,Qal hp (Nat.le_of_ble_eq_true rfl)⟩) rfl ⟨rfl,hp.keep⟩
  · have h0 : ¬ k < 0 := by omega
    clear ha
    go_enter Tryz.func136,Tryz.ntmps136
    have hp := Hp.start [] w
    go_wp2_with (first | ((with_reducible apply Qao hp);exact za rfl;exact rfl;clear hp;(try clear w1);intro g w1 hp;simp only [zp,zq,z0,z1]) | ((with_reducible apply Qag hp);exact ii;exact rfl;clear hp;(try clear w1);intro g w1 hp;simp only [zp,zq,z0,z1]) | ((with_reducible apply Qaa hp);exact zt rfl;exact ii;exact ii;(first | exact zl rfl | exact Qad (by omega));(first | (with_reducible exact Qab (by omega)) | (simp only [n0,Nat.reduceAdd,n1,n2,n3,n4,n5,n6,n7,n8,n9];try rfl));simp only [zp,zq,z0,z1]) | ((with_reducible apply Qah hp);exact zt rfl;exact za rfl;exact rfl;exact Sz.z;exact rfl;exact ii;(first | (with_reducible exact Qab (by omega)) | (simp only [n0,Nat.reduceAdd,n1,n2,n3,n4,n5,n6,n7,n8,n9];try rfl));(first | exact zl rfl | exact Qad (by omega));exact rfl;exact ii;clear hp;(try clear w1);intro w1 hp) | ((with_reducible refine Qca hp (LA.out _) ?_);clear hp;(try clear w1);intro g w1 hp) | ((with_reducible refine Qak hp (RO.out _ _ (BSl.window hp.blk 512 (by omega))) ?_);clear hp;(try clear w1);intro w1 hp))
    exact bodyPost_ret (Qaf rfl ⟨_,rfl,Qal hp (Nat.le_of_ble_eq_true rfl)⟩) rfl ⟨rfl,hp.keep⟩
theorem rshr_any (a n : Int) (ha : Fit a) (w : World) : Calls Tryz.prog 136 #[W a,.int .i64 n] w (Ret (W (shv a n)) w) := by
  unfold shv
  by_cases h : n < 0
  · rw [if_pos h]
    clear ha
    go_enter Tryz.func136,Tryz.ntmps136
    have hp := Hp.start [] w
    go_wp2_with (first | ((with_reducible apply Qao hp);exact za rfl;exact rfl;clear hp;(try clear w1);intro g w1 hp;simp only [zp,zq,z0,z1]) | ((with_reducible apply Qag hp);exact ii;exact rfl;clear hp;(try clear w1);intro g w1 hp;simp only [zp,zq,z0,z1]) | ((with_reducible apply Qaa hp);exact zt rfl;exact ii;exact ii;(first | exact zl rfl | exact Qad (by omega));(first | (with_reducible exact Qab (by omega)) | (simp only [n0,Nat.reduceAdd,n1,n2,n3,n4,n5,n6,n7,n8,n9];try rfl));simp only [zp,zq,z0,z1]) | ((with_reducible apply Qah hp);exact zt rfl;exact za rfl;exact rfl;exact Sz.z;exact rfl;exact ii;(first | (with_reducible exact Qab (by omega)) | (simp only [n0,Nat.reduceAdd,n1,n2,n3,n4,n5,n6,n7,n8,n9];try rfl));(first | exact zl rfl | exact Qad (by omega));exact rfl;exact ii;clear hp;(try clear w1);intro w1 hp))
    exact bodyPost_ret (Qaf rfl ⟨_,rfl,Qal hp (Nat.le_of_ble_eq_true rfl)⟩) rfl ⟨rfl,hp.keep⟩
  · rw [if_neg h]
    exact rshr_at a ha _ (Nat.min_le_right _ _) n (by omega) w
set_option maxHeartbeats 4000000 in
theorem r2in_any (n s : Int) (hn : Fit n) (hsI : I64 s) (w : World) : Calls Tryz.prog 124 #[W n,.int .i64 s] w (Ret (.int .i64 (inv n s)) w) := by
  have HB := Lib.hid fun w => Qdk n hn w
  unfold inv
  by_cases hs : 32 ≤ s
  · rw [if_pos hs]
    have SH := Lib.hid fun w => rshr_any n (s - 32) hn w
    have WI := Lib.hid fun w => Qdw (shv n (s - 32)) (Qly hn) w
    generalize shv n (s - 32) = m at *
    generalize cl m = r at *
    have h0 : ¬ s < 0 := by omega
    have hs9 : s < 9223372036854775808 := hsI.2
    clear hn hsI
    go_enter Tryz.func124,Tryz.ntmps124
    have hp := Hp.start [] w
    go_wp2_with (first | ((with_reducible apply Qao hp);exact za rfl;exact rfl;clear hp;(try clear w1);intro g w1 hp;simp only [zp,zq,z0,z1]) | ((with_reducible apply Qag hp);exact ii;exact rfl;clear hp;(try clear w1);intro g w1 hp;simp only [zp,zq,z0,z1]) | ((with_reducible apply Qaa hp);exact zt rfl;exact ii;exact ii;(first | exact zl rfl | exact Qad (by omega));(first | (with_reducible exact Qab (by omega)) | (simp only [n0,Nat.reduceAdd,n1,n2,n3,n4,n5,n6,n7,n8,n9];try rfl));simp only [zp,zq,z0,z1]) | ((with_reducible apply Qah hp);exact zt rfl;exact za rfl;exact rfl;exact Sz.z;exact rfl;exact ii;(first | (with_reducible exact Qab (by omega)) | (simp only [n0,Nat.reduceAdd,n1,n2,n3,n4,n5,n6,n7,n8,n9];try rfl));(first | exact zl rfl | exact Qad (by omega));exact rfl;exact ii;clear hp;(try clear w1);intro w1 hp) | ((with_reducible first | refine Qak hp (SH.out _) ?_ | refine Qak hp (WI.out _) ?_);clear hp;(try clear w1);intro w1 hp))
    exact bodyPost_ret (Qaf rfl rfl) rfl ⟨rfl,hp.keep⟩
  · rw [if_neg hs]
    obtain ⟨k,hk⟩ : ∃ k,k = max s 0 := ⟨_,rfl⟩
    rw [← hk]
    have SL := Lib.hid fun w => rshl_any n (32 - k) hn w
    by_cases hok : shok n (32 - k)
    · have hsl : shlv n (32 - k) = n * 2 ^ (32 - k).toNat := if_pos hok
      have hfm : Fit (n * 2 ^ (32 - k).toNat) := by
        rcases hok.2 with h | h
        · rw [h,Int.zero_mul];exact Qct
        · exact h.2
      rw [decide_eq_true hok,hsl] at SL
      have WI := Lib.hid fun w => Qdw _ hfm w
      clear hfm hsl hok
      generalize n * 2 ^ (32 - k).toNat = m at *
      generalize cl m = r at *
      clear hn HB
      by_cases h0 : s < 0
      · obtain rfl : k = 0 := by omega
        rw [show (32 : Int) - 0 = 32 from rfl] at SL
        clear hk
        go_enter Tryz.func124,Tryz.ntmps124
        have hp := Hp.start [] w
        go_wp2_with (first | ((with_reducible apply Qao hp);exact za rfl;exact rfl;clear hp;(try clear w1);intro g w1 hp;simp only [zp,zq,z0,z1]) | ((with_reducible apply Qag hp);exact ii;exact rfl;clear hp;(try clear w1);intro g w1 hp;simp only [zp,zq,z0,z1]) | ((with_reducible apply Qaa hp);exact zt rfl;exact ii;exact ii;(first | exact zl rfl | exact Qad (by omega));(first | (with_reducible exact Qab (by omega)) | (simp only [n0,Nat.reduceAdd,n1,n2,n3,n4,n5,n6,n7,n8,n9];try rfl));simp only [zp,zq,z0,z1]) | ((with_reducible apply Qah hp);exact zt rfl;exact za rfl;exact rfl;exact Sz.z;exact rfl;exact ii;(first | (with_reducible exact Qab (by omega)) | (simp only [n0,Nat.reduceAdd,n1,n2,n3,n4,n5,n6,n7,n8,n9];try rfl));(first | exact zl rfl | exact Qad (by omega));exact rfl;exact ii;clear hp;(try clear w1);intro w1 hp) | ((with_reducible first | refine Qak hp (SL.out _) ?_ | refine Qak hp (WI.out _) ?_);clear hp;(try clear w1);intro w1 hp))
        exact bodyPost_ret (Qaf rfl rfl) rfl ⟨rfl,hp.keep⟩
      · obtain rfl : k = s := by omega
        have hs9 : -9223372036854775808 ≤ 32 - k := by omega
        clear hk
        go_enter Tryz.func124,Tryz.ntmps124
        have hp := Hp.start [] w
        go_wp2_with (first | ((with_reducible apply Qao hp);exact za rfl;exact rfl;clear hp;(try clear w1);intro g w1 hp;simp only [zp,zq,z0,z1]) | ((with_reducible apply Qag hp);exact ii;exact rfl;clear hp;(try clear w1);intro g w1 hp;simp only [zp,zq,z0,z1]) | ((with_reducible apply Qaa hp);exact zt rfl;exact ii;exact ii;(first | exact zl rfl | exact Qad (by omega));(first | (with_reducible exact Qab (by omega)) | (simp only [n0,Nat.reduceAdd,n1,n2,n3,n4,n5,n6,n7,n8,n9];try rfl));simp only [zp,zq,z0,z1]) | ((with_reducible apply Qah hp);exact zt rfl;exact za rfl;exact rfl;exact Sz.z;exact rfl;exact ii;(first | (with_reducible exact Qab (by omega)) | (simp only [n0,Nat.reduceAdd,n1,n2,n3,n4,n5,n6,n7,n8,n9];try rfl));(first | exact zl rfl | exact Qad (by omega));exact rfl;exact ii;clear hp;(try clear w1);intro w1 hp) | ((with_reducible first | refine Qak hp (SL.out _) ?_ | refine Qak hp (WI.out _) ?_);clear hp;(try clear w1);intro w1 hp))
        exact bodyPost_ret (Qaf rfl rfl) rfl ⟨rfl,hp.keep⟩
    · have hn0 : n ≠ 0 := fun h => hok ⟨by omega,.inl h⟩
      have hnf : ¬ Fit (n * 2 ^ (32 - k).toNat) := fun h => hok ⟨by omega,.inr ⟨by omega,h⟩⟩
      rw [decide_eq_false hok] at SL
      generalize shlv n (32 - k) = m at *
      have hpw := Qap (32 - k).toNat
      by_cases hb : n < 0
      · have e : cl (n * 2 ^ (32 - k).toNat) = -9223372036854775808 := by
          have := Int.mul_neg_of_neg_of_pos hb hpw
          unfold cl
          rw [if_pos (by unfold Fit M511 at hnf;omega)]
        rw [e]
        have HB' : Hid (∀ w,Calls Tryz.prog 116 #[W n] w (Ret (.bool true) w)) := Lib.hid fun w => by
          have := HB.out w
          rwa [decide_eq_true hb] at this
        clear e hpw hnf hn0 hok hb hn HB
        by_cases h0 : s < 0
        · obtain rfl : k = 0 := by omega
          rw [show (32 : Int) - 0 = 32 from rfl] at SL
          clear hk
          go_enter Tryz.func124,Tryz.ntmps124
          have hp := Hp.start [] w
          go_wp2_with (first | ((with_reducible apply Qao hp);exact za rfl;exact rfl;clear hp;(try clear w1);intro g w1 hp;simp only [zp,zq,z0,z1]) | ((with_reducible apply Qag hp);exact ii;exact rfl;clear hp;(try clear w1);intro g w1 hp;simp only [zp,zq,z0,z1]) | ((with_reducible apply Qaa hp);exact zt rfl;exact ii;exact ii;(first | exact zl rfl | exact Qad (by omega));(first | (with_reducible exact Qab (by omega)) | (simp only [n0,Nat.reduceAdd,n1,n2,n3,n4,n5,n6,n7,n8,n9];try rfl));simp only [zp,zq,z0,z1]) | ((with_reducible apply Qah hp);exact zt rfl;exact za rfl;exact rfl;exact Sz.z;exact rfl;exact ii;(first | (with_reducible exact Qab (by omega)) | (simp only [n0,Nat.reduceAdd,n1,n2,n3,n4,n5,n6,n7,n8,n9];try rfl));(first | exact zl rfl | exact Qad (by omega));exact rfl;exact ii;clear hp;(try clear w1);intro w1 hp) | ((with_reducible first | refine Qak hp (SL.out _) ?_ | refine Qak hp (HB'.out _) ?_);clear hp;(try clear w1);intro w1 hp))
          exact bodyPost_ret (Qaf rfl rfl) rfl ⟨rfl,hp.keep⟩
        · obtain rfl : k = s := by omega
          have hs9 : -9223372036854775808 ≤ 32 - k := by omega
          clear hk
          go_enter Tryz.func124,Tryz.ntmps124
          have hp := Hp.start [] w
          go_wp2_with (first | ((with_reducible apply Qao hp);exact za rfl;exact rfl;clear hp;(try clear w1);intro g w1 hp;simp only [zp,zq,z0,z1]) | ((with_reducible apply Qag hp);exact ii;exact rfl;clear hp;(try clear w1);intro g w1 hp;simp only [zp,zq,z0,z1]) | ((with_reducible apply Qaa hp);exact zt rfl;exact ii;exact ii;(first | exact zl rfl | exact Qad (by omega));(first | (with_reducible exact Qab (by omega)) | (simp only [n0,Nat.reduceAdd,n1,n2,n3,n4,n5,n6,n7,n8,n9];try rfl));simp only [zp,zq,z0,z1]) | ((with_reducible apply Qah hp);exact zt rfl;exact za rfl;exact rfl;exact Sz.z;exact rfl;exact ii;(first | (with_reducible exact Qab (by omega)) | (simp only [n0,Nat.reduceAdd,n1,n2,n3,n4,n5,n6,n7,n8,n9];try rfl));(first | exact zl rfl | exact Qad (by omega));exact rfl;exact ii;clear hp;(try clear w1);intro w1 hp) | ((with_reducible first | refine Qak hp (SL.out _) ?_ | refine Qak hp (HB'.out _) ?_);clear hp;(try clear w1);intro w1 hp))
          exact bodyPost_ret (Qaf rfl rfl) rfl ⟨rfl,hp.keep⟩
      · have e : cl (n * 2 ^ (32 - k).toNat) = 9223372036854775807 := by
          have := Int.mul_nonneg (show 0 ≤ n by omega) (Int.le_of_lt hpw)
          unfold cl
          rw [if_neg (by omega),if_pos (by unfold Fit M511 at hnf;omega)]
        rw [e]
        have HB' : Hid (∀ w,Calls Tryz.prog 116 #[W n] w (Ret (.bool false) w)) := Lib.hid fun w => by
          have := HB.out w
          rwa [decide_eq_false hb] at this
        clear e hpw hnf hn0 hok hb hn HB
        by_cases h0 : s < 0
        · obtain rfl : k = 0 := by omega
          rw [show (32 : Int) - 0 = 32 from rfl] at SL
          clear hk
          go_enter Tryz.func124,Tryz.ntmps124
          have hp := Hp.start [] w
          go_wp2_with (first | ((with_reducible apply Qao hp);exact za rfl;exact rfl;clear hp;(try clear w1);intro g w1 hp;simp only [zp,zq,z0,z1]) | ((with_reducible apply Qag hp);exact ii;exact rfl;clear hp;(try clear w1);intro g w1 hp;simp only [zp,zq,z0,z1]) | ((with_reducible apply Qaa hp);exact zt rfl;exact ii;exact ii;(first | exact zl rfl | exact Qad (by omega));(first | (with_reducible exact Qab (by omega)) | (simp only [n0,Nat.reduceAdd,n1,n2,n3,n4,n5,n6,n7,n8,n9];try rfl));simp only [zp,zq,z0,z1]) | ((with_reducible apply Qah hp);exact zt rfl;exact za rfl;exact rfl;exact Sz.z;exact rfl;exact ii;(first | (with_reducible exact Qab (by omega)) | (simp only [n0,Nat.reduceAdd,n1,n2,n3,n4,n5,n6,n7,n8,n9];try rfl));(first | exact zl rfl | exact Qad (by omega));exact rfl;exact ii;clear hp;(try clear w1);intro w1 hp) | ((with_reducible first | refine Qak hp (SL.out _) ?_ | refine Qak hp (HB'.out _) ?_);clear hp;(try clear w1);intro w1 hp))
          exact bodyPost_ret (Qaf rfl rfl) rfl ⟨rfl,hp.keep⟩
        · obtain rfl : k = s := by omega
          have hs9 : -9223372036854775808 ≤ 32 - k := by omega
          clear hk
          go_enter Tryz.func124,Tryz.ntmps124
          have hp := Hp.start [] w
          go_wp2_with (first | ((with_reducible apply Qao hp);exact za rfl;exact rfl;clear hp;(try clear w1);intro g w1 hp;simp only [zp,zq,z0,z1]) | ((with_reducible apply Qag hp);exact ii;exact rfl;clear hp;(try clear w1);intro g w1 hp;simp only [zp,zq,z0,z1]) | ((with_reducible apply Qaa hp);exact zt rfl;exact ii;exact ii;(first | exact zl rfl | exact Qad (by omega));(first | (with_reducible exact Qab (by omega)) | (simp only [n0,Nat.reduceAdd,n1,n2,n3,n4,n5,n6,n7,n8,n9];try rfl));simp only [zp,zq,z0,z1]) | ((with_reducible apply Qah hp);exact zt rfl;exact za rfl;exact rfl;exact Sz.z;exact rfl;exact ii;(first | (with_reducible exact Qab (by omega)) | (simp only [n0,Nat.reduceAdd,n1,n2,n3,n4,n5,n6,n7,n8,n9];try rfl));(first | exact zl rfl | exact Qad (by omega));exact rfl;exact ii;clear hp;(try clear w1);intro w1 hp) | ((with_reducible first | refine Qak hp (SL.out _) ?_ | refine Qak hp (HB'.out _) ?_);clear hp;(try clear w1);intro w1 hp))
          exact bodyPost_ret (Qaf rfl rfl) rfl ⟨rfl,hp.keep⟩
end Go.Proofs.YtblffafmkpnjdaaGreat
set_option linter.unusedSimpArgs false
set_option linter.unusedVariables false
set_option maxRecDepth 100000
namespace Go.Proofs.YtblffafmkpnjdaaGreat
open Go Go.RowKit
attribute [local irreducible] wpList
set_option maxHeartbeats 1000000 in
theorem Qgt (n : Int) (h : I64 n) (w : World) : Calls Tryz.prog 119 #[.int .i64 n] w (Ret (W n) w) := by
  have HO := Lib.hid fun w => Qol n h w
  clear h
  go_enter Tryz.func119,Tryz.ntmps119
  have hp := Hp.start [] w
  go_wp2_with (first | ((with_reducible apply Qag hp);exact ii;exact rfl;clear hp;(try clear w1);intro g w1 hp;simp only [zp,zq,z0,z1]) | ((with_reducible apply Qah hp);exact zt rfl;exact za rfl;exact rfl;exact Sz.z;exact rfl;exact ii;(first | (with_reducible exact Qab (by omega)) | (simp only [n0,Nat.reduceAdd,n1,n2,n3,n4,n5,n6,n7,n8,n9];try rfl));(first | exact zl rfl | exact Qad (by omega));exact rfl;exact ii;clear hp;(try clear w1);intro w1 hp) | ((with_reducible refine Qak hp (HO.out _) ?_);clear hp;(try clear w1);intro w1 hp))
  exact bodyPost_ret (Qaf rfl ⟨_,rfl,Qal hp (Nat.le_of_ble_eq_true rfl)⟩) rfl ⟨rfl,hp.keep⟩
set_option maxHeartbeats 1000000 in
theorem fsum_any (a b : Int) (ha : Fit a) (hb : Fit b) (h : Fit (a + b)) (w : World) : Calls Tryz.prog 118 #[W a,W b] w (Ret (W (a + b)) w) := by
  have hc := Qpg a b ha hb
  rw [show fz (a + b) = a + b from if_pos h] at hc
  have HC := Lib.hid hc
  clear hc ha hb h
  go_enter Tryz.func118,Tryz.ntmps118
  have hp := Hp.start [] w
  go_wp2_with (first | ((with_reducible apply Qao hp);exact za rfl;exact rfl;clear hp;(try clear w1);intro g w1 hp;simp only [zp,zq,z0,z1]) | ((with_reducible apply Qag hp);exact ii;exact rfl;clear hp;(try clear w1);intro g w1 hp;simp only [zp,zq,z0,z1]) | ((with_reducible apply Qaa hp);exact zt rfl;exact ii;exact ii;(first | exact zl rfl | exact Qad (by omega));(first | (with_reducible exact Qab (by omega)) | (simp only [n0,Nat.reduceAdd,n1,n2,n3,n4,n5,n6,n7,n8,n9];try rfl));simp only [zp,zq,z0,z1]) | ((with_reducible apply Qah hp);exact zt rfl;exact za rfl;exact rfl;exact Sz.z;exact rfl;exact ii;(first | (with_reducible exact Qab (by omega)) | (simp only [n0,Nat.reduceAdd,n1,n2,n3,n4,n5,n6,n7,n8,n9];try rfl));(first | exact zl rfl | exact Qad (by omega));exact rfl;exact ii;clear hp;(try clear w1);intro w1 hp) | ((with_reducible refine Qak hp (HC.out _) ?_);clear hp;(try clear w1);intro w1 hp))
  exact bodyPost_ret (Qaf rfl ⟨_,rfl,Qal hp (Nat.le_of_ble_eq_true rfl)⟩) rfl ⟨rfl,hp.keep⟩
set_option maxHeartbeats 1000000 in
theorem Qmg (a : Int) (ha : Fit a) (h : Fit (-a)) (w : World) : Calls Tryz.prog 129 #[W a] w (Ret (W (-a)) w) := by
  have hc := neg_any a ha
  rw [show fz (-a) = -a from if_pos h] at hc
  have HC := Lib.hid hc
  clear hc ha h
  go_enter Tryz.func129,Tryz.ntmps129
  have hp := Hp.start [] w
  go_wp2_with (first | ((with_reducible apply Qao hp);exact za rfl;exact rfl;clear hp;(try clear w1);intro g w1 hp;simp only [zp,zq,z0,z1]) | ((with_reducible apply Qag hp);exact ii;exact rfl;clear hp;(try clear w1);intro g w1 hp;simp only [zp,zq,z0,z1]) | ((with_reducible apply Qaa hp);exact zt rfl;exact ii;exact ii;(first | exact zl rfl | exact Qad (by omega));(first | (with_reducible exact Qab (by omega)) | (simp only [n0,Nat.reduceAdd,n1,n2,n3,n4,n5,n6,n7,n8,n9];try rfl));simp only [zp,zq,z0,z1]) | ((with_reducible apply Qah hp);exact zt rfl;exact za rfl;exact rfl;exact Sz.z;exact rfl;exact ii;(first | (with_reducible exact Qab (by omega)) | (simp only [n0,Nat.reduceAdd,n1,n2,n3,n4,n5,n6,n7,n8,n9];try rfl));(first | exact zl rfl | exact Qad (by omega));exact rfl;exact ii;clear hp;(try clear w1);intro w1 hp) | ((with_reducible refine Qak hp (HC.out _) ?_);clear hp;(try clear w1);intro w1 hp))
  exact bodyPost_ret (Qaf rfl ⟨_,rfl,Qal hp (Nat.le_of_ble_eq_true rfl)⟩) rfl ⟨rfl,hp.keep⟩
theorem Qfx {a b : Int} (ha : I64 a) (hb : I64 b) : Fit (a + b) := by unfold I64 at *;unfold Fit M511;omega
theorem Qjv {a : Int} (ha : I64 a) : Fit (-a) := by unfold I64 at *;unfold Fit M511;omega
theorem Qhb {a b : Int} (ha : I64 a) (hb : I64 b) : Fit (a + -b) := by unfold I64 at *;unfold Fit M511;omega
set_option maxHeartbeats 1000000 in
theorem Qir (a b : Int) (ha : I64 a) (hb : I64 b) (w : World) : Calls Tryz.prog 74 #[.int .i64 a,.int .i64 b] w (Ret (.int .i64 (cl (a + b))) w) := by
  have A1 := Lib.hid (Qgt a ha)
  have A2 := Lib.hid (Qgt b hb)
  have A3 := Lib.hid (fsum_any a b (Qcs ha) (Qcs hb) (Qfx ha hb))
  have A4 := Lib.hid fun w => Qfj (a + b) (Qfx ha hb) w
  clear ha hb
  generalize a + b = s at *
  generalize cl s = r at *
  go_enter Tryz.func74,Tryz.ntmps74
  have hp := Hp.start [] w
  go_wp2_with (first | ((with_reducible first | refine Qak hp (A1.out _) ?_ | refine Qak hp (A2.out _) ?_ | refine Qak hp (A3.out _) ?_ | refine Qak hp (A4.out _) ?_);clear hp;(try clear w1);intro w1 hp))
  exact bodyPost_ret (Qaf rfl rfl) rfl ⟨rfl,hp.keep⟩
set_option maxHeartbeats 1000000 in
theorem Qek (a b : Int) (ha : I64 a) (hb : I64 b) (w : World) : Calls Tryz.prog 87 #[.int .i64 a,.int .i64 b] w (Ret (.int .i64 (cl (a - b))) w) := by
  rw [Int.sub_eq_add_neg]
  have A1 := Lib.hid (Qgt a ha)
  have A2 := Lib.hid (Qgt b hb)
  have A5 := Lib.hid (Qmg b (Qcs hb) (Qjv hb))
  have A3 := Lib.hid (fsum_any a (-b) (Qcs ha) (Qjv hb) (Qhb ha hb))
  have A4 := Lib.hid fun w => Qfj (a + -b) (Qhb ha hb) w
  clear ha hb
  generalize a + -b = s at *
  generalize -b = c at *
  generalize cl s = r at *
  go_enter Tryz.func87,Tryz.ntmps87
  have hp := Hp.start [] w
  go_wp2_with (first | ((with_reducible first | refine Qak hp (A1.out _) ?_ | refine Qak hp (A2.out _) ?_ | refine Qak hp (A3.out _) ?_ | refine Qak hp (A4.out _) ?_ | refine Qak hp (A5.out _) ?_);clear hp;(try clear w1);intro w1 hp))
  exact bodyPost_ret (Qaf rfl rfl) rfl ⟨rfl,hp.keep⟩
set_option maxHeartbeats 1000000 in
theorem Qfk (n : Int) (h : I64 n) (w : World) : Calls Tryz.prog 93 #[.int .i64 n] w (Ret (W n) w) := by
  have HO := Lib.hid fun w => Qem n h.1 h.2 w
  clear h
  go_enter Tryz.func93,Tryz.ntmps93
  have hp := Hp.start [] w
  go_wp2_with (first | ((with_reducible apply Qag hp);exact ii;exact rfl;clear hp;(try clear w1);intro g w1 hp;simp only [zp,zq,z0,z1]) | ((with_reducible apply Qah hp);exact zt rfl;exact za rfl;exact rfl;exact Sz.z;exact rfl;exact ii;(first | (with_reducible exact Qab (by omega)) | (simp only [n0,Nat.reduceAdd,n1,n2,n3,n4,n5,n6,n7,n8,n9];try rfl));(first | exact zl rfl | exact Qad (by omega));exact rfl;exact ii;clear hp;(try clear w1);intro w1 hp) | ((with_reducible refine Qak hp (HO.out _) ?_);clear hp;(try clear w1);intro w1 hp))
  exact bodyPost_ret (Qaf rfl ⟨_,rfl,Qal hp (Nat.le_of_ble_eq_true rfl)⟩) rfl ⟨rfl,hp.keep⟩
set_option maxHeartbeats 1000000 in
theorem Qhv (a b : Int) (ha : I64 a) (hb : I64 b) (w : World) : Calls Tryz.prog 81 #[.int .i64 a,.int .i64 b] w (Ret (.int .i64 (cl (a + b))) w) := by
  have A1 := Lib.hid (Qfk a ha)
  have A2 := Lib.hid (Qfk b hb)
  have hc := Qmu a b (Qcs ha) (Qcs hb)
  rw [show fz (a + b) = a + b from if_pos (Qfx ha hb)] at hc
  have A3 := Lib.hid hc
  have A4 := Lib.hid fun w => Qdw (a + b) (Qfx ha hb) w
  clear ha hb hc
  generalize decide (Fit (a + b)) = o at *
  generalize a + b = s at *
  generalize cl s = r at *
  go_enter Tryz.func81,Tryz.ntmps81
  have hp := Hp.start [] w
  go_wp2_with (first | ((with_reducible apply Qag hp);exact ii;exact rfl;clear hp;(try clear w1);intro g w1 hp;simp only [zp,zq,z0,z1]) | ((with_reducible apply Qaa hp);exact zt rfl;exact ii;exact ii;(first | exact zl rfl | exact Qad (by omega));(first | (with_reducible exact Qab (by omega)) | (simp only [n0,Nat.reduceAdd,n1,n2,n3,n4,n5,n6,n7,n8,n9];try rfl));simp only [zp,zq,z0,z1]) | ((with_reducible apply Qah hp);exact zt rfl;exact za rfl;exact rfl;exact Sz.z;exact rfl;exact ii;(first | (with_reducible exact Qab (by omega)) | (simp only [n0,Nat.reduceAdd,n1,n2,n3,n4,n5,n6,n7,n8,n9];try rfl));(first | exact zl rfl | exact Qad (by omega));exact rfl;exact ii;clear hp;(try clear w1);intro w1 hp) | ((with_reducible first | refine Qak hp (A1.out _) ?_ | refine Qak hp (A2.out _) ?_ | refine Qak hp (A3.out _) ?_ | refine Qak hp (A4.out _) ?_);clear hp;(try clear w1);intro w1 hp))
  exact bodyPost_ret (Qaf rfl rfl) rfl ⟨rfl,hp.keep⟩
set_option maxHeartbeats 1000000 in
theorem Qdr (a b : Int) (ha : I64 a) (hb : I64 b) (w : World) : Calls Tryz.prog 70 #[.int .i64 a,.int .i64 b] w (Ret (.int .i64 (cl (a - b))) w) := by
  have hf : Fit (a - b) := by rw [Int.sub_eq_add_neg];exact Qhb ha hb
  have A1 := Lib.hid (Qfk a ha)
  have A2 := Lib.hid (Qfk b hb)
  have hc := rsub_any a b (Qcs ha) (Qcs hb)
  rw [show fz (a - b) = a - b from if_pos hf] at hc
  have A3 := Lib.hid hc
  have A4 := Lib.hid fun w => Qdw (a - b) hf w
  clear ha hb hc hf
  generalize decide (Fit (a - b)) = o at *
  generalize a - b = s at *
  generalize cl s = r at *
  go_enter Tryz.func70,Tryz.ntmps70
  have hp := Hp.start [] w
  go_wp2_with (first | ((with_reducible apply Qag hp);exact ii;exact rfl;clear hp;(try clear w1);intro g w1 hp;simp only [zp,zq,z0,z1]) | ((with_reducible apply Qaa hp);exact zt rfl;exact ii;exact ii;(first | exact zl rfl | exact Qad (by omega));(first | (with_reducible exact Qab (by omega)) | (simp only [n0,Nat.reduceAdd,n1,n2,n3,n4,n5,n6,n7,n8,n9];try rfl));simp only [zp,zq,z0,z1]) | ((with_reducible apply Qah hp);exact zt rfl;exact za rfl;exact rfl;exact Sz.z;exact rfl;exact ii;(first | (with_reducible exact Qab (by omega)) | (simp only [n0,Nat.reduceAdd,n1,n2,n3,n4,n5,n6,n7,n8,n9];try rfl));(first | exact zl rfl | exact Qad (by omega));exact rfl;exact ii;clear hp;(try clear w1);intro w1 hp) | ((with_reducible first | refine Qak hp (A1.out _) ?_ | refine Qak hp (A2.out _) ?_ | refine Qak hp (A3.out _) ?_ | refine Qak hp (A4.out _) ?_);clear hp;(try clear w1);intro w1 hp))
  exact bodyPost_ret (Qaf rfl rfl) rfl ⟨rfl,hp.keep⟩
/-! ### Quotients -/
theorem as_down (x : TypeId) (w : World) : (Instr.typeAssert (.iface 102 (.agg #[])) x 133 true).run Tryz.prog w = .ok (.tuple #[.agg #[],.bool false]) w := by
  have hz : ∀ w,(zeroValue 133).run Tryz.prog w = .ok (.agg #[]) w := fun w => by
    have : ZeroTy Tryz.prog 133 (.agg #[]) := ZeroTy.mk' (by kernel_rfl)
    exact this.zero w
  simp [Instr.typeAssert,run_underlying Tryz.underlying133,hz,Result.andThen]
set_option maxHeartbeats 1000000 in
theorem updown_any (w : World) : Calls Tryz.prog 139 #[] w (Ret (.bool false) w) := by
  have hta := as_down
  go_enter Tryz.func139,Tryz.ntmps139
  have hp := Hp.start [] w
  go_wp2_with (first | ((with_reducible apply Qag hp);exact ii;exact rfl;clear hp;(try clear w1);intro g w1 hp;simp only [zp,zq,z0,z1]) | ((with_reducible apply Qaa hp);exact zt rfl;exact ii;exact ii;(first | exact zl rfl | exact Qad (by omega));(first | (with_reducible exact Qab (by omega)) | (simp only [n0,Nat.reduceAdd,n1,n2,n3,n4,n5,n6,n7,n8,n9];try rfl));simp only [zp,zq,z0,z1]) | ((with_reducible apply Qah hp);exact zt rfl;exact za rfl;exact rfl;exact Sz.z;exact rfl;exact ii;(first | (with_reducible exact Qab (by omega)) | (simp only [n0,Nat.reduceAdd,n1,n2,n3,n4,n5,n6,n7,n8,n9];try rfl));(first | exact zl rfl | exact Qad (by omega));exact rfl;exact ii;clear hp;(try clear w1);intro w1 hp))
  exact bodyPost_ret (Qaf rfl rfl) rfl ⟨rfl,(((Hp.start [] w).alloc 102 []).alloc 133 []).keep⟩
set_option maxHeartbeats 2000000 in
theorem fquot_down (a b : Int) (ha : Fit a) (hb : Fit b) (w : World) : Calls Tryz.prog 132 #[W a,W b] w (Ret (W (dvq a b)) w) := by
  have HD := Lib.hid (div_any a b ha hb)
  clear ha hb
  generalize dvq a b = q at *
  generalize dvr a b = r at *
  generalize decide (dvok a b) = o at *
  go_enter Tryz.func132,Tryz.ntmps132
  have hp := Hp.start [] w
  go_wp2_with (first | ((with_reducible apply Qbj);(conv => whnf);refine Bx.mk ?_;(try simp only [zp,zq,z0,z1])) | ((with_reducible apply Qao hp);exact za rfl;exact rfl;clear hp;(try clear w1);intro g w1 hp;simp only [zp,zq,z0,z1]) | ((with_reducible apply Qag hp);exact ii;exact rfl;clear hp;(try clear w1);intro g w1 hp;simp only [zp,zq,z0,z1]) | ((with_reducible apply Qaa hp);exact zt rfl;exact ii;exact ii;(first | exact zl rfl | exact Qad (by omega));(first | (with_reducible exact Qab (by omega)) | (simp only [n0,Nat.reduceAdd,n1,n2,n3,n4,n5,n6,n7,n8,n9];try rfl));simp only [zp,zq,z0,z1]) | ((with_reducible apply Qah hp);exact zt rfl;exact za rfl;exact rfl;exact Sz.z;exact rfl;exact ii;(first | (with_reducible exact Qab (by omega)) | (simp only [n0,Nat.reduceAdd,n1,n2,n3,n4,n5,n6,n7,n8,n9];try rfl));(first | exact zl rfl | exact Qad (by omega));exact rfl;exact ii;clear hp;(try clear w1);intro w1 hp) | ((with_reducible first | refine Qak hp (HD.out _) ?_ | refine Qak hp (updown_any _) ?_);clear hp;(try clear w1);intro w1 hp))
  exact bodyPost_ret (Qaf rfl ⟨_,rfl,Qal hp (Nat.le_of_ble_eq_true rfl)⟩) rfl ⟨rfl,hp.keep⟩
/-- A product, rounded down, before it is brought in. -/
theorem Qoc : Fit 4294967296 := by unfold Fit M511;omega
theorem Qho {a b : Int} (ha : I64 a) (hb : I64 b) : Fit (a * b) := by
  have := Qcu ha hb
  unfold Fit M511
  omega
theorem dvq_32 {p : Int} (h : -85070591730234615865843651857942052864 ≤ p ∧ p ≤ 85070591730234615865843651857942052864) : dvq p 4294967296 = p / 4294967296 ∧ Fit (p / 4294967296) := by
  have e : fq p 4294967296 = p / 4294967296 := by unfold fq;rw [if_neg (by omega)]
  have hf : Fit (p / 4294967296) := by unfold Fit M511;omega
  unfold dvq
  rw [if_pos ⟨by omega,by rw [e];exact hf⟩,e]
  exact ⟨rfl,hf⟩
set_option maxHeartbeats 2000000 in
theorem Qpa (a b : Int) (ha : I64 a) (hb : I64 b) (w : World) : Calls Tryz.prog 91 #[.int .i64 a,.int .i64 b] w (Ret (.int .i64 (cl (a * b / 4294967296))) w) := by
  have A1 := Lib.hid (Qgt a ha)
  have A2 := Lib.hid (Qgt b hb)
  have hp := Qho ha hb
  obtain ⟨e,hf⟩ := dvq_32 (Qcu ha hb)
  have hm := Qlw a b (Qcs ha) (Qcs hb)
  rw [show fz (a * b) = a * b from if_pos hp] at hm
  have A3 := Lib.hid hm
  have hq := fquot_down (a * b) 4294967296 hp Qoc
  rw [e] at hq
  have A4 := Lib.hid hq
  have A5 := Lib.hid fun w => Qfj _ hf w
  have A6 := Lib.hid fun w => Qol 4294967296 (by unfold I64;omega) w
  clear ha hb hp e hf hm hq
  generalize decide (Fit (a * b)) = o at *
  generalize a * b = s at *
  generalize s / 4294967296 = q at *
  generalize cl q = r at *
  go_enter Tryz.func91,Tryz.ntmps91
  have hp := Hp.start [] w
  go_upto_region 2 with (first | ((with_reducible apply Qag hp);exact ii;exact rfl;clear hp;(try clear w1);intro g w1 hp;simp only [zp,zq,z0,z1]) | ((with_reducible apply Qaa hp);exact zt rfl;exact ii;exact ii;(first | exact zl rfl | exact Qad (by omega));(first | (with_reducible exact Qab (by omega)) | (simp only [n0,Nat.reduceAdd,n1,n2,n3,n4,n5,n6,n7,n8,n9];try rfl));simp only [zp,zq,z0,z1]) | ((with_reducible apply Qah hp);exact zt rfl;exact za rfl;exact rfl;exact Sz.z;exact rfl;exact ii;(first | (with_reducible exact Qab (by omega)) | (simp only [n0,Nat.reduceAdd,n1,n2,n3,n4,n5,n6,n7,n8,n9];try rfl));(first | exact zl rfl | exact Qad (by omega));exact rfl;exact ii;clear hp;(try clear w1);intro w1 hp) | ((with_reducible first | refine Qak hp (A1.out _) ?_ | refine Qak hp (A2.out _) ?_ | refine Qak hp (A3.out _) ?_);clear hp;(try clear w1);intro w1 hp))
  have hq := hp
  refine Qaq hp hq [] (.q 0 (.l 1 (.l 2 (.l 3 (.q 4 .nil))))) (by kernel_rfl) (by kernel_rfl) ?_
  clear hp hq;(try clear w1);intro w1 hp hq
  repeat' (first | (((with_reducible apply sd_q);exact zo rfl);(first | ((with_reducible apply Qas hp);exact rfl;exact zt rfl;exact ii;exact ii;(first | exact zl rfl | exact Qad (by omega));(first | (with_reducible exact Qab (by omega)) | (simp only [n0,Nat.reduceAdd,n1,n2,n3,n4,n5,n6,n7,n8,n9];try rfl));simp only [zp,zq,z0,z1]) | ((with_reducible apply Qbo hp);exact zi rfl;simp only [zp,zq,z0,z1]) | ((with_reducible apply Qav hp);exact rfl;(focus (intro _;go_simp;(try go_ints);try with_reducible rfl));simp only [zp,zq,z0,z1]))) | (((with_reducible apply sd_l);exact zo rfl);((with_reducible apply Qbf hp);exact rfl;(focus (intro _;go_simp;try first | with_reducible rfl | exact ⟨rfl,rfl⟩));(with_reducible first | exact fun w => A4.out w | exact fun w => A5.out w | exact fun w => A6.out w);exact hq;clear hp hq;(try clear w1);intro w1 hp hq;simp only [zp,zq,z0,z1])) | ((with_reducible apply Qba);clear hp;have hp := hq;clear hq))
  go_wp2
  exact bodyPost_ret (Qaf rfl rfl) rfl ⟨rfl,hp.keep⟩
theorem Qgr (a b : Int) (ha : I64 a) (hb : I64 b) (w : World) : Calls Tryz.prog 45 #[.int .i64 a,.int .i64 b] w (Ret (.int .i64 (cl (a * b / 4294967296))) w) := by
  have A1 := Lib.hid (Qpa a b ha hb)
  clear ha hb
  generalize cl (a * b / 4294967296) = r at *
  go_enter Tryz.func45,Tryz.ntmps45
  have hp := Hp.start [] w
  go_wp2_with (first | ((with_reducible refine Qak hp (A1.out _) ?_);clear hp;(try clear w1);intro w1 hp))
  exact bodyPost_ret (Qaf rfl rfl) rfl ⟨rfl,hp.keep⟩
/-- What the document's Quotient hands back. -/
def qv (a b : Int) (up : Bool) : Int := if up = true ∧ dvr a b ≠ 0 then dvq a b + 1 else dvq a b
theorem sgn_zero {n : Int} : sgn n = 0 ↔ n = 0 := by unfold sgn;split <;> (try split) <;> omega
theorem dvq_fit (a b : Int) : Fit (dvq a b) := by
  unfold dvq
  split
  · rename_i h;exact h.2
  · exact Qct
set_option maxHeartbeats 4000000 in
theorem rquot_core (a b q r s q1 : Int) (up o o1 : Bool) (HD : Hid (∀ w,Calls Tryz.prog 67 #[W a,W b] w (Ret (.tuple #[W q,W r,.bool o]) w)))
    (HS : Hid (up = true → ∀ w,Calls Tryz.prog 111 #[W r] w (Ret (.int .i64 s) w)))
    (H1 : Hid (up = true → s ≠ 0 → ∀ w,Calls Tryz.prog 64 #[W q,W 1] w (Ret (.tuple #[W q1,.bool o1]) w))) (v : Int) (HV : Hid (v = if up = true ∧ s ≠ 0 then q1 else q)) (w : World) :
    Calls Tryz.prog 94 #[W a,W b,.bool up] w (Ret (W v) w) := by
  have O1 := Lib.hid fun w => Qem 1 (by omega) (by omega) w
  cases up with
  | false =>
    obtain rfl : v = q := by rw [HV.out];simp
    clear HS H1 HV
    go_enter Tryz.func94,Tryz.ntmps94
    have hp := Hp.start [] w
    go_wp2_with (first | ((with_reducible apply Qbj);(conv => whnf);refine Bx.mk ?_;(try simp only [zp,zq,z0,z1])) | ((with_reducible apply Qao hp);exact za rfl;exact rfl;clear hp;(try clear w1);intro g w1 hp;simp only [zp,zq,z0,z1]) | ((with_reducible apply Qag hp);exact ii;exact rfl;clear hp;(try clear w1);intro g w1 hp;simp only [zp,zq,z0,z1]) | ((with_reducible apply Qaa hp);exact zt rfl;exact ii;exact ii;(first | exact zl rfl | exact Qad (by omega));(first | (with_reducible exact Qab (by omega)) | (simp only [n0,Nat.reduceAdd,n1,n2,n3,n4,n5,n6,n7,n8,n9];try rfl));simp only [zp,zq,z0,z1]) | ((with_reducible apply Qah hp);exact zt rfl;exact za rfl;exact rfl;exact Sz.z;exact rfl;exact ii;(first | (with_reducible exact Qab (by omega)) | (simp only [n0,Nat.reduceAdd,n1,n2,n3,n4,n5,n6,n7,n8,n9];try rfl));(first | exact zl rfl | exact Qad (by omega));exact rfl;exact ii;clear hp;(try clear w1);intro w1 hp) | ((with_reducible refine Qak hp (HD.out _) ?_);clear hp;(try clear w1);intro w1 hp))
    exact bodyPost_ret (Qaf rfl ⟨_,rfl,Qal hp (Nat.le_of_ble_eq_true rfl)⟩) rfl ⟨rfl,hp.keep⟩
  | true =>
    have HS' := Lib.hid (HS.out rfl)
    by_cases hs : s = 0
    · obtain rfl : v = q := by rw [HV.out];simp [hs]
      subst hs
      clear HS H1 HV
      go_enter Tryz.func94,Tryz.ntmps94
      have hp := Hp.start [] w
      go_wp2_with (first | ((with_reducible apply Qbj);(conv => whnf);refine Bx.mk ?_;(try simp only [zp,zq,z0,z1])) | ((with_reducible apply Qao hp);exact za rfl;exact rfl;clear hp;(try clear w1);intro g w1 hp;simp only [zp,zq,z0,z1]) | ((with_reducible apply Qag hp);exact ii;exact rfl;clear hp;(try clear w1);intro g w1 hp;simp only [zp,zq,z0,z1]) | ((with_reducible apply Qaa hp);exact zt rfl;exact ii;exact ii;(first | exact zl rfl | exact Qad (by omega));(first | (with_reducible exact Qab (by omega)) | (simp only [n0,Nat.reduceAdd,n1,n2,n3,n4,n5,n6,n7,n8,n9];try rfl));simp only [zp,zq,z0,z1]) | ((with_reducible apply Qah hp);exact zt rfl;exact za rfl;exact rfl;exact Sz.z;exact rfl;exact ii;(first | (with_reducible exact Qab (by omega)) | (simp only [n0,Nat.reduceAdd,n1,n2,n3,n4,n5,n6,n7,n8,n9];try rfl));(first | exact zl rfl | exact Qad (by omega));exact rfl;exact ii;clear hp;(try clear w1);intro w1 hp) | ((with_reducible first | refine Qak hp (HD.out _) ?_ | refine Qak hp (HS'.out _) ?_);clear hp;(try clear w1);intro w1 hp))
      exact bodyPost_ret (Qaf rfl ⟨_,rfl,Qal hp (Nat.le_of_ble_eq_true rfl)⟩) rfl ⟨rfl,hp.keep⟩
    · obtain rfl : v = q1 := by rw [HV.out];simp [hs]
      have H1' := Lib.hid (H1.out rfl hs)
      have hsb : (s == 0) = false := by simp [hs]
      clear HS H1 HV hs
      go_enter Tryz.func94,Tryz.ntmps94
      have hp := Hp.start [] w
      go_upto_if 22 with (first | ((with_reducible apply Qbj);(conv => whnf);refine Bx.mk ?_;(try simp only [zp,zq,z0,z1])) | ((with_reducible apply Qao hp);exact za rfl;exact rfl;clear hp;(try clear w1);intro g w1 hp;simp only [zp,zq,z0,z1]) | ((with_reducible apply Qag hp);exact ii;exact rfl;clear hp;(try clear w1);intro g w1 hp;simp only [zp,zq,z0,z1]) | ((with_reducible apply Qaa hp);exact zt rfl;exact ii;exact ii;(first | exact zl rfl | exact Qad (by omega));(first | (with_reducible exact Qab (by omega)) | (simp only [n0,Nat.reduceAdd,n1,n2,n3,n4,n5,n6,n7,n8,n9];try rfl));simp only [zp,zq,z0,z1]) | ((with_reducible apply Qah hp);exact zt rfl;exact za rfl;exact rfl;exact Sz.z;exact rfl;exact ii;(first | (with_reducible exact Qab (by omega)) | (simp only [n0,Nat.reduceAdd,n1,n2,n3,n4,n5,n6,n7,n8,n9];try rfl));(first | exact zl rfl | exact Qad (by omega));exact rfl;exact ii;clear hp;(try clear w1);intro w1 hp) | ((with_reducible first | refine Qak hp (HD.out _) ?_ | refine Qak hp (HS'.out _) ?_);clear hp;(try clear w1);intro w1 hp))
      go_upto_region 3 with fail
      rename_i ga gb gp gq K hK h9
      obtain ⟨gr,rfl⟩ : ∃ k : Nat,k = g := ⟨_,rfl⟩
      go_cut [] (fun wx => Hp [] w [⟨gr,48,[.int .u64 (lb (r) 0),.int .u64 (lb (r) 1),.int .u64 (lb (r) 2),.int .u64 (lb (r) 3),.int .u64 (lb (r) 4),.int .u64 (lb (r) 5),.int .u64 (lb (r) 6),.int .u64 (lb (r) 7)]⟩,⟨gq,48,[.int .u64 (lb (v) 0),.int .u64 (lb (v) 1),.int .u64 (lb (v) 2),.int .u64 (lb (v) 3),.int .u64 (lb (v) 4),.int .u64 (lb (v) 5),.int .u64 (lb (v) 6),.int .u64 (lb (v) 7)]⟩,⟨gp,48,[.int .u64 0,.int .u64 0,.int .u64 0,.int .u64 0,.int .u64 0,.int .u64 0,.int .u64 0,.int .u64 0]⟩,⟨gb,48,[.int .u64 (lb (b) 0),.int .u64 (lb (b) 1),.int .u64 (lb (b) 2),.int .u64 (lb (b) 3),.int .u64 (lb (b) 4),.int .u64 (lb (b) 5),.int .u64 (lb (b) 6),.int .u64 (lb (b) 7)]⟩,⟨ga,48,[.int .u64 (lb (a) 0),.int .u64 (lb (a) 1),.int .u64 (lb (a) 2),.int .u64 (lb (a) 3),.int .u64 (lb (a) 4),.int .u64 (lb (a) 5),.int .u64 (lb (a) 6),.int .u64 (lb (a) 7)]⟩] wx)
      case first =>
        have hq := hp
        clear hp
        have hp := hq.sub (List.nil_sublist _)
        refine Qaq hp hq [] (.b2 0 (.l 1 (.l 2 (.q 3 (.q 4 (.q 5 (.l 6 .nil)))))) 1 (.l 0 (.l 2 (.q 3 (.q 4 (.q 5 (.l 6 .nil))))))) (by kernel_rfl) (by kernel_rfl) ?_
        clear hp hq;(try clear w1);intro w1 hp hq
        repeat' (first | (((with_reducible apply sd_q);exact zo rfl);(first | ((with_reducible apply Qbh hp);exact zu rfl;simp only [zp,zq,z0,z1]) | ((with_reducible apply Qav hp);exact rfl;(focus (intro _;go_simp;(try go_ints);try with_reducible rfl));simp only [zp,zq,z0,z1]))) | (((with_reducible apply sd_l);exact zo rfl);(first | ((with_reducible apply Qbf hp);exact rfl;(focus (intro _;go_simp;try first | with_reducible rfl | exact ⟨rfl,rfl⟩));(with_reducible first | exact fun w => O1.out w | exact fun w => H1'.out w);exact hq;clear hp hq;(try clear w1);intro w1 hp hq;simp only [zp,zq,z0,z1]) | ((with_reducible apply Qax hq);exact rfl;exact zt rfl;(first | exact za rfl | exact zu rfl | exact zi rfl | exact zb rfl | exact zr rfl | exact zs rfl | exact zf rfl | exact zg rfl | exact zn rfl | exact zv rfl | exact zw rfl);exact rfl;exact Sz.z;exact rfl;exact ii;(first | (with_reducible exact Qab (by omega)) | (simp only [n0,Nat.reduceAdd,n1,n2,n3,n4,n5,n6,n7,n8,n9];try rfl));(first | exact zl rfl | exact Qad (by omega));exact rfl;exact ii;(repeat (first | exact List.Sublist.refl _ | apply List.Sublist.cons));clear hp hq;(try clear w1);intro w1 hp hq) | ((with_reducible apply Qom hp hq);exact rfl;exact zt rfl;exact ii;exact ii;(first | exact zl rfl | exact Qad (by omega));(first | (with_reducible exact Qab (by omega)) | (simp only [n0,Nat.reduceAdd,n1,n2,n3,n4,n5,n6,n7,n8,n9];try rfl));simp only [zp,zq,z0,z1]) | ((with_reducible apply Qog hp hq);exact rfl;exact zt rfl;exact ii;exact ii;(first | exact zio rfl | exact zbo rfl | exact zro rfl | exact zso rfl | exact zfo rfl | exact zgo rfl | exact zno rfl | exact zvo rfl | exact zwo rfl | exact Qae (by omega));simp only [zp,zq,z0,z1]))) | (with_reducible apply sd_b2) | ((with_reducible apply Qba);clear hp;have hp := hq;clear hq))
        all_goals (go_wp2_with fail;go_meet;exact hp)
      case rest =>
        clear hp
        have hp := hcut
        clear hcut
        go_wp2_with (first | ((with_reducible apply Qao hp);exact za rfl;exact rfl;clear hp;(try clear w1);intro g w1 hp;simp only [zp,zq,z0,z1]) | ((with_reducible apply Qag hp);exact ii;exact rfl;clear hp;(try clear w1);intro g w1 hp;simp only [zp,zq,z0,z1]) | ((with_reducible apply Qaa hp);exact zt rfl;exact ii;exact ii;(first | exact zl rfl | exact Qad (by omega));(first | (with_reducible exact Qab (by omega)) | (simp only [n0,Nat.reduceAdd,n1,n2,n3,n4,n5,n6,n7,n8,n9];try rfl));simp only [zp,zq,z0,z1]) | ((with_reducible apply Qah hp);exact zt rfl;exact za rfl;exact rfl;exact Sz.z;exact rfl;exact ii;(first | (with_reducible exact Qab (by omega)) | (simp only [n0,Nat.reduceAdd,n1,n2,n3,n4,n5,n6,n7,n8,n9];try rfl));(first | exact zl rfl | exact Qad (by omega));exact rfl;exact ii;clear hp;(try clear w1);intro w1 hp))
        exact bodyPost_ret (Qaf rfl ⟨_,rfl,Qal hp (Nat.le_of_ble_eq_true rfl)⟩) rfl ⟨rfl,hp.keep⟩
theorem rquot_any (a b : Int) (up : Bool) (ha : Fit a) (hb : Fit b) (hq : Fit (dvq a b + 1)) (w : World) : Calls Tryz.prog 94 #[W a,W b,.bool up] w (Ret (W (qv a b up)) w) := by
  have hr : Fit (dvr a b) := by
    unfold dvr
    split
    · rename_i h;exact fr_fit hb h.1
    · exact Qct
  have h1 := Qmu (dvq a b) 1 (dvq_fit a b) (by unfold Fit M511;omega)
  rw [show fz (dvq a b + 1) = dvq a b + 1 from if_pos hq] at h1
  exact rquot_core a b (dvq a b) (dvr a b) (sgn (dvr a b)) (dvq a b + 1) up _ _ (Lib.hid (rdiv_any a b ha hb)) (Lib.hid fun _ => Qgf _ hr) (Lib.hid fun _ _ => h1) _ (Lib.hid (by unfold qv;simp only [ne_eq,sgn_zero])) w
end Go.Proofs.YtblffafmkpnjdaaGreat
