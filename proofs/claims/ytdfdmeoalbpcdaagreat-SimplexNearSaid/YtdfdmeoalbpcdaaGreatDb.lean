/-
  Package wide: half, left (contracts).
-/
import Derived.Test.YtdfdmeoalbpcdaaGreatDa
set_option linter.unusedSimpArgs false
set_option linter.unusedVariables false
set_option maxRecDepth 100000
namespace Go.Proofs.YtdfdmeoalbpcdaaGreat
open Go Go.RowKit
/-- Bits that are joined where one of both has none. -/
theorem or_join (i : Nat) (a b : Int) (ha0 : 0 ≤ a) (ha1 : a < 18446744073709551616) (ha : a % 2 ^ i = 0) (hb0 : 0 ≤ b) (hb1 : b < 18446744073709551616) (hb : b < 2 ^ i) : bits .or .u64 a b = a + b ∧ bits .or .u64 b a = a + b := by
  have e := Qgd i
  have h1 : a.toNat % 2 ^ i = 0 := by
    have : ((a.toNat % 2 ^ i : Nat) : Int) = a % 2 ^ i := by rw [Int.natCast_emod,e];congr 1;omega
    omega
  have h2 : b.toNat < 2 ^ i := by omega
  have h3 := nat_join i _ _ h1 h2
  rw [u64_or a b ha0 ha1 hb0 hb1,u64_or b a hb0 hb1 ha0 ha1,Nat.or_comm b.toNat,h3]
  omega
theorem half_lb (x : Int) (j : Nat) : lb (x / 2) j = lb x j / 2 + lb x (j + 1) % 2 * 9223372036854775808 := by
  unfold lb
  rw [Qdy,← Int.ediv_ediv_of_nonneg (Int.le_of_lt (Qak _)),Int.ediv_ediv_of_nonneg (by omega),Int.mul_comm,← Int.ediv_ediv_of_nonneg (Int.le_of_lt (Qak _))]
  omega
theorem half_top {x : Int} (h0 : 0 ≤ x) (h1 : x < M512) : lb (x / 2) 7 = lb x 7 / 2 := by
  rw [half_lb]
  have : lb x 8 = 0 := by
    unfold lb
    rw [Int.ediv_eq_zero_of_lt h0 (by rw [← M512_eq];exact h1)]
    rfl
  rw [this]
  omega
/-- The limbs of a half, so many of them. -/
def hf (x : Int) (k : Nat) : Nat → Int := fun j => if j < k then lb (x / 2) j else lb x j
theorem hf_step {x V : Int} {k : Nat} (hV : V = lb (x / 2) k) : LB (upd (hf x k) k V) = LB (hf x (k + 1)) := by
  refine Qed fun j _ => ?_
  unfold hf
  by_cases h : j = k
  · subst h;rw [Qct,hV,if_pos (by omega)]
  · rw [Qep _ _ h]
    by_cases h2 : j < k
    · rw [if_pos h2,if_pos (by omega)]
    · rw [if_neg h2,if_neg (by omega)]
theorem hf_at (x : Int) (k : Nat) : hf x k k = lb x k := if_neg (by omega)
theorem hf_next (x : Int) (k : Nat) : hf x k (k + 1) = lb x (k + 1) := if_neg (by omega)
set_option maxHeartbeats 4000000 in
theorem half_any (x : Int) (h0 : 0 ≤ x) (h1 : x < M512) (w : World) : Calls Tryz.prog 80 #[W x] w (Ret (W (x / 2)) w) := by
  have HT := Lib.hid (half_top h0 h1)
  clear h0 h1
  go_enter Tryz.func80,Tryz.ntmps80
  have hp := Hp.start [] w
  go_wp2_with (first|((with_reducible apply Qau hp);exact za rfl;exact rfl;clear hp;(try clear w1);intro g w1 hp;simp only [zp,zq,z0,z1])|((with_reducible apply Qag hp);exact ii;exact rfl;clear hp;(try clear w1);intro g w1 hp;simp only [zp,zq,z0,z1]))
  rename_i ga K hK
  go_loopw [4] (fun i wr => ∃ k : Nat,k ≤ 8 ∧ i = .int .i64 k ∧ Hp [] w [⟨g,51,[.int .u64 0,.int .u64 0,.int .u64 0,.int .u64 0,.int .u64 0,.int .u64 0,.int .u64 0,.int .u64 0]⟩,⟨ga,51,LB (hf x k)⟩] wr) (fun i _ => 8 - (intOf i).toNat)
  case atStart => exact ⟨0,by omega,rfl,hp⟩
  case round =>
    clear hp
    obtain ⟨k,hk,rfl,hp⟩ := hrel
    by_cases hk1 : k < 8
    · have hk2 : (k : Int) < 8 := by omega
      have hat := hf_at x k
      have hl0 := Qbj x k
      have hl1 := Qfz x k
      have hl2 := Qfz x k
      rw [← hat] at hl0 hl1
      by_cases hk7 : k + 1 < 8
      · have hk8 : (k : Int) + 1 < 8 := by omega
        have hnx := hf_next x k
        have hn0 := Qbj x (k + 1)
        have hn1 := Qfz x (k + 1)
        go_wp2_with (first|((with_reducible apply Qai hp);exact zt rfl;exact ii;exact ii;(exact Qcp (by omega));simp only [zp,zq,z0,z1])|((with_reducible apply Qae hp);exact zt rfl;(exact zi rfl);exact rfl;(exact OneTy.size);exact rfl;exact ii;(with_reducible exact Qfd (by omega));(exact Qhy (by omega));exact rfl;exact ii;clear hp;(try clear w1);intro w1 hp))
        obtain ⟨F,hF⟩ : ∃ F,F = upd (hf x k) k (lb x k / 2) := ⟨_,rfl⟩
        rw [← hF] at hp
        have f0 : F k = lb x k / 2 := by rw [hF,Qct]
        have f1 : F (k + 1) = lb x (k + 1) := by rw [hF,Qep _ _ (by omega),hnx]
        have HF := Lib.hid hF
        have F0 := Lib.hid f0
        have F1 := Lib.hid f1
        have b0 : 0 ≤ F k ∧ F k < 18446744073709551616 := by rw [f0];omega
        have b1 : 0 ≤ F (k + 1) ∧ F (k + 1) < 18446744073709551616 := by rw [f1];omega
        clear hF f0 f1 hat hnx
        have hk9 : (0 : Int) ≤ (k : Int) + 1 := by omega
        have hk8 : (k : Int) + 1 < 8 := by omega
        have hq := hp
        refine Qad hp hq [10] (.q 0 (.q 1 (.q 2 (.q 3 (.q 4 (.q 5 (.q 6 (.q 7 (.q 8 (.q 9 (.l 10 .nil))))))))))) (by kernel_rfl) (by kernel_rfl) ?_
        clear hp hq;(try clear w1);intro w1 hp hq
        repeat' (first|(((with_reducible apply sd_q);exact zo rfl);(first|((with_reducible apply Qba hp);exact rfl;exact zt rfl;exact ii;exact ii;(exact Qcp (by omega));simp only [zp,zq,z0,z1])|((with_reducible apply Qaq hp);exact zi rfl;simp only [zp,zq,z0,z1])|((with_reducible apply Qaj hp);exact rfl;(focus (intro _;go_simp;(try go_ints);try with_reducible rfl));simp only [zp,zq,z0,z1])))|(((with_reducible apply sd_l);exact zo rfl);((with_reducible apply Qbb hq);exact rfl;exact zt rfl;(exact zi rfl);exact rfl;(exact OneTy.size);exact rfl;exact ii;(with_reducible exact Qfd (by omega));(exact Qhy (by omega));exact rfl;exact ii;exact rfl;clear hp hq;(try clear w1);intro w1 hq;have hp := True.intro))|((with_reducible apply Qao);clear hp;have hp := hq;clear hq))
        go_wp2
        go_roundw
        case rel =>
          refine ⟨k + 1,by omega,by go_num,?_⟩
          have e : IntKind.u64.wrap (F (k + 1) * 9223372036854775808) = F (k + 1) % 2 * 9223372036854775808 := by rw [IntKind.wrap_u64];omega
          have e2 := F0.out
          have e20 := Qbj x k
          have e21 := Qfz x k
          rw [e,(or_join 63 (F (k + 1) % 2 * 9223372036854775808) (F k) (by omega) (by omega) (by omega) (by omega) (by omega) (by omega)).2] at hp
          rw [HF.out] at hp
          have e3 : F (k + 1) % 2 * 9223372036854775808 + F k = lb (x / 2) k := by rw [half_lb,F0.out,F1.out];omega
          rw [← HF.out,e3,HF.out] at hp
          have e4 : upd (upd (hf x k) k (lb x k / 2)) k (lb (x / 2) k) = upd (hf x k) k (lb (x / 2) k) := by
            funext j
            unfold upd
            split <;> rfl
          rw [e4,hf_step rfl] at hp
          exact hp
        case measure => simp [intOf];omega
      · obtain rfl : k = 7 := by omega
        rw [show ((7 : Nat) : Int) = 7 from rfl]
        go_wp2_with (first|((with_reducible apply Qai hp);exact zt rfl;exact ii;exact ii;(exact zio rfl);simp only [zp,zq,z0,z1])|((with_reducible apply Qae hp);exact zt rfl;(exact zi rfl);exact rfl;(exact OneTy.size);exact rfl;exact ii;(with_reducible exact Qfd (by omega));(exact zl rfl);exact rfl;exact ii;clear hp;(try clear w1);intro w1 hp))
        go_roundw
        case rel =>
          refine ⟨8,by omega,rfl,?_⟩
          rw [hf_step (HT.out.symm)] at hp
          exact hp
        case measure => simp [intOf]
    · obtain rfl : k = 8 := by omega
      have e : LB (hf x 8) = LB (lb (x / 2)) := Qed fun j hj => if_pos hj
      rw [e] at hp
      simp only [LB] at hp
      rw [show ((8 : Nat) : Int) = 8 from rfl]
      go_wp2_with (first|((with_reducible apply Qab hp);exact zt rfl;exact ii;exact ii;(exact zl rfl);(simp only [n0,Nat.reduceAdd,nn];try rfl);simp only [zp,zq,z0,z1])|((with_reducible apply Qae hp);exact zt rfl;(exact za rfl);exact rfl;(exact AggTy.size);exact rfl;exact ii;(simp only [n0,Nat.reduceAdd,nn];try rfl);(exact zl rfl);exact rfl;exact ii;clear hp;(try clear w1);intro w1 hp))
      exact bodyPost_ret (Qaa rfl ⟨_,rfl,Qac hp (Nat.le_of_ble_eq_true rfl)⟩) rfl ⟨rfl,hp.keep⟩
/-! ### Further up -/
theorem shl_low (x : Int) {n i : Nat} (h : i < n / 64) : lb (x * 2 ^ n) i = 0 := by
  unfold lb
  have e : x * (2 : Int) ^ n = 2 ^ (64 * i) * (18446744073709551616 * (x * 2 ^ (n - 64 * i - 64))) := by
    have h1 : (2 : Int) ^ n = 2 ^ (64 * i) * (2 ^ 64 * 2 ^ (n - 64 * i - 64)) := by rw [← Int.pow_add,← Int.pow_add,show 64 * i + (64 + (n - 64 * i - 64)) = n by omega]
    have h2 : (2 : Int) ^ 64 = 18446744073709551616 := rfl
    rw [h1,h2]
    grind
  have hp := Qak (64 * i)
  rw [e,Int.mul_ediv_cancel_left _ (by omega)]
  omega
theorem shl_up (x : Int) {n i : Nat} (h : n / 64 ≤ i) : lb (x * 2 ^ n) i = lb (x * 2 ^ (n % 64)) (i - n / 64) := by
  unfold lb
  have e : (2 : Int) ^ n = 2 ^ (64 * (n / 64)) * 2 ^ (n % 64) := by rw [← Int.pow_add,show 64 * (n / 64) + n % 64 = n by omega]
  have e2 : (2 : Int) ^ (64 * i) = 2 ^ (64 * (n / 64)) * 2 ^ (64 * (i - n / 64)) := by rw [← Int.pow_add,show 64 * (n / 64) + 64 * (i - n / 64) = 64 * i by omega]
  rw [e,e2,show x * ((2 : Int) ^ (64 * (n / 64)) * 2 ^ (n % 64)) = 2 ^ (64 * (n / 64)) * (x * 2 ^ (n % 64)) by grind,Int.mul_ediv_mul_of_pos _ _ (Qak _)]
theorem shl_first (x : Int) (r : Nat) : lb (x * 2 ^ r) 0 = lb x 0 * 2 ^ r % 18446744073709551616 := by
  unfold lb
  simp only [Nat.mul_zero,Int.pow_zero,Int.ediv_one]
  have hd := Int.emod_add_mul_ediv x 18446744073709551616
  generalize x % 18446744073709551616 = y at *
  generalize x / 18446744073709551616 = q at *
  rw [← hd,show (y + 18446744073709551616 * q) * (2 : Int) ^ r = y * 2 ^ r + 18446744073709551616 * (q * 2 ^ r) by grind,Int.add_mul_emod_self_left]
theorem shl_next (x : Int) {r : Nat} (h0 : 0 < r) (h : r < 64) (m : Nat) : lb (x * 2 ^ r) (m + 1) = lb x (m + 1) * 2 ^ r % 18446744073709551616 + lb x m / 2 ^ (64 - r) ∧ lb x (m + 1) * 2 ^ r % 18446744073709551616 % 2 ^ r = 0 ∧ lb x m / 2 ^ (64 - r) < 2 ^ r := by
  have hR := Qak r
  have hT := Qak (64 - r)
  have hB : (18446744073709551616 : Int) = 2 ^ r * 2 ^ (64 - r) := by rw [← Int.pow_add,show r + (64 - r) = 64 by omega];rfl
  have hy0 := Qbj x m
  have hy1 := Qfz x m
  have hup : lb x m / 2 ^ (64 - r) < 2 ^ r := by
    rw [Int.ediv_lt_iff_lt_mul hT,← hB];exact hy1
  have hmul : ∀ a : Int,a * 2 ^ r % 18446744073709551616 = 2 ^ r * (a % 2 ^ (64 - r)) := fun a => by
    rw [hB,Int.mul_comm a,Int.mul_emod_mul_of_pos _ _ hR]
  refine ⟨?_,by rw [hmul];exact Int.mul_emod_right _ _,hup⟩
  have e1 : lb (x * 2 ^ r) (m + 1) = x / 2 ^ (64 * m) / 2 ^ (64 - r) % 18446744073709551616 := by
    unfold lb
    have e : (2 : Int) ^ (64 * (m + 1)) = 2 ^ r * 2 ^ (64 * m + (64 - r)) := by rw [← Int.pow_add,show r + (64 * m + (64 - r)) = 64 * (m + 1) by omega]
    rw [e,Int.mul_comm x,Int.mul_ediv_mul_of_pos _ _ hR,Int.pow_add,← Int.ediv_ediv_of_nonneg (Int.le_of_lt (Qak _))]
  rw [e1,hmul]
  have e2 : lb x (m + 1) % 2 ^ (64 - r) = x / 2 ^ (64 * m) / 18446744073709551616 % 2 ^ (64 - r) := by
    unfold lb
    rw [Qdy,← Int.ediv_ediv_of_nonneg (Int.le_of_lt (Qak _)),hB,Int.mul_comm (2 ^ r),Int.emod_emod_of_dvd _ (Int.dvd_mul_right _ _)]
  rw [e2]
  have e3 : lb x m = x / 2 ^ (64 * m) % 18446744073709551616 := rfl
  rw [e3] at hup ⊢
  generalize x / 2 ^ (64 * m) = y at *
  have hd := Int.mul_ediv_add_emod y 18446744073709551616
  have hm0 := Int.emod_nonneg y (show (18446744073709551616 : Int) ≠ 0 by omega)
  generalize y / 18446744073709551616 = y1 at *
  generalize y % 18446744073709551616 = y0 at *
  have e4 : y / 2 ^ (64 - r) = 2 ^ r * y1 + y0 / 2 ^ (64 - r) := by
    rw [← hd,hB,show (2 : Int) ^ r * 2 ^ (64 - r) * y1 + y0 = y0 + 2 ^ (64 - r) * (2 ^ r * y1) by grind,Int.add_mul_ediv_left _ _ (by omega)]
    omega
  have hc0 : 0 ≤ y0 / 2 ^ (64 - r) := Int.ediv_nonneg hm0 (by omega)
  rw [e4]
  generalize y0 / 2 ^ (64 - r) = c at *
  rw [hB,Qcg _ _ _ hR hT,Int.add_comm (2 ^ r * y1),Int.add_mul_ediv_left _ _ (by omega),Int.ediv_eq_zero_of_lt hc0 hup,Int.zero_add,Int.add_mul_emod_self_left,Int.emod_eq_of_lt hc0 hup]
/-- The limbs of a number that was Qeu further up, so many of them. -/
def lf (x : Int) (n k : Nat) : Nat → Int := fun j => if j < k then lb (x * 2 ^ n) j else 0
theorem lf_start (x : Int) (n : Nat) : LB (lf x n (n / 64)) = [.int .u64 0,.int .u64 0,.int .u64 0,.int .u64 0,.int .u64 0,.int .u64 0,.int .u64 0,.int .u64 0] := by
  have h : ∀ j,lf x n (n / 64) j = 0 := fun j => by
    unfold lf
    split
    · exact shl_low x (by assumption)
    · rfl
  simp only [LB,h]
theorem lf_step {x V : Int} {n k : Nat} (hV : V = lb (x * 2 ^ n) k) : LB (upd (lf x n k) k V) = LB (lf x n (k + 1)) := by
  refine Qed fun j _ => ?_
  unfold lf
  by_cases h : j = k
  · subst h;rw [Qct,hV,if_pos (by omega)]
  · rw [Qep _ _ h]
    by_cases h2 : j < k
    · rw [if_pos h2,if_pos (by omega)]
    · rw [if_neg h2,if_neg (by omega)]
set_option maxHeartbeats 8000000 in
theorem left_any (x : Int) (n : Nat) (hn : n < 512) (w : World) : Calls Tryz.prog 79 #[W x,.int .i64 n] w (Ret (W (x * 2 ^ n)) w) := by
  go_enter Tryz.func79,Tryz.ntmps79
  have hp := Hp.start [] w
  go_wp2_with (first|((with_reducible apply Qau hp);exact za rfl;exact rfl;clear hp;(try clear w1);intro g w1 hp;simp only [zp,zq,z0,z1])|((with_reducible apply Qag hp);exact ii;exact rfl;clear hp;(try clear w1);intro g w1 hp;simp only [zp,zq,z0,z1]))
  rename_i ga gp K hK
  obtain ⟨gl,rfl⟩ : ∃ y : Nat,y = g := ⟨_,rfl⟩
  go_loopw [6] (fun i wr => ∃ k : Nat,n / 64 ≤ k ∧ k ≤ 8 ∧ i = .int .i64 k ∧ Hp [] w [⟨gl,51,LB (lf x n k)⟩,⟨gp,51,[.int .u64 0,.int .u64 0,.int .u64 0,.int .u64 0,.int .u64 0,.int .u64 0,.int .u64 0,.int .u64 0]⟩,⟨ga,51,LB (lb x)⟩] wr) (fun i _ => 8 - (intOf i).toNat)
  case atStart => exact ⟨n / 64,by omega,by omega,by congr 1,by rw [lf_start];exact hp⟩
  case round =>
    clear hp
    obtain ⟨k,hk0,hk,rfl,hp⟩ := hrel
    by_cases hk1 : k < 8
    · have hk2 : (k : Int) < 8 := by omega
      have hq0 : (0 : Int) ≤ (k : Int) - (n : Int) / 64 := by omega
      have hq1 : (k : Int) - (n : Int) / 64 < 8 := by omega
      have ha0 := Qbj x (k - n / 64)
      have ha1 := Qfz x (k - n / 64)
      by_cases hr : (n : Int) % 64 = 0
      · have hr0 : ¬ (0 : Int) < (n : Int) % 64 := by omega
        go_wp2_with (first|((with_reducible apply Qai hp);exact zt rfl;exact ii;exact ii;(exact Qcp (by omega));simp only [zp,zq,z0,z1])|((with_reducible apply Qae hp);exact zt rfl;(exact zi rfl);exact rfl;(exact OneTy.size);exact rfl;exact ii;(with_reducible exact Qfd (by omega));(exact Qhy (by omega));exact rfl;exact ii;clear hp;(try clear w1);intro w1 hp))
        go_roundw
        case rel =>
          refine ⟨k + 1,by omega,by omega,by go_num,?_⟩
          rw [lf_step (by rw [shl_up x hk0,show n % 64 = 0 by omega,Int.pow_zero,Int.mul_one])] at hp
          exact hp
        case measure => simp [intOf];omega
      · have hr0 : (0 : Int) < (n : Int) % 64 := by omega
        have hr1 : (n : Int) % 64 < 64 := by omega
        by_cases hkq : (n : Int) / 64 < k
        · have hkq0 : (0 : Int) ≤ (k : Int) - (n : Int) / 64 - 1 := by omega
          have hkq1 : (k : Int) - (n : Int) / 64 - 1 < 8 := by omega
          have hb0 := Qbj x (k - n / 64 - 1)
          have hb1 := Qfz x (k - n / 64 - 1)
          go_wp2_with (first|((with_reducible apply Qai hp);exact zt rfl;exact ii;exact ii;(exact Qcp (by omega));simp only [zp,zq,z0,z1])|((with_reducible apply Qae hp);exact zt rfl;(exact zi rfl);exact rfl;(exact OneTy.size);exact rfl;exact ii;(with_reducible exact Qfd (by omega));(exact Qhy (by omega));exact rfl;exact ii;clear hp;(try clear w1);intro w1 hp))
          obtain ⟨V,hV⟩ : ∃ V,V = IntKind.u64.wrap (lb x (k - n / 64) * 2 ^ (n % 64)) := ⟨_,rfl⟩
          rw [← hV] at hp
          have HV := Lib.hid hV
          obtain ⟨F,hF⟩ : ∃ F,F = upd (lf x n k) k V := ⟨_,rfl⟩
          rw [← hF] at hp
          have f0 : F k = V := by rw [hF,Qct]
          have F0 := Lib.hid f0
          have HF := Lib.hid hF
          have b0 : 0 ≤ F k ∧ F k < 18446744073709551616 := by rw [f0,hV,IntKind.wrap_u64];omega
          clear hF f0 hV
          have hsh : (0 : Int) ≤ 64 - (n : Int) % 64 := by omega
          have hkq0 : (0 : Int) ≤ (k : Int) - (n : Int) / 64 - 1 := by omega
          have hkq1 : (k : Int) - (n : Int) / 64 - 1 < 8 := by omega
          have hkq2 : (1 : Int) ≤ (k : Int) - (n : Int) / 64 := by omega
          have hkq3 : (n : Int) / 64 ≤ (k : Int) - 1 := by omega
          have hq := hp
          refine Qad hp hq [16] (.q 0 (.q 1 (.q 2 (.q 3 (.q 4 (.q 5 (.q 6 (.q 7 (.q 8 (.q 9 (.q 10 (.q 11 (.q 12 (.q 13 (.q 14 (.q 15 (.l 16 .nil))))))))))))))))) (by kernel_rfl) (by kernel_rfl) ?_
          clear hp hq;(try clear w1);intro w1 hp hq
          repeat' (first|(((with_reducible apply sd_q);exact zo rfl);(first|((with_reducible apply Qba hp);exact rfl;exact zt rfl;exact ii;exact ii;(exact Qcp (by omega));simp only [zp,zq,z0,z1])|((with_reducible apply Qaq hp);exact zi rfl;simp only [zp,zq,z0,z1])|((with_reducible apply Qaj hp);exact rfl;(focus (intro _;go_simp;(try go_ints);try with_reducible rfl));simp only [zp,zq,z0,z1])))|(((with_reducible apply sd_l);exact zo rfl);((with_reducible apply Qbb hq);exact rfl;exact zt rfl;(exact zi rfl);exact rfl;(exact OneTy.size);exact rfl;exact ii;(with_reducible exact Qfd (by omega));(exact Qhy (by omega));exact rfl;exact ii;exact rfl;clear hp hq;(try clear w1);intro w1 hq;have hp := True.intro))|((with_reducible apply Qao);clear hp;have hp := hq;clear hq))
          go_wp2
          go_roundw
          case rel =>
            refine ⟨k + 1,by omega,by omega,by go_num,?_⟩
            obtain ⟨e1,e2,e3⟩ := shl_next x (r := n % 64) (by omega) (by omega) (k - n / 64 - 1)
            rw [show k - n / 64 - 1 + 1 = k - n / 64 by omega] at e1 e2
            have e4 : F k = lb x (k - n / 64) * 2 ^ (n % 64) % 18446744073709551616 := by rw [F0.out,HV.out,IntKind.wrap_u64]
            rw [← e4] at e1 e2
            have c0 : 0 ≤ lb x (k - n / 64 - 1) / 2 ^ (64 - n % 64) := Int.ediv_nonneg (Qbj _ _) (Int.le_of_lt (Qak _))
            have c1 := Int.ediv_le_self (a := lb x (k - n / 64 - 1)) (2 ^ (64 - n % 64)) (Qbj _ _)
            have c2 := Qfz x (k - n / 64 - 1)
            rw [(or_join (n % 64) _ _ b0.1 b0.2 e2 c0 (by omega) e3).1,← e1,← shl_up x hk0,HF.out] at hp
            have e5 : upd (upd (lf x n k) k V) k (lb (x * 2 ^ n) k) = upd (lf x n k) k (lb (x * 2 ^ n) k) := by
              funext j
              unfold upd
              split <;> rfl
            rw [e5,lf_step rfl] at hp
            exact hp
          case measure => simp [intOf];omega
        · go_wp2_with (first|((with_reducible apply Qai hp);exact zt rfl;exact ii;exact ii;(exact Qcp (by omega));simp only [zp,zq,z0,z1])|((with_reducible apply Qae hp);exact zt rfl;(exact zi rfl);exact rfl;(exact OneTy.size);exact rfl;exact ii;(with_reducible exact Qfd (by omega));(exact Qhy (by omega));exact rfl;exact ii;clear hp;(try clear w1);intro w1 hp))
          go_roundw
          case rel =>
            refine ⟨k + 1,by omega,by omega,by go_num,?_⟩
            rw [lf_step (by rw [shl_up x hk0,show k - n / 64 = 0 by omega,shl_first,IntKind.wrap_u64])] at hp
            exact hp
          case measure => simp [intOf];omega
    · obtain rfl : k = 8 := by omega
      have e : LB (lf x n 8) = LB (lb (x * 2 ^ n)) := Qed fun j hj => if_pos hj
      rw [e] at hp
      simp only [LB] at hp
      rw [show ((8 : Nat) : Int) = 8 from rfl]
      go_wp2_with (first|((with_reducible apply Qab hp);exact zt rfl;exact ii;exact ii;(exact zl rfl);(simp only [n0,Nat.reduceAdd,nn];try rfl);simp only [zp,zq,z0,z1])|((with_reducible apply Qae hp);exact zt rfl;(exact za rfl);exact rfl;(exact AggTy.size);exact rfl;exact ii;(simp only [n0,Nat.reduceAdd,nn];try rfl);(exact zl rfl);exact rfl;exact ii;clear hp;(try clear w1);intro w1 hp))
      exact bodyPost_ret (Qaa rfl ⟨_,rfl,Qac hp (Nat.le_of_ble_eq_true rfl)⟩) rfl ⟨rfl,hp.keep⟩
end Go.Proofs.YtdfdmeoalbpcdaaGreat
