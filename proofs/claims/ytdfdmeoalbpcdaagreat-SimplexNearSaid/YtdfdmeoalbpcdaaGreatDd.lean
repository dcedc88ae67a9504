/-
  Package wide: parts (contract).
  Package wide: Div's arithmetic; its deferred closure; Neg (contracts).
-/
import Derived.Test.YtdfdmeoalbpcdaaGreatDb
import Derived.Test.YtdfdmeoalbpcdaaGreatBn
set_option linter.unusedSimpArgs false
set_option linter.unusedVariables false
set_option maxRecDepth 100000
namespace Go.Proofs.YtdfdmeoalbpcdaaGreat
open Go Go.RowKit
theorem psplit {i j : Nat} (h : j ≤ i) : (2 : Int) ^ i = 2 ^ j * 2 ^ (i - j) := by rw [← Int.pow_add,show j + (i - j) = i by omega]
theorem limb_mult {q : Int} {i : Nat} (hq : q % 2 ^ (i + 1) = 0) : lb q (i / 64) % 2 ^ (i % 64 + 1) = 0 ∧ lb q (i / 64) + 2 ^ (i % 64) < 18446744073709551616 := by
  obtain ⟨c,hc⟩ := Int.dvd_of_emod_eq_zero hq
  have hp := Qak (64 * (i / 64))
  have hR := Qak (i % 64 + 1)
  have hT := Qak (63 - i % 64)
  have e1 : (2 : Int) ^ (i + 1) = 2 ^ (64 * (i / 64)) * 2 ^ (i % 64 + 1) := by rw [← Int.pow_add,show 64 * (i / 64) + (i % 64 + 1) = i + 1 by omega]
  have hB : (18446744073709551616 : Int) = 2 ^ (i % 64 + 1) * 2 ^ (63 - i % 64) := by rw [← Int.pow_add,show i % 64 + 1 + (63 - i % 64) = 64 by omega];rfl
  have hl : lb q (i / 64) = 2 ^ (i % 64 + 1) * (c % 2 ^ (63 - i % 64)) := by
    unfold lb
    rw [hc,e1,Int.mul_assoc,Int.mul_ediv_cancel_left _ (by omega),hB,Int.mul_emod_mul_of_pos _ _ hR]
  refine ⟨by rw [hl];exact Int.mul_emod_right _ _,?_⟩
  have h1 := Int.emod_lt_of_pos c hT
  have h2 := Int.mul_le_mul_of_nonneg_left (show c % 2 ^ (63 - i % 64) + 1 ≤ 2 ^ (63 - i % 64) by omega) (Int.le_of_lt hR)
  rw [hl]
  have h3 : (2 : Int) ^ (i % 64 + 1) = 2 ^ (i % 64) * 2 := Int.pow_succ _ _
  have h4 := Qak (i % 64)
  rw [Int.mul_add,← hB] at h2
  omega
theorem set_bit {q : Int} {i : Nat} (hq : q % 2 ^ (i + 1) = 0) : LB (upd (lb q) (i / 64) (bits .or .u64 (lb q (i / 64)) (2 ^ (i % 64)))) = LB (lb (q + 2 ^ i)) := by
  obtain ⟨h1,h2⟩ := limb_mult hq
  have h4 := Qak (i % 64)
  have h0 := Qbj q (i / 64)
  have h3 : (2 : Int) ^ (i % 64 + 1) = 2 ^ (i % 64) * 2 := Int.pow_succ _ _
  rw [(or_join (i % 64 + 1) _ _ h0 (Qfz _ _) h1 (Int.le_of_lt h4) (by omega) (by omega)).1,LB_put _ _ _ (by omega) h2]
  congr 2
  unfold put P64
  have e1 : (2 : Int) ^ i = 2 ^ (i % 64) * 2 ^ (64 * (i / 64)) := by rw [← Int.pow_add,show i % 64 + 64 * (i / 64) = i by omega]
  rw [e1]
  congr 2
  omega
theorem bit_wrap (e : Nat) (h : e < 64) : IntKind.u64.wrap (2 ^ e) = 2 ^ e := by
  have h1 := Qak e
  have h2 : (18446744073709551616 : Int) = 2 ^ e * 2 ^ (64 - e) := by rw [← Int.pow_add,show e + (64 - e) = 64 by omega];rfl
  have h3 : (2 : Int) ≤ 2 ^ (64 - e) := by
    rw [show 64 - e = (63 - e) + 1 by omega,Int.pow_succ]
    have := Qak (63 - e)
    omega
  have h4 := Int.mul_le_mul_of_nonneg_left h3 (Int.le_of_lt h1)
  rw [IntKind.wrap_u64,Int.emod_eq_of_lt (by omega) (by omega)]
theorem uc_small {a b : Int} (ha0 : 0 ≤ a) (ha : a < M512) (hb0 : 0 ≤ b) (hb : b < M512) : (0 ≤ uc a b ↔ b ≤ a) := by
  unfold uc
  rw [Int.emod_eq_of_lt ha0 ha,Int.emod_eq_of_lt hb0 hb]
  split
  · omega
  · split <;> omega
theorem nb_le {x : Int} (h0 : 0 ≤ x) (h1 : x < M512) : nb x ≤ 64 * 8 := by
  obtain ⟨a1,a2⟩ := Qkj h0
  rcases Nat.lt_or_ge (64 * 8) (nb x) with h|h
  · exfalso
    obtain ⟨a3,a4⟩ := a2 (by rintro rfl;rw [nb_zero] at h;omega)
    have := psplit (i := nb x - 1) (j := 64 * 8) (by omega)
    have h1 := Qak (nb x - 1 - 64 * 8)
    have h2 := Int.mul_le_mul_of_nonneg_left (show (1 : Int) ≤ 2 ^ (nb x - 1 - 64 * 8) by omega) (Int.le_of_lt (Qak (64 * 8)))
    rw [← M512_eq] at this h2
    omega
  · exact h
/-- The places of a quotient: the numerator's bits against the denominator's. -/
theorem part_room {A B : Int} (hA : 0 ≤ A) (hA1 : A < M512) (hB : 0 < B) (hn : nb B ≤ nb A) : B * 2 ^ (nb A - nb B) < M512 ∧ A < B * 2 ^ (nb A - nb B + 1) ∧ nb A - nb B < 512 := by
  obtain ⟨a1,a2⟩ := Qkj hA
  obtain ⟨b1,b2⟩ := Qkj (show 0 ≤ B by omega)
  obtain ⟨b3,b4⟩ := b2 (by omega)
  have h512 := nb_le hA hA1
  have hp := Qak (nb A - nb B)
  refine ⟨?_,?_,by omega⟩
  · have h1 := Int.mul_lt_mul_of_pos_right b1 hp
    rw [← Int.pow_add,show nb B + (nb A - nb B) = nb A by omega] at h1
    have h2 := psplit h512
    have h3 := Qak (64 * 8 - nb A)
    have h4 := Int.mul_le_mul_of_nonneg_left (show (1 : Int) ≤ 2 ^ (64 * 8 - nb A) by omega) (Int.le_of_lt (Qak (nb A)))
    rw [← M512_eq] at h2
    omega
  · have h1 := Int.mul_le_mul_of_nonneg_right b3 (Int.le_of_lt (Qak (nb A - nb B + 1)))
    rw [← Int.pow_add,show nb B - 1 + (nb A - nb B + 1) = nb A by omega] at h1
    omega
theorem part_less {A B : Int} (hA : 0 ≤ A) (hB : 0 < B) (hn : nb A < nb B) : A < B := by
  obtain ⟨a1,a2⟩ := Qkj hA
  obtain ⟨b1,b2⟩ := Qkj (show 0 ≤ B by omega)
  obtain ⟨b3,b4⟩ := b2 (by omega)
  have h1 := psplit (i := nb B - 1) (j := nb A) (by omega)
  have h3 := Qak (nb B - 1 - nb A)
  have h4 := Int.mul_le_mul_of_nonneg_left (show (1 : Int) ≤ 2 ^ (nb B - 1 - nb A) by omega) (Int.le_of_lt (Qak (nb A)))
  omega
/-- One round: what is Qeu away, or not. -/
theorem part_take {A B q r : Int} {i : Nat} (h : A = q * B + r) (h1 : r < B * 2 ^ (i + 1)) (hle : B * 2 ^ i ≤ r) : A = (q + 2 ^ i) * B + (r - B * 2 ^ i) ∧ 0 ≤ r - B * 2 ^ i ∧ r - B * 2 ^ i < B * 2 ^ i := by
  rw [Int.pow_succ,← Int.mul_assoc] at h1
  refine ⟨by grind,by omega,by omega⟩
theorem mult_step {q : Int} {i : Nat} (h : q % 2 ^ (i + 1) = 0) : q % 2 ^ i = 0 ∧ (q + 2 ^ i) % 2 ^ i = 0 := by
  obtain ⟨c,hc⟩ := Int.dvd_of_emod_eq_zero h
  have e : q = 2 ^ i * (2 * c) := by rw [hc,Int.pow_succ];grind
  rw [e]
  refine ⟨Int.mul_emod_right _ _,?_⟩
  rw [show (2 : Int) ^ i * (2 * c) + 2 ^ i = 2 ^ i * (2 * c + 1) by grind]
  exact Int.mul_emod_right _ _
theorem Qlv (B : Int) (i : Nat) : B * 2 ^ (i + 1) / 2 = B * 2 ^ i := by
  rw [Int.pow_succ,← Int.mul_assoc,Int.mul_ediv_cancel _ (by omega)]
set_option maxHeartbeats 8000000 in
theorem parts_core (A B Q R : Int) (hA : 0 ≤ A) (hA1 : A < M512) (hB : 0 < B) (hB1 : B < M512) (HQ : Hid (∀ q r,A = q * B + r → 0 ≤ r → r < B → q = Q ∧ r = R)) (w : World) : Calls Tryz.prog 42 #[W A,W B] w (Ret (.tuple #[W Q,W R]) w) := by
  have LA := Lib.hid (Qlu A hA hA1)
  have LB' := Lib.hid (Qlu B (by omega) hB1)
  have hroom := fun hn => part_room hA hA1 hB hn
  have hless := fun hn => part_less hA hB hn
  have hnA := nb_le hA hA1
  have hnB := nb_le (show 0 ≤ B by omega) hB1
  have Hroom := Lib.hid hroom
  have Hless := Lib.hid hless
  have HA := Lib.hid hA
  have HA1 := Lib.hid hA1
  have HB := Lib.hid hB
  clear hroom hless hA hA1 hB hB1
  obtain ⟨na,hna⟩ : ∃ n,n = nb A := ⟨_,rfl⟩
  obtain ⟨nc,hnc⟩ : ∃ n,n = nb B := ⟨_,rfl⟩
  rw [← hna,← hnc] at Hroom Hless
  rw [← hna] at hnA LA
  rw [← hnc] at hnB LB'
  clear hna hnc
  by_cases hn : na < nc
  · have hn1 : (na : Int) - nc < 0 := by omega
    obtain ⟨rfl,rfl⟩ := HQ.out 0 A (by omega) HA.out (Hless.out hn)
    rw [show W 0 = .agg #[.int .u64 0,.int .u64 0,.int .u64 0,.int .u64 0,.int .u64 0,.int .u64 0,.int .u64 0,.int .u64 0] from Qfe]
    clear Hroom Hless HQ
    go_enter Tryz.func42,Tryz.ntmps42
    have hp := Hp.start [] w
    go_upto_region 1 with (first|((with_reducible apply Qau hp);(exact za rfl);exact rfl;clear hp;(try clear w1);intro g w1 hp;simp only [zp,zq,z0,z1])|((with_reducible apply Qag hp);exact ii;exact rfl;clear hp;(try clear w1);intro g w1 hp;simp only [zp,zq,z0,z1]))
    have hq := hp
    refine Qad hp hq [] (.q 0 (.q 2 (.l 1 (.l 3 (.q 4 (.q 5 .nil)))))) (by kernel_rfl) (by kernel_rfl) ?_
    clear hp hq;(try clear w1);intro w1 hp hq
    repeat' (first|(((with_reducible apply sd_q);exact zo rfl);(first|((with_reducible apply Qah hp);exact rfl;exact zt rfl;exact ii;exact ii;(exact zl rfl);(simp only [n0,Nat.reduceAdd,nn];try rfl);simp only [zp,zq,z0,z1])|((with_reducible apply Qat hp);exact zi rfl;simp only [zp,zq,z0,z1])|((with_reducible apply Qaj hp);exact rfl;(focus (intro _;go_simp;(try go_ints);try with_reducible rfl));simp only [zp,zq,z0,z1])))|(((with_reducible apply sd_l);exact zo rfl);((with_reducible apply Qap hp);exact rfl;(focus (intro _;go_simp;try first|with_reducible rfl|exact ⟨rfl,rfl⟩));(with_reducible first|exact fun w => LA.out w|exact fun w => LB'.out w);exact hq;clear hp hq;(try clear w1);intro w1 hp hq;simp only [zp,zq,z0,z1]))|((with_reducible apply Qao);clear hp;have hp := hq;clear hq))
    go_wp2_with (fail)
    have hq := hp
    refine Qad hp hq [3] (.q 0 (.q 1 (.l 2 (.l 3 .nil)))) (by kernel_rfl) (by kernel_rfl) ?_
    clear hp hq;(try clear w1);intro w1 hp hq
    repeat' (first|(((with_reducible apply sd_q);exact zo rfl);((with_reducible apply Qah hp);exact rfl;exact zt rfl;exact ii;exact ii;(exact zl rfl);(simp only [n0,Nat.reduceAdd,nn];try rfl);simp only [zp,zq,z0,z1]))|(((with_reducible apply sd_l);exact zo rfl);(first|((with_reducible apply Qam hq);exact rfl;exact zt rfl;(exact za rfl);exact rfl;(exact AggTy.size);exact rfl;exact ii;(simp only [n0,Nat.reduceAdd,nn];try rfl);(exact zl rfl);exact rfl;exact ii;(repeat (first|exact sb0|apply sb3));clear hp hq;(try clear w1);intro w1 hp hq)|((with_reducible apply Qbb hq);exact rfl;exact zt rfl;(exact za rfl);exact rfl;(exact AggTy.size);exact rfl;exact ii;(simp only [n0,Nat.reduceAdd,nn];try rfl);(exact zl rfl);exact rfl;exact ii;exact rfl;clear hp hq;(try clear w1);intro w1 hq;have hp := True.intro)))|((with_reducible apply Qao);clear hp;have hp := hq;clear hq))
    go_wp2
    exact bodyPost_ret (Qan rfl ⟨_,rfl,Qac hp (Nat.le_of_ble_eq_true rfl)⟩ ⟨_,rfl,Qac hp (Nat.le_of_ble_eq_true rfl)⟩) rfl ⟨rfl,hp.keep⟩
  · obtain ⟨n,hn'⟩ : ∃ n : Nat,n = na - nc := ⟨_,rfl⟩
    have hn1 : ¬ (na : Int) - nc < 0 := by omega
    have hn2 : (na : Int) - nc = (n : Int) := by omega
    obtain ⟨r1,r2,r3⟩ := Hroom.out (by omega)
    rw [← hn'] at r1 r2 r3
    have R1 := Lib.hid r1
    have R2 := Lib.hid r2
    clear Hroom Hless r1 r2
    go_enter Tryz.func42,Tryz.ntmps42
    have hp := Hp.start [] w
    go_upto_region 1 with (first|((with_reducible apply Qau hp);(exact za rfl);exact rfl;clear hp;(try clear w1);intro g w1 hp;simp only [zp,zq,z0,z1])|((with_reducible apply Qag hp);exact ii;exact rfl;clear hp;(try clear w1);intro g w1 hp;simp only [zp,zq,z0,z1]))
    rename_i ga gb gq K hK
    obtain ⟨gr,rfl⟩ : ∃ y : Nat,y = g := ⟨_,rfl⟩
    have hq := hp
    refine Qad hp hq [] (.q 0 (.q 2 (.l 1 (.l 3 (.q 4 (.q 5 .nil)))))) (by kernel_rfl) (by kernel_rfl) ?_
    clear hp hq;(try clear w1);intro w1 hp hq
    repeat' (first|(((with_reducible apply sd_q);exact zo rfl);(first|((with_reducible apply Qah hp);exact rfl;exact zt rfl;exact ii;exact ii;(exact zl rfl);(simp only [n0,Nat.reduceAdd,nn];try rfl);simp only [zp,zq,z0,z1])|((with_reducible apply Qat hp);exact zi rfl;simp only [zp,zq,z0,z1])|((with_reducible apply Qaj hp);exact rfl;(focus (intro _;go_simp;(try go_ints);try with_reducible rfl));simp only [zp,zq,z0,z1])))|(((with_reducible apply sd_l);exact zo rfl);((with_reducible apply Qap hp);exact rfl;(focus (intro _;go_simp;try first|with_reducible rfl|exact ⟨rfl,rfl⟩));(with_reducible first|exact fun w => LA.out w|exact fun w => LB'.out w);exact hq;clear hp hq;(try clear w1);intro w1 hp hq;simp only [zp,zq,z0,z1]))|((with_reducible apply Qao);clear hp;have hp := hq;clear hq))
    have LFT := Lib.hid (left_any B (na - nc) (by omega))
    go_wp2_with (first|((with_reducible apply Qag hp);exact ii;exact rfl;clear hp;(try clear w1);intro g w1 hp;simp only [zp,zq,z0,z1])|((with_reducible apply Qab hp);exact zt rfl;exact ii;exact ii;(exact zl rfl);(simp only [n0,Nat.reduceAdd,nn];try rfl);simp only [zp,zq,z0,z1])|((with_reducible apply Qae hp);exact zt rfl;(exact za rfl);exact rfl;(exact AggTy.size);exact rfl;exact ii;(simp only [n0,Nat.reduceAdd,nn];try rfl);(exact zl rfl);exact rfl;exact ii;clear hp;(try clear w1);intro w1 hp)|((with_reducible refine Qaf hp (LFT.out _) ?_);clear hp;(try clear w1);intro w1 hp))
    go_loopw [6,7] (fun nv sv wr => ∃ (k gs : Nat) (q r : Int),k ≤ n + 1 ∧ nv = .int .i64 ((k : Int) - 1) ∧ sv = .pointer (some ⟨gs,0,none⟩) ∧ A = q * B + r ∧ 0 ≤ r ∧ r < M512 ∧ r < B * 2 ^ k ∧ q % 2 ^ k = 0 ∧ Hp [] w [⟨gs,51,LB (lb (B * 2 ^ k / 2))⟩,⟨gr,51,LB (lb r)⟩,⟨gq,51,LB (lb q)⟩,⟨gb,51,[.int .u64 (lb (B) 0),.int .u64 (lb (B) 1),.int .u64 (lb (B) 2),.int .u64 (lb (B) 3),.int .u64 (lb (B) 4),.int .u64 (lb (B) 5),.int .u64 (lb (B) 6),.int .u64 (lb (B) 7)]⟩,⟨ga,51,[.int .u64 (lb (A) 0),.int .u64 (lb (A) 1),.int .u64 (lb (A) 2),.int .u64 (lb (A) 3),.int .u64 (lb (A) 4),.int .u64 (lb (A) 5),.int .u64 (lb (A) 6),.int .u64 (lb (A) 7)]⟩] wr) (fun nv _ _ => (intOf nv + 1).toNat)
    case atStart =>
      refine ⟨n + 1,_,0,A,by omega,by rw [hn'];go_num,rfl,by omega,HA.out,HA1.out,R2.out,by simp,?_⟩
      rw [Qlv,hn',show LB (lb 0) = [.int .u64 0,.int .u64 0,.int .u64 0,.int .u64 0,.int .u64 0,.int .u64 0,.int .u64 0,.int .u64 0] by simp [LB,Qcy]]
      exact hp
    case round =>
      clear hp
      obtain ⟨k,gs,q,r,hk,rfl,rfl,hqr,hr0,hrA,hr1,hqm,hp⟩ := hrel
      have HQR := Lib.hid hqr
      have HR0 := Lib.hid hr0
      have HR1 := Lib.hid hr1
      have HQM := Lib.hid hqm
      clear hqr hr0 hr1 hqm
      cases k with
      | zero =>
        obtain ⟨rfl,rfl⟩ := HQ.out q r HQR.out HR0.out (by have := HR1.out;simpa using this)
        simp only [LB] at hp
        rw [show (((0 : Nat)) : Int) - 1 = -1 from rfl]
        go_wp2_with (fail)
        have hq := hp
        refine Qad hp hq [3] (.q 0 (.q 1 (.l 2 (.l 3 .nil)))) (by kernel_rfl) (by kernel_rfl) ?_
        clear hp hq;(try clear w1);intro w1 hp hq
        repeat' (first|(((with_reducible apply sd_q);exact zo rfl);((with_reducible apply Qah hp);exact rfl;exact zt rfl;exact ii;exact ii;(exact zl rfl);(simp only [n0,Nat.reduceAdd,nn];try rfl);simp only [zp,zq,z0,z1]))|(((with_reducible apply sd_l);exact zo rfl);((with_reducible apply Qam hq);exact rfl;exact zt rfl;(exact za rfl);exact rfl;(exact AggTy.size);exact rfl;exact ii;(simp only [n0,Nat.reduceAdd,nn];try rfl);(exact zl rfl);exact rfl;exact ii;(repeat (exact sb0));clear hp hq;(try clear w1);intro w1 hp hq))|((with_reducible apply Qao);clear hp;have hp := hq;clear hq))
        go_wp2
        exact bodyPost_ret (Qan rfl ⟨_,rfl,Qac hp (Nat.le_of_ble_eq_true rfl)⟩ ⟨_,rfl,Qac hp (Nat.le_of_ble_eq_true rfl)⟩) rfl ⟨rfl,hp.keep⟩
      | succ i =>
        rw [show ((i + 1 : Nat) : Int) - 1 = (i : Int) by omega]
        rw [Qlv] at hp
        have hs0 : 0 ≤ B * 2 ^ i := Int.mul_nonneg (Int.le_of_lt HB.out) (Int.le_of_lt (Qak i))
        have hs1 : B * 2 ^ i < M512 := by
          have h1 := psplit (i := n) (j := i) (by omega)
          have h2 := Qak (n - i)
          have h3 := Int.mul_le_mul_of_nonneg_left (show (1 : Int) ≤ 2 ^ (n - i) by omega) hs0
          have h4 := R1.out
          rw [h1,← Int.mul_assoc] at h4
          omega
        have huc := uc_small HR0.out hrA hs0 hs1
        have HAB := Lib.hid (Qkd r (B * 2 ^ i))
        have HHF := Lib.hid (half_any (B * 2 ^ i) hs0 hs1)
        have hi5 : i < 512 := by omega
        have HRA := Lib.hid hrA
        have HMS := Lib.hid (mult_step HQM.out)
        have HSB := Lib.hid (set_bit HQM.out)
        have HTK := Lib.hid (part_take (i := i) HQR.out HR1.out)
        have hpl := Qgs r (-(B * 2 ^ i) - 1) 1 (by omega) (by omega)
        rw [show r + (-(B * 2 ^ i) - 1) + 1 = r - B * 2 ^ i by omega] at hpl
        have HPL := Lib.hid hpl
        have HNT := Lib.hid (Qmn (B * 2 ^ i))
        clear hpl hs0 hs1 hrA HQM
        obtain ⟨S,hS⟩ : ∃ S,S = B * 2 ^ i := ⟨_,rfl⟩
        rw [← hS] at huc HAB HHF HTK HPL HNT hp
        have HS := Lib.hid hS
        clear hS
        generalize uc r S = c at *
        have hp' : Hp [] w [⟨gs,51,[.int .u64 (lb (S) 0),.int .u64 (lb (S) 1),.int .u64 (lb (S) 2),.int .u64 (lb (S) 3),.int .u64 (lb (S) 4),.int .u64 (lb (S) 5),.int .u64 (lb (S) 6),.int .u64 (lb (S) 7)]⟩,⟨gr,51,[.int .u64 (lb (r) 0),.int .u64 (lb (r) 1),.int .u64 (lb (r) 2),.int .u64 (lb (r) 3),.int .u64 (lb (r) 4),.int .u64 (lb (r) 5),.int .u64 (lb (r) 6),.int .u64 (lb (r) 7)]⟩,⟨gq,51,LB (lb q)⟩,⟨gb,51,[.int .u64 (lb (B) 0),.int .u64 (lb (B) 1),.int .u64 (lb (B) 2),.int .u64 (lb (B) 3),.int .u64 (lb (B) 4),.int .u64 (lb (B) 5),.int .u64 (lb (B) 6),.int .u64 (lb (B) 7)]⟩,⟨ga,51,[.int .u64 (lb (A) 0),.int .u64 (lb (A) 1),.int .u64 (lb (A) 2),.int .u64 (lb (A) 3),.int .u64 (lb (A) 4),.int .u64 (lb (A) 5),.int .u64 (lb (A) 6),.int .u64 (lb (A) 7)]⟩] wr := hp
        clear hp
        have hp := hp'
        clear hp'
        by_cases hle : S ≤ r
        · have hc : 0 ≤ c := huc.2 hle
          have HT := Lib.hid (HTK.out hle)
          clear huc hle HTK
          go_wp2_with (first|((with_reducible apply Qab hp);exact zt rfl;exact ii;exact ii;(exact zl rfl);(simp only [n0,Nat.reduceAdd,nn];try rfl);simp only [zp,zq,z0,z1])|((with_reducible refine Qaf hp (HAB.out _) ?_);clear hp;(try clear w1);intro w1 hp))
          have hq := hp
          refine Qad hp hq [4] (.q 0 (.q 1 (.l 2 (.l 3 (.l 4 .nil))))) (by kernel_rfl) (by kernel_rfl) ?_
          clear hp hq;(try clear w1);intro w1 hp hq
          repeat' (first|(((with_reducible apply sd_q);exact zo rfl);((with_reducible apply Qah hp);exact rfl;exact zt rfl;exact ii;exact ii;(exact zl rfl);(simp only [n0,Nat.reduceAdd,nn];try rfl);simp only [zp,zq,z0,z1]))|(((with_reducible apply sd_l);exact zo rfl);(first|((with_reducible apply Qap hp);exact rfl;(focus (intro _;go_simp;try first|with_reducible rfl|exact ⟨rfl,rfl⟩));(with_reducible first|exact fun w => HNT.out w|exact fun w => HPL.out w);exact hq;clear hp hq;(try clear w1);intro w1 hp hq;simp only [zp,zq,z0,z1])|((with_reducible apply Qbb hq);exact rfl;exact zt rfl;(exact za rfl);exact rfl;(exact AggTy.size);exact rfl;exact ii;(simp only [n0,Nat.reduceAdd,nn];try rfl);(exact zl rfl);exact rfl;exact ii;exact rfl;clear hp hq;(try clear w1);intro w1 hq;have hp := True.intro)))|((with_reducible apply Qao);clear hp;have hp := hq;clear hq))
          go_wp2_with (fail)
          have hq0 : (0 : Int) ≤ (i : Int) / 64 := by omega
          have hq1 : (i : Int) / 64 < 8 := by omega
          have hq2 : (0 : Int) ≤ (i : Int) % 64 := by omega
          have hq := hp
          refine Qad hp hq [9] (.q 0 (.q 1 (.q 2 (.q 3 (.q 4 (.q 5 (.q 6 (.q 7 (.q 8 (.l 9 .nil)))))))))) (by kernel_rfl) (by kernel_rfl) ?_
          clear hp hq;(try clear w1);intro w1 hp hq
          repeat' (first|(((with_reducible apply sd_q);exact zo rfl);(first|((with_reducible apply Qba hp);exact rfl;exact zt rfl;exact ii;exact ii;(exact Qcp (by omega));simp only [zp,zq,z0,z1])|((with_reducible apply Qaq hp);exact zi rfl;simp only [zp,zq,z0,z1])|((with_reducible apply Qaj hp);exact rfl;(focus (intro _;go_simp;(try go_ints);try with_reducible rfl));simp only [zp,zq,z0,z1])))|(((with_reducible apply sd_l);exact zo rfl);((with_reducible apply Qbb hq);exact rfl;exact zt rfl;(exact zi rfl);exact rfl;(exact OneTy.size);exact rfl;exact ii;(with_reducible exact Qfd (by omega));(exact Qhy (by omega));exact rfl;exact ii;exact rfl;clear hp hq;(try clear w1);intro w1 hq;have hp := True.intro))|((with_reducible apply Qao);clear hp;have hp := hq;clear hq))
          go_wp2_with (first|((with_reducible apply Qag hp);exact ii;exact rfl;clear hp;(try clear w1);intro g w1 hp;simp only [zp,zq,z0,z1])|((with_reducible apply Qab hp);exact zt rfl;exact ii;exact ii;(exact zl rfl);(simp only [n0,Nat.reduceAdd,nn];try rfl);simp only [zp,zq,z0,z1])|((with_reducible apply Qae hp);exact zt rfl;(exact za rfl);exact rfl;(exact AggTy.size);exact rfl;exact ii;(simp only [n0,Nat.reduceAdd,nn];try rfl);(exact zl rfl);exact rfl;exact ii;clear hp;(try clear w1);intro w1 hp)|((with_reducible refine Qaf hp (HHF.out _) ?_);clear hp;(try clear w1);intro w1 hp))
          go_roundw
          case rel =>
            obtain ⟨t1,t2,t3⟩ := HT.out
            have h5 : 0 ≤ S := by rw [HS.out];exact Int.mul_nonneg (Int.le_of_lt HB.out) (Int.le_of_lt (Qak i))
            have h6 := HRA.out
            refine ⟨i,g,q + 2 ^ i,r - S,by omega,rfl,rfl,t1,t2,by omega,by rw [← HS.out];exact t3,HMS.out.2,?_⟩
            rw [bit_wrap _ (by omega),HSB.out] at hp
            rw [← HS.out]
            exact hp.sub ((List.Sublist.refl _).cons _ |>.cons_cons _)
          case measure => simp [intOf]
        · have hc : ¬ 0 ≤ c := fun h => hle (huc.1 h)
          have HLT := Lib.hid (show r < S by omega)
          clear huc hle HTK
          go_wp2_with (first|((with_reducible apply Qag hp);exact ii;exact rfl;clear hp;(try clear w1);intro g w1 hp;simp only [zp,zq,z0,z1])|((with_reducible apply Qab hp);exact zt rfl;exact ii;exact ii;(exact zl rfl);(simp only [n0,Nat.reduceAdd,nn];try rfl);simp only [zp,zq,z0,z1])|((with_reducible apply Qae hp);exact zt rfl;(exact za rfl);exact rfl;(exact AggTy.size);exact rfl;exact ii;(simp only [n0,Nat.reduceAdd,nn];try rfl);(exact zl rfl);exact rfl;exact ii;clear hp;(try clear w1);intro w1 hp)|((with_reducible first|refine Qaf hp (HAB.out _) ?_|refine Qaf hp (HHF.out _) ?_);clear hp;(try clear w1);intro w1 hp))
          go_roundw
          case rel =>
            refine ⟨i,g,q,r,by omega,rfl,rfl,HQR.out,HR0.out,HRA.out,by rw [← HS.out];exact HLT.out,HMS.out.1,?_⟩
            rw [← HS.out]
            exact hp.sub ((List.Sublist.refl _).cons _ |>.cons_cons _)
          case measure => simp [intOf]
theorem parts_any (A B : Int) (hA : 0 ≤ A) (hA1 : A < M512) (hB : 0 < B) (hB1 : B < M512) (w : World) : Calls Tryz.prog 42 #[W A,W B] w (Ret (.tuple #[W (A / B),W (A % B)]) w) := by
  refine parts_core A B _ _ hA hA1 hB hB1 (Lib.hid fun q r h h0 h1 => ?_) w
  rw [h,Int.add_comm,Int.add_mul_ediv_right _ _ (by omega),Int.add_mul_emod_self_right,Int.ediv_eq_zero_of_lt h0 h1,Int.emod_eq_of_lt h0 h1]
  exact ⟨by omega,rfl⟩
end Go.Proofs.YtdfdmeoalbpcdaaGreat

set_option linter.unusedSimpArgs false
set_option linter.unusedVariables false
set_option maxRecDepth 100000
namespace Go.Proofs.YtdfdmeoalbpcdaaGreat
open Go Go.RowKit
/-! ### Quotients, rounded down -/
def fq (a b : Int) : Int := if b < 0 then -a / -b else a / b
def fr (a b : Int) : Int := a - fq a b * b
theorem Qfh {a b q r : Int} (h : a = q * b + r) (hr : (0 < b ∧ 0 ≤ r ∧ r < b) ∨ (b < 0 ∧ r ≤ 0 ∧ b < r)) : fq a b = q ∧ fr a b = r := by
  have e : fq a b = q := by
    unfold fq
    rcases hr with ⟨hb,h0,h1⟩|⟨hb,h0,h1⟩
    · rw [if_neg (by omega),h,Int.add_comm,Int.add_mul_ediv_right _ _ (by omega),Int.ediv_eq_zero_of_lt h0 h1]
      omega
    · rw [if_pos hb,h,show -(q * b + r) = -r + q * -b by rw [Int.mul_neg];omega,Int.add_mul_ediv_right _ _ (by omega),Int.ediv_eq_zero_of_lt (by omega) (by omega)]
      omega
  refine ⟨e,?_⟩
  unfold fr
  rw [e];omega
theorem fr_range {a b : Int} (hb : b ≠ 0) : (0 < b ∧ 0 ≤ fr a b ∧ fr a b < b) ∨ (b < 0 ∧ fr a b ≤ 0 ∧ b < fr a b) := by
  unfold fr fq
  rcases Int.lt_or_gt_of_ne hb with h|h
  · right
    rw [if_pos h]
    have h1 := Int.mul_ediv_add_emod (-a) (-b)
    have h2 := Int.emod_nonneg (-a) (show -b ≠ 0 by omega)
    have h3 := Int.emod_lt_of_pos (-a) (show 0 < -b by omega)
    rw [Int.neg_mul,Int.mul_comm] at h1
    generalize -a / -b * b = t at *
    omega
  · left
    rw [if_neg (by omega)]
    have h1 := Int.mul_ediv_add_emod a b
    have h2 := Int.emod_nonneg a hb
    have h3 := Int.emod_lt_of_pos a h
    rw [Int.mul_comm] at h1
    generalize a / b * b = t at *
    omega
/-- Of numbers with one sign. -/
theorem div_like {a b : Int} (hb : b ≠ 0) (hs : decide (a < 0) = decide (b < 0)) (A B : Int) (hA : A = if a < 0 then -a else a) (hB : B = if b < 0 then -b else b) : fq a b = A / B ∧ fr a b = if b < 0 then -(A % B) else A % B := by
  rw [decide_eq_decide] at hs
  have hB0 : 0 < B := by rw [hB];split <;> omega
  have h1 := Int.mul_ediv_add_emod A B
  have h2 := Int.emod_nonneg A (show B ≠ 0 by omega)
  have h3 := Int.emod_lt_of_pos A hB0
  rw [Int.mul_comm] at h1
  generalize hx : A / B = x at *
  generalize A % B = y at *
  by_cases hn : b < 0
  · rw [if_pos hn]
    rw [if_pos (hs.2 hn)] at hA
    rw [if_pos hn] at hB
    subst hA;subst hB
    rw [Int.mul_neg] at h1
    exact Qfh (by omega) (.inr ⟨hn,by omega,by omega⟩)
  · rw [if_neg hn]
    rw [if_neg (fun h => hn (hs.1 h))] at hA
    rw [if_neg hn] at hB
    subst hA;subst hB
    exact Qfh (by omega) (.inl ⟨by omega,by omega,by omega⟩)
/-- Of numbers of unlike signs. -/
theorem div_unlike {a b : Int} (hb : b ≠ 0) (hs : decide (a < 0) = !decide (b < 0)) (A B : Int) (hA : A = if a < 0 then -a else a) (hB : B = if b < 0 then -b else b) :
    (A % B = 0 → fq a b = -(A / B) ∧ fr a b = 0) ∧ (A % B ≠ 0 → fq a b = -(A / B + 1) ∧ fr a b = if b < 0 then -(B - A % B) else B - A % B) := by
  have hB0 : 0 < B := by rw [hB];split <;> omega
  have h1 := Int.mul_ediv_add_emod A B
  have h2 := Int.emod_nonneg A (show B ≠ 0 by omega)
  have h3 := Int.emod_lt_of_pos A hB0
  rw [Int.mul_comm] at h1
  generalize hx : A / B = x at *
  generalize A % B = y at *
  by_cases hn : b < 0
  · have ha : ¬ a < 0 := by simpa [hn] using hs
    rw [if_neg ha] at hA
    rw [if_pos hn] at hB
    rw [if_pos hn]
    subst hA;subst hB
    rw [Int.mul_neg] at h1
    refine ⟨fun hy => Qfh (by rw [Int.neg_mul];omega) (.inr ⟨hn,by omega,by omega⟩),fun hy => Qfh ?_ (.inr ⟨hn,by omega,by omega⟩)⟩
    rw [Int.neg_mul,Int.add_mul];omega
  · have ha : a < 0 := by simpa [hn] using hs
    rw [if_pos ha] at hA
    rw [if_neg hn] at hB
    rw [if_neg hn]
    subst hA;subst hB
    refine ⟨fun hy => Qfh (by rw [Int.neg_mul];omega) (.inl ⟨by omega,by omega,by omega⟩),fun hy => Qfh ?_ (.inl ⟨by omega,by omega,by omega⟩)⟩
    rw [Int.neg_mul,Int.add_mul];omega
theorem Qhg {P : Program} {w : World} {fn : Func} {tmps : Array Value} {p q r : Nat} {t u s : TypeId} {a b c : Addr} {x y z : Value} (hf : fn.results = #[.cell p t,.cell q u,.cell r s])
    (h1 : tmps.getD p undef = .pointer (some a)) (h1' : (loadVar t a).run P w = .ok x w) (h2 : tmps.getD q undef = .pointer (some b)) (h2' : (loadVar u b).run P w = .ok y w) (h3 : tmps.getD r undef = .pointer (some c)) (h3' : (loadVar s c).run P w = .ok z w) :
    (results fn tmps).run P w = .ok (.tuple #[x,y,z]) w := by
  have e1 : tmps[p]?.getD undef = .pointer (some a) := by simpa using h1
  have e2 : tmps[q]?.getD undef = .pointer (some b) := by simpa using h2
  have e3 : tmps[r]?.getD undef = .pointer (some c) := by simpa using h3
  simp [results,hf,e1,e2,e3,asAddr,h1',h2',h3']
/-- Blocks that were written, and are as they were. -/
theorem Hp.stays {X : List Nat} {w w' : World} {H : List Bk} (hp : Hp X w H w') (h : ∀ g ∈ X,∃ b ∈ H,b.g = g ∧ w.heap[g]? = some (.cells b.cs.toArray b.t (0,0))) : Keep [] w w' :=
  ⟨hp.keep.os,hp.keep.tape,hp.keep.output,hp.keep.size,fun k hk _ => by
    by_cases hx : k ∈ X
    · obtain ⟨b,hb,rfl,hw⟩ := h k hx
      rw [hw]
      exact (hp.own b hb).2
    · exact hp.keep.block k hk hx⟩
set_option maxHeartbeats 1000000 in
/-- The deferred closure of Div, where the body has panicked. -/
theorem div_catch (gq gr gk : Nat) (u : TypeId) (pv : Value) (w : World) (hnd : [gq,gr,gk].Nodup) (h1 : w.heap[gq]? = some (.cells #[.int .u64 0,.int .u64 0,.int .u64 0,.int .u64 0,.int .u64 0,.int .u64 0,.int .u64 0,.int .u64 0] 27 (0,0))) (h2 : w.heap[gr]? = some (.cells #[.int .u64 0,.int .u64 0,.int .u64 0,.int .u64 0,.int .u64 0,.int .u64 0,.int .u64 0,.int .u64 0] 27 (0,0))) (h3 : w.heap[gk]? = some (.cells #[.bool false] 4 (0,0))) :
    CallsD Tryz.prog 41 #[.pointer (some ⟨gq,0,none⟩),.pointer (some ⟨gr,0,none⟩),.pointer (some ⟨gk,0,none⟩)] (.panicking [{ v := .iface u pv,recovered := false }]) w fun e u' w' =>
      e = .returned (.tuple #[]) ∧ u' = .panicking [{ v := .iface u pv,recovered := true }] ∧ Keep [] w w' := by
  refine callsD_of_wpS Tryz.func41 rfl fun c₀ css hu => ?_
  apply wpS_seq
  apply wpS_region
  simp [wpOpsS,go_sem,recoverD,hu,Tryz.ntmps41,Exit.thenS]
  have hp : Hp [gq,gr,gk] w [⟨gq,27,[.int .u64 0,.int .u64 0,.int .u64 0,.int .u64 0,.int .u64 0,.int .u64 0,.int .u64 0,.int .u64 0]⟩,⟨gr,27,[.int .u64 0,.int .u64 0,.int .u64 0,.int .u64 0,.int .u64 0,.int .u64 0,.int .u64 0,.int .u64 0]⟩,⟨gk,4,[.bool false]⟩] w :=
    ⟨Keep.refl _ _,fun b hb => by
      simp only [List.mem_cons,List.not_mem_nil,or_false] at hb
      rcases hb with rfl|rfl|rfl
      · exact ⟨.inl (by simp),h1⟩
      · exact ⟨.inl (by simp),h2⟩
      · exact ⟨.inl (by simp),h3⟩,hnd⟩
  have Hsame := Lib.hid fun w' (hp : Hp [gq,gr,gk] w [⟨gq,27,[.int .u64 0,.int .u64 0,.int .u64 0,.int .u64 0,.int .u64 0,.int .u64 0,.int .u64 0,.int .u64 0]⟩,⟨gr,27,[.int .u64 0,.int .u64 0,.int .u64 0,.int .u64 0,.int .u64 0,.int .u64 0,.int .u64 0,.int .u64 0]⟩,⟨gk,4,[.bool false]⟩] w') => hp.stays fun g hg => by
    simp only [List.mem_cons,List.not_mem_nil,or_false] at hg
    rcases hg with rfl|rfl|rfl
    · exact ⟨_,List.mem_cons_self,rfl,h1⟩
    · exact ⟨_,List.mem_cons_of_mem _ List.mem_cons_self,rfl,h2⟩
    · exact ⟨_,List.mem_cons_of_mem _ (List.mem_cons_of_mem _ List.mem_cons_self),rfl,h3⟩
  clear h1 h2 h3 hnd
  refine wpS_of_wp ?_
  simp only [Array.replicate_succ,Array.replicate_zero,List.push_toArray,List.append_toArray,List.nil_append,List.cons_append,List.setIfInBounds_toArray,List.set_cons_zero,List.set_cons_succ]
  go_wp2_with ((with_reducible apply Qae hp);exact zt rfl;(first|exact za rfl|exact zb rfl);exact rfl;exact Sz.z;exact rfl;exact ii;(simp only [n0,Nat.reduceAdd,nn];try rfl);(exact zl rfl);exact rfl;exact ii;clear hp;(try clear w1);intro w1 hp)
  exact ⟨rfl,_,rfl,_,results_none rfl _ _ _,rfl,rfl,Hsame.out _ hp⟩
set_option maxHeartbeats 1000000 in
/-- The deferred closure of Div, where the body has returned. -/
theorem div_idle (gq gr gk : Nat) (w : World) :
    CallsD Tryz.prog 41 #[.pointer (some ⟨gq,0,none⟩),.pointer (some ⟨gr,0,none⟩),.pointer (some ⟨gk,0,none⟩)] .returning w fun e u' w' => e = .returned (.tuple #[]) ∧ u' = .returning ∧ w' = w := by
  refine callsD_of_wpS Tryz.func41 rfl fun c₀ css hu => ?_
  apply wpS_seq
  apply wpS_region
  simp [wpOpsS,go_sem,recoverD,hu,Tryz.ntmps41,Exit.thenS]
  refine wpS_of_wp ?_
  simp only [Array.replicate_succ,Array.replicate_zero,List.push_toArray,List.append_toArray,List.nil_append,List.cons_append,List.setIfInBounds_toArray,List.set_cons_zero,List.set_cons_succ]
  go_wp2
  cases c₀
  simp_all [bodyPostS,results,Tryz.results41]
set_option maxHeartbeats 1000000 in
theorem Qnb (a : Int) (ha : Fit a) (w : World) : Calls Tryz.prog 52 #[W a] w (Ret (.tuple #[W (fz (-a)),.bool (decide (Fit (-a)))]) w) := by
  have hs := sub_any 0 a Qbp ha
  rw [show 0 - a = -a by omega,show W 0 = .agg #[.int .u64 0,.int .u64 0,.int .u64 0,.int .u64 0,.int .u64 0,.int .u64 0,.int .u64 0,.int .u64 0] from Qfe] at hs
  have HS := Lib.hid hs
  clear hs ha
  go_enter Tryz.func52,Tryz.ntmps52
  have hp := Hp.start [] w
  go_wp2_with (first|((with_reducible apply Qau hp);exact za rfl;exact rfl;clear hp;(try clear w1);intro g w1 hp;simp only [zp,zq,z0,z1])|((with_reducible apply Qag hp);exact ii;exact rfl;clear hp;(try clear w1);intro g w1 hp;simp only [zp,zq,z0,z1])|((with_reducible apply Qab hp);exact zt rfl;exact ii;exact ii;(exact zl rfl);(simp only [n0,Nat.reduceAdd,nn];try rfl);simp only [zp,zq,z0,z1])|((with_reducible apply Qae hp);exact zt rfl;exact za rfl;exact rfl;(exact AggTy.size);exact rfl;exact ii;(simp only [n0,Nat.reduceAdd,nn];try rfl);(exact zl rfl);exact rfl;exact ii;clear hp;(try clear w1);intro w1 hp)|((with_reducible refine Qaf hp (HS.out _) ?_);clear hp;(try clear w1);intro w1 hp))
  exact bodyPost_ret (Qan rfl ⟨_,rfl,Qac hp (Nat.le_of_ble_eq_true rfl)⟩ rfl) rfl ⟨rfl,hp.keep⟩
end Go.Proofs.YtdfdmeoalbpcdaaGreat
