/-
  The reference's Parse: every text.
-/
import Derived.Test.YtbdkbmhejoakiaaDoorTn
import Derived.Test.YtbdkbmhejoakiaaDoorTm
import Derived.Deep.CutBlock
set_option linter.unusedSimpArgs false
set_option linter.unusedVariables false
set_option maxRecDepth 100000
namespace Go.Proofs.YtbdkbmhejoakiaaDoor
open Go Go.RowKit
attribute [local irreducible] wpList

theorem scan_at (l : List UInt8) (k n : Nat) (h : k < l.length) (h1 : 48 ≤ (l[k]).toNat) (h2 : (l[k]).toNat ≤ 57) (h3 : n < 4294967296) : scan n (l.drop k) = scan (n * 10 + ((l[k]).toNat - 48)) (l.drop (k + 1)) := by
  rw [List.drop_eq_getElem_cons h, scan, if_pos ⟨h1, h2, h3⟩]
theorem scan_stop (l : List UInt8) (k n : Nat) (h : k < l.length) (h1 : ¬ (48 ≤ (l[k]).toNat ∧ (l[k]).toNat ≤ 57 ∧ n < 4294967296)) : scan n (l.drop k) = (n, l.drop k) := by
  rw [List.drop_eq_getElem_cons h, scan, if_neg h1]
theorem scan_end (l : List UInt8) (k n : Nat) (h : ¬ k < l.length) : scan n (l.drop k) = (n, l.drop k) := by
  rw [List.drop_eq_nil_of_le (by omega), scan]
/-- A sign of a text, as an integer. -/
def sgc (s : ByteArray) (k : Nat) : Int := ((s.data.toList.getD k 0).toNat : Int)
theorem sgc_ix (s : ByteArray) (k : Nat) : ∀ h, ((s[k]'h).toNat : Int) = sgc s k := by
  intro h
  unfold sgc
  have h' : k < s.data.toList.length := by simpa using h
  rw [List.getD_eq_getElem?_getD, List.getElem?_eq_getElem h']
  rfl
theorem sgc_rg (s : ByteArray) (k : Nat) : 0 ≤ sgc s k ∧ sgc s k ≤ 255 := by
  unfold sgc
  have := (s.data.toList.getD k 0).toNat_lt
  omega
theorem sgc_list (s : ByteArray) (k : Nat) (h : k < s.data.toList.length) : ((s.data.toList[k]).toNat : Int) = sgc s k := by
  unfold sgc
  rw [List.getD_eq_getElem?_getD, List.getElem?_eq_getElem h]
  rfl
theorem head45 (s : ByteArray) (h : ¬ s.size = 0) : (sgc s 0 == 45) = (s.data.toList.head? == some 45) := by
  have e : s.data.toList.length = s.size := rfl
  unfold sgc
  match hl : s.data.toList with
  | [] => rw [hl] at e; exact absurd e.symm h
  | c :: r =>
    simp only [List.getD_cons_zero, List.head?_cons]
    by_cases hc : c = 45
    · subst hc; rfl
    · rw [beq_eq_false_iff_ne.2 (fun h => hc (UInt8.toNat_inj.1 (by have : ((45 : UInt8).toNat : Int) = 45 := rfl; omega))), beq_eq_false_iff_ne.2 (fun h => hc (Option.some.inj h))]
theorem head0 (s : ByteArray) (h : s.size = 0) : (s.data.toList.head? == some 45) = false := by
  have e : s.data.toList = [] := List.eq_nil_of_length_eq_zero h
  rw [e]; rfl
theorem less_drop (l : List UInt8) : lessSign l = l.drop (if (l.head? == some 45) = true then 1 else 0) := by
  unfold lessSign
  by_cases h : l.head? = some 45
  · rw [if_pos h, if_pos (beq_iff_eq.2 h)]
  · rw [if_neg h, if_neg (fun h' => h (beq_iff_eq.1 h'))]; rfl
theorem refQ_no (l : List UInt8) (n : Nat) (r : List UInt8) (h : ¬ (r.head? = some 46 ∧ r.length = 9 ∧ n ≤ 2147483648)) : refQ l (n, r) = (0, 6) := by
  unfold refQ
  rw [if_neg h]
theorem refQ_yes (l : List UInt8) (n k : Nat) (h : k < l.length) (h46 : l[k] = 46) (h9 : l.length - k = 9) (hn : n ≤ 2147483648) : refQ l (n, l.drop k) = refT l n (hexr 0 (l.drop (k + 1))) := by
  unfold refQ
  have e := List.drop_eq_getElem_cons h
  rw [if_pos ⟨by rw [e, h46]; rfl, by simpa using h9, hn⟩, e]
  rfl
theorem hexr_lo (l : List UInt8) (i t : Nat) (h : i < l.length) (h1 : 48 ≤ (l[i]).toNat ∧ (l[i]).toNat ≤ 57) : hexr t (l.drop i) = hexr (t * 16 + ((l[i]).toNat - 48)) (l.drop (i + 1)) := by
  rw [List.drop_eq_getElem_cons h, hexr, if_pos h1]
theorem hexr_hi (l : List UInt8) (i t : Nat) (h : i < l.length) (h1 : ¬ (48 ≤ (l[i]).toNat ∧ (l[i]).toNat ≤ 57)) (h2 : 97 ≤ (l[i]).toNat ∧ (l[i]).toNat ≤ 102) : hexr t (l.drop i) = hexr (t * 16 + ((l[i]).toNat - 97) + 10) (l.drop (i + 1)) := by
  rw [List.drop_eq_getElem_cons h, hexr, if_neg h1, if_pos h2]
theorem hexr_none (l : List UInt8) (i t : Nat) (h : i < l.length) (h1 : ¬ (48 ≤ (l[i]).toNat ∧ (l[i]).toNat ≤ 57)) (h2 : ¬ (97 ≤ (l[i]).toNat ∧ (l[i]).toNat ≤ 102)) : hexr t (l.drop i) = none := by
  rw [List.drop_eq_getElem_cons h, hexr, if_neg h1, if_neg h2]
theorem hexr_end (l : List UInt8) (i t : Nat) (h : ¬ i < l.length) : hexr t (l.drop i) = some t := by
  rw [List.drop_eq_nil_of_le (by omega), hexr]
theorem wr_neg (m : Int) : wrap64 (IntKind.u64.wrap (-m)) = wrap64 (-(wrap64 m)) := by
  rw [IntKind.wrap_u64]
  unfold wrap64
  omega
theorem cast_mul (n t : Nat) : ((n * 4294967296 + t : Nat) : Int) = (n : Int) * 4294967296 + (t : Int) := by
  rw [Int.natCast_add, Int.natCast_mul]; rfl
theorem sg_neg (n t : Nat) : wrap64 (IntKind.u64.wrap (-((n : Int) * 4294967296 + (t : Int)))) = signed true (n * 4294967296 + t) := by
  unfold signed
  rw [if_pos rfl, wr_neg, cast_mul]
theorem sg_pos (n t : Nat) : wrap64 ((n : Int) * 4294967296 + (t : Int)) = signed false (n * 4294967296 + t) := by
  unfold signed
  rw [if_neg Bool.false_ne_true, cast_mul]
set_option maxHeartbeats 8000000 in
theorem rparse_any (s : ByteArray) (hs : s.size ≤ 140737488355328) (w : World) :
    Calls Tryd.prog 11 #[.string s] w (Ret (.tuple #[.int .i64 (refP s.data.toList).1, .int .i64 (refP s.data.toList).2]) w) := by
  obtain ⟨rp, hrp⟩ : ∃ rp, rp = refP s.data.toList := ⟨_, rfl⟩
  rw [← hrp]
  have HR := Lib.hid hrp
  clear hrp
  have IX := Lib.hid (sgc_ix s)
  have IL := Lib.hid (sgc_list s)
  have IR := Lib.hid (sgc_rg s)
  go_enter Tryd.func11, Tryd.ntmps11
  have hp := Hp.start [] w
  go_upto_region 2 with fail
  go_cut [5] (fun a5 wx => a5 = .bool (s.data.toList.head? == some 45) ∧ Hp [] w [] wx)
  case first =>
    by_cases h0 : s.size = 0
    · have g0 : decide ((0 : Int) < (s.size : Int)) = false := decide_eq_false (by omega)
      go_wp2_with fail
      go_meet
      exact ⟨by rw [head0 s h0], hp⟩
    · have g0 : decide ((0 : Int) < (s.size : Int)) = true := decide_eq_true (by omega)
      have ix := IX.out 0
      go_wp2_with fail
      go_meet
      exact ⟨by rw [head45 s h0], hp⟩
  case rest =>
  clear hp
  obtain ⟨rfl, hp⟩ := hcut
  have HD := Lib.hid (less_drop s.data.toList)
  have HZ := Lib.hid (head0 s)
  obtain ⟨b, hb⟩ : ∃ b, b = (s.data.toList.head? == some 45) := ⟨_, rfl⟩
  rw [← hb] at HD HZ ⊢
  have HB := Lib.hid hb
  clear hb
  go_upto_if 19 with fail
  go_cut [4] (fun a4 wx => ∃ k0 : Nat, k0 ≤ s.size ∧ lessSign s.data.toList = s.data.toList.drop k0 ∧ a4 = .int .i64 (k0 : Int) ∧ Hp [] w [] wx)
  case first =>
    cases b
    · go_wp2_with fail
      go_meet
      exact ⟨0, by omega, HD.out, rfl, hp⟩
    · go_wp2_with fail
      go_meet
      refine ⟨1, ?_, HD.out, rfl, hp⟩
      rcases Nat.lt_or_ge 0 s.size with h | h
      · omega
      · cases HZ.out (by omega)
  case rest =>
  clear hp
  obtain ⟨k0, hk0, hl0, rfl, hp⟩ := hcut
  have HL := Lib.hid hl0
  clear hl0 HD HZ
  go_upto_block 0 with fail
  go_cut [4, 6] (fun a4 a6 wx => ∃ (k n : Nat), k ≤ s.size ∧ n ≤ 42949672969 ∧ scan 0 (lessSign s.data.toList) = (n, s.data.toList.drop k) ∧ a4 = .int .i64 (k : Int) ∧ a6 = .int .u64 (n : Int) ∧ Hp [] w [] wx)
  case first =>
    go_wp2_with fail
    go_loopw [4, 6] (fun a4 a6 wr => ∃ (k n : Nat), k ≤ s.size ∧ n ≤ 42949672969 ∧ scan 0 (lessSign s.data.toList) = scan n (s.data.toList.drop k) ∧ a4 = .int .i64 (k : Int) ∧ a6 = .int .u64 (n : Int) ∧ Hp [] w [] wr) (fun a4 _ _ => s.size - (intOf a4).toNat)
    case atStart => exact ⟨k0, 0, hk0, by omega, by rw [HL.out], rfl, rfl, hp⟩
    case round =>
      clear hp
      obtain ⟨k, n, hk, hn, hsc, rfl, rfl, hp⟩ := hrel
      have HSC := Lib.hid hsc
      clear hsc
      by_cases h1 : k < s.size
      · have ix := IX.out k
        have hc := IR.out k
        have il := IL.out k h1
        obtain ⟨c, hcc⟩ : ∃ c, c = sgc s k := ⟨_, rfl⟩
        rw [← hcc] at ix hc il
        clear hcc
        have HIL := Lib.hid il
        clear il
        have g1 : decide ((k : Int) < (s.size : Int)) = true := decide_eq_true (by omega)
        by_cases h2 : 48 ≤ c
        · have g2 : decide (48 ≤ c) = true := decide_eq_true (by omega)
          by_cases h3 : c ≤ 57
          · have g3 : decide (c ≤ 57) = true := decide_eq_true (by omega)
            by_cases h4 : (n : Int) < 4294967296
            · have g4 : decide ((n : Int) < 4294967296) = true := decide_eq_true (by omega)
              go_wp2_with fail
              go_roundw
              case rel => exact ⟨k + 1, n * 10 + ((s.data.toList[k]'h1).toNat - 48), by omega, by have := HIL.out; omega, by rw [HSC.out]; exact scan_at _ k n h1 (by have := HIL.out; omega) (by have := HIL.out; omega) (by omega), rfl, congrArg (Value.int .u64) (by have := HIL.out; omega), hp⟩
              case measure => simp [intOf]; omega
            · have g4 : decide ((n : Int) < 4294967296) = false := decide_eq_false (by omega)
              go_wp2_with fail
              go_meet
              exact ⟨k, n, hk, hn, by rw [HSC.out]; exact scan_stop _ k n h1 (by have := HIL.out; omega), rfl, rfl, hp⟩
          · have g3 : decide (c ≤ 57) = false := decide_eq_false (by omega)
            go_wp2_with fail
            go_meet
            exact ⟨k, n, hk, hn, by rw [HSC.out]; exact scan_stop _ k n h1 (by have := HIL.out; omega), rfl, rfl, hp⟩
        · have g2 : decide (48 ≤ c) = false := decide_eq_false (by omega)
          go_wp2_with fail
          go_meet
          exact ⟨k, n, hk, hn, by rw [HSC.out]; exact scan_stop _ k n h1 (by have := HIL.out; omega), rfl, rfl, hp⟩
      · have g1 : decide ((k : Int) < (s.size : Int)) = false := decide_eq_false (by omega)
        go_wp2_with fail
        go_meet
        exact ⟨k, n, hk, hn, by rw [HSC.out]; exact scan_end _ k n h1, rfl, rfl, hp⟩
  case rest =>
  clear hp
  obtain ⟨k, n, hk, hn, hsc, rfl, rfl, hp⟩ := hcut
  have HSC := Lib.hid hsc
  clear hsc HL
  by_cases h1 : k < s.size
  · have ix := IX.out k
    have hc := IR.out k
    have il := IL.out k h1
    obtain ⟨c, hcc⟩ : ∃ c, c = sgc s k := ⟨_, rfl⟩
    rw [← hcc] at ix hc il
    clear hcc
    have HIL := Lib.hid il
    clear il
    have g1 : decide ((s.size : Int) ≤ (k : Int)) = false := decide_eq_false (by omega)
    by_cases h2 : c = 46
    · have g2 : (c != 46) = false := by rw [h2]; rfl
      by_cases h3 : (s.size : Int) - (k : Int) = 9
      · have g3 : ((s.size : Int) - (k : Int) != 9) = false := by rw [h3]; rfl
        by_cases h4 : (n : Int) ≤ 2147483648
        · have g4 : decide ((2147483648 : Int) < (n : Int)) = false := decide_eq_false (by omega)
          have HRQ : Hid (rp = refT s.data.toList n (hexr 0 (s.data.toList.drop (k + 1)))) := Lib.hid (by
            rw [HR.out]; unfold refP; rw [HSC.out]
            exact refQ_yes _ _ _ h1 (UInt8.toNat_inj.1 (by have := HIL.out; have e : (46 : UInt8).toNat = 46 := rfl; omega)) (by have e : s.data.toList.length = s.size := rfl; omega) (by omega))
          go_wp2_with fail
          go_loopw [7, 8] (fun a7 a8 wr => ∃ (t i : Nat), k + 1 ≤ i ∧ i ≤ s.size ∧ t < 16 ^ (i - (k + 1)) ∧ hexr 0 (s.data.toList.drop (k + 1)) = hexr t (s.data.toList.drop i) ∧ a7 = .int .u64 (t : Int) ∧ a8 = .int .i64 (i : Int) ∧ Hp [] w [] wr) (fun _ a8 _ => s.size - (intOf a8).toNat)
          case atStart => exact ⟨0, k + 1, by omega, by omega, by simp, rfl, rfl, by simp, hp⟩
          case round =>
            clear hp
            obtain ⟨t, i, hi0, hi, ht, hx, rfl, rfl, hp⟩ := hrel
            have HX := Lib.hid hx
            clear hx
            have HT := Lib.hid ht
            have ht2 : t < 4294967296 := Nat.lt_of_lt_of_le ht (Nat.pow_le_pow_right (by omega) (by omega : i - (k + 1) ≤ 8))
            clear ht ix hc HIL g1 g2 g3 g4 h2
            have HQ : Hid (rp = refT s.data.toList n (hexr 0 (s.data.toList.drop (k + 1)))) := HRQ
            by_cases j1 : i < s.size
            · have ix := IX.out i
              have hc := IR.out i
              have il := IL.out i j1
              obtain ⟨c, hcc⟩ : ∃ c, c = sgc s i := ⟨_, rfl⟩
              rw [← hcc] at ix hc il
              clear hcc
              have HIL := Lib.hid il
              clear il
              have g1 : decide ((i : Int) < (s.size : Int)) = true := decide_eq_true (by omega)
              by_cases j2 : 48 ≤ c
              · have g2 : decide (48 ≤ c) = true := decide_eq_true (by omega)
                by_cases j3 : c ≤ 57
                · have g3 : decide (c ≤ 57) = true := decide_eq_true (by omega)
                  go_wp2_with fail
                  go_roundw
                  case rel => exact ⟨t * 16 + ((s.data.toList[i]'j1).toNat - 48), i + 1, by omega, by omega, by rw [show i + 1 - (k + 1) = (i - (k + 1)) + 1 by omega, Nat.pow_succ]; have := HT.out; have := HIL.out; omega, by rw [HX.out]; exact hexr_lo _ i t j1 (by have := HIL.out; omega), congrArg (Value.int .u64) (by have := HIL.out; omega), rfl, hp⟩
                  case measure => simp [intOf]; omega
                · have g3 : decide (c ≤ 57) = false := decide_eq_false (by omega)
                  by_cases j4 : 97 ≤ c
                  · have g4 : decide (97 ≤ c) = true := decide_eq_true (by omega)
                    by_cases j5 : c ≤ 102
                    · have g5 : decide (c ≤ 102) = true := decide_eq_true (by omega)
                      go_wp2_with fail
                      go_roundw
                      case rel => exact ⟨t * 16 + ((s.data.toList[i]'j1).toNat - 97) + 10, i + 1, by omega, by omega, by rw [show i + 1 - (k + 1) = (i - (k + 1)) + 1 by omega, Nat.pow_succ]; have := HT.out; have := HIL.out; omega, by rw [HX.out]; exact hexr_hi _ i t j1 (by have := HIL.out; omega) (by have := HIL.out; omega), congrArg (Value.int .u64) (by have := HIL.out; omega), rfl, hp⟩
                      case measure => simp [intOf]; omega
                    · have g5 : decide (c ≤ 102) = false := decide_eq_false (by omega)
                      have hz : Hid (rp = (0, 6)) := Lib.hid (by rw [HQ.out, HX.out, hexr_none _ i t j1 (by have := HIL.out; omega) (by have := HIL.out; omega)]; rfl)
                      go_wp2_with fail
                      exact bodyPost_ret (results_two rfl rfl rfl) rfl ⟨by rw [hz.out]; rfl, hp.keep⟩
                  · have g4 : decide (97 ≤ c) = false := decide_eq_false (by omega)
                    have hz : Hid (rp = (0, 6)) := Lib.hid (by rw [HQ.out, HX.out, hexr_none _ i t j1 (by have := HIL.out; omega) (by have := HIL.out; omega)]; rfl)
                    go_wp2_with fail
                    exact bodyPost_ret (results_two rfl rfl rfl) rfl ⟨by rw [hz.out]; rfl, hp.keep⟩
              · have g2 : decide (48 ≤ c) = false := decide_eq_false (by omega)
                by_cases j4 : 97 ≤ c
                · have g4 : decide (97 ≤ c) = true := decide_eq_true (by omega)
                  by_cases j5 : c ≤ 102
                  · have g5 : decide (c ≤ 102) = true := decide_eq_true (by omega)
                    go_wp2_with fail
                    go_roundw
                    case rel => exact ⟨t * 16 + ((s.data.toList[i]'j1).toNat - 97) + 10, i + 1, by omega, by omega, by rw [show i + 1 - (k + 1) = (i - (k + 1)) + 1 by omega, Nat.pow_succ]; have := HT.out; have := HIL.out; omega, by rw [HX.out]; exact hexr_hi _ i t j1 (by have := HIL.out; omega) (by have := HIL.out; omega), congrArg (Value.int .u64) (by have := HIL.out; omega), rfl, hp⟩
                    case measure => simp [intOf]; omega
                  · have g5 : decide (c ≤ 102) = false := decide_eq_false (by omega)
                    have hz : Hid (rp = (0, 6)) := Lib.hid (by rw [HQ.out, HX.out, hexr_none _ i t j1 (by have := HIL.out; omega) (by have := HIL.out; omega)]; rfl)
                    go_wp2_with fail
                    exact bodyPost_ret (results_two rfl rfl rfl) rfl ⟨by rw [hz.out]; rfl, hp.keep⟩
                · have g4 : decide (97 ≤ c) = false := decide_eq_false (by omega)
                  have hz : Hid (rp = (0, 6)) := Lib.hid (by rw [HQ.out, HX.out, hexr_none _ i t j1 (by have := HIL.out; omega) (by have := HIL.out; omega)]; rfl)
                  go_wp2_with fail
                  exact bodyPost_ret (results_two rfl rfl rfl) rfl ⟨by rw [hz.out]; rfl, hp.keep⟩
            · have g1 : decide ((i : Int) < (s.size : Int)) = false := decide_eq_false (by omega)
              have HQ2 : Hid (rp = refT s.data.toList n (some t)) := Lib.hid (by rw [HQ.out, HX.out, hexr_end _ i t j1])
              clear HT HQ HX
              obtain ⟨A, hA⟩ : ∃ A, A = signed b (n * 4294967296 + t) := ⟨_, rfl⟩
              have HA : I64 A := by rw [hA]; exact signed_i64 _ _
              obtain ⟨tx, htx⟩ : ∃ tx : ByteArray, tx = ⟨(textB A).toArray⟩ := ⟨_, rfl⟩
              have F1 := rtext_any A HA
              rw [← htx] at F1
              have F2 := Lib.hid F1
              have HR2 : Hid (rp = if textB A = s.data.toList then (A, 0) else (0, 6)) := Lib.hid (by rw [HQ2.out]; unfold refT; dsimp only; rw [← HB.out, ← hA])
              obtain ⟨q, hq⟩ : ∃ q, (tx.toList == s.toList) = q := ⟨_, rfl⟩
              have HQ3 : Hid (q = decide (textB A = s.data.toList)) := Lib.hid (by rw [← hq, list_beq, htx])
              clear HQ2 F1 htx HA HRQ HSC HR hk0
              cases b
              · have hAe : wrap64 ((n : Int) * 4294967296 + (t : Int)) = A := by
                  rw [hA]; exact sg_pos n t
                clear hA
                cases q
                · go_wp2_with (first
          | ((with_reducible apply sx_index_one); exact za rfl; exact zk rfl; infer_instance; infer_instance; omega; omega; (first | exact rfl | (go_simp; done)); simp only [zp, zq, z0, z1])
          | ((with_reducible apply sx_index_agg); exact za rfl; exact zk rfl; infer_instance; infer_instance; omega; omega; ((try simp only [m0, Int.reduceToNat, m1, m2, Nat.reduceMul, m3, m4, n5, n1, n2, n3, n4, n6]); exact rfl); simp only [zp, zq, z0, z1])
          | ((with_reducible refine sx_call hp (F2.out _) ?_); clear hp; (try clear w1); intro w1 hp))
                  rw [if_neg (of_decide_eq_false HQ3.out.symm)] at HR2
                  exact bodyPost_ret (results_two rfl rfl rfl) rfl ⟨by rw [HR2.out]; rfl, hp.keep⟩
                · go_wp2_with (first
          | ((with_reducible apply sx_index_one); exact za rfl; exact zk rfl; infer_instance; infer_instance; omega; omega; (first | exact rfl | (go_simp; done)); simp only [zp, zq, z0, z1])
          | ((with_reducible apply sx_index_agg); exact za rfl; exact zk rfl; infer_instance; infer_instance; omega; omega; ((try simp only [m0, Int.reduceToNat, m1, m2, Nat.reduceMul, m3, m4, n5, n1, n2, n3, n4, n6]); exact rfl); simp only [zp, zq, z0, z1])
          | ((with_reducible refine sx_call hp (F2.out _) ?_); clear hp; (try clear w1); intro w1 hp))
                  rw [if_pos (of_decide_eq_true HQ3.out.symm)] at HR2
                  exact bodyPost_ret (results_two rfl rfl rfl) rfl ⟨by rw [HR2.out]; rfl, hp.keep⟩
              · have hAe : wrap64 (IntKind.u64.wrap (-((n : Int) * 4294967296 + (t : Int)))) = A := by
                  rw [hA]; exact sg_neg n t
                clear hA
                cases q
                · go_wp2_with (first
          | ((with_reducible apply sx_index_one); exact za rfl; exact zk rfl; infer_instance; infer_instance; omega; omega; (first | exact rfl | (go_simp; done)); simp only [zp, zq, z0, z1])
          | ((with_reducible apply sx_index_agg); exact za rfl; exact zk rfl; infer_instance; infer_instance; omega; omega; ((try simp only [m0, Int.reduceToNat, m1, m2, Nat.reduceMul, m3, m4, n5, n1, n2, n3, n4, n6]); exact rfl); simp only [zp, zq, z0, z1])
          | ((with_reducible refine sx_call hp (F2.out _) ?_); clear hp; (try clear w1); intro w1 hp))
                  rw [if_neg (of_decide_eq_false HQ3.out.symm)] at HR2
                  exact bodyPost_ret (results_two rfl rfl rfl) rfl ⟨by rw [HR2.out]; rfl, hp.keep⟩
                · go_wp2_with (first
          | ((with_reducible apply sx_index_one); exact za rfl; exact zk rfl; infer_instance; infer_instance; omega; omega; (first | exact rfl | (go_simp; done)); simp only [zp, zq, z0, z1])
          | ((with_reducible apply sx_index_agg); exact za rfl; exact zk rfl; infer_instance; infer_instance; omega; omega; ((try simp only [m0, Int.reduceToNat, m1, m2, Nat.reduceMul, m3, m4, n5, n1, n2, n3, n4, n6]); exact rfl); simp only [zp, zq, z0, z1])
          | ((with_reducible refine sx_call hp (F2.out _) ?_); clear hp; (try clear w1); intro w1 hp))
                  rw [if_pos (of_decide_eq_true HQ3.out.symm)] at HR2
                  exact bodyPost_ret (results_two rfl rfl rfl) rfl ⟨by rw [HR2.out]; rfl, hp.keep⟩
        · have g4 : decide ((2147483648 : Int) < (n : Int)) = true := decide_eq_true (by omega)
          go_wp2_with fail
          have hz : Hid (rp = (0, 6)) := Lib.hid (by rw [HR.out]; unfold refP; rw [HSC.out]; exact refQ_no _ _ _ (by rintro ⟨_, _, h⟩; omega))
          exact bodyPost_ret (results_two rfl rfl rfl) rfl ⟨by rw [hz.out]; rfl, hp.keep⟩
      · have g3 : ((s.size : Int) - (k : Int) != 9) = true := bne_iff_ne.2 h3
        go_wp2_with fail
        have hz : Hid (rp = (0, 6)) := Lib.hid (by rw [HR.out]; unfold refP; rw [HSC.out]; exact refQ_no _ _ _ (by rintro ⟨_, h, _⟩; have e : s.data.toList.length = s.size := rfl; simp only [List.length_drop] at h; omega))
        exact bodyPost_ret (results_two rfl rfl rfl) rfl ⟨by rw [hz.out]; rfl, hp.keep⟩
    · have g2 : (c != 46) = true := bne_iff_ne.2 h2
      go_wp2_with fail
      have hz : Hid (rp = (0, 6)) := Lib.hid (by rw [HR.out]; unfold refP; rw [HSC.out]; exact refQ_no _ _ _ (by rintro ⟨h, _, _⟩; rw [List.drop_eq_getElem_cons h1, List.head?_cons] at h; have e := HIL.out; rw [Option.some.inj h] at e; exact h2 e.symm))
      exact bodyPost_ret (results_two rfl rfl rfl) rfl ⟨by rw [hz.out]; rfl, hp.keep⟩
  · have g1 : decide ((s.size : Int) ≤ (k : Int)) = true := decide_eq_true (by omega)
    go_wp2_with fail
    have hz : Hid (rp = (0, 6)) := Lib.hid (by rw [HR.out]; unfold refP; rw [HSC.out]; exact refQ_no _ _ _ (by rintro ⟨h, _, _⟩; rw [List.drop_eq_nil_of_le (by have e : s.data.toList.length = s.size := rfl; omega)] at h; cases h))
    exact bodyPost_ret (results_two rfl rfl rfl) rfl ⟨by rw [hz.out]; rfl, hp.keep⟩
end Go.Proofs.YtbdkbmhejoakiaaDoor
