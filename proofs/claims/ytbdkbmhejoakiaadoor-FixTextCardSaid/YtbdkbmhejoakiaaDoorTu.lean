/-
  strconv.ParseUint at base 16, 32 bits: every text (printed by gen_tu.py).
-/
import Derived.Test.YtbdkbmhejoakiaaDoorTk
import Derived.Test.YtbdkbmhejoakiaaDoorTq
import Derived.Test.YtbdkbmhejoakiaaDoorTb
import Derived.Test.YtbdkbmhejoakiaaDoorSg
set_option linter.unusedSimpArgs false
set_option linter.unusedVariables false
set_option maxRecDepth 100000
namespace Go.Proofs.YtbdkbmhejoakiaaDoor
open Go Go.RowKit
open Go.Lib (NumEnd)
attribute [local irreducible] wpList

theorem parse16_cons (acc : Nat) (c : UInt8) (r : List UInt8) : parse16 acc (c :: r) = match dig16 c with
    | none => .syntax
    | some d => if 4294967295 < acc * 16 + d then .range else parse16 (acc * 16 + d) r := rfl
theorem low_95 {c : UInt8} (h : c.toNat = 95) : (c ||| 32).toNat = 127 := by
  have : c = 95 := UInt8.toNat_inj.1 h
  subst this; decide
theorem dig_95 {c : UInt8} (h : c.toNat = 95) : dig16 c = none := by
  have : c = 95 := UInt8.toNat_inj.1 h
  subst this; decide
theorem lowc_all : ∀ n : Fin 48, ((UInt8.ofNat n.val) ||| 32).toNat < 97 := by decide
theorem low_low {c : UInt8} (h : c.toNat < 48) : (c ||| 32).toNat < 97 := by
  have := lowc_all ⟨c.toNat, h⟩
  rwa [UInt8.ofNat_toNat] at this
theorem dig_low {c : UInt8} (h : c.toNat < 48) : dig16 c = none := by
  have := low_low h
  unfold dig16
  rw [if_neg (by omega), if_neg (by omega)]
theorem lowb_all : ∀ n : Fin 256, bits BinOp.or IntKind.u8 (n.val : Int) 32 = (((UInt8.ofNat n.val) ||| 32).toNat : Int) := of_decide_eq_true (by kernel_rfl)
theorem lowb (c : UInt8) : bits BinOp.or IntKind.u8 (c.toNat : Int) 32 = ((c ||| 32).toNat : Int) := by
  have := lowb_all ⟨c.toNat, c.toNat_lt⟩
  rwa [UInt8.ofNat_toNat] at this
theorem flower_any (c : UInt8) (w : World) : Calls Tryd.prog 73 #[.int .u8 (c.toNat : Int)] w (Ret (.int .u8 ((c ||| 32).toNat : Int)) w) := by
  go_enter Tryd.func73, Tryd.ntmps73
  have hp := Hp.start [] w
  go_wp2_with (first
          | fail)
  rw [lowb]
  exact bodyPost_ret (results_one rfl rfl) rfl ⟨rfl, hp.keep⟩
theorem tup_ok (n : Nat) : Lib.uintTupleM 85 4294967295 (.ok n) = .tuple #[.int .u64 n, .nilIface] := rfl
theorem tup_syn : Lib.uintTupleM 85 4294967295 .syntax = .tuple #[.int .u64 0, .iface 85 (.int .i64 2)] := rfl
theorem tup_ran : Lib.uintTupleM 85 4294967295 .range = .tuple #[.int .u64 4294967295, .iface 85 (.int .i64 1)] := rfl
set_option maxHeartbeats 16000000 in
theorem fpin16_any (t : ByteArray) (hne : t.toList.isEmpty = false) (hmax : t.size ≤ 4611686018427387904) (w : World) : Calls Tryd.prog 57 #[.string t, .int .i64 16, .int .i64 32] w (Ret (Lib.uintTupleM 85 4294967295 (parse16 0 t.data.toList)) w) := by
  go_enter Tryd.func57, Tryd.ntmps57
  have hp := Hp.start [] w
  go_wp2_with (first
          | ((with_reducible apply sx_guard); (conv => whnf); refine Bx.mk ?_; (try simp only [zp, zq, z0, z1]))
          | ((with_reducible apply sx_load_one hp); exact zt rfl; infer_instance; infer_instance; (first | exact zio rfl | exact LB_get (by omega)); simp only [zp, zq, z0, z1])
          | ((with_reducible apply sx_index_one); exact za rfl; exact zk rfl; infer_instance; infer_instance; omega; omega; (first | exact rfl | (go_simp; done)); simp only [zp, zq, z0, z1])
          | ((with_reducible apply sx_index_agg); exact za rfl; exact zk rfl; infer_instance; infer_instance; omega; omega; ((try simp only [m0, Int.reduceToNat, m1, m2, Nat.reduceMul, m3, m4, n5, n1, n2, n3, n4, n6]); exact rfl); simp only [zp, zq, z0, z1])
          | ((with_reducible apply sx_indexAddr); exact zx rfl; exact zk rfl; infer_instance; (first | exact AggTy.size | exact OneTy.size); omega; omega; ((try simp only [m0, Int.reduceToNat, m1, m2, Nat.reduceMul, Nat.reduceAdd, m3, m4, m5, n0]); exact rfl); simp only [zp, zq, z0, z1])
          | ((with_reducible apply sx_load_far1 hp); exact zt rfl; assumption; infer_instance; (first | assumption | (first | exact zio rfl | exact LB_get (by omega))); simp only [zp, zq, z0, z1])
          | ((with_reducible apply sx_convSB hp); exact zg rfl; exact (rfl : _ = t.size); exact Tryd.underlying9; exact Tryd.underlying57; exact Tryd.underlying5; intro g cap cs z w9 hk9 hb hcs; simp only [zp, zq, z0, z1]))
  have HK1 := Lib.hid hk9.keep
  have HCS := Lib.hid hcs
  clear hp hk9 hcs
  have hp := Hp.start [] w9
  have hsz : t.data.toList.length = t.size := by rw [Array.length_toList]; rfl
  go_loopw [12, 13, 101] (fun u n i wr => ∃ (k acc : Nat) (a : Int), k ≤ t.size ∧ u = .bool false ∧ n = .int .u64 a ∧ i = .int .i64 k ∧ Hid (a = acc ∧ acc ≤ 4294967295 ∧ parse16 0 t.data.toList = parse16 acc (t.data.toList.drop k)) ∧ Hp [] w9 [] wr) (fun _ _ i _ => t.size - (intOf i).toNat)
  case atStart => exact ⟨0, 0, 0, by omega, rfl, rfl, rfl, Lib.hid ⟨rfl, by omega, rfl⟩, hp⟩
  case round =>
    clear hp
    obtain ⟨k, acc, a, hk, rfl, rfl, rfl, hh, hp⟩ := hrel
    have HP := Lib.hid hh.out.2.2
    have HA := Lib.hid (And.intro hh.out.1 hh.out.2.1)
    have a0 : 0 ≤ a := by have := HA.out; omega
    have a1 : a ≤ 4294967295 := by have := HA.out; omega
    have a2 : ¬ 1152921504606846976 ≤ a := by omega
    clear hh
    by_cases hk1 : k < t.size
    · have hk2 : (k : Int) < t.size := by omega
      have hkd : k < t.data.toList.length := by omega
      have hc0 : cs[k]? = some (Value.int .u8 ((t.data.toList[k]).toNat : Int)) := by
        have := HCS.out k (by simpa using hkd)
        rw [this]
        simp
      have hdr : t.data.toList.drop k = t.data.toList[k] :: t.data.toList.drop (k + 1) := List.drop_eq_getElem_cons hkd
      rw [hdr] at HP
      clear hdr
      generalize t.data.toList[k] = c at *
      have hc255 : c.toNat < 256 := c.toNat_lt
      obtain ⟨rs, hrs⟩ : ∃ rs, rs = t.data.toList.drop (k + 1) := ⟨_, rfl⟩
      rw [← hrs] at HP
      have HRS := Lib.hid hrs
      clear hrs
      have LW := Lib.hid (flower_any c)
      clear hkd
      obtain ⟨cv, hcv⟩ : ∃ x : Int, x = (c.toNat : Int) := ⟨_, rfl⟩
      obtain ⟨lv, hlv⟩ : ∃ x : Int, x = ((c ||| 32).toNat : Int) := ⟨_, rfl⟩
      have hl255 : (c ||| 32).toNat < 256 := (c ||| 32).toNat_lt
      rw [← hcv] at hc0 LW
      rw [← hlv] at LW
      by_cases h95 : c.toNat = 95
      case pos =>
        have HD : Hid (dig16 c = none) := Lib.hid (dig_95 h95)
        have hlc : (c ||| 32).toNat = 127 := low_95 h95
        obtain rfl : cv = 95 := by omega
        obtain rfl : lv = 127 := by omega
        clear hlc h95 hcv hlv hc255 hl255
        have HE : Hid (parse16 acc (c :: rs) = .syntax) := Lib.hid (by rw [parse16_cons, HD.out])
        clear HD
        as_aux_lemma =>
          go_wp2_with (first
          | ((with_reducible apply sx_guard); (conv => whnf); refine Bx.mk ?_; (try simp only [zp, zq, z0, z1]))
          | ((with_reducible apply sx_load_one hp); exact zt rfl; infer_instance; infer_instance; (first | exact zio rfl | exact LB_get (by omega) | assumption); simp only [zp, zq, z0, z1])
          | ((with_reducible apply sx_index_one); exact za rfl; exact zk rfl; infer_instance; infer_instance; omega; omega; (first | exact rfl | (go_simp; done)); simp only [zp, zq, z0, z1])
          | ((with_reducible apply sx_index_agg); exact za rfl; exact zk rfl; infer_instance; infer_instance; omega; omega; ((try simp only [m0, Int.reduceToNat, m1, m2, Nat.reduceMul, m3, m4, n5, n1, n2, n3, n4, n6]); exact rfl); simp only [zp, zq, z0, z1])
          | ((with_reducible apply sx_indexAddr); exact zx rfl; exact zk rfl; infer_instance; (first | exact AggTy.size | exact OneTy.size); omega; omega; ((try simp only [m0, Int.reduceToNat, m1, m2, Nat.reduceMul, Nat.reduceAdd, m3, m4, m5, n0]); exact rfl); simp only [zp, zq, z0, z1])
          | ((with_reducible apply sx_load_far1 hp); exact zt rfl; assumption; infer_instance; (first | assumption | (first | exact zio rfl | exact LB_get (by omega) | assumption)); simp only [zp, zq, z0, z1])
          | ((with_reducible refine sx_call hp (LW.out _) ?_); clear hp; (try clear w1); intro w1 hp)
          | ((with_reducible apply sx_load_far1 hp); exact zt rfl; exact hb; infer_instance; (first | exact hc0 | (simp only [Nat.zero_add, Nat.mul_one]; exact hc0)); simp only [zp, zq, z0, z1]))
          exact bodyPost_ret (results_two rfl rfl rfl) rfl ⟨by rw [HP.out, HE.out]; rfl, HK1.out.trans hp.keep⟩
      have e95 : (cv == 95) = false := by simpa using (by omega : ¬ cv = 95)
      by_cases h48 : c.toNat < 48
      case pos =>
        have HD : Hid (dig16 c = none) := Lib.hid (dig_low h48)
        have hlc : (c ||| 32).toNat < 97 := low_low h48
        have e48 : decide (48 ≤ cv) = false := decide_eq_false (by omega)
        have e97 : decide (97 ≤ lv) = false := decide_eq_false (by omega)
        clear h95 h48 hlc
        clear hcv hlv hc255 hl255
        have HE : Hid (parse16 acc (c :: rs) = .syntax) := Lib.hid (by rw [parse16_cons, HD.out])
        clear HD
        as_aux_lemma =>
          go_wp2_with (first
          | ((with_reducible apply sx_guard); (conv => whnf); refine Bx.mk ?_; (try simp only [zp, zq, z0, z1]))
          | ((with_reducible apply sx_load_one hp); exact zt rfl; infer_instance; infer_instance; (first | exact zio rfl | exact LB_get (by omega) | assumption); simp only [zp, zq, z0, z1])
          | ((with_reducible apply sx_index_one); exact za rfl; exact zk rfl; infer_instance; infer_instance; omega; omega; (first | exact rfl | (go_simp; done)); simp only [zp, zq, z0, z1])
          | ((with_reducible apply sx_index_agg); exact za rfl; exact zk rfl; infer_instance; infer_instance; omega; omega; ((try simp only [m0, Int.reduceToNat, m1, m2, Nat.reduceMul, m3, m4, n5, n1, n2, n3, n4, n6]); exact rfl); simp only [zp, zq, z0, z1])
          | ((with_reducible apply sx_indexAddr); exact zx rfl; exact zk rfl; infer_instance; (first | exact AggTy.size | exact OneTy.size); omega; omega; ((try simp only [m0, Int.reduceToNat, m1, m2, Nat.reduceMul, Nat.reduceAdd, m3, m4, m5, n0]); exact rfl); simp only [zp, zq, z0, z1])
          | ((with_reducible apply sx_load_far1 hp); exact zt rfl; assumption; infer_instance; (first | assumption | (first | exact zio rfl | exact LB_get (by omega) | assumption)); simp only [zp, zq, z0, z1])
          | ((with_reducible refine sx_call hp (LW.out _) ?_); clear hp; (try clear w1); intro w1 hp)
          | ((with_reducible apply sx_load_far1 hp); exact zt rfl; exact hb; infer_instance; (first | exact hc0 | (simp only [Nat.zero_add, Nat.mul_one]; exact hc0)); simp only [zp, zq, z0, z1]))
          exact bodyPost_ret (results_two rfl rfl rfl) rfl ⟨by rw [HP.out, HE.out]; rfl, HK1.out.trans hp.keep⟩
      have e48 : decide (48 ≤ cv) = true := decide_eq_true (by omega)
      by_cases h57 : c.toNat ≤ 57
      case pos =>
        have e57 : decide (cv ≤ 57) = true := decide_eq_true (by omega)
        obtain ⟨d, hd⟩ : ∃ d, d = c.toNat - 48 := ⟨_, rfl⟩
        have HD : Hid (dig16 c = some d) := Lib.hid (by unfold dig16; rw [if_pos ⟨by omega, h57⟩, hd])
        obtain ⟨dv, hdv⟩ : ∃ x : Int, x = d := ⟨_, rfl⟩
        obtain rfl : cv = dv + 48 := by omega
        have hd9 : 0 ≤ dv ∧ dv ≤ 9 := by omega
        have HDV := Lib.hid hdv
        clear hd hcv hlv hc255 hl255 h95 h48 h57 hdv
        have hd16 : dv < 16 := by have := HDV.out; omega
        have g16 : decide (16 ≤ dv) = false := decide_eq_false (by omega)
        try clear h16
        by_cases hr : 4294967295 < acc * 16 + d
        case pos =>
          have hr2 : 4294967295 < a * 16 + dv := by have := HDV.out; have := HA.out; omega
          have HE : Hid (parse16 acc (c :: rs) = .range) := Lib.hid (by rw [parse16_cons, HD.out]; dsimp only; rw [if_pos (by omega)])
          clear HD hr
          as_aux_lemma =>
            go_wp2_with (first
          | ((with_reducible apply sx_guard); (conv => whnf); refine Bx.mk ?_; (try simp only [zp, zq, z0, z1]))
          | ((with_reducible apply sx_load_one hp); exact zt rfl; infer_instance; infer_instance; (first | exact zio rfl | exact LB_get (by omega) | assumption); simp only [zp, zq, z0, z1])
          | ((with_reducible apply sx_index_one); exact za rfl; exact zk rfl; infer_instance; infer_instance; omega; omega; (first | exact rfl | (go_simp; done)); simp only [zp, zq, z0, z1])
          | ((with_reducible apply sx_index_agg); exact za rfl; exact zk rfl; infer_instance; infer_instance; omega; omega; ((try simp only [m0, Int.reduceToNat, m1, m2, Nat.reduceMul, m3, m4, n5, n1, n2, n3, n4, n6]); exact rfl); simp only [zp, zq, z0, z1])
          | ((with_reducible apply sx_indexAddr); exact zx rfl; exact zk rfl; infer_instance; (first | exact AggTy.size | exact OneTy.size); omega; omega; ((try simp only [m0, Int.reduceToNat, m1, m2, Nat.reduceMul, Nat.reduceAdd, m3, m4, m5, n0]); exact rfl); simp only [zp, zq, z0, z1])
          | ((with_reducible apply sx_load_far1 hp); exact zt rfl; assumption; infer_instance; (first | assumption | (first | exact zio rfl | exact LB_get (by omega) | assumption)); simp only [zp, zq, z0, z1])
          | ((with_reducible refine sx_call hp (LW.out _) ?_); clear hp; (try clear w1); intro w1 hp)
          | ((with_reducible apply sx_load_far1 hp); exact zt rfl; exact hb; infer_instance; (first | exact hc0 | (simp only [Nat.zero_add, Nat.mul_one]; exact hc0)); simp only [zp, zq, z0, z1]))
            exact bodyPost_ret (results_two rfl rfl rfl) rfl ⟨by rw [HP.out, HE.out]; rfl, HK1.out.trans hp.keep⟩
        have hr2 : ¬ 4294967295 < a * 16 + dv := by have := HDV.out; have := HA.out; omega
        have HE : Hid (parse16 acc (c :: rs) = parse16 (acc * 16 + d) rs) := Lib.hid (by rw [parse16_cons, HD.out]; dsimp only; rw [if_neg (by omega)])
        have hr3 : Hid (acc * 16 + d ≤ 4294967295) := Lib.hid (by omega)
        clear hr
        as_aux_lemma =>
          go_wp2_with (first
          | ((with_reducible apply sx_guard); (conv => whnf); refine Bx.mk ?_; (try simp only [zp, zq, z0, z1]))
          | ((with_reducible apply sx_load_one hp); exact zt rfl; infer_instance; infer_instance; (first | exact zio rfl | exact LB_get (by omega) | assumption); simp only [zp, zq, z0, z1])
          | ((with_reducible apply sx_index_one); exact za rfl; exact zk rfl; infer_instance; infer_instance; omega; omega; (first | exact rfl | (go_simp; done)); simp only [zp, zq, z0, z1])
          | ((with_reducible apply sx_index_agg); exact za rfl; exact zk rfl; infer_instance; infer_instance; omega; omega; ((try simp only [m0, Int.reduceToNat, m1, m2, Nat.reduceMul, m3, m4, n5, n1, n2, n3, n4, n6]); exact rfl); simp only [zp, zq, z0, z1])
          | ((with_reducible apply sx_indexAddr); exact zx rfl; exact zk rfl; infer_instance; (first | exact AggTy.size | exact OneTy.size); omega; omega; ((try simp only [m0, Int.reduceToNat, m1, m2, Nat.reduceMul, Nat.reduceAdd, m3, m4, m5, n0]); exact rfl); simp only [zp, zq, z0, z1])
          | ((with_reducible apply sx_load_far1 hp); exact zt rfl; assumption; infer_instance; (first | assumption | (first | exact zio rfl | exact LB_get (by omega) | assumption)); simp only [zp, zq, z0, z1])
          | ((with_reducible refine sx_call hp (LW.out _) ?_); clear hp; (try clear w1); intro w1 hp)
          | ((with_reducible apply sx_load_far1 hp); exact zt rfl; exact hb; infer_instance; (first | exact hc0 | (simp only [Nat.zero_add, Nat.mul_one]; exact hc0)); simp only [zp, zq, z0, z1]))
          go_roundw
          case rel => exact ⟨k + 1, acc * 16 + d, a * 16 + dv, by omega, rfl, by go_num, by go_num, Lib.hid ⟨by have := HDV.out; have := HA.out; omega, hr3.out, by rw [HP.out, HE.out, HRS.out]⟩, hp⟩
          case measure => simp [intOf]; omega
      have e57 : decide (cv ≤ 57) = false := decide_eq_false (by omega)
      by_cases h97 : (c ||| 32).toNat < 97
      case pos =>
        have HD : Hid (dig16 c = none) := Lib.hid (by unfold dig16; rw [if_neg (by omega), if_neg (by omega)])
        have e97 : decide (97 ≤ lv) = false := decide_eq_false (by omega)
        clear h95 h48 h57 h97
        clear hcv hlv hc255 hl255
        have HE : Hid (parse16 acc (c :: rs) = .syntax) := Lib.hid (by rw [parse16_cons, HD.out])
        clear HD
        as_aux_lemma =>
          go_wp2_with (first
          | ((with_reducible apply sx_guard); (conv => whnf); refine Bx.mk ?_; (try simp only [zp, zq, z0, z1]))
          | ((with_reducible apply sx_load_one hp); exact zt rfl; infer_instance; infer_instance; (first | exact zio rfl | exact LB_get (by omega) | assumption); simp only [zp, zq, z0, z1])
          | ((with_reducible apply sx_index_one); exact za rfl; exact zk rfl; infer_instance; infer_instance; omega; omega; (first | exact rfl | (go_simp; done)); simp only [zp, zq, z0, z1])
          | ((with_reducible apply sx_index_agg); exact za rfl; exact zk rfl; infer_instance; infer_instance; omega; omega; ((try simp only [m0, Int.reduceToNat, m1, m2, Nat.reduceMul, m3, m4, n5, n1, n2, n3, n4, n6]); exact rfl); simp only [zp, zq, z0, z1])
          | ((with_reducible apply sx_indexAddr); exact zx rfl; exact zk rfl; infer_instance; (first | exact AggTy.size | exact OneTy.size); omega; omega; ((try simp only [m0, Int.reduceToNat, m1, m2, Nat.reduceMul, Nat.reduceAdd, m3, m4, m5, n0]); exact rfl); simp only [zp, zq, z0, z1])
          | ((with_reducible apply sx_load_far1 hp); exact zt rfl; assumption; infer_instance; (first | assumption | (first | exact zio rfl | exact LB_get (by omega) | assumption)); simp only [zp, zq, z0, z1])
          | ((with_reducible refine sx_call hp (LW.out _) ?_); clear hp; (try clear w1); intro w1 hp)
          | ((with_reducible apply sx_load_far1 hp); exact zt rfl; exact hb; infer_instance; (first | exact hc0 | (simp only [Nat.zero_add, Nat.mul_one]; exact hc0)); simp only [zp, zq, z0, z1]))
          exact bodyPost_ret (results_two rfl rfl rfl) rfl ⟨by rw [HP.out, HE.out]; rfl, HK1.out.trans hp.keep⟩
      have e97 : decide (97 ≤ lv) = true := decide_eq_true (by omega)
      by_cases h122 : 122 < (c ||| 32).toNat
      case pos =>
        have HD : Hid (dig16 c = none) := Lib.hid (by unfold dig16; rw [if_neg (by omega), if_neg (by omega)])
        have e122 : decide (lv ≤ 122) = false := decide_eq_false (by omega)
        clear h95 h48 h57 h97 h122
        clear hcv hlv hc255 hl255
        have HE : Hid (parse16 acc (c :: rs) = .syntax) := Lib.hid (by rw [parse16_cons, HD.out])
        clear HD
        as_aux_lemma =>
          go_wp2_with (first
          | ((with_reducible apply sx_guard); (conv => whnf); refine Bx.mk ?_; (try simp only [zp, zq, z0, z1]))
          | ((with_reducible apply sx_load_one hp); exact zt rfl; infer_instance; infer_instance; (first | exact zio rfl | exact LB_get (by omega) | assumption); simp only [zp, zq, z0, z1])
          | ((with_reducible apply sx_index_one); exact za rfl; exact zk rfl; infer_instance; infer_instance; omega; omega; (first | exact rfl | (go_simp; done)); simp only [zp, zq, z0, z1])
          | ((with_reducible apply sx_index_agg); exact za rfl; exact zk rfl; infer_instance; infer_instance; omega; omega; ((try simp only [m0, Int.reduceToNat, m1, m2, Nat.reduceMul, m3, m4, n5, n1, n2, n3, n4, n6]); exact rfl); simp only [zp, zq, z0, z1])
          | ((with_reducible apply sx_indexAddr); exact zx rfl; exact zk rfl; infer_instance; (first | exact AggTy.size | exact OneTy.size); omega; omega; ((try simp only [m0, Int.reduceToNat, m1, m2, Nat.reduceMul, Nat.reduceAdd, m3, m4, m5, n0]); exact rfl); simp only [zp, zq, z0, z1])
          | ((with_reducible apply sx_load_far1 hp); exact zt rfl; assumption; infer_instance; (first | assumption | (first | exact zio rfl | exact LB_get (by omega) | assumption)); simp only [zp, zq, z0, z1])
          | ((with_reducible refine sx_call hp (LW.out _) ?_); clear hp; (try clear w1); intro w1 hp)
          | ((with_reducible apply sx_load_far1 hp); exact zt rfl; exact hb; infer_instance; (first | exact hc0 | (simp only [Nat.zero_add, Nat.mul_one]; exact hc0)); simp only [zp, zq, z0, z1]))
          exact bodyPost_ret (results_two rfl rfl rfl) rfl ⟨by rw [HP.out, HE.out]; rfl, HK1.out.trans hp.keep⟩
      have e122 : decide (lv ≤ 122) = true := decide_eq_true (by omega)
      obtain ⟨d, hd⟩ : ∃ d, d = (c ||| 32).toNat - 87 := ⟨_, rfl⟩
      obtain ⟨dv, hdv⟩ : ∃ x : Int, x = d := ⟨_, rfl⟩
      obtain rfl : lv = dv + 87 := by omega
      have hd10 : 10 ≤ dv ∧ dv ≤ 35 := by omega
      have HDV := Lib.hid hdv
      by_cases h16 : 16 ≤ d
      case pos =>
        have HD : Hid (dig16 c = none) := Lib.hid (by unfold dig16; rw [if_neg (by omega), if_pos (by omega), if_neg (by omega)])
        clear hd hcv hlv hc255 hl255 h95 h48 h57 h97 h122 hdv
        have h16v : 16 ≤ dv := by have := HDV.out; omega
        clear h16
        have HE : Hid (parse16 acc (c :: rs) = .syntax) := Lib.hid (by rw [parse16_cons, HD.out])
        clear HD
        as_aux_lemma =>
          go_wp2_with (first
          | ((with_reducible apply sx_guard); (conv => whnf); refine Bx.mk ?_; (try simp only [zp, zq, z0, z1]))
          | ((with_reducible apply sx_load_one hp); exact zt rfl; infer_instance; infer_instance; (first | exact zio rfl | exact LB_get (by omega) | assumption); simp only [zp, zq, z0, z1])
          | ((with_reducible apply sx_index_one); exact za rfl; exact zk rfl; infer_instance; infer_instance; omega; omega; (first | exact rfl | (go_simp; done)); simp only [zp, zq, z0, z1])
          | ((with_reducible apply sx_index_agg); exact za rfl; exact zk rfl; infer_instance; infer_instance; omega; omega; ((try simp only [m0, Int.reduceToNat, m1, m2, Nat.reduceMul, m3, m4, n5, n1, n2, n3, n4, n6]); exact rfl); simp only [zp, zq, z0, z1])
          | ((with_reducible apply sx_indexAddr); exact zx rfl; exact zk rfl; infer_instance; (first | exact AggTy.size | exact OneTy.size); omega; omega; ((try simp only [m0, Int.reduceToNat, m1, m2, Nat.reduceMul, Nat.reduceAdd, m3, m4, m5, n0]); exact rfl); simp only [zp, zq, z0, z1])
          | ((with_reducible apply sx_load_far1 hp); exact zt rfl; assumption; infer_instance; (first | assumption | (first | exact zio rfl | exact LB_get (by omega) | assumption)); simp only [zp, zq, z0, z1])
          | ((with_reducible refine sx_call hp (LW.out _) ?_); clear hp; (try clear w1); intro w1 hp)
          | ((with_reducible apply sx_load_far1 hp); exact zt rfl; exact hb; infer_instance; (first | exact hc0 | (simp only [Nat.zero_add, Nat.mul_one]; exact hc0)); simp only [zp, zq, z0, z1]))
          exact bodyPost_ret (results_two rfl rfl rfl) rfl ⟨by rw [HP.out, HE.out]; rfl, HK1.out.trans hp.keep⟩
      have HD : Hid (dig16 c = some d) := Lib.hid (by unfold dig16; rw [if_neg (by omega), if_pos (by omega), if_pos (by omega), hd])
      clear hd hcv hlv hc255 hl255 h95 h48 h57 h97 h122 hdv
      have hd16 : dv < 16 := by have := HDV.out; omega
      have g16 : decide (16 ≤ dv) = false := decide_eq_false (by omega)
      try clear h16
      by_cases hr : 4294967295 < acc * 16 + d
      case pos =>
        have hr2 : 4294967295 < a * 16 + dv := by have := HDV.out; have := HA.out; omega
        have HE : Hid (parse16 acc (c :: rs) = .range) := Lib.hid (by rw [parse16_cons, HD.out]; dsimp only; rw [if_pos (by omega)])
        clear HD hr
        as_aux_lemma =>
          go_wp2_with (first
          | ((with_reducible apply sx_guard); (conv => whnf); refine Bx.mk ?_; (try simp only [zp, zq, z0, z1]))
          | ((with_reducible apply sx_load_one hp); exact zt rfl; infer_instance; infer_instance; (first | exact zio rfl | exact LB_get (by omega) | assumption); simp only [zp, zq, z0, z1])
          | ((with_reducible apply sx_index_one); exact za rfl; exact zk rfl; infer_instance; infer_instance; omega; omega; (first | exact rfl | (go_simp; done)); simp only [zp, zq, z0, z1])
          | ((with_reducible apply sx_index_agg); exact za rfl; exact zk rfl; infer_instance; infer_instance; omega; omega; ((try simp only [m0, Int.reduceToNat, m1, m2, Nat.reduceMul, m3, m4, n5, n1, n2, n3, n4, n6]); exact rfl); simp only [zp, zq, z0, z1])
          | ((with_reducible apply sx_indexAddr); exact zx rfl; exact zk rfl; infer_instance; (first | exact AggTy.size | exact OneTy.size); omega; omega; ((try simp only [m0, Int.reduceToNat, m1, m2, Nat.reduceMul, Nat.reduceAdd, m3, m4, m5, n0]); exact rfl); simp only [zp, zq, z0, z1])
          | ((with_reducible apply sx_load_far1 hp); exact zt rfl; assumption; infer_instance; (first | assumption | (first | exact zio rfl | exact LB_get (by omega) | assumption)); simp only [zp, zq, z0, z1])
          | ((with_reducible refine sx_call hp (LW.out _) ?_); clear hp; (try clear w1); intro w1 hp)
          | ((with_reducible apply sx_load_far1 hp); exact zt rfl; exact hb; infer_instance; (first | exact hc0 | (simp only [Nat.zero_add, Nat.mul_one]; exact hc0)); simp only [zp, zq, z0, z1]))
          exact bodyPost_ret (results_two rfl rfl rfl) rfl ⟨by rw [HP.out, HE.out]; rfl, HK1.out.trans hp.keep⟩
      have hr2 : ¬ 4294967295 < a * 16 + dv := by have := HDV.out; have := HA.out; omega
      have HE : Hid (parse16 acc (c :: rs) = parse16 (acc * 16 + d) rs) := Lib.hid (by rw [parse16_cons, HD.out]; dsimp only; rw [if_neg (by omega)])
      have hr3 : Hid (acc * 16 + d ≤ 4294967295) := Lib.hid (by omega)
      clear hr
      as_aux_lemma =>
        go_wp2_with (first
          | ((with_reducible apply sx_guard); (conv => whnf); refine Bx.mk ?_; (try simp only [zp, zq, z0, z1]))
          | ((with_reducible apply sx_load_one hp); exact zt rfl; infer_instance; infer_instance; (first | exact zio rfl | exact LB_get (by omega) | assumption); simp only [zp, zq, z0, z1])
          | ((with_reducible apply sx_index_one); exact za rfl; exact zk rfl; infer_instance; infer_instance; omega; omega; (first | exact rfl | (go_simp; done)); simp only [zp, zq, z0, z1])
          | ((with_reducible apply sx_index_agg); exact za rfl; exact zk rfl; infer_instance; infer_instance; omega; omega; ((try simp only [m0, Int.reduceToNat, m1, m2, Nat.reduceMul, m3, m4, n5, n1, n2, n3, n4, n6]); exact rfl); simp only [zp, zq, z0, z1])
          | ((with_reducible apply sx_indexAddr); exact zx rfl; exact zk rfl; infer_instance; (first | exact AggTy.size | exact OneTy.size); omega; omega; ((try simp only [m0, Int.reduceToNat, m1, m2, Nat.reduceMul, Nat.reduceAdd, m3, m4, m5, n0]); exact rfl); simp only [zp, zq, z0, z1])
          | ((with_reducible apply sx_load_far1 hp); exact zt rfl; assumption; infer_instance; (first | assumption | (first | exact zio rfl | exact LB_get (by omega) | assumption)); simp only [zp, zq, z0, z1])
          | ((with_reducible refine sx_call hp (LW.out _) ?_); clear hp; (try clear w1); intro w1 hp)
          | ((with_reducible apply sx_load_far1 hp); exact zt rfl; exact hb; infer_instance; (first | exact hc0 | (simp only [Nat.zero_add, Nat.mul_one]; exact hc0)); simp only [zp, zq, z0, z1]))
        go_roundw
        case rel => exact ⟨k + 1, acc * 16 + d, a * 16 + dv, by omega, rfl, by go_num, by go_num, Lib.hid ⟨by have := HDV.out; have := HA.out; omega, hr3.out, by rw [HP.out, HE.out, HRS.out]⟩, hp⟩
        case measure => simp [intOf]; omega
    · obtain rfl : k = t.size := by omega
      have hnil : t.data.toList.drop t.size = [] := List.drop_eq_nil_of_le (by omega)
      rw [hnil] at HP
      have HE : Hid (parse16 acc [] = .ok acc) := Lib.hid rfl
      obtain rfl : a = acc := HA.out.1
      clear a0 a1 a2
      clear hnil
      go_wp2_with (first
          | ((with_reducible apply sx_guard); (conv => whnf); refine Bx.mk ?_; (try simp only [zp, zq, z0, z1]))
          | ((with_reducible apply sx_load_one hp); exact zt rfl; infer_instance; infer_instance; (first | exact zio rfl | exact LB_get (by omega)); simp only [zp, zq, z0, z1])
          | ((with_reducible apply sx_index_one); exact za rfl; exact zk rfl; infer_instance; infer_instance; omega; omega; (first | exact rfl | (go_simp; done)); simp only [zp, zq, z0, z1])
          | ((with_reducible apply sx_index_agg); exact za rfl; exact zk rfl; infer_instance; infer_instance; omega; omega; ((try simp only [m0, Int.reduceToNat, m1, m2, Nat.reduceMul, m3, m4, n5, n1, n2, n3, n4, n6]); exact rfl); simp only [zp, zq, z0, z1])
          | ((with_reducible apply sx_indexAddr); exact zx rfl; exact zk rfl; infer_instance; (first | exact AggTy.size | exact OneTy.size); omega; omega; ((try simp only [m0, Int.reduceToNat, m1, m2, Nat.reduceMul, Nat.reduceAdd, m3, m4, m5, n0]); exact rfl); simp only [zp, zq, z0, z1])
          | ((with_reducible apply sx_load_far1 hp); exact zt rfl; assumption; infer_instance; (first | assumption | (first | exact zio rfl | exact LB_get (by omega))); simp only [zp, zq, z0, z1]))
      exact bodyPost_ret (results_two rfl rfl rfl) rfl ⟨by rw [HP.out, HE.out]; rfl, HK1.out.trans hp.keep⟩
end Go.Proofs.YtbdkbmhejoakiaaDoor
