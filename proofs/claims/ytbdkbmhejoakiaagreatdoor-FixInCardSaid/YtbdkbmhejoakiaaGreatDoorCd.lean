/-
  Package ninepinref01: Div, whole (contract).
-/
import Derived.Test.YtbdkbmhejoakiaaGreatDoorCc
set_option linter.unusedSimpArgs false
set_option linter.unusedVariables false
set_option maxRecDepth 100000
namespace Go.Proofs.YtbdkbmhejoakiaaGreatDoor
open Go Go.RowKit
attribute [local irreducible] wpList

theorem fq_signs {a b : Int} (hb : b ≠ 0) :
    ((decide (a < 0) == decide (b < 0)) = true → fq a b = ab a / ab b ∧ (if decide (b < 0) = true then -fr a b else fr a b) = ab a % ab b) ∧
    ((decide (a < 0) == decide (b < 0)) = false → ab a % ab b = 0 → fq a b = -(ab a / ab b) ∧ (if decide (b < 0) = true then -fr a b else fr a b) = ab a % ab b) ∧
    ((decide (a < 0) == decide (b < 0)) = false → ab a % ab b ≠ 0 → fq a b = -(ab a / ab b + 1) ∧ (if decide (b < 0) = true then -fr a b else fr a b) = ab b + -(ab a % ab b)) := by
  have hB : 0 < ab b := by unfold ab; split <;> omega
  have h1 := Int.mul_ediv_add_emod (ab a) (ab b)
  have h2 := Int.emod_nonneg (ab a) (show ab b ≠ 0 by omega)
  have h3 := Int.emod_lt_of_pos (ab a) hB
  generalize ab a / ab b = Q at *
  generalize ab a % ab b = R at *
  unfold ab at h1 hB h3 ⊢
  by_cases ha0 : a < 0 <;> by_cases hb0 : b < 0
  · simp only [ha0, hb0, if_true, decide_true, beq_self_eq_true, true_implies] at h1 hB h3 ⊢
    obtain ⟨e1, e2⟩ := fq_is (a := a) (b := b) (q := Q) (r := -R) (by grind) (.inr ⟨hb0, by omega, by omega⟩)
    rw [e1, e2]
    refine ⟨⟨rfl, by omega⟩, fun h => by simp at h, fun h => by simp at h⟩
  · simp only [ha0, hb0, if_true, if_false, decide_true, decide_false] at h1 hB h3 ⊢
    refine ⟨fun h => by simp at h, fun _ hz => ?_, fun _ hz => ?_⟩
    · obtain ⟨e1, e2⟩ := fq_is (a := a) (b := b) (q := -Q) (r := 0) (by subst hz; grind) (.inl ⟨by omega, by omega, by omega⟩)
      rw [e1, e2]
      exact ⟨rfl, by simp; omega⟩
    · obtain ⟨e1, e2⟩ := fq_is (a := a) (b := b) (q := -(Q + 1)) (r := b + -R) (by grind) (.inl ⟨by omega, by omega, by omega⟩)
      rw [e1, e2]
      exact ⟨rfl, by simp⟩
  · simp only [ha0, hb0, if_true, if_false, decide_true, decide_false] at h1 hB h3 ⊢
    refine ⟨fun h => by simp at h, fun _ hz => ?_, fun _ hz => ?_⟩
    · obtain ⟨e1, e2⟩ := fq_is (a := a) (b := b) (q := -Q) (r := 0) (by subst hz; grind) (.inr ⟨by omega, by omega, by omega⟩)
      rw [e1, e2]
      exact ⟨rfl, by omega⟩
    · obtain ⟨e1, e2⟩ := fq_is (a := a) (b := b) (q := -(Q + 1)) (r := R + b) (by grind) (.inr ⟨by omega, by omega, by omega⟩)
      rw [e1, e2]
      exact ⟨rfl, by omega⟩
  · simp only [ha0, hb0, if_true, if_false, decide_false, beq_self_eq_true, true_implies] at h1 hB h3 ⊢
    obtain ⟨e1, e2⟩ := fq_is (a := a) (b := b) (q := Q) (r := R) (by grind) (.inl ⟨by omega, by omega, by omega⟩)
    rw [e1, e2]
    refine ⟨⟨rfl, by simp⟩, fun h => by simp at h, fun h => by simp at h⟩
theorem fr_fit {a b : Int} (hb : Fit b) (hb0 : b ≠ 0) : Fit (fr a b) := by
  have key : (0 < b ∧ 0 ≤ fr a b ∧ fr a b < b) ∨ (b < 0 ∧ fr a b ≤ 0 ∧ b < fr a b) := by
    unfold fr fq
    by_cases h : b < 0
    · right
      rw [if_pos h]
      have h1 := Int.mul_ediv_add_emod (-a) (-b)
      have h2 := Int.emod_nonneg (-a) (show -b ≠ 0 by omega)
      have h3 := Int.emod_lt_of_pos (-a) (show 0 < -b by omega)
      rw [Int.neg_mul, Int.mul_comm] at h1
      omega
    · left
      rw [if_neg h]
      have h1 := Int.mul_ediv_add_emod a b
      have h2 := Int.emod_nonneg a hb0
      have h3 := Int.emod_lt_of_pos a (show 0 < b by omega)
      rw [Int.mul_comm] at h1
      omega
  unfold Fit M511 at *
  omega
theorem ab_div_le (a b : Int) : 0 ≤ ab a / ab b ∧ ab a / ab b ≤ ab a := by
  have h0 : 0 ≤ ab a := by unfold ab; split <;> omega
  have h1 : 0 ≤ ab b := by unfold ab; split <;> omega
  exact ⟨Int.ediv_nonneg h0 h1, Int.ediv_le_self _ h0⟩
theorem fq_room {a b : Int} (ha : Fit a) (hb0 : b ≠ 0) : -(M511 * 256) ≤ fq a b ∧ fq a b < M511 * 256 := by
  obtain ⟨h1, h2, h3⟩ := fq_signs (a := a) hb0
  have h4 := ab_div_le a b
  have h5 := ab_bd ha
  generalize ab a / ab b = Q at *
  have key : fq a b = Q ∨ fq a b = -Q ∨ fq a b = -(Q + 1) := by
    cases hs : (decide (a < 0) == decide (b < 0)) with
    | true => exact .inl (h1 hs).1
    | false =>
      by_cases hz : ab a % ab b = 0
      · exact .inr (.inl (h2 hs hz).1)
      · exact .inr (.inr (h3 hs hz).1)
  unfold M511 at *
  omega
set_option maxHeartbeats 4000000 in
theorem rdiv_any (a b : Int) (ha : Fit a) (hb : Fit b) (w : World) : Calls Tryz.prog 65 #[W a, W b] w (Ret (.tuple #[W (dvq a b), W (dvr a b), .bool (decide (dvok a b))]) w) := by
  have hs := fun w => rsign_any b hb w
  by_cases hb0 : b = 0
  · have hn : ¬ dvok a b := fun h => h.1 hb0
    unfold dvq dvr
    rw [if_neg hn, if_neg hn, decide_eq_false hn, W_zero]
    rw [hb0] at hs ⊢
    have e0 : sgn 0 = 0 := rfl
    rw [e0] at hs
    have HS := Lib.hid hs
    clear hs ha hb hb0 hn e0
    go_enter Tryz.func65, Tryz.ntmps65
    have hp := Hp.start [] w
    go_wp2_with (first
          | ((with_reducible apply sx_box hp); exact za rfl; exact rfl; clear hp; (try clear w1); intro g w1 hp; simp only [zp, zq, z0, z1])
          | ((with_reducible apply sx_alloc hp); infer_instance; exact rfl; clear hp; (try clear w1); intro g w1 hp; simp only [zp, zq, z0, z1])
          | ((with_reducible apply sx_load_agg hp); exact zt rfl; infer_instance; infer_instance; (first | exact zl rfl | exact LB_le (by omega)); (first | (with_reducible exact LB_set (by omega)) | (simp only [n0, Nat.reduceAdd, n1, n2, n3, n4, n5, n6, n7, n8, n9]; try rfl)); simp only [zp, zq, z0, z1])
          | ((with_reducible apply sx_store hp); exact zt rfl; (first | exact za rfl | exact zi rfl); exact rfl; (first | exact AggTy.size | exact OneTy.size); exact rfl; infer_instance; (first | (with_reducible exact LB_set (by omega)) | (simp only [n0, Nat.reduceAdd, n1, n2, n3, n4, n5, n6, n7, n8, n9]; try rfl)); (first | exact zl rfl | exact LB_le (by omega)); exact rfl; infer_instance; clear hp; (try clear w1); intro w1 hp)
          | ((with_reducible apply sx_indexAddr); exact zx rfl; exact zk rfl; infer_instance; (first | exact AggTy.size | exact OneTy.size); omega; omega; ((try simp only [m0, Int.reduceToNat, m1, m2, Nat.reduceMul, Nat.reduceAdd, m3, m4, m5, n0]); exact rfl); simp only [zp, zq, z0, z1])
          | ((with_reducible apply sx_load_far hp); exact zt rfl; assumption; infer_instance; assumption; (first | exact zl rfl | omega); simp only [zp, zq, z0, z1])
          | ((with_reducible refine sx_call hp (HS.out _) ?_); clear hp; (try clear w1); intro w1 hp))
    exact bodyPost_ret (results_cct rfl rfl (run_load_agg hp (Nat.le_of_ble_eq_true rfl)) rfl (run_load_agg hp (Nat.le_of_ble_eq_true rfl)) rfl) rfl ⟨rfl, hp.keep⟩
  · obtain ⟨h1, h2, h3⟩ := fq_signs (a := a) hb0
    have hab := ab_bd ha
    have hbb := ab_bd hb
    have hbp : 0 < ab b := by unfold ab; split <;> omega
    refine rdiv_core a b (ab a) (ab b) (fq a b) (if decide (b < 0) = true then -fr a b else fr a b) (fr a b) (decide (a < 0)) (decide (b < 0)) _
      hab.1 hbp (Lib.hid (ab_lt520 ha rfl)) (Lib.hid (ab_lt520 hb rfl)) (Lib.hid hbb.2) (Lib.hid (fq_room ha hb0)) (Lib.hid fun hf => ?_) (Lib.hid fun hf => ?_)
      (Lib.hid h1) (Lib.hid h2) (Lib.hid h3) (Lib.hid ?_) (Lib.hid (fr_fit hb hb0)) (Lib.hid hs) (by have := sgn_ne hb0; simp [this])
      (Lib.hid fun w => rbelow_any a ha w) (Lib.hid fun w => rbelow_any b hb w) (Lib.hid fun w => rsize_any a ha w) (Lib.hid fun w => rsize_any b hb w) w
    · have hk : dvok a b := ⟨hb0, hf⟩
      unfold dvq dvr
      rw [if_pos hk, if_pos hk, decide_eq_true hk]
    · have hk : ¬ dvok a b := fun h => hf h.2
      unfold dvq dvr
      rw [if_neg hk, if_neg hk, decide_eq_false hk, W_zero]
    · by_cases h : decide (b < 0) = true
      · rw [if_pos h, if_pos h]; omega
      · rw [if_neg h, if_neg h]
end Go.Proofs.YtbdkbmhejoakiaaGreatDoor
