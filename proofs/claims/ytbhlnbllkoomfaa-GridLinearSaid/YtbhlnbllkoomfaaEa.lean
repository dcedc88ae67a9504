/-
  Package grid: common (contract).
-/
import Derived.Test.YtbhlnbllkoomfaaDf
set_option linter.unusedSimpArgs false
set_option linter.unusedVariables false
set_option maxRecDepth 100000
namespace Go.Proofs.Ytbhlnbllkoomfaa
open Go Go.RowKit

/-- The greatest common divisor of two numbers from 0 on. -/
def cg (x y : Int) : Int := ((Nat.gcd x.toNat y.toNat : Nat) : Int)
theorem cg_zero {x : Int} (h : 0 ≤ x) : cg x 0 = x := by
  unfold cg
  simp
  exact Int.max_eq_left h
theorem cg_step {x y : Int} (hx : 0 ≤ x) (hy : 0 < y) : cg y (x % y) = cg x y := by
  unfold cg
  have e : (x % y).toNat = x.toNat % y.toNat := by
    have : ((x.toNat % y.toNat : Nat) : Int) = x % y := by rw [Int.natCast_emod]; congr 1 <;> omega
    omega
  rw [e, Nat.gcd_comm, ← Nat.gcd_rec, Nat.gcd_comm]
/-- The number whose limbs lie in a block. -/
def cval : List Value → Int
  | [] => 0
  | .int _ n :: l => n + 18446744073709551616 * cval l
  | _ :: l => 18446744073709551616 * cval l
def bval (g : Nat) (w : World) : Nat := match w.heap[g]? with
  | some (.cells cs _ _) => (cval cs.toList).toNat
  | _ => 0
theorem cval_W {y : Int} (h0 : 0 ≤ y) (h1 : y < M512) : cval [.int .u64 (lb (y) 0), .int .u64 (lb (y) 1), .int .u64 (lb (y) 2), .int .u64 (lb (y) 3), .int .u64 (lb (y) 4), .int .u64 (lb (y) 5), .int .u64 (lb (y) 6), .int .u64 (lb (y) 7)] = y := by
  have s := fun k => lbsum y k
  have h8 : y % 2 ^ (64 * 8) = y := Int.emod_eq_of_lt h0 (by rw [← M512_eq]; exact h1)
  have e := fun k => pow64_succ k
  have s7 := s 7; have s6 := s 6; have s5 := s 5; have s4 := s 4; have s3 := s 3; have s2 := s 2; have s1 := s 1; have s0 := s 0
  simp only [cval, Nat.reduceAdd] at *
  rw [h8] at s7
  have p1 : (2 : Int) ^ (64 * 1) = 18446744073709551616 := rfl
  have p2 := e 1; have p3 := e 2; have p4 := e 3; have p5 := e 4; have p6 := e 5; have p7 := e 6
  simp only [Nat.reduceAdd] at p2 p3 p4 p5 p6 p7
  rw [p1] at p2; rw [p2] at p3; rw [p3] at p4; rw [p4] at p5; rw [p5] at p6; rw [p6] at p7
  rw [p7] at s7; rw [p6, p7] at s6; rw [p5, p6] at s5; rw [p4, p5] at s4; rw [p3, p4] at s3; rw [p2, p3] at s2; rw [p1, p2] at s1; rw [p1] at s0
  have z : y % 2 ^ (64 * 0) = 0 := by simp [Int.emod_one]
  have z2 : (2 : Int) ^ (64 * 0) = 1 := rfl
  rw [z, z2] at s0
  omega
theorem bval_hp {X : List Nat} {w0 w : World} {H : List Bk} {g : Nat} {t : TypeId} {y : Int} (hp : Hp X w0 H w) [h : Has H g t [.int .u64 (lb (y) 0), .int .u64 (lb (y) 1), .int .u64 (lb (y) 2), .int .u64 (lb (y) 3), .int .u64 (lb (y) 4), .int .u64 (lb (y) 5), .int .u64 (lb (y) 6), .int .u64 (lb (y) 7)]] (h0 : 0 ≤ y) (h1 : y < M512) : bval g w = y.toNat := by
  unfold bval
  rw [hp.blk]
  dsimp only
  rw [cval_W h0 h1]
set_option maxHeartbeats 8000000 in
theorem common_any (a b : Int) (ha : Fit a) (hb : Fit b) (ha0 : 0 ≤ a) (hb0 : 0 ≤ b) (w : World) : Calls Try.prog 53 #[W a, W b] w (Ret (W (cg a b)) w) := by
  have HA := Lib.hid ha
  have HB := Lib.hid hb
  clear ha hb
  go_enter Try.func53, Try.ntmps53
  have hp := Hp.start [] w
  go_wp2_with (first
          | ((with_reducible apply sx_box hp); exact za rfl; exact rfl; clear hp; (try clear w1); intro g w1 hp; simp only [zp, zq, z0, z1])
          | ((with_reducible apply sx_alloc hp); infer_instance; exact rfl; clear hp; (try clear w1); intro g w1 hp; simp only [zp, zq, z0, z1])
          | ((with_reducible apply sx_load_agg hp); exact zt rfl; infer_instance; infer_instance; (first | exact zl rfl | exact LB_le (by omega)); (first | (with_reducible exact LB_set (by omega)) | (simp only [n0, Nat.reduceAdd, n1, n2, n3, n4, n5, n6, n7, n8, n9]; try rfl)); simp only [zp, zq, z0, z1])
          | ((with_reducible apply sx_store hp); exact zt rfl; exact za rfl; exact rfl; (first | exact AggTy.size | exact OneTy.size); exact rfl; infer_instance; (first | (with_reducible exact LB_set (by omega)) | (simp only [n0, Nat.reduceAdd, n1, n2, n3, n4, n5, n6, n7, n8, n9]; try rfl)); (first | exact zl rfl | exact LB_le (by omega)); exact rfl; infer_instance; clear hp; (try clear w1); intro w1 hp))
  rename_i ga gb K hK
  obtain ⟨gp, rfl⟩ : ∃ z : Nat, z = g := ⟨_, rfl⟩
  go_loopw [7] (fun ok wr => ∃ x y : Int, Fit x ∧ Fit y ∧ 0 ≤ x ∧ 0 ≤ y ∧ cg x y = cg a b ∧ Hp [] w [⟨gp, 25, [.int .u64 0, .int .u64 0, .int .u64 0, .int .u64 0, .int .u64 0, .int .u64 0, .int .u64 0, .int .u64 0]⟩, ⟨gb, 25, [.int .u64 (lb (y) 0), .int .u64 (lb (y) 1), .int .u64 (lb (y) 2), .int .u64 (lb (y) 3), .int .u64 (lb (y) 4), .int .u64 (lb (y) 5), .int .u64 (lb (y) 6), .int .u64 (lb (y) 7)]⟩, ⟨ga, 25, [.int .u64 (lb (x) 0), .int .u64 (lb (x) 1), .int .u64 (lb (x) 2), .int .u64 (lb (x) 3), .int .u64 (lb (x) 4), .int .u64 (lb (x) 5), .int .u64 (lb (x) 6), .int .u64 (lb (x) 7)]⟩] wr) (fun _ wr => bval gb wr)
  case atStart => exact ⟨a, b, HA.out, HB.out, ha0, hb0, rfl, hp⟩
  case round =>
    clear hp
    obtain ⟨x, y, hx, hy, hx0, hy0, hg, hp⟩ := hrel
    have hz := eqb_fit hy fit_zero
    rw [eqb_zero] at hz
    have HX := Lib.hid hx
    have HY := Lib.hid hy
    have HG := Lib.hid hg
    by_cases h0 : y = 0
    · rw [decide_eq_true h0] at hz
      have e : cg a b = x := by rw [← hg, h0, cg_zero hx0]
      clear hx hy hg h0 HX HY HG
      go_wp2_with (first
          | ((with_reducible apply sx_box hp); exact za rfl; exact rfl; clear hp; (try clear w1); intro g w1 hp; simp only [zp, zq, z0, z1])
          | ((with_reducible apply sx_alloc hp); infer_instance; exact rfl; clear hp; (try clear w1); intro g w1 hp; simp only [zp, zq, z0, z1])
          | ((with_reducible apply sx_load_agg hp); exact zt rfl; infer_instance; infer_instance; (first | exact zl rfl | exact LB_le (by omega)); (first | (with_reducible exact LB_set (by omega)) | (simp only [n0, Nat.reduceAdd, n1, n2, n3, n4, n5, n6, n7, n8, n9]; try rfl)); simp only [zp, zq, z0, z1])
          | ((with_reducible apply sx_store hp); exact zt rfl; exact za rfl; exact rfl; (first | exact AggTy.size | exact OneTy.size); exact rfl; infer_instance; (first | (with_reducible exact LB_set (by omega)) | (simp only [n0, Nat.reduceAdd, n1, n2, n3, n4, n5, n6, n7, n8, n9]; try rfl)); (first | exact zl rfl | exact LB_le (by omega)); exact rfl; infer_instance; clear hp; (try clear w1); intro w1 hp))
      exact bodyPost_ret (results_one rfl ⟨_, rfl, run_load_agg hp (Nat.le_of_ble_eq_true rfl)⟩) rfl ⟨by rw [e]; rfl, hp.keep⟩
    · rw [decide_eq_false h0] at hz
      have hm := bval_hp (g := gb) (y := y) hp hy0 (by unfold Fit M511 at hy; unfold M512; omega)
      have hok : dvok x y := ⟨h0, by unfold fq Fit at *; rw [if_neg (by omega)]; have := Int.ediv_nonneg hx0 hy0; have := Int.ediv_le_self y hx0; omega⟩
      have hr : dvr x y = x % y := by
        unfold dvr
        rw [if_pos hok]
        exact (fq_is (q := x / y) (by have := Int.mul_ediv_add_emod x y; rw [Int.mul_comm] at this; omega) (.inl ⟨by omega, Int.emod_nonneg _ h0, Int.emod_lt_of_pos _ (by omega)⟩)).2
      have hd := div_any x y hx hy
      rw [hr] at hd
      have HD := Lib.hid hd
      have HM := Lib.hid hm
      have HY0 := Lib.hid h0
      clear hd hr hok hm h0 hx hy hg
      go_wp2_with (first
          | ((with_reducible apply sx_box hp); exact za rfl; exact rfl; clear hp; (try clear w1); intro g w1 hp; simp only [zp, zq, z0, z1])
          | ((with_reducible apply sx_alloc hp); infer_instance; exact rfl; clear hp; (try clear w1); intro g w1 hp; simp only [zp, zq, z0, z1])
          | ((with_reducible apply sx_load_agg hp); exact zt rfl; infer_instance; infer_instance; (first | exact zl rfl | exact LB_le (by omega)); (first | (with_reducible exact LB_set (by omega)) | (simp only [n0, Nat.reduceAdd, n1, n2, n3, n4, n5, n6, n7, n8, n9]; try rfl)); simp only [zp, zq, z0, z1])
          | ((with_reducible apply sx_store hp); exact zt rfl; exact za rfl; exact rfl; (first | exact AggTy.size | exact OneTy.size); exact rfl; infer_instance; (first | (with_reducible exact LB_set (by omega)) | (simp only [n0, Nat.reduceAdd, n1, n2, n3, n4, n5, n6, n7, n8, n9]; try rfl)); (first | exact zl rfl | exact LB_le (by omega)); exact rfl; infer_instance; clear hp; (try clear w1); intro w1 hp)
          | ((with_reducible refine sx_call hp (HD.out _) ?_); clear hp; (try clear w1); intro w1 hp))
      have hq := hp
      clear hp
      have hp := hq.sub (.cons_cons _ (.cons_cons _ (.cons_cons _ (.cons_cons _ (.cons _ .slnil)))))
      refine wp_drawn_hp hp hq [3] (.q 0 (.q 1 (.l 2 (.l 3 .nil)))) (by kernel_rfl) (by kernel_rfl) ?_
      clear hp hq; (try clear w1); intro w1 hp hq
      ((with_reducible apply sd_q); exact zo rfl)
      ((with_reducible apply sd_load_agg hp); exact rfl; exact zt rfl; infer_instance; infer_instance; (first | exact zl rfl | exact LB_le (by omega)); (first | (with_reducible exact LB_set (by omega)) | (simp only [n0, Nat.reduceAdd, n1, n2, n3, n4, n5, n6, n7, n8, n9]; try rfl)); simp only [zp, zq, z0, z1])
      ((with_reducible apply sd_q); exact zo rfl)
      ((with_reducible apply sd_load_agg hp); exact rfl; exact zt rfl; infer_instance; infer_instance; (first | exact zl rfl | exact LB_le (by omega)); (first | (with_reducible exact LB_set (by omega)) | (simp only [n0, Nat.reduceAdd, n1, n2, n3, n4, n5, n6, n7, n8, n9]; try rfl)); simp only [zp, zq, z0, z1])
      ((with_reducible apply sd_l); exact zo rfl)
      ((with_reducible apply sd_store_far hq); exact rfl; exact zt rfl; exact za rfl; exact rfl; (first | exact AggTy.size | exact OneTy.size); exact rfl; infer_instance; (first | (with_reducible exact LB_set (by omega)) | (simp only [n0, Nat.reduceAdd, n1, n2, n3, n4, n5, n6, n7, n8, n9]; try rfl)); (first | exact zl rfl | exact LB_le (by omega)); exact rfl; infer_instance; (repeat (first | exact List.Sublist.refl _ | apply List.Sublist.cons_cons | apply List.Sublist.cons)); clear hp hq; (try clear w1); intro w1 hp hq)
      ((with_reducible apply sd_l); exact zo rfl)
      (first
      | ((with_reducible apply sd_store_far hq); exact rfl; exact zt rfl; exact za rfl; exact rfl; (first | exact AggTy.size | exact OneTy.size); exact rfl; infer_instance; (first | (with_reducible exact LB_set (by omega)) | (simp only [n0, Nat.reduceAdd, n1, n2, n3, n4, n5, n6, n7, n8, n9]; try rfl)); (first | exact zl rfl | exact LB_le (by omega)); exact rfl; infer_instance; (repeat (first | exact List.Sublist.refl _ | apply List.Sublist.cons_cons | apply List.Sublist.cons)); clear hp hq; (try clear w1); intro w1 hp hq)
      | ((with_reducible apply sd_store hq); exact rfl; exact zt rfl; exact za rfl; exact rfl; (first | exact AggTy.size | exact OneTy.size); exact rfl; infer_instance; (first | (with_reducible exact LB_set (by omega)) | (simp only [n0, Nat.reduceAdd, n1, n2, n3, n4, n5, n6, n7, n8, n9]; try rfl)); (first | exact zl rfl | exact LB_le (by omega)); exact rfl; infer_instance; exact rfl; clear hp hq; (try clear w1); intro w1 hq; have hp := True.intro))
      (with_reducible apply sd_nil)
      clear hp; have hp := hq; clear hq
      go_wp2
      go_roundw
      case rel =>
        have := Int.emod_lt_of_pos x (show 0 < y by have := HY0.out; omega)
        have h2 := Int.emod_nonneg x HY0.out
        refine ⟨y, x % y, HY.out, ?_, hy0, h2, ?_, ?_⟩
        · have := HY.out
          unfold Fit at *; omega
        · rw [cg_step hx0 (by have := HY0.out; omega)]; exact HG.out
        · exact hp.sub ((List.Sublist.refl _).cons _ |>.cons _)
      case measure =>
        have h1 := Int.emod_lt_of_pos x (show 0 < y by have := HY0.out; omega)
        have h2 := Int.emod_nonneg x HY0.out
        have h3 := HY.out
        rw [HM.out, bval_hp (g := gb) (y := x % y) hp h2 (by unfold Fit M511 at h3; unfold M512; omega)]
        omega
end Go.Proofs.Ytbhlnbllkoomfaa
