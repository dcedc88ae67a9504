/-
  Package orient: simplex, level, Volume, between (contracts).
-/
import Derived.Test.YthnpmmpcejfllaaHe
set_option linter.unusedSimpArgs false
set_option linter.unusedVariables false
set_option maxRecDepth 100000
namespace Go.Proofs.Ythnpmmpcejfllaa
open Go Go.RowKit

def simplexb (ps : List P3) : Bool := decide (1 ≤ ps.length ∧ ps.length ≤ 4 ∧ (rankO ps).2 = 0 ∧ (rankO ps).1 = ps.length - 1)
theorem simplex_nil (w : World) : Calls Try.prog 30 #[.slice none 0 0] w (Ret (.bool false) w) := by
  go_enter Try.func30, Try.ntmps30
  have hp := Hp.start [] w
  go_wp2_with (first
          | ((with_reducible apply sx_strip); exact rfl)
          | ((with_reducible apply sx_unwanted); exact rfl; simp only [zp, zq, z0, z1]))
  exact bodyPost_ret (results_one rfl rfl) rfl ⟨rfl, hp.keep⟩
set_option maxHeartbeats 1000000 in
theorem simplex_far (ps : List P3) (r : Bool) (Hr : Hid (r = simplexb ps)) (hlen : ps.length ≤ maxLen) (w : World) (base : Option Addr) (cap : Nat) (h : PSl w (.slice base ps.length cap) ps) :
    Calls Try.prog 30 #[.slice base ps.length cap] w (Ret (.bool r) w) := by
  have hrk := fun w1 hk => rank_any hlen w1 (h.keep hk)
  have hm : ps.length ≤ 9223372036854775807 := by unfold maxLen at hlen; omega
  unfold simplexb at Hr
  clear hlen h
  generalize ps.length = n at *
  generalize rankO ps = rk at *
  obtain ⟨q, e⟩ := rk
  dsimp only at *
  have Hrk := Lib.hid hrk
  clear hrk
  by_cases h1 : n < 1
  · obtain rfl : r = false := by rw [Hr.out]; simp; omega
    go_enter Try.func30, Try.ntmps30
    have hp := Hp.start [] w
    go_wp2_with (first
          | ((with_reducible apply sx_strip); exact rfl)
          | ((with_reducible apply sx_unwanted); exact rfl; simp only [zp, zq, z0, z1]))
    exact bodyPost_ret (results_one rfl rfl) rfl ⟨rfl, hp.keep⟩
  · by_cases h4 : 4 < n
    · obtain rfl : r = false := by rw [Hr.out]; simp; omega
      go_enter Try.func30, Try.ntmps30
      have hp := Hp.start [] w
      go_wp2_with (first
          | ((with_reducible apply sx_strip); exact rfl)
          | ((with_reducible apply sx_unwanted); exact rfl; simp only [zp, zq, z0, z1]))
      exact bodyPost_ret (results_one rfl rfl) rfl ⟨rfl, hp.keep⟩
    · by_cases he : e = 0
      · subst he
        by_cases hq : q = n - 1
        · obtain rfl : r = true := by rw [Hr.out]; simp; omega
          subst hq
          go_enter Try.func30, Try.ntmps30
          have hp := Hp.start [] w
          go_wp2_with (first
          | ((with_reducible apply sx_strip); exact rfl)
          | ((with_reducible apply sx_unwanted); exact rfl; simp only [zp, zq, z0, z1])
          | ((with_reducible refine sx_call hp (Hrk.out _ hp.keep) ?_); clear hp; (try clear w1); intro w1 hp))
          exact bodyPost_ret (results_one rfl rfl) rfl ⟨rfl, hp.keep⟩
        · obtain rfl : r = false := by rw [Hr.out]; simp; omega
          have hq' : (q == (n : Int) - 1) = false := by simp [hq]
          go_enter Try.func30, Try.ntmps30
          have hp := Hp.start [] w
          go_wp2_with (first
          | ((with_reducible apply sx_strip); exact rfl)
          | ((with_reducible apply sx_unwanted); exact rfl; simp only [zp, zq, z0, z1])
          | ((with_reducible refine sx_call hp (Hrk.out _ hp.keep) ?_); clear hp; (try clear w1); intro w1 hp))
          exact bodyPost_ret (results_one rfl rfl) rfl ⟨rfl, hp.keep⟩
      · obtain rfl : r = false := by rw [Hr.out]; simp; omega
        go_enter Try.func30, Try.ntmps30
        have hp := Hp.start [] w
        go_wp2_with (first
          | ((with_reducible apply sx_strip); exact rfl)
          | ((with_reducible apply sx_unwanted); exact rfl; simp only [zp, zq, z0, z1])
          | ((with_reducible refine sx_call hp (Hrk.out _ hp.keep) ?_); clear hp; (try clear w1); intro w1 hp))
        exact bodyPost_ret (results_one rfl rfl) rfl ⟨rfl, hp.keep⟩
theorem simplex_any {ps : List P3} {v : Value} (hlen : ps.length ≤ maxLen) (w : World) (h : PSl w v ps) : Calls Try.prog 30 #[v] w (Ret (.bool (simplexb ps)) w) := by
  have h' := h
  rcases h with ⟨rfl, rfl⟩ | ⟨g, off, cap, bc, t, z, rfl, hb, hv⟩
  · exact simplex_nil w
  · exact simplex_far ps _ (Lib.hid rfl) hlen w _ cap h'

/-- What fits, multiplied and summed. -/
structure DotFit (m n : P3) : Prop where
  mf : Fit m.x ∧ Fit m.y ∧ Fit m.z
  nf : Fit n.x ∧ Fit n.y ∧ Fit n.z
  x : Fit (m.x * n.x)
  y : Fit (m.y * n.y)
  z : Fit (m.z * n.z)
  xy : Fit (m.x * n.x + m.y * n.y)
  all : Fit (m.x * n.x + m.y * n.y + m.z * n.z)
theorem mul_ok {a b : Int} (ha : Fit a) (hb : Fit b) (h : Fit (a * b)) (w : World) : Calls Try.prog 67 #[W a, W b] w (Ret (.tuple #[W (a * b), .bool true]) w) := by
  have := mul_any a b ha hb w
  rwa [fz, if_pos h, decide_eq_true h] at this
theorem add_ok {a b : Int} (ha : Fit a) (hb : Fit b) (h : Fit (a + b)) (w : World) : Calls Try.prog 25 #[W a, W b] w (Ret (.tuple #[W (a + b), .bool true]) w) := by
  have := add_any a b ha hb w
  rwa [fz, if_pos h, decide_eq_true h] at this
def part (m n : P3) : Nat → Int
  | 0 => 0
  | 1 => m.x * n.x
  | 2 => m.x * n.x + m.y * n.y
  | _ => m.x * n.x + m.y * n.y + m.z * n.z
set_option maxHeartbeats 2000000 in
theorem level_any (m n : P3) (h : DotFit m n) (w : World) : Calls Try.prog 51 #[SV m, SV n] w (Ret (W (m.dot n)) w) := by
  have M0 := Lib.hid (mul_ok h.mf.1 h.nf.1 h.x)
  have M1 := Lib.hid (mul_ok h.mf.2.1 h.nf.2.1 h.y)
  have M2 := Lib.hid (mul_ok h.mf.2.2 h.nf.2.2 h.z)
  have a0 := add_ok (a := 0) fit_zero h.x (by rw [Int.zero_add]; exact h.x)
  rw [Int.zero_add] at a0
  have A0 := Lib.hid a0
  clear a0
  have A1 := Lib.hid (add_ok h.x h.y h.xy)
  have A2 := Lib.hid (add_ok h.xy h.z h.all)
  clear h
  go_enter Try.func51, Try.ntmps51
  have hp := Hp.start [] w
  go_wp2_with (first
          | ((with_reducible apply sx_box hp); exact za rfl; exact rfl; clear hp; (try clear w1); intro g w1 hp; simp only [zp, zq, z0, z1])
          | ((with_reducible apply sx_alloc hp); infer_instance; exact rfl; clear hp; (try clear w1); intro g w1 hp; simp only [zp, zq, z0, z1])
          | ((with_reducible apply sx_load_agg hp); exact zt rfl; infer_instance; infer_instance; (first | exact zl rfl | exact LB_le (by omega)); (first | (with_reducible exact LB_set (by omega)) | (simp only [n0, Nat.reduceAdd, n1, n2, n3, n4, n5, n6, n7, n8, n9]; try rfl)); simp only [zp, zq, z0, z1])
          | ((with_reducible apply sx_store hp); exact zt rfl; exact za rfl; exact rfl; (first | exact AggTy.size | exact OneTy.size); exact rfl; infer_instance; (first | (with_reducible exact LB_set (by omega)) | (simp only [n0, Nat.reduceAdd, n1, n2, n3, n4, n5, n6, n7, n8, n9]; try rfl)); (first | exact zl rfl | exact LB_le (by omega)); exact rfl; infer_instance; clear hp; (try clear w1); intro w1 hp)
          | ((with_reducible apply sx_index_one); exact za rfl; exact zk rfl; infer_instance; infer_instance; omega; omega; (first | exact rfl | (go_simp; done)); simp only [zp, zq, z0, z1])
          | ((with_reducible apply sx_index_agg); exact za rfl; exact zk rfl; infer_instance; infer_instance; omega; omega; ((try simp only [m0, Int.reduceToNat, m1, m2, Nat.reduceMul, m3, m4, n5, n1, n2, n3, n4, n6]); exact rfl); simp only [zp, zq, z0, z1]))
  rename_i gm gn g4 K hK
  obtain ⟨g5, rfl⟩ : ∃ x : Nat, x = g := ⟨_, rfl⟩
  go_loopw [26] (fun i wr => ∃ k : Nat, k ≤ 3 ∧ i = .int .i64 k ∧ Hp [] w [⟨g5, 43, [.int .u64 (lb (part m n k) 0), .int .u64 (lb (part m n k) 1), .int .u64 (lb (part m n k) 2), .int .u64 (lb (part m n k) 3), .int .u64 (lb (part m n k) 4), .int .u64 (lb (part m n k) 5), .int .u64 (lb (part m n k) 6), .int .u64 (lb (part m n k) 7)]⟩, ⟨g4, 43, [.int .u64 0, .int .u64 0, .int .u64 0, .int .u64 0, .int .u64 0, .int .u64 0, .int .u64 0, .int .u64 0]⟩, ⟨gn, 70, [.int .u64 (lb (n.x) 0), .int .u64 (lb (n.x) 1), .int .u64 (lb (n.x) 2), .int .u64 (lb (n.x) 3), .int .u64 (lb (n.x) 4), .int .u64 (lb (n.x) 5), .int .u64 (lb (n.x) 6), .int .u64 (lb (n.x) 7), .int .u64 (lb (n.y) 0), .int .u64 (lb (n.y) 1), .int .u64 (lb (n.y) 2), .int .u64 (lb (n.y) 3), .int .u64 (lb (n.y) 4), .int .u64 (lb (n.y) 5), .int .u64 (lb (n.y) 6), .int .u64 (lb (n.y) 7), .int .u64 (lb (n.z) 0), .int .u64 (lb (n.z) 1), .int .u64 (lb (n.z) 2), .int .u64 (lb (n.z) 3), .int .u64 (lb (n.z) 4), .int .u64 (lb (n.z) 5), .int .u64 (lb (n.z) 6), .int .u64 (lb (n.z) 7)]⟩, ⟨gm, 70, [.int .u64 (lb (m.x) 0), .int .u64 (lb (m.x) 1), .int .u64 (lb (m.x) 2), .int .u64 (lb (m.x) 3), .int .u64 (lb (m.x) 4), .int .u64 (lb (m.x) 5), .int .u64 (lb (m.x) 6), .int .u64 (lb (m.x) 7), .int .u64 (lb (m.y) 0), .int .u64 (lb (m.y) 1), .int .u64 (lb (m.y) 2), .int .u64 (lb (m.y) 3), .int .u64 (lb (m.y) 4), .int .u64 (lb (m.y) 5), .int .u64 (lb (m.y) 6), .int .u64 (lb (m.y) 7), .int .u64 (lb (m.z) 0), .int .u64 (lb (m.z) 1), .int .u64 (lb (m.z) 2), .int .u64 (lb (m.z) 3), .int .u64 (lb (m.z) 4), .int .u64 (lb (m.z) 5), .int .u64 (lb (m.z) 6), .int .u64 (lb (m.z) 7)]⟩] wr) (fun i _ => 3 - (intOf i).toNat)
  case atStart =>
    have e : ([.int .u64 0, .int .u64 0, .int .u64 0, .int .u64 0, .int .u64 0, .int .u64 0, .int .u64 0, .int .u64 0] : List Value) = [.int .u64 (lb (0) 0), .int .u64 (lb (0) 1), .int .u64 (lb (0) 2), .int .u64 (lb (0) 3), .int .u64 (lb (0) 4), .int .u64 (lb (0) 5), .int .u64 (lb (0) 6), .int .u64 (lb (0) 7)] := by simp only [lb_zero]
    refine ⟨0, by omega, rfl, ?_⟩
    show Hp [] w [⟨g5, _, [.int .u64 (lb (0) 0), .int .u64 (lb (0) 1), .int .u64 (lb (0) 2), .int .u64 (lb (0) 3), .int .u64 (lb (0) 4), .int .u64 (lb (0) 5), .int .u64 (lb (0) 6), .int .u64 (lb (0) 7)]⟩, _, _, _] _
    rw [← e]
    exact hp
  case round =>
    clear hp
    obtain ⟨k, hk, rfl, hp⟩ := hrel
    obtain rfl | rfl | rfl | rfl : k = 0 ∨ k = 1 ∨ k = 2 ∨ k = 3 := by omega
    · dsimp only [part] at hp
      go_wp2_with (first
          | ((with_reducible apply sx_box hp); exact za rfl; exact rfl; clear hp; (try clear w1); intro g w1 hp; simp only [zp, zq, z0, z1])
          | ((with_reducible apply sx_alloc hp); infer_instance; exact rfl; clear hp; (try clear w1); intro g w1 hp; simp only [zp, zq, z0, z1])
          | ((with_reducible apply sx_load_agg hp); exact zt rfl; infer_instance; infer_instance; (first | exact zl rfl | exact LB_le (by omega)); (first | (with_reducible exact LB_set (by omega)) | (simp only [n0, Nat.reduceAdd, n1, n2, n3, n4, n5, n6, n7, n8, n9]; try rfl)); simp only [zp, zq, z0, z1])
          | ((with_reducible apply sx_store hp); exact zt rfl; exact za rfl; exact rfl; (first | exact AggTy.size | exact OneTy.size); exact rfl; infer_instance; (first | (with_reducible exact LB_set (by omega)) | (simp only [n0, Nat.reduceAdd, n1, n2, n3, n4, n5, n6, n7, n8, n9]; try rfl)); (first | exact zl rfl | exact LB_le (by omega)); exact rfl; infer_instance; clear hp; (try clear w1); intro w1 hp)
          | ((with_reducible apply sx_index_one); exact za rfl; exact zk rfl; infer_instance; infer_instance; omega; omega; (first | exact rfl | (go_simp; done)); simp only [zp, zq, z0, z1])
          | ((with_reducible apply sx_index_agg); exact za rfl; exact zk rfl; infer_instance; infer_instance; omega; omega; ((try simp only [m0, Int.reduceToNat, m1, m2, Nat.reduceMul, m3, m4, n5, n1, n2, n3, n4, n6]); exact rfl); simp only [zp, zq, z0, z1])
          | ((with_reducible first | refine sx_call hp (M0.out _) ?_ | refine sx_call hp (A0.out _) ?_); clear hp; (try clear w1); intro w1 hp))
      go_roundw
      case rel => exact ⟨1, by omega, rfl, hp.sub (by rw [show part m n 1 = m.x * n.x from rfl]; repeat (first | with_reducible exact List.nil_sublist _ | with_reducible exact List.Sublist.refl _ | with_reducible apply List.Sublist.cons_cons | with_reducible apply List.Sublist.cons))⟩
      case measure => simp [intOf]
    · dsimp only [part] at hp
      go_wp2_with (first
          | ((with_reducible apply sx_box hp); exact za rfl; exact rfl; clear hp; (try clear w1); intro g w1 hp; simp only [zp, zq, z0, z1])
          | ((with_reducible apply sx_alloc hp); infer_instance; exact rfl; clear hp; (try clear w1); intro g w1 hp; simp only [zp, zq, z0, z1])
          | ((with_reducible apply sx_load_agg hp); exact zt rfl; infer_instance; infer_instance; (first | exact zl rfl | exact LB_le (by omega)); (first | (with_reducible exact LB_set (by omega)) | (simp only [n0, Nat.reduceAdd, n1, n2, n3, n4, n5, n6, n7, n8, n9]; try rfl)); simp only [zp, zq, z0, z1])
          | ((with_reducible apply sx_store hp); exact zt rfl; exact za rfl; exact rfl; (first | exact AggTy.size | exact OneTy.size); exact rfl; infer_instance; (first | (with_reducible exact LB_set (by omega)) | (simp only [n0, Nat.reduceAdd, n1, n2, n3, n4, n5, n6, n7, n8, n9]; try rfl)); (first | exact zl rfl | exact LB_le (by omega)); exact rfl; infer_instance; clear hp; (try clear w1); intro w1 hp)
          | ((with_reducible apply sx_index_one); exact za rfl; exact zk rfl; infer_instance; infer_instance; omega; omega; (first | exact rfl | (go_simp; done)); simp only [zp, zq, z0, z1])
          | ((with_reducible apply sx_index_agg); exact za rfl; exact zk rfl; infer_instance; infer_instance; omega; omega; ((try simp only [m0, Int.reduceToNat, m1, m2, Nat.reduceMul, m3, m4, n5, n1, n2, n3, n4, n6]); exact rfl); simp only [zp, zq, z0, z1])
          | ((with_reducible first | refine sx_call hp (M1.out _) ?_ | refine sx_call hp (A1.out _) ?_); clear hp; (try clear w1); intro w1 hp))
      go_roundw
      case rel => exact ⟨2, by omega, rfl, hp.sub (by rw [show part m n 2 = m.x * n.x + m.y * n.y from rfl]; repeat (first | with_reducible exact List.nil_sublist _ | with_reducible exact List.Sublist.refl _ | with_reducible apply List.Sublist.cons_cons | with_reducible apply List.Sublist.cons))⟩
      case measure => simp [intOf]
    · dsimp only [part] at hp
      go_wp2_with (first
          | ((with_reducible apply sx_box hp); exact za rfl; exact rfl; clear hp; (try clear w1); intro g w1 hp; simp only [zp, zq, z0, z1])
          | ((with_reducible apply sx_alloc hp); infer_instance; exact rfl; clear hp; (try clear w1); intro g w1 hp; simp only [zp, zq, z0, z1])
          | ((with_reducible apply sx_load_agg hp); exact zt rfl; infer_instance; infer_instance; (first | exact zl rfl | exact LB_le (by omega)); (first | (with_reducible exact LB_set (by omega)) | (simp only [n0, Nat.reduceAdd, n1, n2, n3, n4, n5, n6, n7, n8, n9]; try rfl)); simp only [zp, zq, z0, z1])
          | ((with_reducible apply sx_store hp); exact zt rfl; exact za rfl; exact rfl; (first | exact AggTy.size | exact OneTy.size); exact rfl; infer_instance; (first | (with_reducible exact LB_set (by omega)) | (simp only [n0, Nat.reduceAdd, n1, n2, n3, n4, n5, n6, n7, n8, n9]; try rfl)); (first | exact zl rfl | exact LB_le (by omega)); exact rfl; infer_instance; clear hp; (try clear w1); intro w1 hp)
          | ((with_reducible apply sx_index_one); exact za rfl; exact zk rfl; infer_instance; infer_instance; omega; omega; (first | exact rfl | (go_simp; done)); simp only [zp, zq, z0, z1])
          | ((with_reducible apply sx_index_agg); exact za rfl; exact zk rfl; infer_instance; infer_instance; omega; omega; ((try simp only [m0, Int.reduceToNat, m1, m2, Nat.reduceMul, m3, m4, n5, n1, n2, n3, n4, n6]); exact rfl); simp only [zp, zq, z0, z1])
          | ((with_reducible first | refine sx_call hp (M2.out _) ?_ | refine sx_call hp (A2.out _) ?_); clear hp; (try clear w1); intro w1 hp))
      go_roundw
      case rel => exact ⟨3, by omega, rfl, hp.sub (by rw [show part m n 3 = m.x * n.x + m.y * n.y + m.z * n.z from rfl]; repeat (first | with_reducible exact List.nil_sublist _ | with_reducible exact List.Sublist.refl _ | with_reducible apply List.Sublist.cons_cons | with_reducible apply List.Sublist.cons))⟩
      case measure => simp [intOf]
    · dsimp only [part] at hp
      go_wp2_with (first
          | ((with_reducible apply sx_box hp); exact za rfl; exact rfl; clear hp; (try clear w1); intro g w1 hp; simp only [zp, zq, z0, z1])
          | ((with_reducible apply sx_alloc hp); infer_instance; exact rfl; clear hp; (try clear w1); intro g w1 hp; simp only [zp, zq, z0, z1])
          | ((with_reducible apply sx_load_agg hp); exact zt rfl; infer_instance; infer_instance; (first | exact zl rfl | exact LB_le (by omega)); (first | (with_reducible exact LB_set (by omega)) | (simp only [n0, Nat.reduceAdd, n1, n2, n3, n4, n5, n6, n7, n8, n9]; try rfl)); simp only [zp, zq, z0, z1])
          | ((with_reducible apply sx_store hp); exact zt rfl; exact za rfl; exact rfl; (first | exact AggTy.size | exact OneTy.size); exact rfl; infer_instance; (first | (with_reducible exact LB_set (by omega)) | (simp only [n0, Nat.reduceAdd, n1, n2, n3, n4, n5, n6, n7, n8, n9]; try rfl)); (first | exact zl rfl | exact LB_le (by omega)); exact rfl; infer_instance; clear hp; (try clear w1); intro w1 hp)
          | ((with_reducible apply sx_index_one); exact za rfl; exact zk rfl; infer_instance; infer_instance; omega; omega; (first | exact rfl | (go_simp; done)); simp only [zp, zq, z0, z1])
          | ((with_reducible apply sx_index_agg); exact za rfl; exact zk rfl; infer_instance; infer_instance; omega; omega; ((try simp only [m0, Int.reduceToNat, m1, m2, Nat.reduceMul, m3, m4, n5, n1, n2, n3, n4, n6]); exact rfl); simp only [zp, zq, z0, z1]))
      exact bodyPost_ret (results_one rfl ⟨_, rfl, run_load_agg hp (Nat.le_of_ble_eq_true rfl)⟩) rfl ⟨rfl, hp.keep⟩
end Go.Proofs.Ythnpmmpcejfllaa
