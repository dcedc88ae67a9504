/-
  Package wide: limbs added, turned over, held against each other (contracts).
  Package wide: turning over, sizes (contracts).
  Package wide: numbers of an int64, signs, comparing, sums and differences (contracts).
  Package wide: comparing, sums and differences (contracts).
-/
import Derived.Test.YtbdkbmhejoakiaaDoorTypes
import Derived.Test.YtbdkbmhejoakiaaDoorNum
import Derived.Test.YtbdkbmhejoakiaaDoorDraw
import Derived.Laws.Externs
import Derived.Lib.Hide
import Derived.Test.YtbdkbmhejoakiaaDoorEr
import Derived.Deep.DeepCutAuto
set_option linter.unusedSimpArgs false
set_option maxRecDepth 100000
namespace Go.Proofs.YtbdkbmhejoakiaaDoor
open Go Go.RowKit

theorem run_bits_add64 (x y c : Int) (hx : 0 ≤ x) (hy : 0 ≤ y) (h0 : 0 ≤ c) (h1 : c ≤ 1) (w : World) :
    (callFunc 48 #[.int .u64 x, .int .u64 y, .int .u64 c]).run Tryd.prog w =
      .ok (.value (.tuple #[.int .u64 ((x + y + c) % 18446744073709551616), .int .u64 ((x + y + c) / 18446744073709551616)])) w := by
  rw [run_callFunc_extern Tryd.func48 (by kernel_rfl) (by kernel_rfl) (by kernel_rfl) (e := add64Entry) (by kernel_rfl), run_add64 x y c hx hy h0 h1]
  rfl

theorem adder1_any (x y c : Int) (g : Nat) (hx : 0 ≤ x) (hy : 0 ≤ y) (h0 : 0 ≤ c) (h1 : c ≤ 1) (w : World) (hb : w.heap[g]? = some (.cells #[.int .u64 c] 35 (0, 0))) :
    Calls Tryd.prog 110 #[.int .u64 x, .int .u64 y, .pointer (some ⟨g, 0, none⟩)] w
      (RetX g 35 [.int .u64 ((x + y + c) / 18446744073709551616)] (.int .u64 ((x + y + c) % 18446744073709551616)) w) := by
  have hr := fun w => run_bits_add64 x y c hx hy h0 h1 w
  have hp := Hp.startX (cs := [.int .u64 c]) hb
  clear hb
  go_enter Tryd.func110, Tryd.ntmps110
  go_wp2_with (first
          | ((with_reducible apply sx_box hp); (first | exact za rfl | exact zu rfl | exact zi rfl | exact zb rfl | exact zr rfl | exact zs rfl | exact zf rfl | exact zg rfl | exact zn rfl | exact zv rfl | exact zw rfl); exact rfl; clear hp; (try clear w1); intro g w1 hp; simp only [zp, zq, z0, z1])
          | ((with_reducible apply sx_alloc hp); infer_instance; exact rfl; clear hp; (try clear w1); intro g w1 hp; simp only [zp, zq, z0, z1])
          | ((with_reducible apply sx_load_agg hp); exact zt rfl; infer_instance; infer_instance; (first | exact zl rfl | exact LB_le (by omega)); (first | (with_reducible exact LB_set (by omega)) | (simp only [n0, Nat.reduceAdd, n1, n2, n3, n4, n5, n6, n7, n8, n9]; try rfl)); simp only [zp, zq, z0, z1])
          | ((with_reducible apply sx_load_one hp); exact zt rfl; infer_instance; infer_instance; (first | exact zio rfl | exact zbo rfl | exact zro rfl | exact zso rfl | exact zfo rfl | exact zgo rfl | exact zno rfl | exact zvo rfl | exact zwo rfl | exact LB_get (by omega)); simp only [zp, zq, z0, z1])
          | ((with_reducible apply sx_store hp); exact zt rfl; (first | exact za rfl | exact zu rfl | exact zi rfl | exact zb rfl | exact zr rfl | exact zs rfl | exact zf rfl | exact zg rfl | exact zn rfl | exact zv rfl | exact zw rfl); exact rfl; (first | exact AggTy.size | exact OneTy.size); exact rfl; infer_instance; (first | (with_reducible exact LB_set (by omega)) | (simp only [n0, Nat.reduceAdd, n1, n2, n3, n4, n5, n6, n7, n8, n9]; try rfl)); (first | exact zl rfl | exact LB_le (by omega)); exact rfl; infer_instance; clear hp; (try clear w1); intro w1 hp)
          | ((with_reducible apply sx_index_one); exact za rfl; exact zk rfl; infer_instance; infer_instance; omega; omega; (first | exact rfl | (go_simp; done)); simp only [zp, zq, z0, z1])
          | ((with_reducible apply sx_index_agg); exact za rfl; exact zk rfl; infer_instance; infer_instance; omega; omega; ((try simp only [m0, Int.reduceToNat, m1, m2, Nat.reduceMul, m3, m4, n5, n1, n2, n3, n4, n6]); exact rfl); simp only [zp, zq, z0, z1])
          | ((with_reducible apply sx_indexAddr); exact zx rfl; exact zk rfl; infer_instance; (first | exact AggTy.size | exact OneTy.size); omega; omega; ((try simp only [m0, Int.reduceToNat, m1, m2, Nat.reduceMul, Nat.reduceAdd, m3, m4, m5, n0]); exact rfl); simp only [zp, zq, z0, z1])
          | ((with_reducible apply sx_load_far hp); exact zt rfl; assumption; infer_instance; assumption; (first | exact zl rfl | omega); simp only [zp, zq, z0, z1])
          | ((with_reducible apply sx_load_far1 hp); exact zt rfl; assumption; infer_instance; (first | assumption | (first | exact zio rfl | exact zbo rfl | exact zro rfl | exact zso rfl | exact zfo rfl | exact zgo rfl | exact zno rfl | exact zvo rfl | exact zwo rfl | exact LB_get (by omega))); simp only [zp, zq, z0, z1])
          | ((with_reducible apply sx_buildSlice hp); infer_instance; (first | exact AggTy.size | exact OneTy.size); infer_instance; exact zl rfl; decide; (first | exact (rfl : _ = numbered 0 [_]) | exact (rfl : _ = numbered 0 [_, _]) | exact (rfl : _ = numbered 0 [_, _, _]) | exact (rfl : _ = numbered 0 [_, _, _, _])); exact rfl; (first | exact (rfl : _ = List.map (fun x : List Value => x.toArray) [_]) | exact (rfl : _ = List.map (fun x : List Value => x.toArray) [_, _]) | exact (rfl : _ = List.map (fun x : List Value => x.toArray) [_, _, _]) | exact (rfl : _ = List.map (fun x : List Value => x.toArray) [_, _, _, _])); (intro l hl <;> simp only [List.mem_cons, List.not_mem_nil, or_false] at hl <;> rcases hl with rfl | rfl | rfl | rfl <;> rfl); exact rfl; clear hp; (try clear w1); intro g w1 hp; simp only [zp, zq, z0, z1])
          | ((with_reducible apply sx_append_nil hp); infer_instance; infer_instance; exact rfl; decide; exact (rfl : _ = Value.slice none 0 0); exact zy rfl; infer_instance; exact rfl; exact rfl; decide; (unfold maxLen; decide); decide; clear hp; (try clear w1); intro g cap junk w1 hl1 hl2 hl3 hp; simp only [zp, zq, z0, z1])
          | ((with_reducible apply sx_append hp); infer_instance; infer_instance; exact rfl; decide; exact zy rfl; (first | exact List.Perm.refl _ | exact List.perm_middle (l₁ := [_]) | exact List.perm_middle (l₁ := [_, _]) | exact List.perm_middle (l₁ := [_, _, _]) | exact List.perm_middle (l₁ := [_, _, _, _]) | exact List.perm_middle (l₁ := [_, _, _, _, _])); (first | exact pcs_length _ | (simp only [List.length_map, Nat.mul_one])); assumption; assumption; assumption; exact zy rfl; infer_instance; exact rfl; exact rfl; decide; (unfold maxLen; omega); omega; clear hp; (try clear w1); intro g cap junk w1 hl1 hl2 hl3 hp; (try dsimp only [List.cons_append, List.nil_append] at hp); simp only [zp, zq, z0, z1]))
  exact bodyPost_ret (results_one rfl rfl) rfl ⟨rfl, hp.keep, hp.blk⟩

theorem adder_any (c : Int) (w : World) :
    Calls Tryd.prog 102 #[.int .u64 c] w (RetN (fun g => .func (.func 110) #[] #[.pointer (some ⟨g, 0, none⟩)]) 35 [.int .u64 c] w) := by
  go_enter Tryd.func102, Tryd.ntmps102
  have hp := Hp.start [] w
  go_wp2_with (first
          | ((with_reducible apply sx_box hp); exact zi rfl; exact rfl; clear hp; (try clear w1); intro g w1 hp; simp only [zp, zq, z0, z1]))
  exact bodyPost_ret (results_one rfl rfl) rfl ⟨g, rfl, hp.keep, hp.fresh, hp.blk⟩

set_option maxHeartbeats 4000000 in
theorem plus_any (a b c : Int) (h0 : 0 ≤ c) (h1 : c ≤ 1) (w : World) : Calls Tryd.prog 86 #[W a, W b, .int .u64 c] w (Ret (W (a + b + c)) w) := by
  go_enter Tryd.func86, Tryd.ntmps86
  have hp := Hp.start [] w
  go_wp2_with (first
          | ((with_reducible apply sx_box hp); exact za rfl; exact rfl; clear hp; (try clear w1); intro g w1 hp; simp only [zp, zq, z0, z1])
          | ((with_reducible apply sx_alloc hp); infer_instance; exact rfl; clear hp; (try clear w1); intro g w1 hp; simp only [zp, zq, z0, z1])
          | ((with_reducible apply sx_load_agg hp); exact zt rfl; infer_instance; infer_instance; (first | exact zl rfl | exact LB_le (by omega)); (first | (with_reducible exact LB_set (by omega)) | (simp only [n0, Nat.reduceAdd, n1, n2, n3, n4, n5, n6, n7, n8, n9]; try rfl)); simp only [zp, zq, z0, z1])
          | ((with_reducible apply sx_load_one hp); exact zt rfl; infer_instance; infer_instance; (first | exact zio rfl | exact LB_get (by omega)); simp only [zp, zq, z0, z1])
          | ((with_reducible apply sx_store hp); exact zt rfl; (first | exact za rfl | exact zi rfl); exact rfl; (first | exact AggTy.size | exact OneTy.size); exact rfl; infer_instance; (first | (with_reducible exact LB_set (by omega)) | (simp only [n0, Nat.reduceAdd, n1, n2, n3, n4, n5, n6, n7, n8, n9]; try rfl)); (first | exact zl rfl | exact LB_le (by omega)); exact rfl; infer_instance; clear hp; (try clear w1); intro w1 hp)
          | ((with_reducible refine sx_callN hp (adder_any _ _) ?_); clear hp; (try clear w1); intro g w1 hp))
  rename_i ga gb gr K hK
  go_loopw [11] (fun i wr => ∃ (k : Nat) (F : Nat → Int), k ≤ 8 ∧ i = .int .i64 k ∧ (∀ j, j < k → F j = lb (a + b + c) j) ∧ (∀ j, k ≤ j → F j = lb a j) ∧
      Hp [] w [⟨g, 35, [.int .u64 (cy a b c k)]⟩, ⟨gr, 67, [.int .u64 0, .int .u64 0, .int .u64 0, .int .u64 0, .int .u64 0, .int .u64 0, .int .u64 0, .int .u64 0]⟩, ⟨gb, 67, LB (lb b)⟩, ⟨ga, 67, LB F⟩] wr) (fun i _ => 8 - (intOf i).toNat)
  case atStart => exact ⟨0, lb a, by omega, rfl, fun j h => by omega, fun j _ => rfl, by rw [cy_zero]; exact hp⟩
  case round =>
    clear hp
    obtain ⟨k, F, hk, rfl, hlo, hhi, hp⟩ := hrel
    have Hlo := Lib.hid hlo
    clear hlo
    have hF := Lib.hid (hhi k (Nat.le_refl _))
    have Hhi := Lib.hid hhi
    clear hhi
    have hcy := cy_bd a b c k h0 h1
    have hFn : 0 ≤ F k := by rw [hF.out]; exact lb_nonneg _ _
    by_cases hlt : k < 8
    · go_wp2_with (first
          | ((with_reducible apply sx_box hp); exact za rfl; exact rfl; clear hp; (try clear w1); intro g w1 hp; simp only [zp, zq, z0, z1])
          | ((with_reducible apply sx_alloc hp); infer_instance; exact rfl; clear hp; (try clear w1); intro g w1 hp; simp only [zp, zq, z0, z1])
          | ((with_reducible apply sx_load_agg hp); exact zt rfl; infer_instance; infer_instance; (first | exact zl rfl | exact LB_le (by omega)); (first | (with_reducible exact LB_set (by omega)) | (simp only [n0, Nat.reduceAdd, n1, n2, n3, n4, n5, n6, n7, n8, n9]; try rfl)); simp only [zp, zq, z0, z1])
          | ((with_reducible apply sx_load_one hp); exact zt rfl; infer_instance; infer_instance; (first | exact zio rfl | exact LB_get (by omega)); simp only [zp, zq, z0, z1])
          | ((with_reducible apply sx_store hp); exact zt rfl; (first | exact za rfl | exact zi rfl); exact rfl; (first | exact AggTy.size | exact OneTy.size); exact rfl; infer_instance; (first | (with_reducible exact LB_set (by omega)) | (simp only [n0, Nat.reduceAdd, n1, n2, n3, n4, n5, n6, n7, n8, n9]; try rfl)); (first | exact zl rfl | exact LB_le (by omega)); exact rfl; infer_instance; clear hp; (try clear w1); intro w1 hp))
      have hq := hp
      replace hp := hp.sub (List.sublist_cons_self ..)
      refine wp_drawn_hp hp hq [10] (.q 0 (.q 1 (.q 2 (.q 3 (.q 4 (.q 5 (.q 6 (.q 7 (.l 8 (.q 9 (.l 10 .nil))))))))))) (by kernel_rfl) (by kernel_rfl) ?_
      clear hp hq; (try clear w1); intro w1 hp hq
      repeat' (first
        | (((with_reducible apply sd_q); exact zo rfl); (first
            | ((with_reducible apply sd_load_one hp); exact rfl; exact zt rfl; infer_instance; infer_instance; (first | exact zio rfl | exact LB_get (by omega)); simp only [zp, zq, z0, z1])
            | ((with_reducible apply sd_move hp); (first | exact zf rfl | exact zn rfl | exact zi rfl); simp only [zp, zq, z0, z1])
            | ((with_reducible apply sd_indexAddr hp); exact rfl; exact zx rfl; exact zk rfl; infer_instance; (first | exact AggTy.size | exact OneTy.size); omega; omega; ((try simp only [m0, Int.reduceToNat, m1, m2, Nat.reduceMul, Nat.reduceAdd, m3, m4, m5, n0]); exact rfl); simp only [zp, zq, z0, z1])
            | ((with_reducible apply sd_pure hp); exact rfl; (focus (intro _; go_simp; (try go_ints); try with_reducible rfl)); simp only [zp, zq, z0, z1])))
        | (((with_reducible apply sd_l); exact zo rfl); (first
            | ((with_reducible apply sd_callX hq); exact rfl; (focus (intro _; go_simp; try first | with_reducible rfl | exact ⟨rfl, rfl⟩)); (with_reducible exact adder1_any _ _ _ _ hFn (lb_nonneg _ _) hcy.1 hcy.2 _ hq.blk); infer_instance; (repeat (first | exact List.Sublist.refl _ | apply List.Sublist.cons)); clear hp hq; (try clear w1); intro w1 hp hq; simp only [zp, zq, z0, z1])
            | ((with_reducible apply sd_store_far hq); exact rfl; exact zt rfl; (first | exact za rfl | exact zu rfl | exact zi rfl | exact zb rfl | exact zr rfl | exact zs rfl | exact zf rfl | exact zg rfl | exact zn rfl | exact zv rfl | exact zw rfl); exact rfl; (first | exact AggTy.size | exact OneTy.size); exact rfl; infer_instance; (first | (with_reducible exact LB_set (by omega)) | (simp only [n0, Nat.reduceAdd, n1, n2, n3, n4, n5, n6, n7, n8, n9]; try rfl)); (first | exact zl rfl | exact LB_le (by omega)); exact rfl; infer_instance; (repeat (first | exact List.Sublist.refl _ | apply List.Sublist.cons)); clear hp hq; (try clear w1); intro w1 hp hq)
            | ((with_reducible apply sd_store hq); exact rfl; exact zt rfl; (first | exact za rfl | exact zu rfl | exact zi rfl | exact zb rfl | exact zr rfl | exact zs rfl | exact zf rfl | exact zg rfl | exact zn rfl | exact zv rfl | exact zw rfl); exact rfl; (first | exact AggTy.size | exact OneTy.size); exact rfl; infer_instance; (first | (with_reducible exact LB_set (by omega)) | (simp only [n0, Nat.reduceAdd, n1, n2, n3, n4, n5, n6, n7, n8, n9]; try rfl)); (first | exact zl rfl | exact LB_le (by omega)); exact rfl; infer_instance; exact rfl; clear hp hq; (try clear w1); intro w1 hq; have hp := True.intro)))
        | ((with_reducible apply sd_nil); clear hp; have hp := hq; clear hq))
      go_wp2_with fail
      go_roundw
      case rel =>
        refine ⟨k + 1, upd F k ((F k + lb b k + cy a b c k) % 18446744073709551616), by omega, by go_num, ?_, ?_, ?_⟩
        · intro j hj
          by_cases e : j = k
          · subst e; rw [upd_same, hF.out]; exact sum_lb a b c j
          · rw [upd_ne _ _ e]; exact Hlo.out j (by omega)
        · intro j hj
          rw [upd_ne _ _ (by omega)]; exact Hhi.out j (by omega)
        · have e : (F k + lb b k + cy a b c k) / 18446744073709551616 = cy a b c (k + 1) := by rw [hF.out]; exact cy_succ a b c k
          rw [← e]; exact hp
      case measure => simp [intOf]; omega
    · obtain rfl : k = 8 := by omega
      have e : LB F = LB (lb (a + b + c)) := LB_congr fun j hj => Hlo.out j hj
      rw [e] at hp
      clear e Hlo Hhi hF hFn
      have hp' : Hp [] w [⟨g, 35, [.int .u64 (cy a b c 8)]⟩, ⟨gr, 67, [.int .u64 0, .int .u64 0, .int .u64 0, .int .u64 0, .int .u64 0, .int .u64 0, .int .u64 0, .int .u64 0]⟩, ⟨gb, 67, LB (lb b)⟩, ⟨ga, 67, [.int .u64 (lb (a + b + c) 0), .int .u64 (lb (a + b + c) 1), .int .u64 (lb (a + b + c) 2), .int .u64 (lb (a + b + c) 3), .int .u64 (lb (a + b + c) 4), .int .u64 (lb (a + b + c) 5), .int .u64 (lb (a + b + c) 6), .int .u64 (lb (a + b + c) 7)]⟩] wr := hp
      clear hp
      have hp := hp'
      clear hp'
      go_wp2_with (first
          | ((with_reducible apply sx_box hp); exact za rfl; exact rfl; clear hp; (try clear w1); intro g w1 hp; simp only [zp, zq, z0, z1])
          | ((with_reducible apply sx_alloc hp); infer_instance; exact rfl; clear hp; (try clear w1); intro g w1 hp; simp only [zp, zq, z0, z1])
          | ((with_reducible apply sx_load_agg hp); exact zt rfl; infer_instance; infer_instance; (first | exact zl rfl | exact LB_le (by omega)); (first | (with_reducible exact LB_set (by omega)) | (simp only [n0, Nat.reduceAdd, n1, n2, n3, n4, n5, n6, n7, n8, n9]; try rfl)); simp only [zp, zq, z0, z1])
          | ((with_reducible apply sx_load_one hp); exact zt rfl; infer_instance; infer_instance; (first | exact zio rfl | exact LB_get (by omega)); simp only [zp, zq, z0, z1])
          | ((with_reducible apply sx_store hp); exact zt rfl; (first | exact za rfl | exact zi rfl); exact rfl; (first | exact AggTy.size | exact OneTy.size); exact rfl; infer_instance; (first | (with_reducible exact LB_set (by omega)) | (simp only [n0, Nat.reduceAdd, n1, n2, n3, n4, n5, n6, n7, n8, n9]; try rfl)); (first | exact zl rfl | exact LB_le (by omega)); exact rfl; infer_instance; clear hp; (try clear w1); intro w1 hp))
      exact bodyPost_ret (results_one rfl ⟨_, rfl, run_load_agg hp (Nat.le_of_ble_eq_true rfl)⟩) rfl ⟨rfl, hp.keep⟩
end Go.Proofs.YtbdkbmhejoakiaaDoor
set_option linter.unusedSimpArgs false
set_option maxRecDepth 100000
namespace Go.Proofs.YtbdkbmhejoakiaaDoor
open Go Go.RowKit

theorem negative_any (n : Int) (w : World) : Calls Tryd.prog 50 #[W n] w (Ret (.bool (ng n)) w) := by
  have h0 := lb_nonneg n 7
  have h1 := lb_lt n 7
  go_enter Tryd.func50, Tryd.ntmps50
  have hp := Hp.start [] w
  go_wp2_with (first
          | ((with_reducible apply sx_box hp); exact za rfl; exact rfl; clear hp; (try clear w1); intro g w1 hp; simp only [zp, zq, z0, z1])
          | ((with_reducible apply sx_load_one hp); exact zt rfl; infer_instance; infer_instance; (first | exact zio rfl | exact LB_get (by omega)); simp only [zp, zq, z0, z1]))
  refine bodyPost_ret (results_one (v := .bool (ng n)) rfl ?_) rfl ⟨rfl, hp.keep⟩
  show Value.bool _ = Value.bool _
  congr 1
  unfold ng
  rw [Bool.eq_iff_iff, beq_iff_eq, decide_eq_true_iff]
  omega
theorem negT (n : Int) (h : ng n = true) (w : World) : Calls Tryd.prog 50 #[W n] w (Ret (.bool true) w) := h ▸ negative_any n w
theorem negF (n : Int) (h : ng n = false) (w : World) : Calls Tryd.prog 50 #[W n] w (Ret (.bool false) w) := h ▸ negative_any n w

set_option maxHeartbeats 4000000 in
theorem not_any (a : Int) (w : World) : Calls Tryd.prog 87 #[W a] w (Ret (W (-a - 1)) w) := by
  go_enter Tryd.func87, Tryd.ntmps87
  have hp := Hp.start [] w
  go_wp2_with (first
          | ((with_reducible apply sx_box hp); exact za rfl; exact rfl; clear hp; (try clear w1); intro g w1 hp; simp only [zp, zq, z0, z1])
          | ((with_reducible apply sx_alloc hp); infer_instance; exact rfl; clear hp; (try clear w1); intro g w1 hp; simp only [zp, zq, z0, z1])
          | ((with_reducible apply sx_load_agg hp); exact zt rfl; infer_instance; infer_instance; (first | exact zl rfl | exact LB_le (by omega)); (first | (with_reducible exact LB_set (by omega)) | (simp only [n0, Nat.reduceAdd, n1, n2, n3, n4, n5, n6, n7, n8, n9]; try rfl)); simp only [zp, zq, z0, z1])
          | ((with_reducible apply sx_load_one hp); exact zt rfl; infer_instance; infer_instance; (first | exact zio rfl | exact LB_get (by omega)); simp only [zp, zq, z0, z1])
          | ((with_reducible apply sx_store hp); exact zt rfl; (first | exact za rfl | exact zi rfl); exact rfl; (first | exact AggTy.size | exact OneTy.size); exact rfl; infer_instance; (first | (with_reducible exact LB_set (by omega)) | (simp only [n0, Nat.reduceAdd, n1, n2, n3, n4, n5, n6, n7, n8, n9]; try rfl)); (first | exact zl rfl | exact LB_le (by omega)); exact rfl; infer_instance; clear hp; (try clear w1); intro w1 hp))
  rename_i ga K hK
  go_loopw [4] (fun i wr => ∃ (k : Nat) (F : Nat → Int), k ≤ 8 ∧ i = .int .i64 k ∧ (∀ j, j < k → F j = lb (-a - 1) j) ∧ (∀ j, k ≤ j → F j = lb a j) ∧
      Hp [] w [⟨g, 67, [.int .u64 0, .int .u64 0, .int .u64 0, .int .u64 0, .int .u64 0, .int .u64 0, .int .u64 0, .int .u64 0]⟩, ⟨ga, 67, LB F⟩] wr) (fun i _ => 8 - (intOf i).toNat)
  case atStart => exact ⟨0, lb a, by omega, rfl, fun j h => by omega, fun j _ => rfl, hp⟩
  case round =>
    clear hp
    obtain ⟨k, F, hk, rfl, hlo, hhi, hp⟩ := hrel
    have hF := Lib.hid (hhi k (Nat.le_refl _))
    have hFn : 0 ≤ F k := by rw [hF.out]; exact lb_nonneg _ _
    have hFn' : F k < 18446744073709551616 := by rw [hF.out]; exact lb_lt _ _
    have Hlo := Lib.hid hlo
    clear hlo
    have Hhi := Lib.hid hhi
    clear hhi
    by_cases hlt : k < 8
    · go_wp2_with (first
          | ((with_reducible apply sx_box hp); exact za rfl; exact rfl; clear hp; (try clear w1); intro g w1 hp; simp only [zp, zq, z0, z1])
          | ((with_reducible apply sx_alloc hp); infer_instance; exact rfl; clear hp; (try clear w1); intro g w1 hp; simp only [zp, zq, z0, z1])
          | ((with_reducible apply sx_load_agg hp); exact zt rfl; infer_instance; infer_instance; (first | exact zl rfl | exact LB_le (by omega)); (first | (with_reducible exact LB_set (by omega)) | (simp only [n0, Nat.reduceAdd, n1, n2, n3, n4, n5, n6, n7, n8, n9]; try rfl)); simp only [zp, zq, z0, z1])
          | ((with_reducible apply sx_load_one hp); exact zt rfl; infer_instance; infer_instance; (first | exact zio rfl | exact LB_get (by omega)); simp only [zp, zq, z0, z1])
          | ((with_reducible apply sx_store hp); exact zt rfl; (first | exact za rfl | exact zi rfl); exact rfl; (first | exact AggTy.size | exact OneTy.size); exact rfl; infer_instance; (first | (with_reducible exact LB_set (by omega)) | (simp only [n0, Nat.reduceAdd, n1, n2, n3, n4, n5, n6, n7, n8, n9]; try rfl)); (first | exact zl rfl | exact LB_le (by omega)); exact rfl; infer_instance; clear hp; (try clear w1); intro w1 hp))
      go_roundw
      case rel =>
        rw [bits_not_u64 _ hFn hFn', hF.out, ← lb_not a k] at hp
        refine ⟨k + 1, upd F k (lb (-a - 1) k), by omega, by go_num, ?_, ?_, hp⟩
        · intro j hj
          by_cases e : j = k
          · subst e; rw [upd_same]
          · rw [upd_ne _ _ e]; exact Hlo.out j (by omega)
        · intro j hj
          rw [upd_ne _ _ (by omega)]; exact Hhi.out j (by omega)
      case measure => simp [intOf]; omega
    · obtain rfl : k = 8 := by omega
      have e : LB F = LB (lb (-a - 1)) := LB_congr fun j hj => Hlo.out j hj
      rw [e] at hp
      clear e Hlo Hhi hF hFn hFn'
      have hp' : Hp [] w [⟨g, 67, [.int .u64 0, .int .u64 0, .int .u64 0, .int .u64 0, .int .u64 0, .int .u64 0, .int .u64 0, .int .u64 0]⟩, ⟨ga, 67, [.int .u64 (lb (-a - 1) 0), .int .u64 (lb (-a - 1) 1), .int .u64 (lb (-a - 1) 2), .int .u64 (lb (-a - 1) 3), .int .u64 (lb (-a - 1) 4), .int .u64 (lb (-a - 1) 5), .int .u64 (lb (-a - 1) 6), .int .u64 (lb (-a - 1) 7)]⟩] wr := hp
      clear hp
      have hp := hp'
      clear hp'
      go_wp2_with (first
          | ((with_reducible apply sx_box hp); exact za rfl; exact rfl; clear hp; (try clear w1); intro g w1 hp; simp only [zp, zq, z0, z1])
          | ((with_reducible apply sx_alloc hp); infer_instance; exact rfl; clear hp; (try clear w1); intro g w1 hp; simp only [zp, zq, z0, z1])
          | ((with_reducible apply sx_load_agg hp); exact zt rfl; infer_instance; infer_instance; (first | exact zl rfl | exact LB_le (by omega)); (first | (with_reducible exact LB_set (by omega)) | (simp only [n0, Nat.reduceAdd, n1, n2, n3, n4, n5, n6, n7, n8, n9]; try rfl)); simp only [zp, zq, z0, z1])
          | ((with_reducible apply sx_load_one hp); exact zt rfl; infer_instance; infer_instance; (first | exact zio rfl | exact LB_get (by omega)); simp only [zp, zq, z0, z1])
          | ((with_reducible apply sx_store hp); exact zt rfl; (first | exact za rfl | exact zi rfl); exact rfl; (first | exact AggTy.size | exact OneTy.size); exact rfl; infer_instance; (first | (with_reducible exact LB_set (by omega)) | (simp only [n0, Nat.reduceAdd, n1, n2, n3, n4, n5, n6, n7, n8, n9]; try rfl)); (first | exact zl rfl | exact LB_le (by omega)); exact rfl; infer_instance; clear hp; (try clear w1); intro w1 hp))
      exact bodyPost_ret (results_one rfl ⟨_, rfl, run_load_agg hp (Nat.le_of_ble_eq_true rfl)⟩) rfl ⟨rfl, hp.keep⟩

theorem plus_zero (a c : Int) (h0 : 0 ≤ c) (h1 : c ≤ 1) (w : World) : Calls Tryd.prog 86 #[W a, .agg #[.int .u64 0, .int .u64 0, .int .u64 0, .int .u64 0, .int .u64 0, .int .u64 0, .int .u64 0, .int .u64 0], .int .u64 c] w (Ret (W (a + c)) w) := by
  have h := plus_any a 0 c h0 h1 w
  rw [W_zero, Int.add_zero] at h
  exact h

theorem plus_not (a : Int) (w : World) : Calls Tryd.prog 86 #[W (-a - 1), .agg #[.int .u64 0, .int .u64 0, .int .u64 0, .int .u64 0, .int .u64 0, .int .u64 0, .int .u64 0, .int .u64 0], .int .u64 1] w (Ret (W (-a)) w) := by
  have h := plus_zero (-a - 1) 1 (by omega) (by omega) w
  rw [show -a - 1 + 1 = -a by omega] at h
  exact h
theorem minus_any (a : Int) (w : World) : Calls Tryd.prog 67 #[W a] w (Ret (W (-a)) w) := by
  go_enter Tryd.func67, Tryd.ntmps67
  have hp := Hp.start [] w
  go_wp2_with (first
          | ((with_reducible apply sx_box hp); exact za rfl; exact rfl; clear hp; (try clear w1); intro g w1 hp; simp only [zp, zq, z0, z1])
          | ((with_reducible apply sx_alloc hp); infer_instance; exact rfl; clear hp; (try clear w1); intro g w1 hp; simp only [zp, zq, z0, z1])
          | ((with_reducible apply sx_load_agg hp); exact zt rfl; infer_instance; infer_instance; (first | exact zl rfl | exact LB_le (by omega)); (first | (with_reducible exact LB_set (by omega)) | (simp only [n0, Nat.reduceAdd, n1, n2, n3, n4, n5, n6, n7, n8, n9]; try rfl)); simp only [zp, zq, z0, z1])
          | ((with_reducible apply sx_store hp); exact zt rfl; exact za rfl; exact rfl; (first | exact AggTy.size | exact OneTy.size); exact rfl; infer_instance; (first | (with_reducible exact LB_set (by omega)) | (simp only [n0, Nat.reduceAdd, n1, n2, n3, n4, n5, n6, n7, n8, n9]; try rfl)); (first | exact zl rfl | exact LB_le (by omega)); exact rfl; infer_instance; clear hp; (try clear w1); intro w1 hp)
          | ((with_reducible first | refine sx_call hp (not_any _ _) ?_ | refine sx_call hp (plus_not _ _) ?_); clear hp; (try clear w1); intro w1 hp))
  exact bodyPost_ret (results_one rfl ⟨_, rfl, run_load_agg hp (Nat.le_of_ble_eq_true rfl)⟩) rfl ⟨rfl, hp.keep⟩

/-- What 'size' makes of a number of 512 bits: its absolute value, if it is read with a sign. -/
def sz (a : Int) : Int := if ng a then -a else a
theorem size_any (a : Int) (w : World) : Calls Tryd.prog 46 #[W a] w (Ret (W (sz a)) w) := by
  unfold sz
  cases h : ng a
  all_goals
    go_enter Tryd.func46, Tryd.ntmps46
    have hp := Hp.start [] w
    go_wp2_with (first
          | ((with_reducible apply sx_box hp); exact za rfl; exact rfl; clear hp; (try clear w1); intro g w1 hp; simp only [zp, zq, z0, z1])
          | ((with_reducible apply sx_alloc hp); infer_instance; exact rfl; clear hp; (try clear w1); intro g w1 hp; simp only [zp, zq, z0, z1])
          | ((with_reducible apply sx_load_agg hp); exact zt rfl; infer_instance; infer_instance; (first | exact zl rfl | exact LB_le (by omega)); (first | (with_reducible exact LB_set (by omega)) | (simp only [n0, Nat.reduceAdd, n1, n2, n3, n4, n5, n6, n7, n8, n9]; try rfl)); simp only [zp, zq, z0, z1])
          | ((with_reducible apply sx_store hp); exact zt rfl; exact za rfl; exact rfl; (first | exact AggTy.size | exact OneTy.size); exact rfl; infer_instance; (first | (with_reducible exact LB_set (by omega)) | (simp only [n0, Nat.reduceAdd, n1, n2, n3, n4, n5, n6, n7, n8, n9]; try rfl)); (first | exact zl rfl | exact LB_le (by omega)); exact rfl; infer_instance; clear hp; (try clear w1); intro w1 hp)
          | ((with_reducible first | refine sx_call hp (negF _ (by assumption) _) ?_ | refine sx_call hp (negT _ (by assumption) _) ?_ | refine sx_call hp (minus_any _ _) ?_); clear hp; (try clear w1); intro w1 hp))
    exact bodyPost_ret (results_one rfl ⟨_, rfl, run_load_agg hp (Nat.le_of_ble_eq_true rfl)⟩) rfl ⟨rfl, hp.keep⟩
end Go.Proofs.YtbdkbmhejoakiaaDoor
set_option linter.unusedSimpArgs false
set_option maxRecDepth 100000
namespace Go.Proofs.YtbdkbmhejoakiaaDoor
open Go Go.RowKit

theorem lb_small (n : Int) (h0 : -9223372036854775808 ≤ n) (h1 : n < 9223372036854775808) (i : Nat) (hi : 1 ≤ i) : lb n i = if n < 0 then 18446744073709551615 else 0 := by
  have hp : (9223372036854775808 : Int) ≤ 2 ^ (64 * i) := by
    obtain ⟨j, rfl⟩ : ∃ j, i = j + 1 := ⟨i - 1, by omega⟩
    rw [pow64_succ]
    have := pow_pos' (64 * j)
    omega
  unfold lb
  split
  · have : n / 2 ^ (64 * i) = -1 := by
      have h2 : n / 2 ^ (64 * i) < 0 := Int.ediv_neg_of_neg_of_pos (by omega) (by omega)
      have h3 : -1 ≤ n / 2 ^ (64 * i) := by
        rw [Int.le_ediv_iff_mul_le (by omega)]
        omega
      omega
    rw [this]; omega
  · rw [Int.ediv_eq_zero_of_lt (by omega) (by omega)]; rfl
theorem lb_zero_ix (n : Int) : lb n 0 = n % 18446744073709551616 := by simp [lb]

set_option maxHeartbeats 4000000 in
theorem of_any (n : Int) (h0 : -9223372036854775808 ≤ n) (h1 : n < 9223372036854775808) (w : World) : Calls Tryd.prog 24 #[.int .i64 n] w (Ret (W n) w) := by
  go_enter Tryd.func24, Tryd.ntmps24
  have hp := Hp.start [] w
  go_wp2_with (first
          | ((with_reducible apply sx_alloc hp); infer_instance; exact rfl; clear hp; (try clear w1); intro g w1 hp; simp only [zp, zq, z0, z1])
          | ((with_reducible apply sx_load_agg hp); exact zt rfl; infer_instance; infer_instance; (first | exact zl rfl | exact LB_le (by omega)); (first | (with_reducible exact LB_set (by omega)) | (simp only [n0, Nat.reduceAdd, n1, n2, n3, n4, n5, n6, n7, n8, n9]; try rfl)); simp only [zp, zq, z0, z1])
          | ((with_reducible apply sx_store hp); exact zt rfl; (first | exact za rfl | exact zi rfl); exact rfl; (first | exact AggTy.size | exact OneTy.size); exact rfl; infer_instance; (first | (with_reducible exact LB_set (by omega)) | (simp only [n0, Nat.reduceAdd, n1, n2, n3, n4, n5, n6, n7, n8, n9]; try rfl)); (first | exact zl rfl | exact LB_le (by omega)); exact rfl; infer_instance; clear hp; (try clear w1); intro w1 hp))
  rename_i ga K hK
  go_loopw [5] (fun i wr => ∃ (k : Nat) (F : Nat → Int), k ≤ 8 ∧ i = .int .i64 k ∧ (∀ j, j < k → F j = if n < 0 then 18446744073709551615 else 0) ∧
      Hp [] w [⟨g, 67, LB F⟩, ⟨ga, 38, [.int .u64 0, .int .u64 0, .int .u64 0, .int .u64 0, .int .u64 0, .int .u64 0, .int .u64 0, .int .u64 0]⟩] wr) (fun i _ => 8 - (intOf i).toNat)
  case atStart => exact ⟨0, fun _ => 0, by omega, rfl, fun j h => by omega, hp⟩
  case round =>
    clear hp
    obtain ⟨k, F, hk, rfl, hlo, hp⟩ := hrel
    have Hlo := Lib.hid hlo
    clear hlo
    by_cases hlt : k < 8
    · go_wp2_with (first
          | ((with_reducible apply sx_alloc hp); infer_instance; exact rfl; clear hp; (try clear w1); intro g w1 hp; simp only [zp, zq, z0, z1])
          | ((with_reducible apply sx_load_agg hp); exact zt rfl; infer_instance; infer_instance; (first | exact zl rfl | exact LB_le (by omega)); (first | (with_reducible exact LB_set (by omega)) | (simp only [n0, Nat.reduceAdd, n1, n2, n3, n4, n5, n6, n7, n8, n9]; try rfl)); simp only [zp, zq, z0, z1])
          | ((with_reducible apply sx_store hp); exact zt rfl; (first | exact za rfl | exact zi rfl); exact rfl; (first | exact AggTy.size | exact OneTy.size); exact rfl; infer_instance; (first | (with_reducible exact LB_set (by omega)) | (simp only [n0, Nat.reduceAdd, n1, n2, n3, n4, n5, n6, n7, n8, n9]; try rfl)); (first | exact zl rfl | exact LB_le (by omega)); exact rfl; infer_instance; clear hp; (try clear w1); intro w1 hp))
      go_roundw
      case rel =>
        have e : IntKind.u64.wrap (n / 9223372036854775808) = if n < 0 then 18446744073709551615 else 0 := by
          rw [IntKind.wrap_u64]
          split <;> omega
        rw [e] at hp
        refine ⟨k + 1, upd F k (if n < 0 then 18446744073709551615 else 0), by omega, by go_num, ?_, hp⟩
        intro j hj
        by_cases e : j = k
        · subst e; rw [upd_same]
        · rw [upd_ne _ _ e]; exact Hlo.out j (by omega)
      case measure => simp [intOf]; omega
    · obtain rfl : k = 8 := by omega
      have e : LB F = LB (fun _ => if n < 0 then 18446744073709551615 else 0) := LB_congr fun j hj => Hlo.out j hj
      rw [e] at hp
      clear e Hlo
      have e0 : IntKind.u64.wrap n = lb n 0 := by rw [IntKind.wrap_u64, lb_zero_ix]
      have E0 := Lib.hid e0
      clear e0
      generalize hf : (if n < 0 then 18446744073709551615 else 0 : Int) = f at hp
      have Hf := Lib.hid hf
      clear hf
      have hp' : Hp [] w [⟨g, 67, [.int .u64 f, .int .u64 f, .int .u64 f, .int .u64 f, .int .u64 f, .int .u64 f, .int .u64 f, .int .u64 f]⟩, ⟨ga, 38, [.int .u64 0, .int .u64 0, .int .u64 0, .int .u64 0, .int .u64 0, .int .u64 0, .int .u64 0, .int .u64 0]⟩] wr := hp
      clear hp
      have hp := hp'
      clear hp'
      go_wp2_with (first
          | ((with_reducible apply sx_alloc hp); infer_instance; exact rfl; clear hp; (try clear w1); intro g w1 hp; simp only [zp, zq, z0, z1])
          | ((with_reducible apply sx_load_agg hp); exact zt rfl; infer_instance; infer_instance; (first | exact zl rfl | exact LB_le (by omega)); (first | (with_reducible exact LB_set (by omega)) | (simp only [n0, Nat.reduceAdd, n1, n2, n3, n4, n5, n6, n7, n8, n9]; try rfl)); simp only [zp, zq, z0, z1])
          | ((with_reducible apply sx_store hp); exact zt rfl; (first | exact za rfl | exact zi rfl); exact rfl; (first | exact AggTy.size | exact OneTy.size); exact rfl; infer_instance; (first | (with_reducible exact LB_set (by omega)) | (simp only [n0, Nat.reduceAdd, n1, n2, n3, n4, n5, n6, n7, n8, n9]; try rfl)); (first | exact zl rfl | exact LB_le (by omega)); exact rfl; infer_instance; clear hp; (try clear w1); intro w1 hp))
      have hl : ∀ i, 1 ≤ i → f = lb n i := fun i hi => by rw [lb_small n h0 h1 i hi, Hf.out]
      have e : W n = .agg #[.int .u64 (IntKind.u64.wrap n), .int .u64 f, .int .u64 f, .int .u64 f, .int .u64 f, .int .u64 f, .int .u64 f, .int .u64 f] := by
        simp only [W, ← hl 1 (by omega), ← hl 2 (by omega), ← hl 3 (by omega), ← hl 4 (by omega), ← hl 5 (by omega), ← hl 6 (by omega), ← hl 7 (by omega), E0.out]
      exact bodyPost_ret (results_one rfl ⟨_, rfl, run_load_agg hp (Nat.le_of_ble_eq_true rfl)⟩) rfl ⟨congrArg Ending.returned e.symm, hp.keep⟩

/-- The sign of a number. -/
def sgn (n : Int) : Int := if n < 0 then -1 else if n = 0 then 0 else 1
theorem sign_any (n : Int) (h : Fit n) (w : World) : Calls Tryd.prog 62 #[W n] w (Ret (.int .i64 (sgn n)) w) := by
  unfold sgn
  have hn := ng_fit h
  have hz := eqb_fit h fit_zero
  rw [eqb_zero] at hz
  by_cases hlt : n < 0
  · rw [if_pos hlt]
    rw [decide_eq_true hlt] at hn
    clear hz
    go_enter Tryd.func62, Tryd.ntmps62
    have hp := Hp.start [] w
    go_wp2_with (first
          | ((with_reducible apply sx_box hp); exact za rfl; exact rfl; clear hp; (try clear w1); intro g w1 hp; simp only [zp, zq, z0, z1])
          | ((with_reducible apply sx_load_agg hp); exact zt rfl; infer_instance; infer_instance; (first | exact zl rfl | exact LB_le (by omega)); (first | (with_reducible exact LB_set (by omega)) | (simp only [n0, Nat.reduceAdd, n1, n2, n3, n4, n5, n6, n7, n8, n9]; try rfl)); simp only [zp, zq, z0, z1])
          | ((with_reducible refine sx_call hp (negT _ (by assumption) _) ?_); clear hp; (try clear w1); intro w1 hp))
    exact bodyPost_ret (results_one rfl rfl) rfl ⟨rfl, hp.keep⟩
  · rw [if_neg hlt]
    rw [decide_eq_false hlt] at hn
    by_cases h0 : n = 0
    · rw [if_pos h0]
      rw [decide_eq_true h0] at hz
      clear h0 h hlt
      go_enter Tryd.func62, Tryd.ntmps62
      have hp := Hp.start [] w
      go_wp2_with (first
          | ((with_reducible apply sx_box hp); exact za rfl; exact rfl; clear hp; (try clear w1); intro g w1 hp; simp only [zp, zq, z0, z1])
          | ((with_reducible apply sx_load_agg hp); exact zt rfl; infer_instance; infer_instance; (first | exact zl rfl | exact LB_le (by omega)); (first | (with_reducible exact LB_set (by omega)) | (simp only [n0, Nat.reduceAdd, n1, n2, n3, n4, n5, n6, n7, n8, n9]; try rfl)); simp only [zp, zq, z0, z1])
          | ((with_reducible refine sx_call hp (negF _ (by assumption) _) ?_); clear hp; (try clear w1); intro w1 hp))
      exact bodyPost_ret (results_one rfl rfl) rfl ⟨rfl, hp.keep⟩
    · rw [if_neg h0]
      rw [decide_eq_false h0] at hz
      clear h0 h hlt
      go_enter Tryd.func62, Tryd.ntmps62
      have hp := Hp.start [] w
      go_wp2_with (first
          | ((with_reducible apply sx_box hp); exact za rfl; exact rfl; clear hp; (try clear w1); intro g w1 hp; simp only [zp, zq, z0, z1])
          | ((with_reducible apply sx_load_agg hp); exact zt rfl; infer_instance; infer_instance; (first | exact zl rfl | exact LB_le (by omega)); (first | (with_reducible exact LB_set (by omega)) | (simp only [n0, Nat.reduceAdd, n1, n2, n3, n4, n5, n6, n7, n8, n9]; try rfl)); simp only [zp, zq, z0, z1])
          | ((with_reducible refine sx_call hp (negF _ (by assumption) _) ?_); clear hp; (try clear w1); intro w1 hp))
      exact bodyPost_ret (results_one rfl rfl) rfl ⟨rfl, hp.keep⟩
end Go.Proofs.YtbdkbmhejoakiaaDoor
set_option linter.unusedSimpArgs false
set_option maxRecDepth 100000
namespace Go.Proofs.YtbdkbmhejoakiaaDoor
open Go Go.RowKit

theorem high_from (a b A B : Int) (h8 : A - a % 2 ^ (64 * 8) = B - b % 2 ^ (64 * 8)) : ∀ d k, k + d = 8 → (∀ j, k ≤ j → j < 8 → lb a j = lb b j) → A - a % 2 ^ (64 * k) = B - b % 2 ^ (64 * k)
  | 0, k, hk, _ => by obtain rfl : k = 8 := by omega
                      exact h8
  | d + 1, k, hk, h => by
    have h1 := high_from a b A B h8 d (k + 1) (by omega) fun j h1 h2 => h j (by omega) h2
    have h2 := lbsum a k
    have h3 := lbsum b k
    rw [h k (by omega) (by omega)] at h2
    omega
theorem high_eq (a b : Int) (k : Nat) (hk : k ≤ 8) (h : ∀ j, k ≤ j → j < 8 → lb a j = lb b j) : a % M512 - a % 2 ^ (64 * k) = b % M512 - b % 2 ^ (64 * k) :=
  high_from a b _ _ (by rw [M512_eq, Int.sub_self, Int.sub_self]) (8 - k) k (by omega) h
theorem lt_of_limb (a b : Int) (k : Nat) (hk : k < 8) (h : ∀ j, k + 1 ≤ j → j < 8 → lb a j = lb b j) (hl : lb a k < lb b k) : a % M512 < b % M512 := by
  have h1 := high_eq a b (k + 1) (by omega) h
  have h2 := lbsum a k
  have h3 := lbsum b k
  have hp := pow_pos' (64 * k)
  have h4 := Int.emod_lt_of_pos a hp
  have h5 := Int.emod_nonneg b (by omega : (2 : Int) ^ (64 * k) ≠ 0)
  have h6 : (2 : Int) ^ (64 * k) * (lb a k + 1) ≤ 2 ^ (64 * k) * lb b k := Int.mul_le_mul_of_nonneg_left (by omega) (by omega)
  rw [Int.mul_add] at h6
  omega
theorem eq_of_limbs (a b : Int) (h : ∀ j, j < 8 → lb a j = lb b j) : a % M512 = b % M512 := by
  have := high_eq a b 0 (by omega) fun j _ hj => h j hj
  simp [Int.emod_one] at this
  omega
/-- How two numbers of 512 bits, without a sign, are to one another. -/
def uc (a b : Int) : Int := if a % M512 < b % M512 then -1 else if a % M512 = b % M512 then 0 else 1

set_option maxHeartbeats 4000000 in
theorem above_any (a b : Int) (w : World) : Calls Tryd.prog 52 #[W a, W b] w (Ret (.int .i64 (uc a b)) w) := by
  go_enter Tryd.func52, Tryd.ntmps52
  have hp := Hp.start [] w
  go_wp2_with (first
          | ((with_reducible apply sx_box hp); exact za rfl; exact rfl; clear hp; (try clear w1); intro g w1 hp; simp only [zp, zq, z0, z1])
          | ((with_reducible apply sx_load_one hp); exact zt rfl; infer_instance; infer_instance; (first | exact zio rfl | exact LB_get (by omega)); simp only [zp, zq, z0, z1]))
  rename_i ga K hK
  go_loopw [5] (fun i wr => ∃ (k : Nat), k ≤ 8 ∧ i = .int .i64 ((k : Int) - 1) ∧ (∀ j, k ≤ j → j < 8 → lb a j = lb b j) ∧
      Hp [] w [⟨g, 67, LB (lb b)⟩, ⟨ga, 67, LB (lb a)⟩] wr) (fun i _ => (intOf i + 1).toNat)
  case atStart => exact ⟨8, by omega, rfl, fun j _ _ => by omega, hp⟩
  case round =>
    clear hp
    obtain ⟨k, hk, rfl, heq, hp⟩ := hrel
    have Heq := Lib.hid heq
    clear heq
    by_cases hlt : k = 0
    · subst hlt
      have e : uc a b = 0 := by
        have := eq_of_limbs a b fun j hj => Heq.out j (by omega) hj
        simp [uc, this]
      have E := Lib.hid e
      clear e
      go_wp2_with (first
          | ((with_reducible apply sx_box hp); exact za rfl; exact rfl; clear hp; (try clear w1); intro g w1 hp; simp only [zp, zq, z0, z1])
          | ((with_reducible apply sx_load_one hp); exact zt rfl; infer_instance; infer_instance; (first | exact zio rfl | exact LB_get (by omega)); simp only [zp, zq, z0, z1]))
      exact bodyPost_ret (results_one rfl rfl) rfl ⟨by rw [E.out]; rfl, hp.keep⟩
    · obtain ⟨i, rfl⟩ : ∃ i, k = i + 1 := ⟨k - 1, by omega⟩
      have e : ((i + 1 : Nat) : Int) - 1 = (i : Int) := by omega
      rw [e]
      clear e hlt
      have hi : i < 8 := by omega
      have hi0 : (0 : Int) ≤ (i : Int) := by omega
      have hi1 : (i : Int) < 8 := by omega
      by_cases h1 : lb a i = lb b i
      · have h1' : (lb a i != lb b i) = false := by simp [h1]
        have H1 := Lib.hid h1
        clear h1
        go_wp2_with (first
          | ((with_reducible apply sx_box hp); exact za rfl; exact rfl; clear hp; (try clear w1); intro g w1 hp; simp only [zp, zq, z0, z1])
          | ((with_reducible apply sx_load_one hp); exact zt rfl; infer_instance; infer_instance; (first | exact zio rfl | exact LB_get (by omega)); simp only [zp, zq, z0, z1]))
        have hq := hp
        refine wp_drawn_hp hp hq [] (.q 0 (.q 1 (.q 2 (.q 3 (.q 4 (.q 5 (.q 6 .nil))))))) (by kernel_rfl) (by kernel_rfl) ?_
        clear hp hq; (try clear w1); intro w1 hp hq
        repeat' (first
          | (((with_reducible apply sd_q); exact zo rfl); (first
              | ((with_reducible apply sd_load_one hp); exact rfl; exact zt rfl; infer_instance; infer_instance; (first | exact zio rfl | exact LB_get (by omega)); simp only [zp, zq, z0, z1])
              | ((with_reducible apply sd_move hp); exact zi rfl; simp only [zp, zq, z0, z1])
              | ((with_reducible apply sd_indexAddr hp); exact rfl; exact zx rfl; exact zk rfl; infer_instance; (first | exact AggTy.size | exact OneTy.size); omega; omega; ((try simp only [m0, Int.reduceToNat, m1, m2, Nat.reduceMul, Nat.reduceAdd, m3, m4, m5, n0]); exact rfl); simp only [zp, zq, z0, z1])
              | ((with_reducible apply sd_pure hp); exact rfl; (focus (intro _; go_simp; (try go_ints); try with_reducible rfl)); simp only [zp, zq, z0, z1])))
          | ((with_reducible apply sd_nil); clear hp; have hp := hq; clear hq))
        go_wp2_with (first
          | ((with_reducible apply sx_box hp); exact za rfl; exact rfl; clear hp; (try clear w1); intro g w1 hp; simp only [zp, zq, z0, z1])
          | ((with_reducible apply sx_load_one hp); exact zt rfl; infer_instance; infer_instance; (first | exact zio rfl | exact LB_get (by omega)); simp only [zp, zq, z0, z1]))
        go_roundw
        case rel =>
          refine ⟨i, by omega, by go_num, ?_, hp⟩
          intro j hj hj8
          by_cases e : j = i
          · subst e; exact H1.out
          · exact Heq.out j (by omega) hj8
        case measure => simp [intOf]
      · have h1' : (lb a i != lb b i) = true := by simp [h1]
        by_cases h2 : lb a i < lb b i
        · have e : uc a b = -1 := by
            unfold uc
            rw [if_pos (lt_of_limb a b i hi Heq.out h2)]
          rw [e]
          go_wp2_with (first
          | ((with_reducible apply sx_box hp); exact za rfl; exact rfl; clear hp; (try clear w1); intro g w1 hp; simp only [zp, zq, z0, z1])
          | ((with_reducible apply sx_load_one hp); exact zt rfl; infer_instance; infer_instance; (first | exact zio rfl | exact LB_get (by omega)); simp only [zp, zq, z0, z1]))
          have hq := hp
          refine wp_drawn_hp hp hq [] (.q 0 (.q 1 (.q 2 (.q 3 (.q 4 (.q 5 (.q 6 .nil))))))) (by kernel_rfl) (by kernel_rfl) ?_
          clear hp hq; (try clear w1); intro w1 hp hq
          repeat' (first
            | (((with_reducible apply sd_q); exact zo rfl); (first
                | ((with_reducible apply sd_load_one hp); exact rfl; exact zt rfl; infer_instance; infer_instance; (first | exact zio rfl | exact LB_get (by omega)); simp only [zp, zq, z0, z1])
                | ((with_reducible apply sd_move hp); exact zi rfl; simp only [zp, zq, z0, z1])
                | ((with_reducible apply sd_indexAddr hp); exact rfl; exact zx rfl; exact zk rfl; infer_instance; (first | exact AggTy.size | exact OneTy.size); omega; omega; ((try simp only [m0, Int.reduceToNat, m1, m2, Nat.reduceMul, Nat.reduceAdd, m3, m4, m5, n0]); exact rfl); simp only [zp, zq, z0, z1])
                | ((with_reducible apply sd_pure hp); exact rfl; (focus (intro _; go_simp; (try go_ints); try with_reducible rfl)); simp only [zp, zq, z0, z1])))
            | ((with_reducible apply sd_nil); clear hp; have hp := hq; clear hq))
          go_wp2_with (first
          | ((with_reducible apply sx_box hp); exact za rfl; exact rfl; clear hp; (try clear w1); intro g w1 hp; simp only [zp, zq, z0, z1])
          | ((with_reducible apply sx_load_one hp); exact zt rfl; infer_instance; infer_instance; (first | exact zio rfl | exact LB_get (by omega)); simp only [zp, zq, z0, z1]))
          have hq := hp
          refine wp_drawn_hp hp hq [] (.q 0 (.q 1 (.q 2 (.q 3 (.q 4 (.q 5 (.q 6 .nil))))))) (by kernel_rfl) (by kernel_rfl) ?_
          clear hp hq; (try clear w1); intro w1 hp hq
          repeat' (first
            | (((with_reducible apply sd_q); exact zo rfl); (first
                | ((with_reducible apply sd_load_one hp); exact rfl; exact zt rfl; infer_instance; infer_instance; (first | exact zio rfl | exact LB_get (by omega)); simp only [zp, zq, z0, z1])
                | ((with_reducible apply sd_move hp); exact zi rfl; simp only [zp, zq, z0, z1])
                | ((with_reducible apply sd_indexAddr hp); exact rfl; exact zx rfl; exact zk rfl; infer_instance; (first | exact AggTy.size | exact OneTy.size); omega; omega; ((try simp only [m0, Int.reduceToNat, m1, m2, Nat.reduceMul, Nat.reduceAdd, m3, m4, m5, n0]); exact rfl); simp only [zp, zq, z0, z1])
                | ((with_reducible apply sd_pure hp); exact rfl; (focus (intro _; go_simp; (try go_ints); try with_reducible rfl)); simp only [zp, zq, z0, z1])))
            | ((with_reducible apply sd_nil); clear hp; have hp := hq; clear hq))
          go_wp2_with (first
          | ((with_reducible apply sx_box hp); exact za rfl; exact rfl; clear hp; (try clear w1); intro g w1 hp; simp only [zp, zq, z0, z1])
          | ((with_reducible apply sx_load_one hp); exact zt rfl; infer_instance; infer_instance; (first | exact zio rfl | exact LB_get (by omega)); simp only [zp, zq, z0, z1]))
          exact bodyPost_ret (results_one rfl rfl) rfl ⟨rfl, hp.keep⟩
        · have e : uc a b = 1 := by
            have := lt_of_limb b a i hi (fun j hj hj8 => (Heq.out j hj hj8).symm) (by omega)
            unfold uc
            rw [if_neg (by omega), if_neg (by omega)]
          rw [e]
          go_wp2_with (first
          | ((with_reducible apply sx_box hp); exact za rfl; exact rfl; clear hp; (try clear w1); intro g w1 hp; simp only [zp, zq, z0, z1])
          | ((with_reducible apply sx_load_one hp); exact zt rfl; infer_instance; infer_instance; (first | exact zio rfl | exact LB_get (by omega)); simp only [zp, zq, z0, z1]))
          have hq := hp
          refine wp_drawn_hp hp hq [] (.q 0 (.q 1 (.q 2 (.q 3 (.q 4 (.q 5 (.q 6 .nil))))))) (by kernel_rfl) (by kernel_rfl) ?_
          clear hp hq; (try clear w1); intro w1 hp hq
          repeat' (first
            | (((with_reducible apply sd_q); exact zo rfl); (first
                | ((with_reducible apply sd_load_one hp); exact rfl; exact zt rfl; infer_instance; infer_instance; (first | exact zio rfl | exact LB_get (by omega)); simp only [zp, zq, z0, z1])
                | ((with_reducible apply sd_move hp); exact zi rfl; simp only [zp, zq, z0, z1])
                | ((with_reducible apply sd_indexAddr hp); exact rfl; exact zx rfl; exact zk rfl; infer_instance; (first | exact AggTy.size | exact OneTy.size); omega; omega; ((try simp only [m0, Int.reduceToNat, m1, m2, Nat.reduceMul, Nat.reduceAdd, m3, m4, m5, n0]); exact rfl); simp only [zp, zq, z0, z1])
                | ((with_reducible apply sd_pure hp); exact rfl; (focus (intro _; go_simp; (try go_ints); try with_reducible rfl)); simp only [zp, zq, z0, z1])))
            | ((with_reducible apply sd_nil); clear hp; have hp := hq; clear hq))
          go_wp2_with (first
          | ((with_reducible apply sx_box hp); exact za rfl; exact rfl; clear hp; (try clear w1); intro g w1 hp; simp only [zp, zq, z0, z1])
          | ((with_reducible apply sx_load_one hp); exact zt rfl; infer_instance; infer_instance; (first | exact zio rfl | exact LB_get (by omega)); simp only [zp, zq, z0, z1]))
          have hq := hp
          refine wp_drawn_hp hp hq [] (.q 0 (.q 1 (.q 2 (.q 3 (.q 4 (.q 5 (.q 6 .nil))))))) (by kernel_rfl) (by kernel_rfl) ?_
          clear hp hq; (try clear w1); intro w1 hp hq
          repeat' (first
            | (((with_reducible apply sd_q); exact zo rfl); (first
                | ((with_reducible apply sd_load_one hp); exact rfl; exact zt rfl; infer_instance; infer_instance; (first | exact zio rfl | exact LB_get (by omega)); simp only [zp, zq, z0, z1])
                | ((with_reducible apply sd_move hp); exact zi rfl; simp only [zp, zq, z0, z1])
                | ((with_reducible apply sd_indexAddr hp); exact rfl; exact zx rfl; exact zk rfl; infer_instance; (first | exact AggTy.size | exact OneTy.size); omega; omega; ((try simp only [m0, Int.reduceToNat, m1, m2, Nat.reduceMul, Nat.reduceAdd, m3, m4, m5, n0]); exact rfl); simp only [zp, zq, z0, z1])
                | ((with_reducible apply sd_pure hp); exact rfl; (focus (intro _; go_simp; (try go_ints); try with_reducible rfl)); simp only [zp, zq, z0, z1])))
            | ((with_reducible apply sd_nil); clear hp; have hp := hq; clear hq))
          go_wp2_with (first
          | ((with_reducible apply sx_box hp); exact za rfl; exact rfl; clear hp; (try clear w1); intro g w1 hp; simp only [zp, zq, z0, z1])
          | ((with_reducible apply sx_load_one hp); exact zt rfl; infer_instance; infer_instance; (first | exact zio rfl | exact LB_get (by omega)); simp only [zp, zq, z0, z1]))
          exact bodyPost_ret (results_one rfl rfl) rfl ⟨rfl, hp.keep⟩

theorem uc_fit {a b : Int} (ha : Fit a) (hb : Fit b) (h : ng a = ng b) : uc a b = if a < b then -1 else if a = b then 0 else 1 := by
  rw [ng_fit ha, ng_fit hb, decide_eq_decide] at h
  unfold Fit M511 at ha hb
  unfold uc M512
  congr 1
  · rw [eq_iff_iff]; omega
  · congr 1
    rw [eq_iff_iff]; omega

/-- How two numbers are to one another. -/
def cmp (a b : Int) : Int := if a < b then -1 else if a = b then 0 else 1
theorem cmp_any (a b : Int) (ha : Fit a) (hb : Fit b) (w : World) : Calls Tryd.prog 27 #[W a, W b] w (Ret (.int .i64 (cmp a b)) w) := by
  have hna := ng_fit ha
  have hnb := ng_fit hb
  have hu := uc_fit ha hb
  have ha' := ha
  have hb' := hb
  unfold Fit M511 at ha' hb'
  by_cases h1 : a < 0
  · rw [decide_eq_true h1] at hna
    by_cases h2 : b < 0
    · rw [decide_eq_true h2] at hnb
      have e : uc a b = cmp a b := hu (by rw [hna, hnb])
      have E := Lib.hid e
      clear e hu ha' hb' ha hb
      go_enter Tryd.func27, Tryd.ntmps27
      have hp := Hp.start [] w
      go_wp2_with (first
          | ((with_reducible apply sx_box hp); exact za rfl; exact rfl; clear hp; (try clear w1); intro g w1 hp; simp only [zp, zq, z0, z1])
          | ((with_reducible apply sx_load_agg hp); exact zt rfl; infer_instance; infer_instance; (first | exact zl rfl | exact LB_le (by omega)); (first | (with_reducible exact LB_set (by omega)) | (simp only [n0, Nat.reduceAdd, n1, n2, n3, n4, n5, n6, n7, n8, n9]; try rfl)); simp only [zp, zq, z0, z1]))
      have hq := hp
      refine wp_drawn_hp hp hq [] (.q 0 (.q 1 (.q 3 (.q 4 (.l 2 (.l 5 (.q 6 (.q 7 .nil)))))))) (by kernel_rfl) (by kernel_rfl) ?_
      clear hp hq; (try clear w1); intro w1 hp hq
      repeat' (first
        | (((with_reducible apply sd_q); exact zo rfl); (first
            | ((with_reducible apply sd_load_agg hp); exact rfl; exact zt rfl; infer_instance; infer_instance; (first | exact zl rfl | exact LB_le (by omega)); (first | (with_reducible exact LB_set (by omega)) | (simp only [n0, Nat.reduceAdd, n1, n2, n3, n4, n5, n6, n7, n8, n9]; try rfl)); simp only [zp, zq, z0, z1])
            | ((with_reducible apply sd_assign hp); exact zb rfl; simp only [zp, zq, z0, z1])
            | ((with_reducible apply sd_pure hp); exact rfl; (focus (intro _; go_simp; (try go_ints); try with_reducible rfl)); simp only [zp, zq, z0, z1])))
        | (((with_reducible apply sd_l); exact zo rfl); ((with_reducible apply sd_call hp); exact rfl; (focus (intro _; go_simp; try first | with_reducible rfl | exact ⟨rfl, rfl⟩)); (with_reducible first | exact fun w => negT _ hna w | exact fun w => negT _ hnb w); exact hq; clear hp hq; (try clear w1); intro w1 hp hq; simp only [zp, zq, z0, z1]))
        | ((with_reducible apply sd_nil); clear hp; have hp := hq; clear hq))
      go_wp2_with (first
          | ((with_reducible apply sx_box hp); exact za rfl; exact rfl; clear hp; (try clear w1); intro g w1 hp; simp only [zp, zq, z0, z1])
          | ((with_reducible apply sx_load_agg hp); exact zt rfl; infer_instance; infer_instance; (first | exact zl rfl | exact LB_le (by omega)); (first | (with_reducible exact LB_set (by omega)) | (simp only [n0, Nat.reduceAdd, n1, n2, n3, n4, n5, n6, n7, n8, n9]; try rfl)); simp only [zp, zq, z0, z1])
          | ((with_reducible refine sx_call hp (above_any _ _ _) ?_); clear hp; (try clear w1); intro w1 hp))
      exact bodyPost_ret (results_one rfl rfl) rfl ⟨by rw [← E.out]; rfl, hp.keep⟩
    · rw [decide_eq_false h2] at hnb
      have e : cmp a b = -1 := by unfold cmp; rw [if_pos (by omega)]
      have E := Lib.hid e
      clear e hu ha' hb' ha hb
      go_enter Tryd.func27, Tryd.ntmps27
      have hp := Hp.start [] w
      go_wp2_with (first
          | ((with_reducible apply sx_box hp); exact za rfl; exact rfl; clear hp; (try clear w1); intro g w1 hp; simp only [zp, zq, z0, z1])
          | ((with_reducible apply sx_load_agg hp); exact zt rfl; infer_instance; infer_instance; (first | exact zl rfl | exact LB_le (by omega)); (first | (with_reducible exact LB_set (by omega)) | (simp only [n0, Nat.reduceAdd, n1, n2, n3, n4, n5, n6, n7, n8, n9]; try rfl)); simp only [zp, zq, z0, z1]))
      have hq := hp
      refine wp_drawn_hp hp hq [] (.q 0 (.q 1 (.q 3 (.q 4 (.l 2 (.l 5 (.q 6 (.q 7 .nil)))))))) (by kernel_rfl) (by kernel_rfl) ?_
      clear hp hq; (try clear w1); intro w1 hp hq
      repeat' (first
        | (((with_reducible apply sd_q); exact zo rfl); (first
            | ((with_reducible apply sd_load_agg hp); exact rfl; exact zt rfl; infer_instance; infer_instance; (first | exact zl rfl | exact LB_le (by omega)); (first | (with_reducible exact LB_set (by omega)) | (simp only [n0, Nat.reduceAdd, n1, n2, n3, n4, n5, n6, n7, n8, n9]; try rfl)); simp only [zp, zq, z0, z1])
            | ((with_reducible apply sd_assign hp); exact zb rfl; simp only [zp, zq, z0, z1])
            | ((with_reducible apply sd_pure hp); exact rfl; (focus (intro _; go_simp; (try go_ints); try with_reducible rfl)); simp only [zp, zq, z0, z1])))
        | (((with_reducible apply sd_l); exact zo rfl); ((with_reducible apply sd_call hp); exact rfl; (focus (intro _; go_simp; try first | with_reducible rfl | exact ⟨rfl, rfl⟩)); (with_reducible first | exact fun w => negT _ hna w | exact fun w => negF _ hnb w); exact hq; clear hp hq; (try clear w1); intro w1 hp hq; simp only [zp, zq, z0, z1]))
        | ((with_reducible apply sd_nil); clear hp; have hp := hq; clear hq))
      go_wp2_with (first
          | ((with_reducible apply sx_box hp); exact za rfl; exact rfl; clear hp; (try clear w1); intro g w1 hp; simp only [zp, zq, z0, z1])
          | ((with_reducible apply sx_load_agg hp); exact zt rfl; infer_instance; infer_instance; (first | exact zl rfl | exact LB_le (by omega)); (first | (with_reducible exact LB_set (by omega)) | (simp only [n0, Nat.reduceAdd, n1, n2, n3, n4, n5, n6, n7, n8, n9]; try rfl)); simp only [zp, zq, z0, z1])
          | ((with_reducible refine sx_call hp (above_any _ _ _) ?_); clear hp; (try clear w1); intro w1 hp))
      exact bodyPost_ret (results_one rfl rfl) rfl ⟨by rw [E.out]; rfl, hp.keep⟩
  · rw [decide_eq_false h1] at hna
    by_cases h2 : b < 0
    · rw [decide_eq_true h2] at hnb
      have e : cmp a b = 1 := by unfold cmp; rw [if_neg (by omega), if_neg (by omega)]
      have E := Lib.hid e
      clear e hu ha' hb' ha hb
      go_enter Tryd.func27, Tryd.ntmps27
      have hp := Hp.start [] w
      go_wp2_with (first
          | ((with_reducible apply sx_box hp); exact za rfl; exact rfl; clear hp; (try clear w1); intro g w1 hp; simp only [zp, zq, z0, z1])
          | ((with_reducible apply sx_load_agg hp); exact zt rfl; infer_instance; infer_instance; (first | exact zl rfl | exact LB_le (by omega)); (first | (with_reducible exact LB_set (by omega)) | (simp only [n0, Nat.reduceAdd, n1, n2, n3, n4, n5, n6, n7, n8, n9]; try rfl)); simp only [zp, zq, z0, z1]))
      have hq := hp
      refine wp_drawn_hp hp hq [] (.q 0 (.q 1 (.q 3 (.q 4 (.l 2 (.l 5 (.q 6 (.q 7 .nil)))))))) (by kernel_rfl) (by kernel_rfl) ?_
      clear hp hq; (try clear w1); intro w1 hp hq
      repeat' (first
        | (((with_reducible apply sd_q); exact zo rfl); (first
            | ((with_reducible apply sd_load_agg hp); exact rfl; exact zt rfl; infer_instance; infer_instance; (first | exact zl rfl | exact LB_le (by omega)); (first | (with_reducible exact LB_set (by omega)) | (simp only [n0, Nat.reduceAdd, n1, n2, n3, n4, n5, n6, n7, n8, n9]; try rfl)); simp only [zp, zq, z0, z1])
            | ((with_reducible apply sd_assign hp); exact zb rfl; simp only [zp, zq, z0, z1])
            | ((with_reducible apply sd_pure hp); exact rfl; (focus (intro _; go_simp; (try go_ints); try with_reducible rfl)); simp only [zp, zq, z0, z1])))
        | (((with_reducible apply sd_l); exact zo rfl); ((with_reducible apply sd_call hp); exact rfl; (focus (intro _; go_simp; try first | with_reducible rfl | exact ⟨rfl, rfl⟩)); (with_reducible first | exact fun w => negF _ hna w | exact fun w => negT _ hnb w); exact hq; clear hp hq; (try clear w1); intro w1 hp hq; simp only [zp, zq, z0, z1]))
        | ((with_reducible apply sd_nil); clear hp; have hp := hq; clear hq))
      go_wp2_with (first
          | ((with_reducible apply sx_box hp); exact za rfl; exact rfl; clear hp; (try clear w1); intro g w1 hp; simp only [zp, zq, z0, z1])
          | ((with_reducible apply sx_load_agg hp); exact zt rfl; infer_instance; infer_instance; (first | exact zl rfl | exact LB_le (by omega)); (first | (with_reducible exact LB_set (by omega)) | (simp only [n0, Nat.reduceAdd, n1, n2, n3, n4, n5, n6, n7, n8, n9]; try rfl)); simp only [zp, zq, z0, z1])
          | ((with_reducible refine sx_call hp (above_any _ _ _) ?_); clear hp; (try clear w1); intro w1 hp))
      exact bodyPost_ret (results_one rfl rfl) rfl ⟨by rw [E.out]; rfl, hp.keep⟩
    · rw [decide_eq_false h2] at hnb
      have e : uc a b = cmp a b := hu (by rw [hna, hnb])
      have E := Lib.hid e
      clear e hu ha' hb' ha hb
      go_enter Tryd.func27, Tryd.ntmps27
      have hp := Hp.start [] w
      go_wp2_with (first
          | ((with_reducible apply sx_box hp); exact za rfl; exact rfl; clear hp; (try clear w1); intro g w1 hp; simp only [zp, zq, z0, z1])
          | ((with_reducible apply sx_load_agg hp); exact zt rfl; infer_instance; infer_instance; (first | exact zl rfl | exact LB_le (by omega)); (first | (with_reducible exact LB_set (by omega)) | (simp only [n0, Nat.reduceAdd, n1, n2, n3, n4, n5, n6, n7, n8, n9]; try rfl)); simp only [zp, zq, z0, z1]))
      have hq := hp
      refine wp_drawn_hp hp hq [] (.q 0 (.q 1 (.q 3 (.q 4 (.l 2 (.l 5 (.q 6 (.q 7 .nil)))))))) (by kernel_rfl) (by kernel_rfl) ?_
      clear hp hq; (try clear w1); intro w1 hp hq
      repeat' (first
        | (((with_reducible apply sd_q); exact zo rfl); (first
            | ((with_reducible apply sd_load_agg hp); exact rfl; exact zt rfl; infer_instance; infer_instance; (first | exact zl rfl | exact LB_le (by omega)); (first | (with_reducible exact LB_set (by omega)) | (simp only [n0, Nat.reduceAdd, n1, n2, n3, n4, n5, n6, n7, n8, n9]; try rfl)); simp only [zp, zq, z0, z1])
            | ((with_reducible apply sd_assign hp); exact zb rfl; simp only [zp, zq, z0, z1])
            | ((with_reducible apply sd_pure hp); exact rfl; (focus (intro _; go_simp; (try go_ints); try with_reducible rfl)); simp only [zp, zq, z0, z1])))
        | (((with_reducible apply sd_l); exact zo rfl); ((with_reducible apply sd_call hp); exact rfl; (focus (intro _; go_simp; try first | with_reducible rfl | exact ⟨rfl, rfl⟩)); (with_reducible first | exact fun w => negF _ hna w | exact fun w => negF _ hnb w); exact hq; clear hp hq; (try clear w1); intro w1 hp hq; simp only [zp, zq, z0, z1]))
        | ((with_reducible apply sd_nil); clear hp; have hp := hq; clear hq))
      go_wp2_with (first
          | ((with_reducible apply sx_box hp); exact za rfl; exact rfl; clear hp; (try clear w1); intro g w1 hp; simp only [zp, zq, z0, z1])
          | ((with_reducible apply sx_load_agg hp); exact zt rfl; infer_instance; infer_instance; (first | exact zl rfl | exact LB_le (by omega)); (first | (with_reducible exact LB_set (by omega)) | (simp only [n0, Nat.reduceAdd, n1, n2, n3, n4, n5, n6, n7, n8, n9]; try rfl)); simp only [zp, zq, z0, z1])
          | ((with_reducible refine sx_call hp (above_any _ _ _) ?_); clear hp; (try clear w1); intro w1 hp))
      exact bodyPost_ret (results_one rfl rfl) rfl ⟨by rw [← E.out]; rfl, hp.keep⟩

/-- What a sum (a difference) of two numbers comes to, by the three signs. -/
def addv (s : Int) : Bool → Bool → Bool → Value
  | true, true, false => .tuple #[.agg #[.int .u64 0, .int .u64 0, .int .u64 0, .int .u64 0, .int .u64 0, .int .u64 0, .int .u64 0, .int .u64 0], .bool false]
  | false, false, true => .tuple #[.agg #[.int .u64 0, .int .u64 0, .int .u64 0, .int .u64 0, .int .u64 0, .int .u64 0, .int .u64 0, .int .u64 0], .bool false]
  | _, _, _ => .tuple #[W s, .bool true]
set_option maxHeartbeats 4000000 in
theorem add_raw (a b : Int) (w : World) : Calls Tryd.prog 66 #[W a, W b] w (Ret (addv (a + b) (ng a) (ng b) (ng (a + b))) w) := by
  have hpl : ∀ w, Calls Tryd.prog 86 #[W a, W b, .int .u64 0] w (Ret (W (a + b)) w) := fun w => by
    have h := plus_any a b 0 (by omega) (by omega) w
    rw [Int.add_zero] at h
    exact h
  have Hpl := Lib.hid hpl
  clear hpl
  cases hna : ng a <;> cases hnb : ng b <;> cases hns : ng (a + b)
  all_goals
    go_enter Tryd.func66, Tryd.ntmps66
    have hp := Hp.start [] w
    go_wp2_with (first
          | ((with_reducible apply sx_box hp); exact za rfl; exact rfl; clear hp; (try clear w1); intro g w1 hp; simp only [zp, zq, z0, z1])
          | ((with_reducible apply sx_alloc hp); infer_instance; exact rfl; clear hp; (try clear w1); intro g w1 hp; simp only [zp, zq, z0, z1])
          | ((with_reducible apply sx_load_agg hp); exact zt rfl; infer_instance; infer_instance; (first | exact zl rfl | exact LB_le (by omega)); (first | (with_reducible exact LB_set (by omega)) | (simp only [n0, Nat.reduceAdd, n1, n2, n3, n4, n5, n6, n7, n8, n9]; try rfl)); simp only [zp, zq, z0, z1])
          | ((with_reducible apply sx_store hp); exact zt rfl; exact za rfl; exact rfl; (first | exact AggTy.size | exact OneTy.size); exact rfl; infer_instance; (first | (with_reducible exact LB_set (by omega)) | (simp only [n0, Nat.reduceAdd, n1, n2, n3, n4, n5, n6, n7, n8, n9]; try rfl)); (first | exact zl rfl | exact LB_le (by omega)); exact rfl; infer_instance; clear hp; (try clear w1); intro w1 hp)
          | ((with_reducible refine sx_call hp (Hpl.out _) ?_); clear hp; (try clear w1); intro w1 hp))
    have hq := hp
    refine wp_drawn_hp hp hq [] (.q 0 (.q 1 (.q 3 (.q 4 (.l 2 (.l 5 (.q 6 (.q 7 (.q 8 (.q 10 (.q 11 (.l 9 (.l 12 (.q 13 (.q 14 .nil))))))))))))))) (by kernel_rfl) (by kernel_rfl) ?_
    clear hp hq; (try clear w1); intro w1 hp hq
    repeat' (first
      | (((with_reducible apply sd_q); exact zo rfl); (first
          | ((with_reducible apply sd_load_agg hp); exact rfl; exact zt rfl; infer_instance; infer_instance; (first | exact zl rfl | exact LB_le (by omega)); (first | (with_reducible exact LB_set (by omega)) | (simp only [n0, Nat.reduceAdd, n1, n2, n3, n4, n5, n6, n7, n8, n9]; try rfl)); simp only [zp, zq, z0, z1])
          | ((with_reducible apply sd_move hp); exact zb rfl; simp only [zp, zq, z0, z1])
          | ((with_reducible apply sd_pure hp); exact rfl; (focus (intro _; go_simp; (try go_ints); try with_reducible rfl)); simp only [zp, zq, z0, z1])
          | ((with_reducible apply sd_skip hp); exact rfl; simp only [zp, zq, z0, z1])))
      | (((with_reducible apply sd_l); exact zo rfl); (first
          | ((with_reducible apply sd_call hp); exact rfl; (focus (intro _; go_simp; try first | with_reducible rfl | exact ⟨rfl, rfl⟩)); (with_reducible first | exact fun w => negT _ (by assumption) w | exact fun w => negF _ (by assumption) w); exact hq; clear hp hq; (try clear w1); intro w1 hp hq; simp only [zp, zq, z0, z1])
          | ((with_reducible apply sd_skip_loud hp); exact rfl; simp only [zp, zq, z0, z1])))
      | ((with_reducible apply sd_nil); clear hp; have hp := hq; clear hq))
    go_wp2_with (first
          | ((with_reducible apply sx_box hp); exact za rfl; exact rfl; clear hp; (try clear w1); intro g w1 hp; simp only [zp, zq, z0, z1])
          | ((with_reducible apply sx_alloc hp); infer_instance; exact rfl; clear hp; (try clear w1); intro g w1 hp; simp only [zp, zq, z0, z1])
          | ((with_reducible apply sx_load_agg hp); exact zt rfl; infer_instance; infer_instance; (first | exact zl rfl | exact LB_le (by omega)); (first | (with_reducible exact LB_set (by omega)) | (simp only [n0, Nat.reduceAdd, n1, n2, n3, n4, n5, n6, n7, n8, n9]; try rfl)); simp only [zp, zq, z0, z1])
          | ((with_reducible apply sx_store hp); exact zt rfl; exact za rfl; exact rfl; (first | exact AggTy.size | exact OneTy.size); exact rfl; infer_instance; (first | (with_reducible exact LB_set (by omega)) | (simp only [n0, Nat.reduceAdd, n1, n2, n3, n4, n5, n6, n7, n8, n9]; try rfl)); (first | exact zl rfl | exact LB_le (by omega)); exact rfl; infer_instance; clear hp; (try clear w1); intro w1 hp))
    exact bodyPost_ret (results_two rfl ⟨_, rfl, run_load_agg hp (Nat.le_of_ble_eq_true rfl)⟩ rfl) rfl ⟨rfl, hp.keep⟩
end Go.Proofs.YtbdkbmhejoakiaaDoor
