/-
  Package wide: limbs added, turned over, held against each other (contracts).
-/
import Derived.Test.YtbdkbmhejoakiaaGreatDoorTypes
import Derived.Test.YtbdkbmhejoakiaaGreatDoorNum
import Derived.Test.YtbdkbmhejoakiaaGreatDoorDraw
import Derived.Laws.Externs
import Derived.Lib.Hide
set_option linter.unusedSimpArgs false
set_option maxRecDepth 100000
namespace Go.Proofs.YtbdkbmhejoakiaaGreatDoor
open Go Go.RowKit

theorem run_bits_add64 (x y c : Int) (hx : 0 ≤ x) (hy : 0 ≤ y) (h0 : 0 ≤ c) (h1 : c ≤ 1) (w : World) :
    (callFunc 88 #[.int .u64 x, .int .u64 y, .int .u64 c]).run Tryz.prog w =
      .ok (.value (.tuple #[.int .u64 ((x + y + c) % 18446744073709551616), .int .u64 ((x + y + c) / 18446744073709551616)])) w := by
  rw [run_callFunc_extern Tryz.func88 (by kernel_rfl) (by kernel_rfl) (by kernel_rfl) (e := add64Entry) (by kernel_rfl), run_add64 x y c hx hy h0 h1]
  rfl

theorem adder1_any (x y c : Int) (g : Nat) (hx : 0 ≤ x) (hy : 0 ≤ y) (h0 : 0 ≤ c) (h1 : c ≤ 1) (w : World) (hb : w.heap[g]? = some (.cells #[.int .u64 c] 27 (0, 0))) :
    Calls Tryz.prog 132 #[.int .u64 x, .int .u64 y, .pointer (some ⟨g, 0, none⟩)] w
      (RetX g 27 [.int .u64 ((x + y + c) / 18446744073709551616)] (.int .u64 ((x + y + c) % 18446744073709551616)) w) := by
  have hr := fun w => run_bits_add64 x y c hx hy h0 h1 w
  have hp := Hp.startX (cs := [.int .u64 c]) hb
  clear hb
  go_enter Tryz.func132, Tryz.ntmps132
  go_wp2_with (first
          | ((with_reducible apply sx_box hp); (first | exact za rfl | exact zu rfl | exact zi rfl | exact zb rfl | exact zr rfl | exact zs rfl | exact zf rfl | exact zg rfl | exact zn rfl | exact zv rfl | exact zw rfl); exact rfl; clear hp; (try clear w1); intro g w1 hp; simp only [zp, zq, z0, z1])
          | ((with_reducible apply sx_alloc hp); infer_instance; exact rfl; clear hp; (try clear w1); intro g w1 hp; simp only [zp, zq, z0, z1])
          | ((with_reducible apply sx_load_agg hp); exact zt rfl; infer_instance; infer_instance; (first | exact zl rfl | exact LB_le (by omega)); (first | (with_reducible exact LB_set (by omega)) | (simp only [n0, Nat.reduceAdd, n1, n2, n3, n4, n5, n6, n7, n8, n9]; try rfl)); simp only [zp, zq, z0, z1])
          | ((with_reducible apply sx_load_one hp); exact zt rfl; infer_instance; infer_instance; (first | exact zio rfl | exact zbo rfl | exact zro rfl | exact zso rfl | exact zfo rfl | exact zgo rfl | exact zno rfl | exact zvo rfl | exact zwo rfl | exact LB_get (by omega)); simp only [zp, zq, z0, z1])
          | ((with_reducible apply sx_store hp); exact zt rfl; (first | exact za rfl | exact zu rfl | exact zi rfl | exact zb rfl | exact zr rfl | exact zs rfl | exact zf rfl | exact zg rfl | exact zn rfl | exact zv rfl | exact zw rfl); exact rfl; (first | exact AggTy.size | exact OneTy.size); exact rfl; infer_instance; (first | (with_reducible exact LB_set (by omega)) | (simp only [n0, Nat.reduceAdd, n1, n2, n3, n4, n5, n6, n7, n8, n9]; try rfl)); (first | exact zl rfl | exact LB_le (by omega)); exact rfl; infer_instance; clear hp; (try clear w1); intro w1 hp)
          | ((with_reducible apply sx_index_one); exact za rfl; exact zk rfl; infer_instance; infer_instance; omega; omega; (first | exact rfl | (go_simp; done)); simp only [zp, zq, z0, z1])
          | ((with_reducible apply sx_index_agg); exact za rfl; exact zk rfl; infer_instance; infer_instance; omega; omega; ((try simp only [m0, Int.reduceToNat, m1, m2, Nat.reduceMul, m3, m4, n5, n1, n2, n3, n4, n6]); exact rfl); simp only [zp, zq, z0, z1])
          | ((with_reducible apply sx_indexAddr); exact zx rfl; exact zk rfl; infer_instance; (first | exact AggTy.size | exact OneTy.size); omega; omega; ((try simp only [m0, Int.reduceToNat, m1, m2, Nat.reduceMul, Nat.reduceAdd, m3, m4, m5, n0]); exact rfl); simp only [zp, zq, z0, z1])
          | ((with_reducible apply sx_load_far hp); exact zt rfl; assumption; infer_instance; assumption; (first | exact zl rfl | omega); simp only [zp, zq, z0, z1])
          | ((with_reducible apply sx_load_far1 hp); exact zt rfl; assumption; infer_instance; (first | assumption | (first | exact zio rfl | exact zbo rfl | exact zro rfl | exact zso rfl | exact zfo rfl | exact zgo rfl | exact zno rfl | exact zvo rfl | exact zwo rfl | exact LB_get (by omega))); simp only [zp, zq, z0, z1])
          | ((with_reducible apply sx_buildSlice hp); infer_instance; (first | exact AggTy.size | exact OneTy.size); infer_instance; exact zl rfl; decide; (first | exact (rfl : _ = numbered 0 [_]) | exact (rfl : _ = numbered 0 [_, _]) | exact (rfl : _ = numbered 0 [_, _, _]) | exact (rfl : _ = numbered 0 [_, _, _, _])); exact rfl; (first | exact (rfl : _ = List.map (fun x : List Value => x.toArray) [_]) | exact (rfl : _ = List.map (fun x : List Value => x.toArray) [_, _]) | exact (rfl : _ = List.map (fun x : List Value => x.toArray) [_, _, _]) | exact (rfl : _ = List.map (fun x : List Value => x.toArray) [_, _, _, _])); (intro l hl <;> simp only [List.mem_cons, List.not_mem_nil, or_false] at hl <;> rcases hl with rfl | rfl | rfl | rfl <;> rfl); exact rfl; clear hp; (try clear w1); intro g w1 hp; simp only [zp, zq, z0, z1])
          | ((with_reducible apply sx_append_nil hp); infer_instance; infer_instance; exact rfl; decide; exact (rfl : _ = Value.slice none 0 0); exact zy rfl; infer_instance; exact rfl; exact rfl; decide; (unfold maxLen; decide); decide; clear hp; (try clear w1); intro g cap junk w1 hl1 hl2 hl3 hp; simp only [zp, zq, z0, z1])
          | ((with_reducible apply sx_append hp); infer_instance; infer_instance; exact rfl; decide; exact zy rfl; (first | exact List.Perm.refl _ | exact List.perm_middle (l₁ := [_]) | exact List.perm_middle (l₁ := [_, _]) | exact List.perm_middle (l₁ := [_, _, _]) | exact List.perm_middle (l₁ := [_, _, _, _]) | exact List.perm_middle (l₁ := [_, _, _, _, _])); (first | exact pcs_length _ | (simp only [List.length_map, Nat.mul_one])); assumption; assumption; assumption; exact zy rfl; infer_instance; exact rfl; exact rfl; decide; (unfold maxLen; omega); omega; clear hp; (try clear w1); intro g cap junk w1 hl1 hl2 hl3 hp; (try dsimp only [List.cons_append, List.nil_append] at hp); simp only [zp, zq, z0, z1]))
  exact bodyPost_ret (results_one rfl rfl) rfl ⟨rfl, hp.keep, hp.blk⟩

theorem adder_any (c : Int) (w : World) :
    Calls Tryz.prog 117 #[.int .u64 c] w (RetN (fun g => .func (.func 132) #[] #[.pointer (some ⟨g, 0, none⟩)]) 27 [.int .u64 c] w) := by
  go_enter Tryz.func117, Tryz.ntmps117
  have hp := Hp.start [] w
  go_wp2_with (first
          | ((with_reducible apply sx_box hp); exact zi rfl; exact rfl; clear hp; (try clear w1); intro g w1 hp; simp only [zp, zq, z0, z1]))
  exact bodyPost_ret (results_one rfl rfl) rfl ⟨g, rfl, hp.keep, hp.fresh, hp.blk⟩

set_option maxHeartbeats 4000000 in
theorem plus_any (a b c : Int) (h0 : 0 ≤ c) (h1 : c ≤ 1) (w : World) : Calls Tryz.prog 99 #[W a, W b, .int .u64 c] w (Ret (W (a + b + c)) w) := by
  go_enter Tryz.func99, Tryz.ntmps99
  have hp := Hp.start [] w
  go_wp2_with (first
          | ((with_reducible apply sx_box hp); exact za rfl; exact rfl; clear hp; (try clear w1); intro g w1 hp; simp only [zp, zq, z0, z1])
          | ((with_reducible apply sx_alloc hp); infer_instance; exact rfl; clear hp; (try clear w1); intro g w1 hp; simp only [zp, zq, z0, z1])
          | ((with_reducible apply sx_load_agg hp); exact zt rfl; infer_instance; infer_instance; (first | exact zl rfl | exact LB_le (by omega)); (first | (with_reducible exact LB_set (by omega)) | (simp only [n0, Nat.reduceAdd, n1, n2, n3, n4, n5, n6, n7, n8, n9]; try rfl)); simp only [zp, zq, z0, z1])
          | ((with_reducible apply sx_load_one hp); exact zt rfl; infer_instance; infer_instance; (first | exact zio rfl | exact LB_get (by omega)); simp only [zp, zq, z0, z1])
          | ((with_reducible apply sx_store hp); exact zt rfl; (first | exact za rfl | exact zi rfl); exact rfl; (first | exact AggTy.size | exact OneTy.size); exact rfl; infer_instance; (first | (with_reducible exact LB_set (by omega)) | (simp only [n0, Nat.reduceAdd, n1, n2, n3, n4, n5, n6, n7, n8, n9]; try rfl)); (first | exact zl rfl | exact LB_le (by omega)); exact rfl; infer_instance; clear hp; (try clear w1); intro w1 hp)
          | ((with_reducible refine sx_callN hp (adder_any _ _) ?_); clear hp; (try clear w1); intro g w1 hp))
  rename_i ga gb gr K hK
  go_loopw [11] (fun i wr => ∃ (k : Nat) (F : Nat → Int), k ≤ 8 ∧ i = .int .i64 k ∧ (∀ j, j < k → F j = lb (a + b + c) j) ∧ (∀ j, k ≤ j → F j = lb a j) ∧
      Hp [] w [⟨g, 27, [.int .u64 (cy a b c k)]⟩, ⟨gr, 84, [.int .u64 0, .int .u64 0, .int .u64 0, .int .u64 0, .int .u64 0, .int .u64 0, .int .u64 0, .int .u64 0]⟩, ⟨gb, 84, LB (lb b)⟩, ⟨ga, 84, LB F⟩] wr) (fun i _ => 8 - (intOf i).toNat)
  case atStart => exact ⟨0, lb a, by omega, rfl, fun j h => by omega, fun j _ => rfl, by rw [cy_zero]; exact hp⟩
  case round =>
    clear hp
    obtain ⟨k, F, hk, rfl, hlo, hhi, hp⟩ := hrel
    have Hlo := Lib.hid hlo
    clear hlo
    have hF := Lib.hid (hhi k (Nat.le_refl _))
    have Hhi := Lib.hid hhi
    clear hhi
    have hcy := cy_bd a b c k h0 h1
    have hFn : 0 ≤ F k := by rw [hF.out]; exact lb_nonneg _ _
    by_cases hlt : k < 8
    · go_wp2_with (first
          | ((with_reducible apply sx_box hp); exact za rfl; exact rfl; clear hp; (try clear w1); intro g w1 hp; simp only [zp, zq, z0, z1])
          | ((with_reducible apply sx_alloc hp); infer_instance; exact rfl; clear hp; (try clear w1); intro g w1 hp; simp only [zp, zq, z0, z1])
          | ((with_reducible apply sx_load_agg hp); exact zt rfl; infer_instance; infer_instance; (first | exact zl rfl | exact LB_le (by omega)); (first | (with_reducible exact LB_set (by omega)) | (simp only [n0, Nat.reduceAdd, n1, n2, n3, n4, n5, n6, n7, n8, n9]; try rfl)); simp only [zp, zq, z0, z1])
          | ((with_reducible apply sx_load_one hp); exact zt rfl; infer_instance; infer_instance; (first | exact zio rfl | exact LB_get (by omega)); simp only [zp, zq, z0, z1])
          | ((with_reducible apply sx_store hp); exact zt rfl; (first | exact za rfl | exact zi rfl); exact rfl; (first | exact AggTy.size | exact OneTy.size); exact rfl; infer_instance; (first | (with_reducible exact LB_set (by omega)) | (simp only [n0, Nat.reduceAdd, n1, n2, n3, n4, n5, n6, n7, n8, n9]; try rfl)); (first | exact zl rfl | exact LB_le (by omega)); exact rfl; infer_instance; clear hp; (try clear w1); intro w1 hp))
      have hq := hp
      replace hp := hp.sub (List.sublist_cons_self ..)
      refine wp_drawn_hp hp hq [10] (.q 0 (.q 1 (.q 2 (.q 3 (.q 4 (.q 5 (.q 6 (.q 7 (.l 8 (.q 9 (.l 10 .nil))))))))))) (by kernel_rfl) (by kernel_rfl) ?_
      clear hp hq; (try clear w1); intro w1 hp hq
      repeat' (first
        | (((with_reducible apply sd_q); exact zo rfl); (first
            | ((with_reducible apply sd_load_one hp); exact rfl; exact zt rfl; infer_instance; infer_instance; (first | exact zio rfl | exact LB_get (by omega)); simp only [zp, zq, z0, z1])
            | ((with_reducible apply sd_move hp); (first | exact zf rfl | exact zn rfl | exact zi rfl); simp only [zp, zq, z0, z1])
            | ((with_reducible apply sd_indexAddr hp); exact rfl; exact zx rfl; exact zk rfl; infer_instance; (first | exact AggTy.size | exact OneTy.size); omega; omega; ((try simp only [m0, Int.reduceToNat, m1, m2, Nat.reduceMul, Nat.reduceAdd, m3, m4, m5, n0]); exact rfl); simp only [zp, zq, z0, z1])
            | ((with_reducible apply sd_pure hp); exact rfl; (focus (intro _; go_simp; (try go_ints); try with_reducible rfl)); simp only [zp, zq, z0, z1])))
        | (((with_reducible apply sd_l); exact zo rfl); (first
            | ((with_reducible apply sd_callX hq); exact rfl; (focus (intro _; go_simp; try first | with_reducible rfl | exact ⟨rfl, rfl⟩)); (with_reducible exact adder1_any _ _ _ _ hFn (lb_nonneg _ _) hcy.1 hcy.2 _ hq.blk); infer_instance; (repeat (first | exact List.Sublist.refl _ | apply List.Sublist.cons)); clear hp hq; (try clear w1); intro w1 hp hq; simp only [zp, zq, z0, z1])
            | ((with_reducible apply sd_store_far hq); exact rfl; exact zt rfl; (first | exact za rfl | exact zu rfl | exact zi rfl | exact zb rfl | exact zr rfl | exact zs rfl | exact zf rfl | exact zg rfl | exact zn rfl | exact zv rfl | exact zw rfl); exact rfl; (first | exact AggTy.size | exact OneTy.size); exact rfl; infer_instance; (first | (with_reducible exact LB_set (by omega)) | (simp only [n0, Nat.reduceAdd, n1, n2, n3, n4, n5, n6, n7, n8, n9]; try rfl)); (first | exact zl rfl | exact LB_le (by omega)); exact rfl; infer_instance; (repeat (first | exact List.Sublist.refl _ | apply List.Sublist.cons)); clear hp hq; (try clear w1); intro w1 hp hq)
            | ((with_reducible apply sd_store hq); exact rfl; exact zt rfl; (first | exact za rfl | exact zu rfl | exact zi rfl | exact zb rfl | exact zr rfl | exact zs rfl | exact zf rfl | exact zg rfl | exact zn rfl | exact zv rfl | exact zw rfl); exact rfl; (first | exact AggTy.size | exact OneTy.size); exact rfl; infer_instance; (first | (with_reducible exact LB_set (by omega)) | (simp only [n0, Nat.reduceAdd, n1, n2, n3, n4, n5, n6, n7, n8, n9]; try rfl)); (first | exact zl rfl | exact LB_le (by omega)); exact rfl; infer_instance; exact rfl; clear hp hq; (try clear w1); intro w1 hq; have hp := True.intro)))
        | ((with_reducible apply sd_nil); clear hp; have hp := hq; clear hq))
      go_wp2_with fail
      go_roundw
      case rel =>
        refine ⟨k + 1, upd F k ((F k + lb b k + cy a b c k) % 18446744073709551616), by omega, by go_num, ?_, ?_, ?_⟩
        · intro j hj
          by_cases e : j = k
          · subst e; rw [upd_same, hF.out]; exact sum_lb a b c j
          · rw [upd_ne _ _ e]; exact Hlo.out j (by omega)
        · intro j hj
          rw [upd_ne _ _ (by omega)]; exact Hhi.out j (by omega)
        · have e : (F k + lb b k + cy a b c k) / 18446744073709551616 = cy a b c (k + 1) := by rw [hF.out]; exact cy_succ a b c k
          rw [← e]; exact hp
      case measure => simp [intOf]; omega
    · obtain rfl : k = 8 := by omega
      have e : LB F = LB (lb (a + b + c)) := LB_congr fun j hj => Hlo.out j hj
      rw [e] at hp
      clear e Hlo Hhi hF hFn
      have hp' : Hp [] w [⟨g, 27, [.int .u64 (cy a b c 8)]⟩, ⟨gr, 84, [.int .u64 0, .int .u64 0, .int .u64 0, .int .u64 0, .int .u64 0, .int .u64 0, .int .u64 0, .int .u64 0]⟩, ⟨gb, 84, LB (lb b)⟩, ⟨ga, 84, [.int .u64 (lb (a + b + c) 0), .int .u64 (lb (a + b + c) 1), .int .u64 (lb (a + b + c) 2), .int .u64 (lb (a + b + c) 3), .int .u64 (lb (a + b + c) 4), .int .u64 (lb (a + b + c) 5), .int .u64 (lb (a + b + c) 6), .int .u64 (lb (a + b + c) 7)]⟩] wr := hp
      clear hp
      have hp := hp'
      clear hp'
      go_wp2_with (first
          | ((with_reducible apply sx_box hp); exact za rfl; exact rfl; clear hp; (try clear w1); intro g w1 hp; simp only [zp, zq, z0, z1])
          | ((with_reducible apply sx_alloc hp); infer_instance; exact rfl; clear hp; (try clear w1); intro g w1 hp; simp only [zp, zq, z0, z1])
          | ((with_reducible apply sx_load_agg hp); exact zt rfl; infer_instance; infer_instance; (first | exact zl rfl | exact LB_le (by omega)); (first | (with_reducible exact LB_set (by omega)) | (simp only [n0, Nat.reduceAdd, n1, n2, n3, n4, n5, n6, n7, n8, n9]; try rfl)); simp only [zp, zq, z0, z1])
          | ((with_reducible apply sx_load_one hp); exact zt rfl; infer_instance; infer_instance; (first | exact zio rfl | exact LB_get (by omega)); simp only [zp, zq, z0, z1])
          | ((with_reducible apply sx_store hp); exact zt rfl; (first | exact za rfl | exact zi rfl); exact rfl; (first | exact AggTy.size | exact OneTy.size); exact rfl; infer_instance; (first | (with_reducible exact LB_set (by omega)) | (simp only [n0, Nat.reduceAdd, n1, n2, n3, n4, n5, n6, n7, n8, n9]; try rfl)); (first | exact zl rfl | exact LB_le (by omega)); exact rfl; infer_instance; clear hp; (try clear w1); intro w1 hp))
      exact bodyPost_ret (results_one rfl ⟨_, rfl, run_load_agg hp (Nat.le_of_ble_eq_true rfl)⟩) rfl ⟨rfl, hp.keep⟩
end Go.Proofs.YtbdkbmhejoakiaaGreatDoor
