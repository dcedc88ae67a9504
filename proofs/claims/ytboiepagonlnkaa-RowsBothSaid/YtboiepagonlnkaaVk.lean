/-
  Package vec: Scale, Move, Unit (contracts).
  Package vec: Unit (contract).
  Package vec: Near (contract).
-/
import Derived.Test.YtboiepagonlnkaaVh
set_option linter.unusedSimpArgs false
set_option linter.unusedVariables false
set_option maxRecDepth 100000
namespace Go.Proofs.Ytboiepagonlnkaa
open Go Go.RowKit
attribute [local irreducible] wpList

theorem Keep.blk {w w1 : World} {g : Nat} {o : Obj} (hk : Keep [] w w1) (h : w.heap[g]? = some o) : w1.heap[g]? = some o := by
  have hlt : g < w.heap.size := by
    rcases Nat.lt_or_ge g w.heap.size with h' | h'
    · exact h'
    · rw [Array.getElem?_eq_none h'] at h; cases h
  exact (hk.block g hlt (by simp)).trans h
end Go.Proofs.Ytboiepagonlnkaa
set_option linter.unusedSimpArgs false
set_option linter.unusedVariables false
set_option maxRecDepth 100000
namespace Go.Proofs.Ytboiepagonlnkaa
open Go Go.RowKit
attribute [local irreducible] wpList

theorem rtUp_nonneg (n : Int) : 0 ≤ rtUp n := by
  have := rt_nonneg n
  unfold rtUp
  split <;> omega
theorem rtUp_sq {R : Int} (h : 0 ≤ R) : rtUp (R * R) = R := by
  have e : rt (R * R) = R := rt_uniq h (by omega) (by have : (R + 1) * (R + 1) = R * R + 2 * R + 1 := by grind
                                                      omega)
  unfold rtUp
  rw [e, if_pos rfl]
theorem rtUp_next {R m : Int} (h : 0 ≤ R) (h1 : R * R < m) (h2 : m ≤ (R + 1) * (R + 1)) : rtUp m = R + 1 := by
  by_cases he : m = (R + 1) * (R + 1)
  · rw [he]
    exact rtUp_sq (by omega)
  · have e : rt m = R := rt_uniq h (by omega) (by omega)
    unfold rtUp
    rw [e, if_neg (by omega)]
/-- The document's way and the program's to a root of a quotient, rounded up, are one. -/
theorem unit_root {n s : Int} (h0 : 0 ≤ n) (hs : 0 < s) : rtUp (if n % s = 0 then n / s else n / s + 1) = if rt (n / s) * rt (n / s) * s = n then rt (n / s) else rt (n / s) + 1 := by
  have hq : 0 ≤ n / s := Int.ediv_nonneg h0 (Int.le_of_lt hs)
  obtain ⟨h1, h2⟩ := rt_spec hq
  have hR := rt_nonneg (n / s)
  have hd := Int.mul_ediv_add_emod n s
  have hm0 := Int.emod_nonneg n (show s ≠ 0 by omega)
  have hm1 := Int.emod_lt_of_pos n hs
  generalize rt (n / s) = R at *
  generalize n / s = q at *
  generalize n % s = r at *
  by_cases he : R * R * s = n
  · rw [if_pos he]
    have h3 : s * (R * R) = s * q + r := by rw [hd, Int.mul_comm]; exact he
    have h4 : q = R * R := by
      by_cases h5 : q = R * R
      · exact h5
      · exfalso
        have h6 := Int.mul_le_mul_of_nonneg_left (show R * R + 1 ≤ q by omega) (Int.le_of_lt hs)
        rw [Int.mul_add, Int.mul_one] at h6
        omega
    have h5 : r = 0 := by rw [h4] at h3; omega
    rw [if_pos h5, h4]
    exact rtUp_sq hR
  · rw [if_neg he]
    by_cases hr : r = 0
    · rw [if_pos hr]
      refine rtUp_next hR ?_ (by omega)
      by_cases h5 : q = R * R
      · exfalso
        apply he
        rw [← h5, Int.mul_comm]
        omega
      · omega
    · rw [if_neg hr]
      exact rtUp_next hR (by omega) (by omega)
set_option maxHeartbeats 4000000 in
theorem unit1_core (x y s xx n q r rq q1 c9 m c : Int) (o : Bool)
    (T1 : Hid (∀ w, Calls Try.prog 22 #[.int .i64 x, .int .i64 x] w (Ret (W xx) w)))
    (SH : Hid (∀ w, Calls Try.prog 21 #[W xx, .int .i64 64] w (Ret (.tuple #[W n, .bool true]) w)))
    (DV : Hid (∀ w, Calls Try.prog 23 #[W n, W s] w (Ret (.tuple #[W q, W r, .bool o]) w)))
    (SQ : Hid (∀ w, Calls Try.prog 24 #[W q] w (Ret (.tuple #[W rq, .bool true]) w)))
    (W1 : Hid (∀ w, Calls Try.prog 25 #[W rq] w (Ret (.int .i64 (cl rq)) w)))
    (VS : Hid (∀ (w : World) (g cap : Nat), w.heap[g]? = some (.cells [.int .u64 (lb (q) 0), .int .u64 (lb (q) 1), .int .u64 (lb (q) 2), .int .u64 (lb (q) 3), .int .u64 (lb (q) 4), .int .u64 (lb (q) 5), .int .u64 (lb (q) 6), .int .u64 (lb (q) 7), .int .u64 (lb (1) 0), .int .u64 (lb (1) 1), .int .u64 (lb (1) 2), .int .u64 (lb (1) 3), .int .u64 (lb (1) 4), .int .u64 (lb (1) 5), .int .u64 (lb (1) 6), .int .u64 (lb (1) 7)].toArray 54 (0, 0)) → Calls Try.prog 26 #[.slice (some ⟨g, 0, none⟩) 2 cap] w (Ret (W (q + 1)) w)))
    (b : Bool) (HE : eqb r 0 = b) (HQ : Hid (q1 = if b = true then q else q + 1))
    (CE : Hid (∀ w, Calls Try.prog 29 #[W q1] w (Ret (W c9) w)))
    (L1 : Hid (∀ w, Calls Try.prog 28 #[.agg #[.int .u64 0, .int .u64 0, .int .u64 0, .int .u64 0, .int .u64 0, .int .u64 0, .int .u64 0, .int .u64 0], W c9] w (Ret (W m) w)))
    (W2 : Hid (∀ w, Calls Try.prog 25 #[W m] w (Ret (.int .i64 (cl m)) w))) (HC : Hid (c = if 0 ≤ x then cl rq else cl m)) (w : World) (g : Nat) (ty : TypeId) (z : Nat × Nat) (hb : w.heap[g]? = some (.cells [.int .u64 (lb (s) 0), .int .u64 (lb (s) 1), .int .u64 (lb (s) 2), .int .u64 (lb (s) 3), .int .u64 (lb (s) 4), .int .u64 (lb (s) 5), .int .u64 (lb (s) 6), .int .u64 (lb (s) 7)].toArray ty z)) :
    Calls Try.prog 20 #[.int .i64 x, .int .i64 y, .pointer (some ⟨g, 0, none⟩)] w (Ret (.int .i64 c) w) := by
  have O1 := Lib.hid fun w => of_i64 1 (by unfold I64; omega) w
  rw [eqb_zero] at HE
  generalize q + 1 = qp at *
  by_cases h0 : 0 ≤ x
  · obtain rfl : c = cl rq := by rw [HC.out, if_pos h0]
    clear HC W2 L1 CE HQ HE VS O1
    generalize cl rq = c at *
    go_enter Try.func20, Try.ntmps20
    have hp := Hp.start [] w
    go_wp2_with (first
          | ((with_reducible apply sx_alloc hp); infer_instance; exact rfl; clear hp; (try clear w1); intro g w1 hp; simp only [zp, zq, z0, z1])
          | ((with_reducible apply sx_load_agg hp); exact zt rfl; infer_instance; infer_instance; (first | exact zl rfl | exact LB_le (by omega)); (first | (with_reducible exact LB_set (by omega)) | (simp only [n0, Nat.reduceAdd, n1, n2, n3, n4, n5, n6, n7, n8, n9]; try rfl)); simp only [zp, zq, z0, z1])
          | ((with_reducible apply sx_store hp); exact zt rfl; exact za rfl; exact rfl; (first | exact AggTy.size | exact OneTy.size); exact rfl; infer_instance; (first | (with_reducible exact LB_set (by omega)) | (simp only [n0, Nat.reduceAdd, n1, n2, n3, n4, n5, n6, n7, n8, n9]; try rfl)); (first | exact zl rfl | exact LB_le (by omega)); exact rfl; infer_instance; clear hp; (try clear w1); intro w1 hp)
          | ((with_reducible apply sx_buildSlice hp); infer_instance; (first | exact AggTy.size | exact OneTy.size); infer_instance; exact zl rfl; decide; (first | exact (rfl : _ = numbered 0 [_]) | exact (rfl : _ = numbered 0 [_, _]) | exact (rfl : _ = numbered 0 [_, _, _]) | exact (rfl : _ = numbered 0 [_, _, _, _])); exact rfl; (first | exact (rfl : _ = List.map (fun x : List Value => x.toArray) [_]) | exact (rfl : _ = List.map (fun x : List Value => x.toArray) [_, _]) | exact (rfl : _ = List.map (fun x : List Value => x.toArray) [_, _, _]) | exact (rfl : _ = List.map (fun x : List Value => x.toArray) [_, _, _, _])); (intro l hl <;> simp only [List.mem_cons, List.not_mem_nil, or_false] at hl <;> rcases hl with rfl | rfl | rfl | rfl <;> rfl); exact rfl; clear hp; (try clear w1); intro g w1 hp; simp only [zp, zq, z0, z1])
          | ((with_reducible first | refine sx_call hp (T1.out _) ?_ | refine sx_call hp (SH.out _) ?_ | refine sx_call hp (DV.out _) ?_ | refine sx_call hp (SQ.out _) ?_ | refine sx_call hp (W1.out _) ?_); clear hp; (try clear w1); intro w1 hp)
          | ((with_reducible apply sx_load_far hp); exact zt rfl; assumption; infer_instance; exact rfl; exact (Nat.le_of_ble_eq_true rfl); simp only [zp, zq, z0, z1]))
    exact bodyPost_ret (results_one rfl rfl) rfl ⟨rfl, hp.keep⟩
  · obtain rfl : c = cl m := by rw [HC.out, if_neg h0]
    clear HC W1 SQ
    generalize cl m = c at *
    cases b with
    | true =>
      obtain rfl : q1 = q := by rw [HQ.out]; simp
      clear HQ VS
      go_enter Try.func20, Try.ntmps20
      have hp := Hp.start [] w
      go_wp2_with (first
          | ((with_reducible apply sx_alloc hp); infer_instance; exact rfl; clear hp; (try clear w1); intro g w1 hp; simp only [zp, zq, z0, z1])
          | ((with_reducible apply sx_load_agg hp); exact zt rfl; infer_instance; infer_instance; (first | exact zl rfl | exact LB_le (by omega)); (first | (with_reducible exact LB_set (by omega)) | (simp only [n0, Nat.reduceAdd, n1, n2, n3, n4, n5, n6, n7, n8, n9]; try rfl)); simp only [zp, zq, z0, z1])
          | ((with_reducible apply sx_store hp); exact zt rfl; exact za rfl; exact rfl; (first | exact AggTy.size | exact OneTy.size); exact rfl; infer_instance; (first | (with_reducible exact LB_set (by omega)) | (simp only [n0, Nat.reduceAdd, n1, n2, n3, n4, n5, n6, n7, n8, n9]; try rfl)); (first | exact zl rfl | exact LB_le (by omega)); exact rfl; infer_instance; clear hp; (try clear w1); intro w1 hp)
          | ((with_reducible apply sx_buildSlice hp); infer_instance; (first | exact AggTy.size | exact OneTy.size); infer_instance; exact zl rfl; decide; (first | exact (rfl : _ = numbered 0 [_]) | exact (rfl : _ = numbered 0 [_, _]) | exact (rfl : _ = numbered 0 [_, _, _]) | exact (rfl : _ = numbered 0 [_, _, _, _])); exact rfl; (first | exact (rfl : _ = List.map (fun x : List Value => x.toArray) [_]) | exact (rfl : _ = List.map (fun x : List Value => x.toArray) [_, _]) | exact (rfl : _ = List.map (fun x : List Value => x.toArray) [_, _, _]) | exact (rfl : _ = List.map (fun x : List Value => x.toArray) [_, _, _, _])); (intro l hl <;> simp only [List.mem_cons, List.not_mem_nil, or_false] at hl <;> rcases hl with rfl | rfl | rfl | rfl <;> rfl); exact rfl; clear hp; (try clear w1); intro g w1 hp; simp only [zp, zq, z0, z1])
          | ((with_reducible first | refine sx_call hp (T1.out _) ?_ | refine sx_call hp (SH.out _) ?_ | refine sx_call hp (DV.out _) ?_ | refine sx_call hp (CE.out _) ?_ | refine sx_call hp (L1.out _) ?_ | refine sx_call hp (W2.out _) ?_); clear hp; (try clear w1); intro w1 hp)
          | ((with_reducible apply sx_load_far hp); exact zt rfl; assumption; infer_instance; exact rfl; exact (Nat.le_of_ble_eq_true rfl); simp only [zp, zq, z0, z1]))
      exact bodyPost_ret (results_one rfl rfl) rfl ⟨rfl, hp.keep⟩
    | false =>
      obtain rfl : q1 = qp := by rw [HQ.out]; simp
      clear HQ
      go_enter Try.func20, Try.ntmps20
      have hp := Hp.start [] w
      go_upto_region 7 with (first
          | ((with_reducible apply sx_alloc hp); infer_instance; exact rfl; clear hp; (try clear w1); intro g w1 hp; simp only [zp, zq, z0, z1])
          | ((with_reducible apply sx_load_agg hp); exact zt rfl; infer_instance; infer_instance; (first | exact zl rfl | exact LB_le (by omega)); (first | (with_reducible exact LB_set (by omega)) | (simp only [n0, Nat.reduceAdd, n1, n2, n3, n4, n5, n6, n7, n8, n9]; try rfl)); simp only [zp, zq, z0, z1])
          | ((with_reducible apply sx_store hp); exact zt rfl; exact za rfl; exact rfl; (first | exact AggTy.size | exact OneTy.size); exact rfl; infer_instance; (first | (with_reducible exact LB_set (by omega)) | (simp only [n0, Nat.reduceAdd, n1, n2, n3, n4, n5, n6, n7, n8, n9]; try rfl)); (first | exact zl rfl | exact LB_le (by omega)); exact rfl; infer_instance; clear hp; (try clear w1); intro w1 hp)
          | ((with_reducible apply sx_buildSlice hp); infer_instance; (first | exact AggTy.size | exact OneTy.size); infer_instance; exact zl rfl; decide; (first | exact (rfl : _ = numbered 0 [_]) | exact (rfl : _ = numbered 0 [_, _]) | exact (rfl : _ = numbered 0 [_, _, _]) | exact (rfl : _ = numbered 0 [_, _, _, _])); exact rfl; (first | exact (rfl : _ = List.map (fun x : List Value => x.toArray) [_]) | exact (rfl : _ = List.map (fun x : List Value => x.toArray) [_, _]) | exact (rfl : _ = List.map (fun x : List Value => x.toArray) [_, _, _]) | exact (rfl : _ = List.map (fun x : List Value => x.toArray) [_, _, _, _])); (intro l hl <;> simp only [List.mem_cons, List.not_mem_nil, or_false] at hl <;> rcases hl with rfl | rfl | rfl | rfl <;> rfl); exact rfl; clear hp; (try clear w1); intro g w1 hp; simp only [zp, zq, z0, z1])
          | ((with_reducible first | refine sx_call hp (T1.out _) ?_ | refine sx_call hp (SH.out _) ?_ | refine sx_call hp (DV.out _) ?_); clear hp; (try clear w1); intro w1 hp)
          | ((with_reducible apply sx_load_far hp); exact zt rfl; assumption; infer_instance; exact rfl; exact (Nat.le_of_ble_eq_true rfl); simp only [zp, zq, z0, z1]))
      have hq := hp
      refine wp_drawn_hp hp hq [4] (.q 0 (.l 1 (.l 2 (.l 3 (.l 4 .nil))))) (by kernel_rfl) (by kernel_rfl) ?_
      clear hp hq; (try clear w1); intro w1 hp hq
      repeat' (first
        | (((with_reducible apply sd_q); exact zo rfl); (first
            | ((with_reducible apply sd_load_agg hp); exact rfl; exact zt rfl; infer_instance; infer_instance; (first | exact zl rfl | exact LB_le (by omega)); (first | (with_reducible exact LB_set (by omega)) | (simp only [n0, Nat.reduceAdd, n1, n2, n3, n4, n5, n6, n7, n8, n9]; try rfl)); simp only [zp, zq, z0, z1])
            | ((with_reducible apply sd_pure hp); exact rfl; (focus (intro _; go_simp; (try go_ints); try with_reducible rfl)); simp only [zp, zq, z0, z1])))
        | (((with_reducible apply sd_l); exact zo rfl); (first
            | ((with_reducible apply sd_call hp); exact rfl; (focus (intro _; go_simp; try first | with_reducible rfl | exact ⟨rfl, rfl⟩)); (with_reducible exact fun w => O1.out w); exact hq; clear hp hq; (try clear w1); intro w1 hp hq; simp only [zp, zq, z0, z1])
            | ((with_reducible apply sd_callM hp); exact rfl; (focus (intro _; go_simp; try first | with_reducible rfl | exact ⟨rfl, rfl⟩)); (with_reducible exact VS.out _ _ _ hq.blk); exact hq; clear hp hq; (try clear w1); intro w1 hp hq; simp only [zp, zq, z0, z1])
            | ((with_reducible apply sd_store_far hq); exact rfl; exact zt rfl; (first | exact za rfl | exact zu rfl | exact zi rfl | exact zb rfl | exact zr rfl | exact zs rfl | exact zf rfl | exact zg rfl | exact zn rfl | exact zv rfl | exact zw rfl); exact rfl; (first | exact AggTy.size | exact OneTy.size); exact rfl; infer_instance; (first | (with_reducible exact LB_set (by omega)) | (simp only [n0, Nat.reduceAdd, n1, n2, n3, n4, n5, n6, n7, n8, n9]; try rfl)); (first | exact zl rfl | exact LB_le (by omega)); exact rfl; infer_instance; (repeat (first | exact List.Sublist.refl _ | apply List.Sublist.cons)); clear hp hq; (try clear w1); intro w1 hp hq)
            | ((with_reducible apply sd_store hq); exact rfl; exact zt rfl; (first | exact za rfl | exact zu rfl | exact zi rfl | exact zb rfl | exact zr rfl | exact zs rfl | exact zf rfl | exact zg rfl | exact zn rfl | exact zv rfl | exact zw rfl); exact rfl; (first | exact AggTy.size | exact OneTy.size); exact rfl; infer_instance; (first | (with_reducible exact LB_set (by omega)) | (simp only [n0, Nat.reduceAdd, n1, n2, n3, n4, n5, n6, n7, n8, n9]; try rfl)); (first | exact zl rfl | exact LB_le (by omega)); exact rfl; infer_instance; exact rfl; clear hp hq; (try clear w1); intro w1 hq; have hp := True.intro)
            | ((with_reducible apply sd_buildSlice hq); (repeat (first | exact List.Sublist.refl _ | apply List.Sublist.cons)); exact rfl; infer_instance; (first | exact AggTy.size | exact OneTy.size); infer_instance; exact zl rfl; decide; (first | exact (rfl : _ = numbered 0 [_]) | exact (rfl : _ = numbered 0 [_, _]) | exact (rfl : _ = numbered 0 [_, _, _]) | exact (rfl : _ = numbered 0 [_, _, _, _])); exact rfl; (first | exact (rfl : _ = List.map (fun x : List Value => x.toArray) [_]) | exact (rfl : _ = List.map (fun x : List Value => x.toArray) [_, _]) | exact (rfl : _ = List.map (fun x : List Value => x.toArray) [_, _, _]) | exact (rfl : _ = List.map (fun x : List Value => x.toArray) [_, _, _, _])); (intro l hl <;> simp only [List.mem_cons, List.not_mem_nil, or_false] at hl <;> rcases hl with rfl | rfl | rfl | rfl <;> rfl); exact rfl; clear hp hq; (try clear w1); intro g w1 hp hq; simp only [zp, zq, z0, z1])))
        | ((with_reducible apply sd_nil); clear hp; have hp := hq; clear hq))
      go_wp2_with (first
          | ((with_reducible apply sx_alloc hp); infer_instance; exact rfl; clear hp; (try clear w1); intro g w1 hp; simp only [zp, zq, z0, z1])
          | ((with_reducible apply sx_load_agg hp); exact zt rfl; infer_instance; infer_instance; (first | exact zl rfl | exact LB_le (by omega)); (first | (with_reducible exact LB_set (by omega)) | (simp only [n0, Nat.reduceAdd, n1, n2, n3, n4, n5, n6, n7, n8, n9]; try rfl)); simp only [zp, zq, z0, z1])
          | ((with_reducible apply sx_store hp); exact zt rfl; exact za rfl; exact rfl; (first | exact AggTy.size | exact OneTy.size); exact rfl; infer_instance; (first | (with_reducible exact LB_set (by omega)) | (simp only [n0, Nat.reduceAdd, n1, n2, n3, n4, n5, n6, n7, n8, n9]; try rfl)); (first | exact zl rfl | exact LB_le (by omega)); exact rfl; infer_instance; clear hp; (try clear w1); intro w1 hp)
          | ((with_reducible apply sx_buildSlice hp); infer_instance; (first | exact AggTy.size | exact OneTy.size); infer_instance; exact zl rfl; decide; (first | exact (rfl : _ = numbered 0 [_]) | exact (rfl : _ = numbered 0 [_, _]) | exact (rfl : _ = numbered 0 [_, _, _]) | exact (rfl : _ = numbered 0 [_, _, _, _])); exact rfl; (first | exact (rfl : _ = List.map (fun x : List Value => x.toArray) [_]) | exact (rfl : _ = List.map (fun x : List Value => x.toArray) [_, _]) | exact (rfl : _ = List.map (fun x : List Value => x.toArray) [_, _, _]) | exact (rfl : _ = List.map (fun x : List Value => x.toArray) [_, _, _, _])); (intro l hl <;> simp only [List.mem_cons, List.not_mem_nil, or_false] at hl <;> rcases hl with rfl | rfl | rfl | rfl <;> rfl); exact rfl; clear hp; (try clear w1); intro g w1 hp; simp only [zp, zq, z0, z1])
          | ((with_reducible first | refine sx_call hp (CE.out _) ?_ | refine sx_call hp (L1.out _) ?_ | refine sx_call hp (W2.out _) ?_); clear hp; (try clear w1); intro w1 hp))
      exact bodyPost_ret (results_one rfl rfl) rfl ⟨rfl, hp.keep⟩
theorem unit1_any (x y s : Int) (hx : I64 x) (hs : 0 < s) (hsf : Fit s) (w : World) (g : Nat) (ty : TypeId) (z : Nat × Nat) (hb : w.heap[g]? = some (.cells [.int .u64 (lb (s) 0), .int .u64 (lb (s) 1), .int .u64 (lb (s) 2), .int .u64 (lb (s) 3), .int .u64 (lb (s) 4), .int .u64 (lb (s) 5), .int .u64 (lb (s) 6), .int .u64 (lb (s) 7)].toArray ty z)) :
    Calls Try.prog 20 #[.int .i64 x, .int .i64 y, .pointer (some ⟨g, 0, none⟩)] w (Ret (.int .i64 (ratio x s)) w) := by
  have hxx := sq_i64 hx
  have hnx : Fit (x * x) := by unfold Fit M511; omega
  have hnn : 0 ≤ x * x * 18446744073709551616 := by omega
  have hn : Fit (x * x * 18446744073709551616) := by unfold Fit M511; omega
  have hp2 : (2 : Int) ^ (64 : Int).toNat = 18446744073709551616 := rfl
  have hok : shok (x * x) 64 := ⟨by omega, .inr ⟨by omega, by rw [hp2]; exact hn⟩⟩
  have hsh := shl_any (x * x) 64 hnx
  rw [show shlv (x * x) 64 = x * x * 18446744073709551616 by unfold shlv; rw [if_pos hok, hp2], decide_eq_true hok] at hsh
  have hnb : x * x * 18446744073709551616 ≤ 1569275433846670190958947355801916604025588861116008628224 := by omega
  unfold ratio
  generalize x * x * 18446744073709551616 = n at *
  have hur := unit_root hnn hs
  rw [← hur]
  obtain ⟨d1, d2, d3, d4, d5, d6⟩ := dvq_pos hnn hn hs
  have hdv := div_any n s hn hsf
  rw [d1, d2, decide_eq_true d3] at hdv
  obtain ⟨f1, f2, f3⟩ := rt_fits d4 d6
  have hr0 := Int.emod_nonneg n (show s ≠ 0 by omega)
  have hr1 := Int.emod_lt_of_pos n hs
  have hrf : Fit (n % s) := by unfold Fit M511 at *; omega
  have g0 : 0 ≤ (if n % s = 0 then n / s else n / s + 1) ∧ (if n % s = 0 then n / s else n / s + 1) ≤ n + 1 := by split <;> omega
  have gf : Fit (if n % s = 0 then n / s else n / s + 1) := by unfold Fit M511 at *; omega
  have hu := rtUp_fit g0.1 gf
  have hu0 : 0 ≤ rtUp (if n % s = 0 then n / s else n / s + 1) := rtUp_nonneg _
  have hle := vless_any 0 (rtUp (if n % s = 0 then n / s else n / s + 1)) fit_zero hu (by unfold Fit M511 at *; omega)
  rw [W_zero, Int.zero_sub] at hle
  refine unit1_core x y s (x * x) n (n / s) (n % s) (rt (n / s)) (if n % s = 0 then n / s else n / s + 1) (rtUp (if n % s = 0 then n / s else n / s + 1)) (-(rtUp (if n % s = 0 then n / s else n / s + 1))) _ true (Lib.hid (vtimes_any x x hx hx)) (Lib.hid hsh) (Lib.hid hdv)
    (Lib.hid (sqrt_pos _ d6 d4)) (Lib.hid (whole_any _ f1)) (Lib.hid fun w g cap h => vsum2 _ _ d6 fit_one (by unfold Fit M511 at *; omega) w g cap h) _ (eqb_fit hrf fit_zero) (Lib.hid ?_) (Lib.hid (ceiling_any _ gf g0.1)) (Lib.hid hle) (Lib.hid (whole_any _ (by unfold Fit M511 at *; omega))) (Lib.hid rfl) w g ty z hb
  simp only [decide_eq_true_eq]
set_option maxHeartbeats 2000000 in
theorem vunit_no (x y z : Int) (h : x = 0 ∧ y = 0 ∧ z = 0) (w : World) : Calls Try.prog 7 #[.agg #[.int .i64 x, .int .i64 y, .int .i64 z]] w (Ret (.tuple #[.agg #[.int .i64 0, .int .i64 0, .int .i64 0], .bool false]) w) := by
  obtain ⟨rfl, rfl, rfl⟩ := h
  go_enter Try.func7, Try.ntmps7
  have hp := Hp.start [] w
  go_wp2_with (first
          | ((with_reducible apply sx_box hp); exact za rfl; exact rfl; clear hp; (try clear w1); intro g w1 hp; simp only [zp, zq, z0, z1])
          | ((with_reducible apply sx_alloc hp); infer_instance; exact rfl; clear hp; (try clear w1); intro g w1 hp; simp only [zp, zq, z0, z1])
          | ((with_reducible apply sx_load_agg hp); exact zt rfl; infer_instance; infer_instance; (first | exact zl rfl | exact LB_le (by omega)); (first | (with_reducible exact LB_set (by omega)) | (simp only [n0, Nat.reduceAdd, n1, n2, n3, n4, n5, n6, n7, n8, n9]; try rfl)); simp only [zp, zq, z0, z1])
          | ((with_reducible apply sx_store hp); exact zt rfl; exact za rfl; exact rfl; (first | exact AggTy.size | exact OneTy.size); exact rfl; infer_instance; (first | (with_reducible exact LB_set (by omega)) | (simp only [n0, Nat.reduceAdd, n1, n2, n3, n4, n5, n6, n7, n8, n9]; try rfl)); (first | exact zl rfl | exact LB_le (by omega)); exact rfl; infer_instance; clear hp; (try clear w1); intro w1 hp))
  exact bodyPost_ret (results_two rfl ⟨_, rfl, run_load_agg hp (Nat.le_of_ble_eq_true rfl)⟩ rfl) rfl ⟨rfl, hp.keep⟩
set_option maxHeartbeats 2000000 in
theorem vunit_yes (a : P3) (h : (a.x == 0 && (a.y == 0 && a.z == 0)) = false) (s p q r : Int) (DO : Hid (∀ w, Calls Try.prog 18 #[PV a, PV a] w (Ret (W s) w)))
    (ES : Hid (∀ (w : World) (g : Nat), w.heap[g]? = some (.cells [.int .u64 (lb (s) 0), .int .u64 (lb (s) 1), .int .u64 (lb (s) 2), .int .u64 (lb (s) 3), .int .u64 (lb (s) 4), .int .u64 (lb (s) 5), .int .u64 (lb (s) 6), .int .u64 (lb (s) 7)].toArray 54 (0, 0)) → Calls Try.prog 19 #[PV a, PV a, .func (.func 20) #[] #[.pointer (some ⟨g, 0, none⟩)]] w (Ret (.agg #[.int .i64 p, .int .i64 q, .int .i64 r]) w))) (w : World) :
    Calls Try.prog 7 #[PV a] w (Ret (.tuple #[.agg #[.int .i64 p, .int .i64 q, .int .i64 r], .bool true]) w) := by
  obtain ⟨x, y, z⟩ := a
  dsimp only at h
  go_enter Try.func7, Try.ntmps7
  have hp := Hp.start [] w
  go_wp2_with (first
          | ((with_reducible apply sx_box hp); exact za rfl; exact rfl; clear hp; (try clear w1); intro g w1 hp; simp only [zp, zq, z0, z1])
          | ((with_reducible apply sx_alloc hp); infer_instance; exact rfl; clear hp; (try clear w1); intro g w1 hp; simp only [zp, zq, z0, z1])
          | ((with_reducible apply sx_load_agg hp); exact zt rfl; infer_instance; infer_instance; (first | exact zl rfl | exact LB_le (by omega)); (first | (with_reducible exact LB_set (by omega)) | (simp only [n0, Nat.reduceAdd, n1, n2, n3, n4, n5, n6, n7, n8, n9]; try rfl)); simp only [zp, zq, z0, z1])
          | ((with_reducible apply sx_store hp); exact zt rfl; exact za rfl; exact rfl; (first | exact AggTy.size | exact OneTy.size); exact rfl; infer_instance; (first | (with_reducible exact LB_set (by omega)) | (simp only [n0, Nat.reduceAdd, n1, n2, n3, n4, n5, n6, n7, n8, n9]; try rfl)); (first | exact zl rfl | exact LB_le (by omega)); exact rfl; infer_instance; clear hp; (try clear w1); intro w1 hp)
          | ((with_reducible refine sx_call hp (DO.out _) ?_); clear hp; (try clear w1); intro w1 hp)
          | ((with_reducible refine sx_call hp (ES.out _ _ hp.blk) ?_); clear hp; (try clear w1); intro w1 hp))
  exact bodyPost_ret (results_two rfl ⟨_, rfl, run_load_agg hp (Nat.le_of_ble_eq_true rfl)⟩ rfl) rfl ⟨rfl, hp.keep⟩
theorem vunit_any (a : P3) (ha : a.i64) (w : World) : Calls Try.prog 7 #[PV a] w (Ret (unitV a) w) := by
  unfold unitV
  by_cases h : a.x = 0 ∧ a.y = 0 ∧ a.z = 0
  · rw [if_pos h]
    exact vunit_no a.x a.y a.z h w
  · rw [if_neg h]
    have hs := dot_pos h
    have hd := dot_bd ha ha
    have hf : Fit (a.dot a) := by unfold Fit M511; omega
    refine vunit_yes a ?_ (a.dot a) _ _ _ (Lib.hid (vdot_any a a ha ha)) (Lib.hid fun w g hb => each1 20 (fun args w => by go_simp) _ a a _ _ _ w (Lib.hid fun w1 h1 => unit1_any a.x a.x _ ha.1 hs hf w1 g _ _ (h1.blk hb)) (Lib.hid fun w1 h1 => unit1_any a.y a.y _ ha.2.1 hs hf w1 g _ _ (h1.blk hb)) (Lib.hid fun w1 h1 => unit1_any a.z a.z _ ha.2.2 hs hf w1 g _ _ (h1.blk hb))) w
    rw [Bool.eq_false_iff]
    intro h2
    apply h
    simpa using h2
end Go.Proofs.Ytboiepagonlnkaa
set_option linter.unusedSimpArgs false
set_option linter.unusedVariables false
set_option maxRecDepth 100000
namespace Go.Proofs.Ytboiepagonlnkaa
open Go Go.RowKit
attribute [local irreducible] wpList

section
variable {P : Program} {ops : Array Oper} {Q : Exit → Act → World → Prop} {N : List Nat} {X : List Nat} {w0 w : World} {H Hq : List Bk} {a : Act} {i : Nat} {rest : Sc}
variable {d : Tmp} {tp : TypeId} {pos : String} {af : Array Edge} {gd : Option (Nat × Bool)}
/-- A call of which it is told what holds behind it. -/
theorem sd_callS {c : Call} {f : FuncId} {args : Array Value} {v : Value} {T : World → Prop} (hw : Region.wanted ⟨some d, .call c, tp, pos, af, gd⟩ (yielded ops a.tmps) = true)
    (he : ∀ w, (execOp a.eval ⟨some d, .call c, tp, pos, af, gd⟩).run P w = .ok (.enter f args) w) (hc : Calls P f args w (fun e w1 => e = .returned v ∧ T w1)) (hT : ∀ w1, T w1 → Hp X w0 H w1)
    (hk : ∀ w1, T w1 → wpSched P ops Q (Hp X w0 H) N rest (a.put (some d) v) w1) : wpL P ops Q (Hp X w0 H) N i rest ⟨some d, .call c, tp, pos, af, gd⟩ a w := by
  refine sd_loud hw ?_
  unfold Oper.wp
  simp only [he, Oper.upon]
  exact hc.mono fun e w1 ⟨he, hw1⟩ => by subst he; exact ⟨fun _ => hT _ hw1, hk _ hw1⟩
theorem sx_callS {f : FuncId} {args : Array Value} {v : Value} {T : World → Prop} {R : Ending → World → Prop} (hc : Calls P f args w (fun e w1 => e = .returned v ∧ T w1)) (hk : ∀ w1, T w1 → R (.returned v) w1) : Calls P f args w R :=
  hc.mono fun e w1 ⟨he, hw1⟩ => by subst he; exact hk _ hw1
end
theorem pm31 {α : Type} {x y z a : α} {r : List α} : (x :: y :: z :: a :: r).Perm (a :: x :: y :: z :: r) := List.perm_middle (l₁ := [x, y, z])
section
variable {X : List Nat} {w0 : World}

end

end Go.Proofs.Ytboiepagonlnkaa
