/-
  Package orient: between (contract).
  Package orient: Inside, of three points that are a simplex (contract).
  Package orient: Volume (contract).
-/
import Derived.Test.YthnpmmpcejfllaaHg
set_option linter.unusedSimpArgs false
set_option linter.unusedVariables false
set_option maxRecDepth 100000
namespace Go.Proofs.Ythnpmmpcejfllaa
open Go Go.RowKit

theorem span_eq {p : P3} (hx : Fit p.x) (hy : Fit p.y) (hz : Fit p.z) : (eqb p.x 0 && (eqb p.y 0 && eqb p.z 0)) = decide (p = ⟨0, 0, 0⟩) := by
  rw [eqb_fit hx fit_zero, eqb_fit hy fit_zero, eqb_fit hz fit_zero]
  obtain ⟨px, py, pz⟩ := p
  rw [Bool.eq_iff_iff]
  simp
theorem cmp_le (a b : Int) : cmp a b ≤ 0 ↔ a ≤ b := by
  unfold cmp
  split
  · omega
  · split <;> omega
theorem sgn_ge (n : Int) : 0 ≤ sgn n ↔ 0 ≤ n := by
  have := sgn_neg n
  omega
def betweenb (a b p : P3) : Bool := decide ((b.sub a).cross (p.sub a) = ⟨0, 0, 0⟩ ∧ 0 ≤ (b.sub a).dot (p.sub a) ∧ (b.sub a).dot (p.sub a) ≤ (b.sub a).dot (b.sub a))
set_option maxHeartbeats 4000000 in
theorem between_any (a b p : P3) (ha : a.may) (hb : b.may) (hpm : p.may) (r : Bool) (Hr : Hid (r = betweenb a b p)) (w : World) : Calls Try.prog 31 #[PV a, PV b, PV p] w (Ret (.bool r) w) := by
  have L1 := Lib.hid (oless_any b a (may_sub hb ha))
  have L2 := Lib.hid (oless_any p a (may_sub hpm ha))
  unfold betweenb at Hr
  have hu := may_sub hb ha
  have hv := may_sub hpm ha
  generalize b.sub a = u at *
  generalize p.sub a = v at *
  have C := Lib.hid (cross_any u v hu hv)
  have D1 := Lib.hid (dot_any u v hu hv)
  have D2 := Lib.hid (dot_any u u hu hu)
  have hd1 := (b7_dot (i64_b7 hu) (i64_b7 hv)).dot
  have hd2 := (b7_dot (i64_b7 hu) (i64_b7 hu)).dot
  have hcf := cross_fit hu hv
  have Sg := Lib.hid (sign_any _ hd1)
  have Cm := Lib.hid (cmp_any _ _ hd1 hd2)
  clear hd1 hd2 hu hv ha hb hpm
  generalize u.cross v = c at *
  generalize u.dot v = d at *
  generalize u.dot u = e at *
  have hc := span_eq hcf.1 hcf.2.1 hcf.2.2
  rw [eqb_zero, eqb_zero, eqb_zero] at hc
  clear hcf
  go_enter Try.func31, Try.ntmps31
  have hp := Hp.start [] w
  go_upto_region 1 with (first
          | ((with_reducible apply sx_box hp); (first | exact za rfl | exact zu rfl | exact zi rfl | exact zb rfl | exact zr rfl | exact zs rfl | exact zf rfl | exact zg rfl | exact zn rfl | exact zv rfl | exact zw rfl); exact rfl; clear hp; (try clear w1); intro g w1 hp; simp only [zp, zq, z0, z1])
          | ((with_reducible apply sx_alloc hp); infer_instance; exact rfl; clear hp; (try clear w1); intro g w1 hp; simp only [zp, zq, z0, z1]))
  rename_i ga gb K hK
  go_cut [7, 8] (fun s7 s8 wx => ∃ g7 g8, s7 = .pointer (some ⟨g7, 0, none⟩) ∧ s8 = .pointer (some ⟨g8, 0, none⟩) ∧ Hp [] w [⟨g8, 33, [.int .i64 v.x, .int .i64 v.y, .int .i64 v.z]⟩, ⟨g7, 33, [.int .i64 u.x, .int .i64 u.y, .int .i64 u.z]⟩, ⟨g, 33, [.int .i64 p.x, .int .i64 p.y, .int .i64 p.z]⟩, ⟨gb, 33, [.int .i64 b.x, .int .i64 b.y, .int .i64 b.z]⟩, ⟨ga, 33, [.int .i64 a.x, .int .i64 a.y, .int .i64 a.z]⟩] wx)
  case first =>
    have hq := hp
    refine wp_drawn_hp hp hq [9] (.q 0 (.q 1 (.q 3 (.q 4 (.b3 2 (.b3 5 (.b2 6 (.l 7 (.l 8 (.l 9 .nil))) 7 (.l 6 (.l 8 (.l 9 .nil)))) 6 (.b2 5 (.l 7 (.l 8 (.l 9 .nil))) 7 (.l 5 (.l 8 (.l 9 .nil)))) 7 (.b2 5 (.l 6 (.l 8 (.l 9 .nil))) 6 (.l 5 (.l 8 (.l 9 .nil))))) 6 (.b2 2 (.b2 5 (.l 7 (.l 8 (.l 9 .nil))) 7 (.l 5 (.l 8 (.l 9 .nil)))) 7 (.l 2 (.l 5 (.l 8 (.l 9 .nil))))) 7 (.b2 2 (.b2 5 (.l 6 (.l 8 (.l 9 .nil))) 6 (.l 5 (.l 8 (.l 9 .nil)))) 6 (.l 2 (.l 5 (.l 8 (.l 9 .nil)))))))))) (by kernel_rfl) (by kernel_rfl) ?_
    clear hp hq; (try clear w1); intro w1 hp hq
    repeat' (first
      | (((with_reducible apply sd_q); exact zo rfl); (first
          | ((with_reducible apply sd_load_agg hp); exact rfl; exact zt rfl; infer_instance; infer_instance; (first | exact zl rfl | exact LB_le (by omega)); (first | (with_reducible exact LB_set (by omega)) | (simp only [n0, Nat.reduceAdd, n1, n2, n3, n4, n5, n6, n7, n8, n9]; try rfl)); simp only [zp, zq, z0, z1])
          | ((with_reducible apply sd_pure hp); exact rfl; (focus (intro _; go_simp; (try go_ints); try with_reducible rfl)); simp only [zp, zq, z0, z1])))
      | (((with_reducible apply sd_l); exact zo rfl); (first
          | ((with_reducible apply sd_alloc hq); (repeat (first | exact List.Sublist.refl _ | apply List.Sublist.cons)); exact rfl; infer_instance; exact rfl; clear hp hq; (try clear w1); intro g w1 hp hq; simp only [zp, zq, z0, z1])
          | ((with_reducible apply sd_call hp); exact rfl; (focus (intro _; go_simp; try first | with_reducible rfl | exact ⟨rfl, rfl⟩)); (with_reducible first | exact fun w => L1.out w | exact fun w => L2.out w); exact hq; clear hp hq; (try clear w1); intro w1 hp hq; simp only [zp, zq, z0, z1])
          | ((with_reducible apply sd_store_far hq); exact rfl; exact zt rfl; (first | exact za rfl | exact zu rfl | exact zi rfl | exact zb rfl | exact zr rfl | exact zs rfl | exact zf rfl | exact zg rfl | exact zn rfl | exact zv rfl | exact zw rfl); exact rfl; (first | exact AggTy.size | exact OneTy.size); exact rfl; infer_instance; (first | (with_reducible exact LB_set (by omega)) | (simp only [n0, Nat.reduceAdd, n1, n2, n3, n4, n5, n6, n7, n8, n9]; try rfl)); (first | exact zl rfl | exact LB_le (by omega)); exact rfl; infer_instance; (repeat (first | exact List.Sublist.refl _ | apply List.Sublist.cons)); clear hp hq; (try clear w1); intro w1 hp hq)
          | ((with_reducible apply sd_store hq); exact rfl; exact zt rfl; (first | exact za rfl | exact zu rfl | exact zi rfl | exact zb rfl | exact zr rfl | exact zs rfl | exact zf rfl | exact zg rfl | exact zn rfl | exact zv rfl | exact zw rfl); exact rfl; (first | exact AggTy.size | exact OneTy.size); exact rfl; infer_instance; (first | (with_reducible exact LB_set (by omega)) | (simp only [n0, Nat.reduceAdd, n1, n2, n3, n4, n5, n6, n7, n8, n9]; try rfl)); (first | exact zl rfl | exact LB_le (by omega)); exact rfl; infer_instance; exact rfl; clear hp hq; (try clear w1); intro w1 hq; have hp := True.intro)))
      | (with_reducible apply sd_b2)
      | (with_reducible apply sd_b3)
      | ((with_reducible apply sd_nil); clear hp; have hp := hq; clear hq))
    all_goals (go_wp2_with fail; go_meet; first | exact ⟨_, _, rfl, rfl, hp⟩ | exact ⟨_, _, rfl, rfl, hp.perm (List.Perm.swap ..)⟩)
  case rest =>
  clear hp
  obtain ⟨g7, g8, rfl, rfl, hp⟩ := hcut
  have Hc := Lib.hid hc
  clear hc
  go_wp2_with (first
          | ((with_reducible apply sx_box hp); exact za rfl; exact rfl; clear hp; (try clear w1); intro g w1 hp; simp only [zp, zq, z0, z1])
          | ((with_reducible apply sx_alloc hp); infer_instance; exact rfl; clear hp; (try clear w1); intro g w1 hp; simp only [zp, zq, z0, z1])
          | ((with_reducible apply sx_load_agg hp); exact zt rfl; infer_instance; infer_instance; (first | exact zl rfl | exact LB_le (by omega)); (first | (with_reducible exact LB_set (by omega)) | (simp only [n0, Nat.reduceAdd, n1, n2, n3, n4, n5, n6, n7, n8, n9]; try rfl)); simp only [zp, zq, z0, z1])
          | ((with_reducible apply sx_store hp); exact zt rfl; exact za rfl; exact rfl; (first | exact AggTy.size | exact OneTy.size); exact rfl; infer_instance; (first | (with_reducible exact LB_set (by omega)) | (simp only [n0, Nat.reduceAdd, n1, n2, n3, n4, n5, n6, n7, n8, n9]; try rfl)); (first | exact zl rfl | exact LB_le (by omega)); exact rfl; infer_instance; clear hp; (try clear w1); intro w1 hp)
          | ((with_reducible refine sx_call hp (D1.out _) ?_); clear hp; (try clear w1); intro w1 hp))
  have hc := Hc.out
  by_cases h0 : c = ⟨0, 0, 0⟩
  · rw [decide_eq_true h0] at hc
    by_cases h1 : 0 ≤ d
    · have h1' := (sgn_ge d).2 h1
      by_cases h2 : d ≤ e
      · have h2' := (cmp_le d e).2 h2
        obtain rfl : r = true := by rw [Hr.out]; simp [h0, h1, h2]
        clear h0 h1 h2
        have hq := hp
        refine wp_drawn_hp hp hq [] (.q 0 (.q 1 (.q 3 (.l 2 (.q 4 (.q 5 (.q 6 (.l 7 (.q 8 (.q 9 (.q 10 (.q 11 (.q 12 (.q 13 (.l 14 (.l 15 (.q 16 (.q 17 (.q 18 .nil))))))))))))))))))) (by kernel_rfl) (by kernel_rfl) ?_
        clear hp hq; (try clear w1); intro w1 hp hq
        repeat' (first
          | (((with_reducible apply sd_q); exact zo rfl); (first
              | ((with_reducible apply sd_load_agg hp); exact rfl; exact zt rfl; infer_instance; infer_instance; (first | exact zl rfl | exact LB_le (by omega)); (first | (with_reducible exact LB_set (by omega)) | (simp only [n0, Nat.reduceAdd, n1, n2, n3, n4, n5, n6, n7, n8, n9]; try rfl)); simp only [zp, zq, z0, z1])
              | ((with_reducible apply sd_move hp); exact zb rfl; simp only [zp, zq, z0, z1])
              | ((with_reducible apply sd_assign hp); exact zb rfl; simp only [zp, zq, z0, z1])
              | ((with_reducible apply sd_pure hp); exact rfl; (focus (intro _; go_simp; (try go_ints); try with_reducible rfl)); simp only [zp, zq, z0, z1])
              | ((with_reducible apply sd_skip hp); exact rfl; simp only [zp, zq, z0, z1])))
          | (((with_reducible apply sd_l); exact zo rfl); (first
              | ((with_reducible apply sd_call hp); exact rfl; (focus (intro _; go_simp; try first | with_reducible rfl | exact ⟨rfl, rfl⟩)); (with_reducible first | exact fun w => C.out w | exact fun w => D2.out w | exact fun w => Sg.out w | exact fun w => Cm.out w); exact hq; clear hp hq; (try clear w1); intro w1 hp hq; simp only [zp, zq, z0, z1])
              | ((with_reducible apply sd_skip_loud hp); exact rfl; simp only [zp, zq, z0, z1])))
          | ((with_reducible apply sd_nil); clear hp; have hp := hq; clear hq))
        go_wp2
        exact bodyPost_ret (results_one rfl rfl) rfl ⟨rfl, hp.keep⟩
      · have h2' : ¬ cmp d e ≤ 0 := fun h => h2 ((cmp_le d e).1 h)
        obtain rfl : r = false := by rw [Hr.out]; simp [h0, h1, h2]
        clear h0 h1 h2
        have hq := hp
        refine wp_drawn_hp hp hq [] (.q 0 (.q 1 (.q 3 (.l 2 (.q 4 (.q 5 (.q 6 (.l 7 (.q 8 (.q 9 (.q 10 (.q 11 (.q 12 (.q 13 (.l 14 (.l 15 (.q 16 (.q 17 (.q 18 .nil))))))))))))))))))) (by kernel_rfl) (by kernel_rfl) ?_
        clear hp hq; (try clear w1); intro w1 hp hq
        repeat' (first
          | (((with_reducible apply sd_q); exact zo rfl); (first
              | ((with_reducible apply sd_load_agg hp); exact rfl; exact zt rfl; infer_instance; infer_instance; (first | exact zl rfl | exact LB_le (by omega)); (first | (with_reducible exact LB_set (by omega)) | (simp only [n0, Nat.reduceAdd, n1, n2, n3, n4, n5, n6, n7, n8, n9]; try rfl)); simp only [zp, zq, z0, z1])
              | ((with_reducible apply sd_move hp); exact zb rfl; simp only [zp, zq, z0, z1])
              | ((with_reducible apply sd_assign hp); exact zb rfl; simp only [zp, zq, z0, z1])
              | ((with_reducible apply sd_pure hp); exact rfl; (focus (intro _; go_simp; (try go_ints); try with_reducible rfl)); simp only [zp, zq, z0, z1])
              | ((with_reducible apply sd_skip hp); exact rfl; simp only [zp, zq, z0, z1])))
          | (((with_reducible apply sd_l); exact zo rfl); (first
              | ((with_reducible apply sd_call hp); exact rfl; (focus (intro _; go_simp; try first | with_reducible rfl | exact ⟨rfl, rfl⟩)); (with_reducible first | exact fun w => C.out w | exact fun w => D2.out w | exact fun w => Sg.out w | exact fun w => Cm.out w); exact hq; clear hp hq; (try clear w1); intro w1 hp hq; simp only [zp, zq, z0, z1])
              | ((with_reducible apply sd_skip_loud hp); exact rfl; simp only [zp, zq, z0, z1])))
          | ((with_reducible apply sd_nil); clear hp; have hp := hq; clear hq))
        go_wp2
        exact bodyPost_ret (results_one rfl rfl) rfl ⟨rfl, hp.keep⟩
    · have h1' : ¬ 0 ≤ sgn d := fun h => h1 ((sgn_ge d).1 h)
      obtain rfl : r = false := by rw [Hr.out]; simp [h0, h1]
      clear h0 h1
      have hq := hp
      refine wp_drawn_hp hp hq [] (.q 0 (.q 1 (.q 3 (.l 2 (.q 4 (.q 5 (.q 6 (.l 7 (.q 8 (.q 9 (.q 10 (.q 11 (.q 12 (.q 13 (.l 14 (.l 15 (.q 16 (.q 17 (.q 18 .nil))))))))))))))))))) (by kernel_rfl) (by kernel_rfl) ?_
      clear hp hq; (try clear w1); intro w1 hp hq
      repeat' (first
        | (((with_reducible apply sd_q); exact zo rfl); (first
            | ((with_reducible apply sd_load_agg hp); exact rfl; exact zt rfl; infer_instance; infer_instance; (first | exact zl rfl | exact LB_le (by omega)); (first | (with_reducible exact LB_set (by omega)) | (simp only [n0, Nat.reduceAdd, n1, n2, n3, n4, n5, n6, n7, n8, n9]; try rfl)); simp only [zp, zq, z0, z1])
            | ((with_reducible apply sd_move hp); exact zb rfl; simp only [zp, zq, z0, z1])
            | ((with_reducible apply sd_assign hp); exact zb rfl; simp only [zp, zq, z0, z1])
            | ((with_reducible apply sd_pure hp); exact rfl; (focus (intro _; go_simp; (try go_ints); try with_reducible rfl)); simp only [zp, zq, z0, z1])
            | ((with_reducible apply sd_skip hp); exact rfl; simp only [zp, zq, z0, z1])))
        | (((with_reducible apply sd_l); exact zo rfl); (first
            | ((with_reducible apply sd_call hp); exact rfl; (focus (intro _; go_simp; try first | with_reducible rfl | exact ⟨rfl, rfl⟩)); (with_reducible first | exact fun w => C.out w | exact fun w => D2.out w | exact fun w => Sg.out w | exact fun w => Cm.out w); exact hq; clear hp hq; (try clear w1); intro w1 hp hq; simp only [zp, zq, z0, z1])
            | ((with_reducible apply sd_skip_loud hp); exact rfl; simp only [zp, zq, z0, z1])))
        | ((with_reducible apply sd_nil); clear hp; have hp := hq; clear hq))
      go_wp2
      exact bodyPost_ret (results_one rfl rfl) rfl ⟨rfl, hp.keep⟩
  · rw [decide_eq_false h0] at hc
    obtain rfl : r = false := by rw [Hr.out]; simp [h0]
    clear h0
    have hq := hp
    refine wp_drawn_hp hp hq [] (.q 0 (.q 1 (.q 3 (.l 2 (.q 4 (.q 5 (.q 6 (.l 7 (.q 8 (.q 9 (.q 10 (.q 11 (.q 12 (.q 13 (.l 14 (.l 15 (.q 16 (.q 17 (.q 18 .nil))))))))))))))))))) (by kernel_rfl) (by kernel_rfl) ?_
    clear hp hq; (try clear w1); intro w1 hp hq
    repeat' (first
      | (((with_reducible apply sd_q); exact zo rfl); (first
          | ((with_reducible apply sd_load_agg hp); exact rfl; exact zt rfl; infer_instance; infer_instance; (first | exact zl rfl | exact LB_le (by omega)); (first | (with_reducible exact LB_set (by omega)) | (simp only [n0, Nat.reduceAdd, n1, n2, n3, n4, n5, n6, n7, n8, n9]; try rfl)); simp only [zp, zq, z0, z1])
          | ((with_reducible apply sd_move hp); exact zb rfl; simp only [zp, zq, z0, z1])
          | ((with_reducible apply sd_assign hp); exact zb rfl; simp only [zp, zq, z0, z1])
          | ((with_reducible apply sd_pure hp); exact rfl; (focus (intro _; go_simp; (try go_ints); try with_reducible rfl)); simp only [zp, zq, z0, z1])
          | ((with_reducible apply sd_skip hp); exact rfl; simp only [zp, zq, z0, z1])))
      | (((with_reducible apply sd_l); exact zo rfl); (first
          | ((with_reducible apply sd_call hp); exact rfl; (focus (intro _; go_simp; try first | with_reducible rfl | exact ⟨rfl, rfl⟩)); (with_reducible first | exact fun w => C.out w | exact fun w => D2.out w | exact fun w => Sg.out w | exact fun w => Cm.out w); exact hq; clear hp hq; (try clear w1); intro w1 hp hq; simp only [zp, zq, z0, z1])
          | ((with_reducible apply sd_skip_loud hp); exact rfl; simp only [zp, zq, z0, z1])))
      | ((with_reducible apply sd_nil); clear hp; have hp := hq; clear hq))
    go_wp2
    exact bodyPost_ret (results_one rfl rfl) rfl ⟨rfl, hp.keep⟩
end Go.Proofs.Ythnpmmpcejfllaa
set_option linter.unusedSimpArgs false
set_option linter.unusedVariables false
set_option maxRecDepth 100000
namespace Go.Proofs.Ythnpmmpcejfllaa
open Go Go.RowKit

theorem fine_one (p : P3) (w : World) (g : Nat) (h : w.heap[g]? = some (.cells [.int .i64 p.x, .int .i64 p.y, .int .i64 p.z].toArray 33 (0, 0))) : Calls Try.prog 29 #[.slice (some ⟨g, 0, none⟩) 1 1] w (Ret (.bool (fineb [p])) w) :=
  fine_far [p] _ (Lib.hid rfl) (by unfold maxLen; simp) w g 0 1 _ _ h rfl
set_option maxHeartbeats 2000000 in
theorem inside3 (a b c p : P3) (hf : fineb [a, b, c] = true) (hpm : p.may) (hs : simplexb [a, b, c] = true) (w : World) (g0 off cap : Nat) (bc : List Value) (t : TypeId) {z : Nat × Nat} (hbk : w.heap[g0]? = some (.cells bc.toArray t z)) (hv : (bc.drop off).take (3 * 3) = pcs [a, b, c]) :
    Calls Try.prog 17 #[.slice (some ⟨g0, off, none⟩) 3 cap, PV p] w (Ret (.tuple #[.bool (withinb a b c p), .int .i64 0]) w) := by
  have hps : PSl w (.slice (some ⟨g0, off, none⟩) 3 cap) [a, b, c] := .inr ⟨g0, off, cap, bc, t, z, rfl, hbk, hv⟩
  have hfn : ∀ w1, Keep [] w w1 → Calls Try.prog 29 #[.slice (some ⟨g0, off, none⟩) 3 cap] w1 (Ret (.bool true) w1) := fun w1 hk => by
    rw [← hf]
    exact fine_any (by unfold maxLen; simp) w1 (hps.keep hk)
  have hsx : ∀ w1, Keep [] w w1 → Calls Try.prog 30 #[.slice (some ⟨g0, off, none⟩) 3 cap] w1 (Ret (.bool true) w1) := fun w1 hk => by
    rw [← hs]
    exact simplex_any (by unfold maxLen; simp) w1 (hps.keep hk)
  have hone : ∀ w1 g, w1.heap[g]? = some (.cells [.int .i64 p.x, .int .i64 p.y, .int .i64 p.z].toArray 33 (0, 0)) → Calls Try.prog 29 #[.slice (some ⟨g, 0, none⟩) 1 1] w1 (Ret (.bool true) w1) := fun w1 g h => by
    have := fine_one p w1 g h
    rwa [show fineb [p] = true by simp [fineb, hpm]] at this
  have hin : ∀ w1, Keep [] w w1 → Calls Try.prog 32 #[.slice (some ⟨g0, off, none⟩) 3 cap, PV p] w1 (Ret (.bool (withinb a b c p)) w1) := fun w1 hk => by
    have hlt : g0 < w.heap.size := by
      rcases Nat.lt_or_ge g0 w.heap.size with h' | h'
      · exact h'
      · rw [Array.getElem?_eq_none h'] at hbk; cases hbk
    have hl := pcs_room (ps := [a, b, c]) hv
    have hat := fun k q (h : [a, b, c][k]? = some q) => pcs_at (ps := [a, b, c]) hv h
    exact within_any a b c p (fineb_mem hf (by simp)) (fineb_mem hf (by simp)) (fineb_mem hf (by simp)) hpm _ (Lib.hid rfl) w1 g0 off cap bc t ((hk.block g0 hlt (by simp)).trans hbk) (by rcases hl with h | h; cases h; simpa using h) (hat 0 a rfl) (hat 1 b rfl) (hat 2 c rfl)
  have Hfn := Lib.hid hfn
  have Hsx := Lib.hid hsx
  have Hone := Lib.hid hone
  have Hin := Lib.hid hin
  clear hfn hsx hone hin hps hf hs hpm hbk hv
  go_enter Try.func17, Try.ntmps17
  have hp := Hp.start [] w
  go_wp2_with (first
          | ((with_reducible apply sx_box hp); exact za rfl; exact rfl; clear hp; (try clear w1); intro g w1 hp; simp only [zp, zq, z0, z1])
          | ((with_reducible apply sx_load_agg hp); exact zt rfl; infer_instance; infer_instance; (first | exact zl rfl | exact LB_le (by omega)); (first | (with_reducible exact LB_set (by omega)) | (simp only [n0, Nat.reduceAdd, n1, n2, n3, n4, n5, n6, n7, n8, n9]; try rfl)); simp only [zp, zq, z0, z1])
          | ((with_reducible apply sx_indexAddr); exact zx rfl; exact zk rfl; infer_instance; (first | exact AggTy.size | exact OneTy.size); omega; omega; ((try simp only [m0, Int.reduceToNat, m1, m2, Nat.reduceMul, Nat.reduceAdd, m3, m4, m5, n0]); exact rfl); simp only [zp, zq, z0, z1])
          | ((with_reducible apply sx_load_far hp); exact zt rfl; assumption; infer_instance; assumption; (first | exact zl rfl | omega); simp only [zp, zq, z0, z1])
          | ((with_reducible apply sx_buildSlice hp); infer_instance; (first | exact AggTy.size | exact OneTy.size); infer_instance; exact zl rfl; decide; (first | exact (rfl : _ = numbered 0 [_]) | exact (rfl : _ = numbered 0 [_, _]) | exact (rfl : _ = numbered 0 [_, _, _]) | exact (rfl : _ = numbered 0 [_, _, _, _])); exact rfl; (first | exact (rfl : _ = List.map (fun x : List Value => x.toArray) [_]) | exact (rfl : _ = List.map (fun x : List Value => x.toArray) [_, _]) | exact (rfl : _ = List.map (fun x : List Value => x.toArray) [_, _, _]) | exact (rfl : _ = List.map (fun x : List Value => x.toArray) [_, _, _, _])); (intro l hl <;> simp only [List.mem_cons, List.not_mem_nil, or_false] at hl <;> rcases hl with rfl | rfl | rfl | rfl <;> rfl); exact rfl; clear hp; (try clear w1); intro g w1 hp; simp only [zp, zq, z0, z1])
          | ((with_reducible apply sx_strip); exact rfl)
          | ((with_reducible apply sx_unwanted); exact rfl; simp only [zp, zq, z0, z1])
          | ((with_reducible refine sx_call hp (Hfn.out _ hp.keep) ?_); clear hp; (try clear w1); intro w1 hp)
          | ((with_reducible refine sx_call hp (Hone.out _ _ hp.blk) ?_); clear hp; (try clear w1); intro w1 hp)
          | ((with_reducible refine sx_call hp (Hsx.out _ hp.keep) ?_); clear hp; (try clear w1); intro w1 hp)
          | ((with_reducible refine sx_call hp (Hin.out _ hp.keep) ?_); clear hp; (try clear w1); intro w1 hp))
  exact bodyPost_ret (results_two rfl rfl rfl) rfl ⟨rfl, hp.keep⟩
end Go.Proofs.Ythnpmmpcejfllaa
set_option linter.unusedSimpArgs false
set_option linter.unusedVariables false
set_option maxRecDepth 100000
namespace Go.Proofs.Ythnpmmpcejfllaa
open Go Go.RowKit

/-! ### Volume -/
def vol (ps : List P3) : Int := match ps with
  | [a, b, c, d] => P3.det (b.sub a) (c.sub a) (d.sub a)
  | _ => 0
/-- What Volume hands back. -/
def volO (ps : List P3) : Int × Int := if fineb ps = false then (0, 7) else if ps.length = 4 then (vol ps, 0) else (0, 8)
set_option maxHeartbeats 2000000 in
theorem volume_no (ps : List P3) (e : Int) (x : Bool) (hx : fineb ps = x) (he : (x = false ∧ e = 7) ∨ (x = true ∧ e = 8 ∧ ps.length ≠ 4)) (hlen : ps.length ≤ maxLen) (w : World) (base : Option Addr) (n cap : Nat) (hn : n = ps.length) (h : PSl w (.slice base n cap) ps) :
    Calls Try.prog 22 #[.slice base n cap] w (Ret (.tuple #[W 0, .int .i64 e]) w) := by
  have hfn : ∀ w1, Keep [] w w1 → Calls Try.prog 29 #[.slice base n cap] w1 (Ret (.bool x) w1) := fun w1 hk => by
    rw [← hx]
    exact fine_any hlen w1 (h.keep hk)
  have Hfn := Lib.hid hfn
  clear hfn h hx
  rw [← hn] at he
  clear hlen hn
  rw [show W 0 = .agg #[.int .u64 0, .int .u64 0, .int .u64 0, .int .u64 0, .int .u64 0, .int .u64 0, .int .u64 0, .int .u64 0] from W_zero]
  rcases he with ⟨rfl, rfl⟩ | ⟨rfl, rfl, hl⟩
  · skip
    go_enter Try.func22, Try.ntmps22
    have hp := Hp.start [] w
    go_wp2_with (first
          | ((with_reducible apply sx_alloc hp); infer_instance; exact rfl; clear hp; (try clear w1); intro g w1 hp; simp only [zp, zq, z0, z1])
          | ((with_reducible apply sx_load_agg hp); exact zt rfl; infer_instance; infer_instance; (first | exact zl rfl | exact LB_le (by omega)); (first | (with_reducible exact LB_set (by omega)) | (simp only [n0, Nat.reduceAdd, n1, n2, n3, n4, n5, n6, n7, n8, n9]; try rfl)); simp only [zp, zq, z0, z1])
          | ((with_reducible apply sx_store hp); exact zt rfl; exact za rfl; exact rfl; (first | exact AggTy.size | exact OneTy.size); exact rfl; infer_instance; (first | (with_reducible exact LB_set (by omega)) | (simp only [n0, Nat.reduceAdd, n1, n2, n3, n4, n5, n6, n7, n8, n9]; try rfl)); (first | exact zl rfl | exact LB_le (by omega)); exact rfl; infer_instance; clear hp; (try clear w1); intro w1 hp)
          | ((with_reducible apply sx_indexAddr); exact zx rfl; exact zk rfl; infer_instance; (first | exact AggTy.size | exact OneTy.size); omega; omega; ((try simp only [m0, Int.reduceToNat, m1, m2, Nat.reduceMul, Nat.reduceAdd, m3, m4, m5, n0]); exact rfl); simp only [zp, zq, z0, z1])
          | ((with_reducible apply sx_load_far hp); exact zt rfl; assumption; infer_instance; assumption; (first | exact zl rfl | omega); simp only [zp, zq, z0, z1])
          | ((with_reducible refine sx_call hp (Hfn.out _ hp.keep) ?_); clear hp; (try clear w1); intro w1 hp))
    exact bodyPost_ret (results_two rfl ⟨_, rfl, run_load_agg hp (Nat.le_of_ble_eq_true rfl)⟩ rfl) rfl ⟨rfl, hp.keep⟩
  · have hl' : ((n : Int) != 4) = true := by simp; omega
    go_enter Try.func22, Try.ntmps22
    have hp := Hp.start [] w
    go_wp2_with (first
          | ((with_reducible apply sx_alloc hp); infer_instance; exact rfl; clear hp; (try clear w1); intro g w1 hp; simp only [zp, zq, z0, z1])
          | ((with_reducible apply sx_load_agg hp); exact zt rfl; infer_instance; infer_instance; (first | exact zl rfl | exact LB_le (by omega)); (first | (with_reducible exact LB_set (by omega)) | (simp only [n0, Nat.reduceAdd, n1, n2, n3, n4, n5, n6, n7, n8, n9]; try rfl)); simp only [zp, zq, z0, z1])
          | ((with_reducible apply sx_store hp); exact zt rfl; exact za rfl; exact rfl; (first | exact AggTy.size | exact OneTy.size); exact rfl; infer_instance; (first | (with_reducible exact LB_set (by omega)) | (simp only [n0, Nat.reduceAdd, n1, n2, n3, n4, n5, n6, n7, n8, n9]; try rfl)); (first | exact zl rfl | exact LB_le (by omega)); exact rfl; infer_instance; clear hp; (try clear w1); intro w1 hp)
          | ((with_reducible apply sx_indexAddr); exact zx rfl; exact zk rfl; infer_instance; (first | exact AggTy.size | exact OneTy.size); omega; omega; ((try simp only [m0, Int.reduceToNat, m1, m2, Nat.reduceMul, Nat.reduceAdd, m3, m4, m5, n0]); exact rfl); simp only [zp, zq, z0, z1])
          | ((with_reducible apply sx_load_far hp); exact zt rfl; assumption; infer_instance; assumption; (first | exact zl rfl | omega); simp only [zp, zq, z0, z1])
          | ((with_reducible refine sx_call hp (Hfn.out _ hp.keep) ?_); clear hp; (try clear w1); intro w1 hp))
    exact bodyPost_ret (results_two rfl ⟨_, rfl, run_load_agg hp (Nat.le_of_ble_eq_true rfl)⟩ rfl) rfl ⟨rfl, hp.keep⟩
set_option maxHeartbeats 2000000 in
theorem volume_yes (a b c p : P3) (hf : fineb [a, b, c, p] = true) (w : World) (g0 off cap : Nat) (bc : List Value) (t : TypeId) {z : Nat × Nat} (hbk : w.heap[g0]? = some (.cells bc.toArray t z)) (hl : off + 12 ≤ bc.length)
    (h0 : (bc.drop off).take 3 = [.int .i64 a.x, .int .i64 a.y, .int .i64 a.z]) (h1 : (bc.drop (off + 3)).take 3 = [.int .i64 b.x, .int .i64 b.y, .int .i64 b.z]) (h2 : (bc.drop (off + 6)).take 3 = [.int .i64 c.x, .int .i64 c.y, .int .i64 c.z]) (h3 : (bc.drop (off + 9)).take 3 = [.int .i64 p.x, .int .i64 p.y, .int .i64 p.z])
    (hfn : Hid (∀ w1, Keep [] w w1 → Calls Try.prog 29 #[.slice (some ⟨g0, off, none⟩) 4 cap] w1 (Ret (.bool true) w1))) :
    Calls Try.prog 22 #[.slice (some ⟨g0, off, none⟩) 4 cap] w (Ret (.tuple #[W (P3.det (b.sub a) (c.sub a) (p.sub a)), .int .i64 0]) w) := by
  have ha := fineb_mem hf (p := a) (by simp)
  have hb := fineb_mem hf (p := b) (by simp)
  have hc := fineb_mem hf (p := c) (by simp)
  have hp' := fineb_mem hf (p := p) (by simp)
  have L1 := Lib.hid (oless_any b a (may_sub hb ha))
  have L2 := Lib.hid (oless_any c a (may_sub hc ha))
  have L3 := Lib.hid (oless_any p a (may_sub hp' ha))
  have D := Lib.hid (det_any _ _ _ (may_sub hb ha) (may_sub hc ha) (may_sub hp' ha))
  clear ha hb hc hp' hf
  go_enter Try.func22, Try.ntmps22
  have hp := Hp.start [] w
  go_wp2_with (first
          | ((with_reducible apply sx_alloc hp); infer_instance; exact rfl; clear hp; (try clear w1); intro g w1 hp; simp only [zp, zq, z0, z1])
          | ((with_reducible apply sx_load_agg hp); exact zt rfl; infer_instance; infer_instance; (first | exact zl rfl | exact LB_le (by omega)); (first | (with_reducible exact LB_set (by omega)) | (simp only [n0, Nat.reduceAdd, n1, n2, n3, n4, n5, n6, n7, n8, n9]; try rfl)); simp only [zp, zq, z0, z1])
          | ((with_reducible apply sx_store hp); exact zt rfl; exact za rfl; exact rfl; (first | exact AggTy.size | exact OneTy.size); exact rfl; infer_instance; (first | (with_reducible exact LB_set (by omega)) | (simp only [n0, Nat.reduceAdd, n1, n2, n3, n4, n5, n6, n7, n8, n9]; try rfl)); (first | exact zl rfl | exact LB_le (by omega)); exact rfl; infer_instance; clear hp; (try clear w1); intro w1 hp)
          | ((with_reducible apply sx_indexAddr); exact zx rfl; exact zk rfl; infer_instance; (first | exact AggTy.size | exact OneTy.size); omega; omega; ((try simp only [m0, Int.reduceToNat, m1, m2, Nat.reduceMul, Nat.reduceAdd, m3, m4, m5, n0]); exact rfl); simp only [zp, zq, z0, z1])
          | ((with_reducible apply sx_load_far hp); exact zt rfl; assumption; infer_instance; assumption; (first | exact zl rfl | omega); simp only [zp, zq, z0, z1])
          | ((with_reducible refine sx_call hp (hfn.out _ hp.keep) ?_); clear hp; (try clear w1); intro w1 hp))
  have hq := hp
  have hp := hq.sub (List.nil_sublist _)
  refine wp_drawn_hp hp hq [22] (.q 0 (.q 1 (.q 2 (.q 3 (.q 4 (.q 5 (.q 7 (.q 8 (.q 9 (.q 10 (.q 11 (.q 12 (.q 14 (.q 15 (.q 16 (.q 17 (.q 18 (.q 19 (.l 6 (.l 13 (.l 20 (.l 21 (.l 22 (.q 23 .nil)))))))))))))))))))))))) (by kernel_rfl) (by kernel_rfl) ?_
  clear hp hq; (try clear w1); intro w1 hp hq
  repeat' (first
    | (((with_reducible apply sd_q); exact zo rfl); (first
        | ((with_reducible apply sd_load_agg hp); exact rfl; exact zt rfl; infer_instance; infer_instance; (first | exact zl rfl | exact LB_le (by omega)); (first | (with_reducible exact LB_set (by omega)) | (simp only [n0, Nat.reduceAdd, n1, n2, n3, n4, n5, n6, n7, n8, n9]; try rfl)); simp only [zp, zq, z0, z1])
        | ((with_reducible apply sd_load_far hp); exact rfl; exact zt rfl; assumption; infer_instance; assumption; (first | exact zl rfl | omega); simp only [zp, zq, z0, z1])
        | ((with_reducible apply sd_move hp); exact zs rfl; simp only [zp, zq, z0, z1])
        | ((with_reducible apply sd_assign hp); exact zi rfl; simp only [zp, zq, z0, z1])
        | ((with_reducible apply sd_indexAddr hp); exact rfl; exact zx rfl; exact zk rfl; infer_instance; (first | exact AggTy.size | exact OneTy.size); omega; omega; ((try simp only [m0, Int.reduceToNat, m1, m2, Nat.reduceMul, Nat.reduceAdd, m3, m4, m5, n0]); exact rfl); simp only [zp, zq, z0, z1])
        | ((with_reducible apply sd_pure hp); exact rfl; (focus (intro _; go_simp; (try go_ints); try with_reducible rfl)); simp only [zp, zq, z0, z1])))
    | (((with_reducible apply sd_l); exact zo rfl); (first
        | ((with_reducible apply sd_call hp); exact rfl; (focus (intro _; go_simp; try first | with_reducible rfl | exact ⟨rfl, rfl⟩)); (with_reducible first | exact fun w => L1.out w | exact fun w => L2.out w | exact fun w => L3.out w | exact fun w => D.out w); exact hq; clear hp hq; (try clear w1); intro w1 hp hq; simp only [zp, zq, z0, z1])
        | ((with_reducible apply sd_store_far hq); exact rfl; exact zt rfl; (first | exact za rfl | exact zu rfl | exact zi rfl | exact zb rfl | exact zr rfl | exact zs rfl | exact zf rfl | exact zg rfl | exact zn rfl | exact zv rfl | exact zw rfl); exact rfl; (first | exact AggTy.size | exact OneTy.size); exact rfl; infer_instance; (first | (with_reducible exact LB_set (by omega)) | (simp only [n0, Nat.reduceAdd, n1, n2, n3, n4, n5, n6, n7, n8, n9]; try rfl)); (first | exact zl rfl | exact LB_le (by omega)); exact rfl; infer_instance; (repeat (first | exact List.Sublist.refl _ | apply List.Sublist.cons)); clear hp hq; (try clear w1); intro w1 hp hq)
        | ((with_reducible apply sd_store hq); exact rfl; exact zt rfl; (first | exact za rfl | exact zu rfl | exact zi rfl | exact zb rfl | exact zr rfl | exact zs rfl | exact zf rfl | exact zg rfl | exact zn rfl | exact zv rfl | exact zw rfl); exact rfl; (first | exact AggTy.size | exact OneTy.size); exact rfl; infer_instance; (first | (with_reducible exact LB_set (by omega)) | (simp only [n0, Nat.reduceAdd, n1, n2, n3, n4, n5, n6, n7, n8, n9]; try rfl)); (first | exact zl rfl | exact LB_le (by omega)); exact rfl; infer_instance; exact rfl; clear hp hq; (try clear w1); intro w1 hq; have hp := True.intro)))
    | ((with_reducible apply sd_nil); clear hp; have hp := hq; clear hq))
  go_wp2
  exact bodyPost_ret (results_two rfl ⟨_, rfl, run_load_agg hp (Nat.le_of_ble_eq_true rfl)⟩ rfl) rfl ⟨rfl, hp.keep⟩
end Go.Proofs.Ythnpmmpcejfllaa
