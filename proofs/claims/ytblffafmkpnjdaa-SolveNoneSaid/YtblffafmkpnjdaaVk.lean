/-
  Package vec: Scale, Move, Unit (contracts).
  Package vec: Unit (contract).
  Package vec: Near (contract).
-/
import Derived.Test.YtblffafmkpnjdaaVh
set_option linter.unusedSimpArgs false
set_option linter.unusedVariables false
set_option maxRecDepth 100000
namespace Go.Proofs.Ytblffafmkpnjdaa
open Go Go.RowKit
attribute [local irreducible] wpList

theorem Keep.blk {w w1 : World} {g : Nat} {o : Obj} (hk : Keep [] w w1) (h : w.heap[g]? = some o) : w1.heap[g]? = some o := by
  have hlt : g < w.heap.size := by
    rcases Nat.lt_or_ge g w.heap.size with h' | h'
    · exact h'
    · rw [Array.getElem?_eq_none h'] at h; cases h
  exact (hk.block g hlt (by simp)).trans h
set_option maxHeartbeats 1000000 in
theorem scale1_any (x y k : Int) (hx : I64 x) (hk : I64 k) (w : World) (g : Nat) (t : TypeId) (z : Nat × Nat) (hb : w.heap[g]? = some (.cells [Value.int .i64 k].toArray t z)) :
    Calls Try.prog 80 #[.int .i64 x, .int .i64 y, .pointer (some ⟨g, 0, none⟩)] w (Ret (.int .i64 (cl (x * k / 4294967296))) w) := by
  have M1 := Lib.hid (fmul_any x k hx hk)
  clear hx hk
  generalize cl (x * k / 4294967296) = r at *
  go_enter Try.func80, Try.ntmps80
  have hp := Hp.start [] w
  go_wp2_with (first
          | ((with_reducible apply sx_load_one hp); exact zt rfl; infer_instance; infer_instance; (first | exact zio rfl | exact LB_get (by omega) | assumption); simp only [zp, zq, z0, z1])
          | ((with_reducible refine sx_call hp (M1.out _) ?_); clear hp; (try clear w1); intro w1 hp)
          | ((with_reducible apply sx_load_far1 hp); exact zt rfl; assumption; infer_instance; exact zio rfl; simp only [zp, zq, z0, z1]))
  exact bodyPost_ret (results_one rfl rfl) rfl ⟨rfl, hp.keep⟩
set_option maxHeartbeats 1000000 in
theorem vscale_any (a : P3) (k : Int) (ha : a.i64) (hk : I64 k) (w : World) : Calls Try.prog 49 #[PV a, .int .i64 k] w (Ret (PV (a.cscale k)) w) := by
  have ES : Hid (∀ (w : World) (g : Nat), w.heap[g]? = some (.cells [Value.int .i64 k].toArray 29 (0, 0)) → Calls Try.prog 41 #[PV a, PV a, .func (.func 80) #[] #[.pointer (some ⟨g, 0, none⟩)]] w (Ret (.agg #[.int .i64 (cl (a.x * k / 4294967296)), .int .i64 (cl (a.y * k / 4294967296)), .int .i64 (cl (a.z * k / 4294967296))]) w)) := Lib.hid fun w g hb =>
    each1 80 (fun args w => by go_simp) _ a a _ _ _ w (Lib.hid fun w1 h1 => scale1_any a.x a.x k ha.1 hk w1 g _ _ (h1.blk hb)) (Lib.hid fun w1 h1 => scale1_any a.y a.y k ha.2.1 hk w1 g _ _ (h1.blk hb)) (Lib.hid fun w1 h1 => scale1_any a.z a.z k ha.2.2 hk w1 g _ _ (h1.blk hb))
  clear ha hk
  unfold P3.cscale
  generalize cl (a.x * k / 4294967296) = p at *
  generalize cl (a.y * k / 4294967296) = q at *
  generalize cl (a.z * k / 4294967296) = r at *
  go_enter Try.func49, Try.ntmps49
  have hp := Hp.start [] w
  go_wp2_with (first
          | ((with_reducible apply sx_box hp); (first | exact za rfl | exact zi rfl); exact rfl; clear hp; (try clear w1); intro g w1 hp; simp only [zp, zq, z0, z1])
          | ((with_reducible apply sx_alloc hp); infer_instance; exact rfl; clear hp; (try clear w1); intro g w1 hp; simp only [zp, zq, z0, z1])
          | ((with_reducible apply sx_load_agg hp); exact zt rfl; infer_instance; infer_instance; (first | exact zl rfl | exact LB_le (by omega)); (first | (with_reducible exact LB_set (by omega)) | (simp only [n0, Nat.reduceAdd, n1, n2, n3, n4, n5, n6, n7, n8, n9]; try rfl)); simp only [zp, zq, z0, z1])
          | ((with_reducible apply sx_store hp); exact zt rfl; exact za rfl; exact rfl; (first | exact AggTy.size | exact OneTy.size); exact rfl; infer_instance; (first | (with_reducible exact LB_set (by omega)) | (simp only [n0, Nat.reduceAdd, n1, n2, n3, n4, n5, n6, n7, n8, n9]; try rfl)); (first | exact zl rfl | exact LB_le (by omega)); exact rfl; infer_instance; clear hp; (try clear w1); intro w1 hp)
          | ((with_reducible refine sx_call hp (ES.out _ _ hp.blk) ?_); clear hp; (try clear w1); intro w1 hp))
  exact bodyPost_ret (results_one rfl ⟨_, rfl, run_load_agg hp (Nat.le_of_ble_eq_true rfl)⟩) rfl ⟨rfl, hp.keep⟩
end Go.Proofs.Ytblffafmkpnjdaa
set_option linter.unusedSimpArgs false
set_option linter.unusedVariables false
set_option maxRecDepth 100000
namespace Go.Proofs.Ytblffafmkpnjdaa
open Go Go.RowKit
attribute [local irreducible] wpList

theorem rtUp_nonneg (n : Int) : 0 ≤ rtUp n := by
  have := rt_nonneg n
  unfold rtUp
  split <;> omega
theorem rtUp_sq {R : Int} (h : 0 ≤ R) : rtUp (R * R) = R := by
  have e : rt (R * R) = R := rt_uniq h (by omega) (by have : (R + 1) * (R + 1) = R * R + 2 * R + 1 := by grind
                                                      omega)
  unfold rtUp
  rw [e, if_pos rfl]
theorem rtUp_next {R m : Int} (h : 0 ≤ R) (h1 : R * R < m) (h2 : m ≤ (R + 1) * (R + 1)) : rtUp m = R + 1 := by
  by_cases he : m = (R + 1) * (R + 1)
  · rw [he]
    exact rtUp_sq (by omega)
  · have e : rt m = R := rt_uniq h (by omega) (by omega)
    unfold rtUp
    rw [e, if_neg (by omega)]
/-- The document's way and the program's to a root of a quotient, rounded up, are one. -/
theorem unit_root {n s : Int} (h0 : 0 ≤ n) (hs : 0 < s) : rtUp (if n % s = 0 then n / s else n / s + 1) = if rt (n / s) * rt (n / s) * s = n then rt (n / s) else rt (n / s) + 1 := by
  have hq : 0 ≤ n / s := Int.ediv_nonneg h0 (Int.le_of_lt hs)
  obtain ⟨h1, h2⟩ := rt_spec hq
  have hR := rt_nonneg (n / s)
  have hd := Int.mul_ediv_add_emod n s
  have hm0 := Int.emod_nonneg n (show s ≠ 0 by omega)
  have hm1 := Int.emod_lt_of_pos n hs
  generalize rt (n / s) = R at *
  generalize n / s = q at *
  generalize n % s = r at *
  by_cases he : R * R * s = n
  · rw [if_pos he]
    have h3 : s * (R * R) = s * q + r := by rw [hd, Int.mul_comm]; exact he
    have h4 : q = R * R := by
      by_cases h5 : q = R * R
      · exact h5
      · exfalso
        have h6 := Int.mul_le_mul_of_nonneg_left (show R * R + 1 ≤ q by omega) (Int.le_of_lt hs)
        rw [Int.mul_add, Int.mul_one] at h6
        omega
    have h5 : r = 0 := by rw [h4] at h3; omega
    rw [if_pos h5, h4]
    exact rtUp_sq hR
  · rw [if_neg he]
    by_cases hr : r = 0
    · rw [if_pos hr]
      refine rtUp_next hR ?_ (by omega)
      by_cases h5 : q = R * R
      · exfalso
        apply he
        rw [← h5, Int.mul_comm]
        omega
      · omega
    · rw [if_neg hr]
      exact rtUp_next hR (by omega) (by omega)
end Go.Proofs.Ytblffafmkpnjdaa
set_option linter.unusedSimpArgs false
set_option linter.unusedVariables false
set_option maxRecDepth 100000
namespace Go.Proofs.Ytblffafmkpnjdaa
open Go Go.RowKit
attribute [local irreducible] wpList

section
variable {P : Program} {ops : Array Oper} {Q : Exit → Act → World → Prop} {N : List Nat} {X : List Nat} {w0 w : World} {H Hq : List Bk} {a : Act} {i : Nat} {rest : Sc}
variable {d : Tmp} {tp : TypeId} {pos : String} {af : Array Edge} {gd : Option (Nat × Bool)}
/-- A call of which it is told what holds behind it. -/
theorem sd_callS {c : Call} {f : FuncId} {args : Array Value} {v : Value} {T : World → Prop} (hw : Region.wanted ⟨some d, .call c, tp, pos, af, gd⟩ (yielded ops a.tmps) = true)
    (he : ∀ w, (execOp a.eval ⟨some d, .call c, tp, pos, af, gd⟩).run P w = .ok (.enter f args) w) (hc : Calls P f args w (fun e w1 => e = .returned v ∧ T w1)) (hT : ∀ w1, T w1 → Hp X w0 H w1)
    (hk : ∀ w1, T w1 → wpSched P ops Q (Hp X w0 H) N rest (a.put (some d) v) w1) : wpL P ops Q (Hp X w0 H) N i rest ⟨some d, .call c, tp, pos, af, gd⟩ a w := by
  refine sd_loud hw ?_
  unfold Oper.wp
  simp only [he, Oper.upon]
  exact hc.mono fun e w1 ⟨he, hw1⟩ => by subst he; exact ⟨fun _ => hT _ hw1, hk _ hw1⟩
theorem sx_callS {f : FuncId} {args : Array Value} {v : Value} {T : World → Prop} {R : Ending → World → Prop} (hc : Calls P f args w (fun e w1 => e = .returned v ∧ T w1)) (hk : ∀ w1, T w1 → R (.returned v) w1) : Calls P f args w R :=
  hc.mono fun e w1 ⟨he, hw1⟩ => by subst he; exact hk _ hw1
end
theorem pm31 {α : Type} {x y z a : α} {r : List α} : (x :: y :: z :: a :: r).Perm (a :: x :: y :: z :: r) := List.perm_middle (l₁ := [x, y, z])
section
variable {X : List Nat} {w0 : World}

end

end Go.Proofs.Ytblffafmkpnjdaa
