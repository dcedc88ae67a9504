/-
  fix.Parse at one text; ninepinlaw02.awake (contracts).
-/
import Derived.Test.YtbdkbmhejoakiaaDoorTb
set_option linter.unusedSimpArgs false
set_option linter.unusedVariables false
set_option maxRecDepth 100000
namespace Go.Proofs.YtbdkbmhejoakiaaDoor
open Go Go.RowKit
attribute [local irreducible] wpList

theorem or_a : wrap64 (bits BinOp.or IntKind.u64 4294967296 8) = 4294967304 := by kernel_rfl
theorem text_a2 (w : World) : Calls Tryd.prog 12 #[.int .i64 (wrap64 (bits BinOp.or IntKind.u64 4294967296 8))] w (Ret (.string { data := #[49, 46, 48, 48, 48, 48, 48, 48, 48, 56] }) w) := by
  rw [or_a]
  exact text_a w
set_option maxHeartbeats 4000000 in
theorem fparse_form (w : World) : Calls Tryd.prog 10 #[.string { data := #[49, 46, 56] }] w (Ret (.tuple #[.int .i64 0, .int .i64 6]) w) := by
  go_enter Tryd.func10, Tryd.ntmps10
  have hp := Hp.start [] w
  go_wp2_with (first
          | ((with_reducible apply sx_guard); (conv => whnf); refine Bx.mk ?_; (try simp only [zp, zq, z0, z1]))
          | ((with_reducible first | refine sx_call hp (fcutpre _) ?_ | refine sx_call hp (fcut _) ?_ | refine sx_call hp (fparse_1 _) ?_ | refine sx_call hp (fparse_8 _) ?_ | refine sx_call hp (text_a2 _) ?_); clear hp; (try clear w1); intro w1 hp))
  exact bodyPost_ret (results_two rfl rfl rfl) rfl ⟨rfl, hp.keep⟩
set_option maxHeartbeats 8000000 in
theorem awake2 (w : World) : Calls Tryd.prog 14 #[] w (Ret (.bool true) w) := by
  have O3 : Hid (∀ w, Calls Tryd.prog 16 #[.int .i64 3] w (Ret (.int .i64 12884901888) w)) := Lib.hid fun w => by
    have := fof_any 3 (by unfold I64; omega) w
    rwa [show ofv 3 = 12884901888 by decide] at this
  have M1 : Hid (∀ w, Calls Tryd.prog 17 #[.int .i64 1, .int .i64 1] w (Ret (.int .i64 0) w)) := Lib.hid fun w => by
    have := fmul_any 1 1 (by unfold I64; omega) (by unfold I64; omega) w
    rwa [show cl (1 * 1 / 4294967296) = 0 by decide] at this
  have M2 : Hid (∀ w, Calls Tryd.prog 18 #[.int .i64 1, .int .i64 1] w (Ret (.int .i64 1) w)) := Lib.hid fun w => by
    have := fmulup_any 1 1 (by unfold I64; omega) (by unfold I64; omega) w
    rwa [show mulU 1 1 = 1 by decide] at this
  have M3 : Hid (∀ w, Calls Tryd.prog 17 #[.int .i64 (-1), .int .i64 1] w (Ret (.int .i64 (-1)) w)) := Lib.hid fun w => by
    have := fmul_any (-1) 1 (by unfold I64; omega) (by unfold I64; omega) w
    rwa [show cl (-1 * 1 / 4294967296) = -1 by decide] at this
  have D1 : Hid (∀ w, Calls Tryd.prog 19 #[.int .i64 4294967296, .int .i64 12884901888] w (Ret (.int .i64 1431655765) w)) := Lib.hid fun w => by
    have := fdiv_any 4294967296 12884901888 (by unfold I64; omega) (by unfold I64; omega) w
    rwa [show dq 4294967296 12884901888 = 1431655765 by decide] at this
  have B1 := text_b
  have P1 := fparse_form
  go_enter Tryd.func14, Tryd.ntmps14
  have hp := Hp.start [] w
  go_wp2_with (first
          | ((with_reducible apply sx_guard); (conv => whnf); refine Bx.mk ?_; (try simp only [zp, zq, z0, z1]))
          | ((with_reducible first | refine sx_call hp (P1 _) ?_ | refine sx_call hp (O3.out _) ?_ | refine sx_call hp (M1.out _) ?_ | refine sx_call hp (M2.out _) ?_ | refine sx_call hp (M3.out _) ?_ | refine sx_call hp (D1.out _) ?_ | refine sx_call hp (B1 _) ?_); clear hp; (try clear w1); intro w1 hp))
  exact bodyPost_ret (results_one rfl rfl) rfl ⟨rfl, hp.keep⟩
end Go.Proofs.YtbdkbmhejoakiaaDoor
