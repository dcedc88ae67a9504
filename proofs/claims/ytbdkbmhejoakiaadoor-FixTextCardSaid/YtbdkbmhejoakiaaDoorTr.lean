/-
  FixText: the law.
-/
import Derived.Test.YtbdkbmhejoakiaaDoorTo
set_option linter.unusedSimpArgs false
set_option linter.unusedVariables false
set_option maxRecDepth 100000
namespace Go.Proofs.YtbdkbmhejoakiaaDoor
open Go Go.RowKit
attribute [local irreducible] wpList

set_option maxHeartbeats 4000000 in
theorem ftext_core (a c f : Int) (s t : ByteArray) (w : World) (hE : Env w) (T1 : Hid (∀ w, Env w → Calls Tryd.prog 12 #[.int .i64 a] w (Ret (.string t) w))) (T2 : Hid (∀ w, Calls Tryd.prog 13 #[.int .i64 a] w (Ret (.string t) w)))
    (P1 : Hid (∀ w, Env w → Calls Tryd.prog 10 #[.string s] w (Ret (.tuple #[.int .i64 c, .int .i64 f]) w))) (P2 : Hid (∀ w, Calls Tryd.prog 11 #[.string s] w (Ret (.tuple #[.int .i64 c, .int .i64 f]) w))) :
    Calls Tryd.prog 3 #[.int .i64 a, .string s] w (Ret (.bool true) w) := by
  have HE := Lib.hid hE
  clear hE
  have zq : (t.toList == t.toList) = true := beq_self_eq_true _
  have z0 : (c == c) = true := beq_self_eq_true _
  have z1 : (f == f) = true := beq_self_eq_true _
  go_enter Tryd.func3, Tryd.ntmps3
  have hp := Hp.start [] w
  go_wp2_with (first
          | ((with_reducible apply sx_guard); (conv => whnf); refine Bx.mk ?_; (try simp only [zq, z0, z1]))
          | ((with_reducible first | refine sx_call hp (P2.out _) ?_ | refine sx_call hp (T2.out _) ?_ | refine sx_call hp (awake2 _) ?_); clear hp; (try clear w1); intro w1 hp)
          | ((with_reducible refine sx_call hp (T1.out _ (HE.out.keep hp.keep)) ?_); clear hp; (try clear w1); intro w1 hp)
          | ((with_reducible refine sx_call hp (P1.out _ (HE.out.keep hp.keep)) ?_); clear hp; (try clear w1); intro w1 hp))
  exact bodyPost_ret (results_one rfl rfl) rfl ⟨rfl, hp.keep⟩
theorem ftext_law (a : Int) (ha : I64 a) (s : ByteArray) (hs : s.size ≤ 140737488355328) (w : World) (hE : Env w) : Calls Tryd.prog 3 #[.int .i64 a, .string s] w (Ret (.bool true) w) := by
  have R := rparse_any s hs
  rw [parse_ref] at R
  exact ftext_core a _ _ s _ w hE (Lib.hid (text_any a ha)) (Lib.hid (rtext_any a ha)) (Lib.hid (fparse_any s hs)) (Lib.hid R)
end Go.Proofs.YtbdkbmhejoakiaaDoor
