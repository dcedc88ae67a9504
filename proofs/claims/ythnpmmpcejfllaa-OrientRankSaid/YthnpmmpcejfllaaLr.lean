/-
  ninepinlaw07.OrientRank (contract).
-/
import Derived.Test.YthnpmmpcejfllaaBl
import Derived.Test.YthnpmmpcejfllaaLm
set_option linter.unusedSimpArgs false
set_option linter.unusedVariables false
set_option maxRecDepth 100000
namespace Go.Proofs.Ythnpmmpcejfllaa
open Go Go.RowKit

theorem ISl.empty {base : Nat} {w : World} {sv : Value} (h : ISl base w sv []) : ∃ b c, sv = .slice b 0 c := by
  rcases h with ⟨rfl, _⟩ | ⟨g, cap, _, _, rfl, _⟩
  · exact ⟨none, 0, rfl⟩
  · exact ⟨_, cap, rfl⟩
theorem NSl.zero {w : World} {b : Option Addr} {c : Nat} : NSl w (.slice b 0 c) [] := ⟨b, c, rfl, fun k n h => by simp at h⟩
set_option maxHeartbeats 8000000 in
theorem ranks_core (base : Option Addr) (n cap : Nat) (r e f : Int) (sp : List Int) (hn : n ≤ 9223372036854775807) (hsp : sp.length ≤ maxLen) (w : World)
    (R1 : Hid (∀ w1, Keep [] w w1 → Calls Try.prog 12 #[.slice base n cap] w1 (Ret (.tuple #[.int .i64 r, .int .i64 e]) w1)))
    (R2 : Hid (∀ w1, Keep [] w w1 → Calls Try.prog 13 #[.slice base n cap] w1 (Ret (.tuple #[.int .i64 r, .int .i64 e]) w1)))
    (P1 : Hid (∀ w1, Keep [] w w1 → Calls Try.prog 14 #[.slice base n cap] w1 (RetI sp (fun sv => .tuple #[sv, .int .i64 f]) w1)))
    (P2 : Hid (∀ w1, Keep [] w w1 → Calls Try.prog 15 #[.slice base n cap] w1 (RetI sp (fun sv => .tuple #[sv, .int .i64 f]) w1))) :
    Calls Try.prog 3 #[.slice base n cap] w (Ret (.bool true) w) := by
  have hlong : (¬ (12 : Int) < n ∧ ¬ (300 : Int) < n) ∨ ((12 : Int) < n ∧ (n : Int) ≤ 256) ∨ ((12 : Int) < n ∧ ¬ (n : Int) ≤ 256 ∧ (300 : Int) < n) ∨ ((12 : Int) < n ∧ ¬ (n : Int) ≤ 256 ∧ ¬ (300 : Int) < n) := by omega
  rcases hlong with ⟨h1, h2⟩ | ⟨h1, h2⟩ | ⟨h1, h2, h3⟩ | ⟨h1, h2, h3⟩
  · by_cases hsp0 : sp = []
    · subst hsp0
      go_enter Try.func3, Try.ntmps3
      have hp := Hp.start [] w
      go_wp2_with (first
          | ((with_reducible refine sx_call hp (awake7 _) ?_); clear hp; (try clear w1); intro w1 hp)
          | ((with_reducible refine sx_call hp (R1.out _ hp.keep) ?_); clear hp; (try clear w1); intro w1 hp)
          | ((with_reducible refine sx_call hp (R2.out _ hp.keep) ?_); clear hp; (try clear w1); intro w1 hp)
          | ((with_reducible refine Calls.mono (P1.out _ hp.keep) ?_); rintro e' w2 ⟨sv, rfl, hk2, hI2⟩; obtain ⟨b', c', rfl⟩ := hI2.empty; have hp2 := hp.call hk2; clear hp; have hp := hp2; clear hp2)
          | ((with_reducible refine Calls.mono (P2.out _ hp.keep) ?_); rintro e' w2 ⟨sv, rfl, hk2, hI2⟩; obtain ⟨b', c', rfl⟩ := hI2.empty; have hp2 := hp.call hk2; clear hp; have hp := hp2; clear hp2)
          | ((with_reducible refine sx_call hp (same_eq [] (by unfold maxLen; simp) _ _ _ NSl.zero NSl.zero) ?_); clear hp; (try clear w1); intro w1 hp)
          | ((with_reducible apply sx_strip); exact rfl)
          | ((with_reducible apply sx_unwanted); exact rfl; simp only [zp, zq, z0, z1]))
      exact bodyPost_ret (results_one rfl rfl) rfl ⟨rfl, hp.keep⟩
    · skip
      go_enter Try.func3, Try.ntmps3
      have hp := Hp.start [] w
      go_wp2_with (first
          | ((with_reducible refine sx_call hp (awake7 _) ?_); clear hp; (try clear w1); intro w1 hp)
          | ((with_reducible refine sx_call hp (R1.out _ hp.keep) ?_); clear hp; (try clear w1); intro w1 hp)
          | ((with_reducible refine sx_call hp (R2.out _ hp.keep) ?_); clear hp; (try clear w1); intro w1 hp)
          | ((with_reducible refine Calls.mono (P1.out _ hp.keep) ?_); rintro e' w2 ⟨sv, rfl, hk2, hI2⟩; rcases hp.ofI hk2 hI2 with ⟨_, hnil, _⟩ | ⟨g, co, jo, rfl, hp⟩; (exact absurd hnil hsp0))
          | ((with_reducible refine Calls.mono (P2.out _ hp.keep) ?_); rintro e' w2 ⟨sv, rfl, hk2, hI2⟩; rcases hp.ofI hk2 hI2 with ⟨_, hnil, _⟩ | ⟨g, co, jo, rfl, hp⟩; (exact absurd hnil hsp0))
          | ((with_reducible refine sx_call hp (same_eq sp hsp _ _ _ (NSl.of hp.blk) (NSl.of hp.blk)) ?_); clear hp; (try clear w1); intro w1 hp)
          | ((with_reducible apply sx_strip); exact rfl)
          | ((with_reducible apply sx_unwanted); exact rfl; simp only [zp, zq, z0, z1]))
      exact bodyPost_ret (results_one rfl rfl) rfl ⟨rfl, hp.keep⟩
  · skip
    go_enter Try.func3, Try.ntmps3
    have hp := Hp.start [] w
    go_wp2_with (first
          | ((with_reducible refine sx_call hp (awake7 _) ?_); clear hp; (try clear w1); intro w1 hp)
          | ((with_reducible apply sx_strip); exact rfl)
          | ((with_reducible apply sx_unwanted); exact rfl; simp only [zp, zq, z0, z1]))
    exact bodyPost_ret (results_one rfl rfl) rfl ⟨rfl, hp.keep⟩
  · skip
    go_enter Try.func3, Try.ntmps3
    have hp := Hp.start [] w
    go_wp2_with (first
          | ((with_reducible refine sx_call hp (awake7 _) ?_); clear hp; (try clear w1); intro w1 hp)
          | ((with_reducible apply sx_strip); exact rfl)
          | ((with_reducible apply sx_unwanted); exact rfl; simp only [zp, zq, z0, z1]))
    exact bodyPost_ret (results_one rfl rfl) rfl ⟨rfl, hp.keep⟩
  · by_cases hsp0 : sp = []
    · subst hsp0
      go_enter Try.func3, Try.ntmps3
      have hp := Hp.start [] w
      go_wp2_with (first
          | ((with_reducible refine sx_call hp (awake7 _) ?_); clear hp; (try clear w1); intro w1 hp)
          | ((with_reducible refine sx_call hp (R1.out _ hp.keep) ?_); clear hp; (try clear w1); intro w1 hp)
          | ((with_reducible refine sx_call hp (R2.out _ hp.keep) ?_); clear hp; (try clear w1); intro w1 hp)
          | ((with_reducible refine Calls.mono (P1.out _ hp.keep) ?_); rintro e' w2 ⟨sv, rfl, hk2, hI2⟩; obtain ⟨b', c', rfl⟩ := hI2.empty; have hp2 := hp.call hk2; clear hp; have hp := hp2; clear hp2)
          | ((with_reducible refine Calls.mono (P2.out _ hp.keep) ?_); rintro e' w2 ⟨sv, rfl, hk2, hI2⟩; obtain ⟨b', c', rfl⟩ := hI2.empty; have hp2 := hp.call hk2; clear hp; have hp := hp2; clear hp2)
          | ((with_reducible refine sx_call hp (same_eq [] (by unfold maxLen; simp) _ _ _ NSl.zero NSl.zero) ?_); clear hp; (try clear w1); intro w1 hp)
          | ((with_reducible apply sx_strip); exact rfl)
          | ((with_reducible apply sx_unwanted); exact rfl; simp only [zp, zq, z0, z1]))
      exact bodyPost_ret (results_one rfl rfl) rfl ⟨rfl, hp.keep⟩
    · skip
      go_enter Try.func3, Try.ntmps3
      have hp := Hp.start [] w
      go_wp2_with (first
          | ((with_reducible refine sx_call hp (awake7 _) ?_); clear hp; (try clear w1); intro w1 hp)
          | ((with_reducible refine sx_call hp (R1.out _ hp.keep) ?_); clear hp; (try clear w1); intro w1 hp)
          | ((with_reducible refine sx_call hp (R2.out _ hp.keep) ?_); clear hp; (try clear w1); intro w1 hp)
          | ((with_reducible refine Calls.mono (P1.out _ hp.keep) ?_); rintro e' w2 ⟨sv, rfl, hk2, hI2⟩; rcases hp.ofI hk2 hI2 with ⟨_, hnil, _⟩ | ⟨g, co, jo, rfl, hp⟩; (exact absurd hnil hsp0))
          | ((with_reducible refine Calls.mono (P2.out _ hp.keep) ?_); rintro e' w2 ⟨sv, rfl, hk2, hI2⟩; rcases hp.ofI hk2 hI2 with ⟨_, hnil, _⟩ | ⟨g, co, jo, rfl, hp⟩; (exact absurd hnil hsp0))
          | ((with_reducible refine sx_call hp (same_eq sp hsp _ _ _ (NSl.of hp.blk) (NSl.of hp.blk)) ?_); clear hp; (try clear w1); intro w1 hp)
          | ((with_reducible apply sx_strip); exact rfl)
          | ((with_reducible apply sx_unwanted); exact rfl; simp only [zp, zq, z0, z1]))
      exact bodyPost_ret (results_one rfl rfl) rfl ⟨rfl, hp.keep⟩
theorem ranks_law {v : Value} {w : World} (ps : List P3) (hlen : ps.length ≤ maxLen) (_ : ∀ q ∈ ps, q.i64) (h : PSl w v ps) : Calls Try.prog 3 #[v] w (Ret (.bool true) w) := by
  obtain ⟨base, cap, rfl⟩ : ∃ base cap, v = .slice base ps.length cap := by
    rcases h with ⟨rfl, rfl⟩ | ⟨g, off, cap, _, _, _, rfl, _⟩
    · exact ⟨none, 0, rfl⟩
    · exact ⟨_, cap, rfl⟩
  have hl := spread_len ps
  refine ranks_core base _ cap (rankO ps).1 (rankO ps).2 (spreadO ps).2 (spreadO ps).1 (by unfold maxLen at hlen; omega) (by unfold maxLen; omega) w (Lib.hid fun w1 hk => rank_any hlen w1 (h.keep hk)) (Lib.hid fun w1 hk => rrank_any hlen w1 (h.keep hk)) (Lib.hid fun w1 hk => spread_any hlen w1 (h.keep hk)) (Lib.hid fun w1 hk => rspread_any hlen w1 (h.keep hk))
end Go.Proofs.Ythnpmmpcejfllaa
