/-
  ninepinlaw07.OrientFaces: at every input (contract).
-/
import Derived.Test.YthnpmmpcejfllaaLf
set_option linter.unusedSimpArgs false
set_option linter.unusedVariables false
set_option maxRecDepth 100000
namespace Go.Proofs.Ythnpmmpcejfllaa
open Go Go.RowKit

theorem faces_law {v : Value} {w : World} (ps : List P3) (hlen : ps.length ≤ maxLen) (_ : ∀ q ∈ ps, q.i64) (h : PSl w v ps) (p : P3) (_ : p.i64) : Calls Try.prog 7 #[v, PV p] w (Ret (.bool true) w) := by
  have Hi : ∀ w1, Keep [] w w1 → Calls Try.prog 17 #[v, PV p] w1 (Ret (.tuple #[.bool (insideO ps p).1, .int .i64 (insideO ps p).2]) w1) := fun w1 hk => inside_any ps p _ hlen w1 (h.keep hk)
  by_cases he : (insideO ps p).2 = 0
  · have hall : fineb ps = true ∧ p.may ∧ simplexb ps = true := by
      unfold insideO at he
      split at he
      · cases he
      · rename_i hfm
        split at he
        · cases he
        · rename_i hs
          have h1 : fineb ps = true := by
            by_cases hf : fineb ps = true
            · exact hf
            · exact absurd (.inl (by simpa using hf)) hfm
          have h2 : p.may := by
            by_cases hm : p.may
            · exact hm
            · exact absurd (.inr hm) hfm
          exact ⟨h1, h2, by simpa using hs⟩
    obtain ⟨hf, hm, hs⟩ := hall
    obtain ⟨_, h1, h4, _⟩ := simplex_raised hs
    rw [he] at Hi
    have h' := h
    rcases h with ⟨rfl, rfl⟩ | ⟨g0, off, cap, bc, t, z, rfl, hb, hv⟩
    · simp at h1
    · refine faces_core ps ps.length (Lib.hid rfl) (by omega) h4 p _ (Lib.hid fun q hq => fineb_mem hf hq) g0 off cap w bc t hb (Lib.hid hv) (Lib.hid Hi) (Lib.hid fun q hq w1 hk => ?_) (Lib.hid fun i hi => ?_) (Lib.hid fun a ha b hb' x y z hx hy hz w1 hk => ?_)
      · have := inside_any ps q _ hlen w1 (h'.keep hk)
        rwa [faces_vertex hs hq] at this
      · refine ⟨_, _, ?_, fun w1 v1 hp1 => inside_any (fc ps i ps.length) p v1 (Nat.le_trans (fc_len _ _ _) hlen) w1 hp1⟩
        by_cases h2 : 2 ≤ ps.length
        · obtain ⟨hz, hc⟩ := faces_face hs hm i hi h2
          obtain ⟨_, hfl⟩ := face_raised (simplex_raised hs).2.2.2 h2 h4 i hi
          refine .inr ⟨by omega, hz, ?_⟩
          cases hcc : (insideO (fc ps i ps.length) p).1 with
          | true => exact .inl ⟨rfl, hc hcc⟩
          | false => exact .inr rfl
        · left
          have hn : ps.length = 1 := by omega
          have hi0 : i = 0 := by omega
          have hnil : fc ps i ps.length = [] := by
            rw [hn, hi0]
            rfl
          rw [hnil]
          refine ⟨rfl, ?_⟩
          unfold insideO
          rw [if_neg (by simp [hm, fineb]), if_pos (by simp [simplexb])]
      · have := inside_any ps ⟨x, y, z⟩ _ hlen w1 (h'.keep hk)
        rwa [faces_mid hs ha hb' hx hy hz] at this
  · have hc : (insideO ps p).1 = false := by
      unfold insideO at he ⊢
      split
      · rfl
      · rename_i h1
        rw [if_neg h1] at he
        split
        · rfl
        · rename_i h2
          rw [if_neg h2] at he
          exact absurd rfl he
    rw [hc] at Hi
    exact faces_bad v p _ (by simpa using he) w (Lib.hid Hi)
end Go.Proofs.Ythnpmmpcejfllaa
