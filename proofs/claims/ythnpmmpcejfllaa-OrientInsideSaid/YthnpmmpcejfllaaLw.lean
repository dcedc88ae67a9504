/-
  ninepinlaw07.OrientSide (contract).
-/
import Derived.Test.YthnpmmpcejfllaaBi
import Derived.Test.YthnpmmpcejfllaaLa
set_option linter.unusedSimpArgs false
set_option linter.unusedVariables false
set_option maxRecDepth 100000
namespace Go.Proofs.Ythnpmmpcejfllaa
open Go Go.RowKit

theorem one_to_four2 {ps : List P3} (h1 : 1 ≤ ps.length) (h4 : ps.length ≤ 4) : (∃ a, ps = [a]) ∨ (∃ a b, ps = [a, b]) ∨ (∃ a b c, ps = [a, b, c]) ∨ (∃ a b c d, ps = [a, b, c, d]) := by
  match ps, h1, h4 with
  | [a], _, _ => exact .inl ⟨a, rfl⟩
  | [a, b], _, _ => exact .inr (.inl ⟨a, b, rfl⟩)
  | [a, b, c], _, _ => exact .inr (.inr (.inl ⟨a, b, c, rfl⟩))
  | [a, b, c, d], _, _ => exact .inr (.inr (.inr ⟨a, b, c, d, rfl⟩))
  | _ :: _ :: _ :: _ :: _ :: _, _, h4 => simp at h4
theorem lvolume_any (ps : List P3) (hlen : ps.length ≤ maxLen) (w : World) (base : Option Addr) (n cap : Nat) (hn : n = ps.length) (h : PSl w (.slice base n cap) ps) : Calls Try.prog 22 #[.slice base n cap] w (Ret (.tuple #[W (volO ps).1, .int .i64 (volO ps).2]) w) := by
  unfold volO
  by_cases hf : fineb ps = true
  · rw [if_neg (by rw [hf]; simp)]
    by_cases h4 : ps.length = 4
    · rw [if_pos h4]
      have h' := h
      rcases h with ⟨h0, rfl⟩ | ⟨g0, off, cap', bc, t, z, he, hb, hv⟩
      · cases h4
      · cases he
        have hroom := pcs_room hv
        have hat := fun (k : Nat) (q : P3) (hk : ps[k]? = some q) => pcs_at hv hk
        obtain ⟨a, rfl⟩ | ⟨a, b, rfl⟩ | ⟨a, b, c, rfl⟩ | ⟨a, b, c, d, rfl⟩ := one_to_four2 (ps := ps) (by omega) (by omega)
        · cases h4
        · cases h4
        · cases h4
        · exact volume_yes a b c d hf w g0 off cap bc t hb (by simpa using hroom) (hat 0 a rfl) (hat 1 b rfl) (hat 2 c rfl) (hat 3 d rfl) (Lib.hid fun w1 hk => by
            have := fine_any hlen w1 (h'.keep hk)
            rwa [hf] at this)
    · rw [if_neg h4]
      exact volume_no ps 8 true hf (.inr ⟨rfl, rfl, h4⟩) hlen w base n cap hn h
  · have hf' : fineb ps = false := by simpa using hf
    rw [if_pos hf']
    exact volume_no ps 7 false hf' (.inl ⟨rfl, rfl⟩) hlen w base n cap hn h
theorem lrvolume_any (ps : List P3) (hlen : ps.length ≤ maxLen) (w : World) (base : Option Addr) (n cap : Nat) (hn : n = ps.length) (h : PSl w (.slice base n cap) ps) : Calls Try.prog 23 #[.slice base n cap] w (Ret (.tuple #[W (volO ps).1, .int .i64 (volO ps).2]) w) := by
  unfold volO
  by_cases hf : fineb ps = true
  · rw [if_neg (by rw [hf]; simp)]
    by_cases h4 : ps.length = 4
    · rw [if_pos h4]
      have h' := h
      rcases h with ⟨h0, rfl⟩ | ⟨g0, off, cap', bc, t, z, he, hb, hv⟩
      · cases h4
      · cases he
        have hroom := pcs_room hv
        have hat := fun (k : Nat) (q : P3) (hk : ps[k]? = some q) => pcs_at hv hk
        obtain ⟨a, rfl⟩ | ⟨a, b, rfl⟩ | ⟨a, b, c, rfl⟩ | ⟨a, b, c, d, rfl⟩ := one_to_four2 (ps := ps) (by omega) (by omega)
        · cases h4
        · cases h4
        · cases h4
        · exact rvolume_yes a b c d hf w g0 off cap bc t hb (by simpa using hroom) (hat 0 a rfl) (hat 1 b rfl) (hat 2 c rfl) (hat 3 d rfl) (Lib.hid fun w1 hk => by
            have := rfine_any hlen w1 (h'.keep hk)
            rwa [hf] at this)
    · rw [if_neg h4]
      exact rvolume_no ps 8 true hf (.inr ⟨rfl, rfl, h4⟩) hlen w base n cap hn h
  · have hf' : fineb ps = false := by simpa using hf
    rw [if_pos hf']
    exact rvolume_no ps 7 false hf' (.inl ⟨rfl, rfl⟩) hlen w base n cap hn h
theorem PSl.shape2 {w : World} {v : Value} {ps : List P3} (h : PSl w v ps) : ∃ base cap, v = .slice base ps.length cap := by
  rcases h with ⟨rfl, rfl⟩ | ⟨g, off, cap, _, _, _, rfl, _⟩
  · exact ⟨none, 0, rfl⟩
  · exact ⟨_, cap, rfl⟩
set_option maxHeartbeats 8000000 in
theorem sides_core (a b c p : P3) (base : Option Addr) (n cap : Nat) (s e v g : Int) (hn : n ≤ 9223372036854775807) (w : World)
    (H1 : Hid (∀ w, Calls Try.prog 19 #[PV a, PV b, PV c, PV p] w (Ret (.tuple #[.int .i64 s, .int .i64 e]) w)))
    (H2 : Hid (∀ w, Calls Try.prog 21 #[PV a, PV b, PV c, PV p] w (Ret (.tuple #[.int .i64 s, .int .i64 e]) w)))
    (V1 : Hid (∀ w1, Keep [] w w1 → Calls Try.prog 22 #[.slice base n cap] w1 (Ret (.tuple #[W v, .int .i64 g]) w1)))
    (V2 : Hid (∀ w1, Keep [] w w1 → Calls Try.prog 23 #[.slice base n cap] w1 (Ret (.tuple #[W v, .int .i64 g]) w1))) :
    Calls Try.prog 8 #[PV a, PV b, PV c, PV p, .slice base n cap] w (Ret (.bool true) w) := by
  by_cases hl : (300 : Int) < n
  · skip
    go_enter Try.func8, Try.ntmps8
    have hp := Hp.start [] w
    go_wp2_with (first
          | ((with_reducible apply sx_box hp); exact za rfl; exact rfl; clear hp; (try clear w1); intro g w1 hp; simp only [zp, zq, z0, z1])
          | ((with_reducible apply sx_alloc hp); infer_instance; exact rfl; clear hp; (try clear w1); intro g w1 hp; simp only [zp, zq, z0, z1])
          | ((with_reducible apply sx_load_agg hp); exact zt rfl; infer_instance; infer_instance; (first | exact zl rfl | exact LB_le (by omega)); (first | (with_reducible exact LB_set (by omega)) | (simp only [n0, Nat.reduceAdd, n1, n2, n3, n4, n5, n6, n7, n8, n9]; try rfl)); simp only [zp, zq, z0, z1])
          | ((with_reducible apply sx_store hp); exact zt rfl; exact za rfl; exact rfl; (first | exact AggTy.size | exact OneTy.size); exact rfl; infer_instance; (first | (with_reducible exact LB_set (by omega)) | (simp only [n0, Nat.reduceAdd, n1, n2, n3, n4, n5, n6, n7, n8, n9]; try rfl)); (first | exact zl rfl | exact LB_le (by omega)); exact rfl; infer_instance; clear hp; (try clear w1); intro w1 hp)
          | ((with_reducible refine sx_call hp (awake7 _) ?_); clear hp; (try clear w1); intro w1 hp))
    exact bodyPost_ret (results_one rfl rfl) rfl ⟨rfl, hp.keep⟩
  · skip
    go_enter Try.func8, Try.ntmps8
    have hp := Hp.start [] w
    go_wp2_with (first
          | ((with_reducible apply sx_box hp); exact za rfl; exact rfl; clear hp; (try clear w1); intro g w1 hp; simp only [zp, zq, z0, z1])
          | ((with_reducible apply sx_alloc hp); infer_instance; exact rfl; clear hp; (try clear w1); intro g w1 hp; simp only [zp, zq, z0, z1])
          | ((with_reducible apply sx_load_agg hp); exact zt rfl; infer_instance; infer_instance; (first | exact zl rfl | exact LB_le (by omega)); (first | (with_reducible exact LB_set (by omega)) | (simp only [n0, Nat.reduceAdd, n1, n2, n3, n4, n5, n6, n7, n8, n9]; try rfl)); simp only [zp, zq, z0, z1])
          | ((with_reducible apply sx_store hp); exact zt rfl; exact za rfl; exact rfl; (first | exact AggTy.size | exact OneTy.size); exact rfl; infer_instance; (first | (with_reducible exact LB_set (by omega)) | (simp only [n0, Nat.reduceAdd, n1, n2, n3, n4, n5, n6, n7, n8, n9]; try rfl)); (first | exact zl rfl | exact LB_le (by omega)); exact rfl; infer_instance; clear hp; (try clear w1); intro w1 hp)
          | ((with_reducible first | refine sx_call hp (H1.out _) ?_ | refine sx_call hp (H2.out _) ?_ | refine sx_call hp (awake7 _) ?_); clear hp; (try clear w1); intro w1 hp)
          | ((with_reducible refine sx_call hp (V1.out _ hp.keep) ?_); clear hp; (try clear w1); intro w1 hp)
          | ((with_reducible refine sx_call hp (V2.out _ hp.keep) ?_); clear hp; (try clear w1); intro w1 hp)
          | ((with_reducible apply sx_strip); exact rfl)
          | ((with_reducible apply sx_unwanted); exact rfl; simp only [zp, zq, z0, z1]))
    exact bodyPost_ret (results_one rfl rfl) rfl ⟨rfl, hp.keep⟩
theorem sides_law {v : Value} {w : World} (a : P3) (_ : a.i64) (b : P3) (_ : b.i64) (c : P3) (_ : c.i64) (p : P3) (_ : p.i64) (ps : List P3) (hlen : ps.length ≤ maxLen) (_ : ∀ q ∈ ps, q.i64) (h : PSl w v ps) : Calls Try.prog 8 #[PV a, PV b, PV c, PV p, v] w (Ret (.bool true) w) := by
  obtain ⟨base, cap, rfl⟩ := h.shape2
  have h1 := side_any a b c p
  have h2 := rside_any a b c p
  unfold sideV at h1 h2
  have V1 := Lib.hid fun w1 (hk : Keep [] w w1) => lvolume_any ps hlen w1 base _ cap rfl (h.keep hk)
  have V2 := Lib.hid fun w1 (hk : Keep [] w w1) => lrvolume_any ps hlen w1 base _ cap rfl (h.keep hk)
  have hn : ps.length ≤ 9223372036854775807 := by unfold maxLen at hlen; omega
  by_cases hf : fineb [a, b, c, p] = true
  · simp only [if_pos hf] at h1 h2
    exact sides_core a b c p base _ cap _ _ _ _ hn w (Lib.hid h1) (Lib.hid h2) V1 V2
  · simp only [if_neg hf] at h1 h2
    exact sides_core a b c p base _ cap _ _ _ _ hn w (Lib.hid h1) (Lib.hid h2) V1 V2
end Go.Proofs.Ythnpmmpcejfllaa
