/-
  The rank by all choices is the spread's (plain).
-/
import Derived.Test.YthnpmmpcejfllaaBj
import Derived.Test.YthnpmmpcejfllaaPf
set_option linter.unusedSimpArgs false
set_option linter.unusedVariables false
namespace Go.Proofs.Ythnpmmpcejfllaa
open Go Go.RowKit

/-! ### Linear algebra -/
theorem p3_zero {p : P3} : p = ⟨0, 0, 0⟩ ↔ p.x = 0 ∧ p.y = 0 ∧ p.z = 0 := by
  obtain ⟨x, y, z⟩ := p
  simp
theorem cross_level {u v w : P3} (hu : u ≠ ⟨0, 0, 0⟩) (hv : u.cross v = ⟨0, 0, 0⟩) (hw : u.cross w = ⟨0, 0, 0⟩) : v.cross w = ⟨0, 0, 0⟩ := by
  obtain ⟨ux, uy, uz⟩ := u
  obtain ⟨vx, vy, vz⟩ := v
  obtain ⟨wx, wy, wz⟩ := w
  simp only [P3.cross, P3.mk.injEq, ne_eq] at *
  obtain ⟨v1, v2, v3⟩ := hv
  obtain ⟨w1, w2, w3⟩ := hw
  have key : ∀ t : Int, (ux * t = 0 ∧ uy * t = 0 ∧ uz * t = 0) → t = 0 := by
    rintro t ⟨h1, h2, h3⟩
    rcases Int.mul_eq_zero.1 h1 with h | h
    · rcases Int.mul_eq_zero.1 h2 with h' | h'
      · rcases Int.mul_eq_zero.1 h3 with h'' | h''
        · exact absurd ⟨h, h', h''⟩ hu
        · exact h''
      · exact h'
    · exact h
  refine ⟨key _ ⟨?_, ?_, ?_⟩, key _ ⟨?_, ?_, ?_⟩, key _ ⟨?_, ?_, ?_⟩⟩ <;> grind
theorem det_of_cross {u v w : P3} (h : v.cross w = ⟨0, 0, 0⟩) : P3.det u v w = 0 := by
  unfold P3.det
  rw [h]
  simp [P3.dot]
theorem det_level {n u v w : P3} (hn : n ≠ ⟨0, 0, 0⟩) (hu : n.dot u = 0) (hv : n.dot v = 0) (hw : n.dot w = 0) : P3.det u v w = 0 := by
  obtain ⟨nx, ny, nz⟩ := n
  obtain ⟨ux, uy, uz⟩ := u
  obtain ⟨vx, vy, vz⟩ := v
  obtain ⟨wx, wy, wz⟩ := w
  simp only [P3.det, P3.cross, P3.dot, P3.mk.injEq, ne_eq] at *
  have key : ∀ t : Int, (nx * t = 0 ∧ ny * t = 0 ∧ nz * t = 0) → t = 0 := by
    rintro t ⟨h1, h2, h3⟩
    rcases Int.mul_eq_zero.1 h1 with h | h
    · rcases Int.mul_eq_zero.1 h2 with h' | h'
      · rcases Int.mul_eq_zero.1 h3 with h'' | h''
        · exact absurd ⟨h, h', h''⟩ hn
        · exact h''
      · exact h'
    · exact h
  refine key _ ⟨?_, ?_, ?_⟩ <;> grind

/-! ### What was taken holds all -/
/-- A point raises nothing. -/
def lvl : List P3 → P3 → Prop
  | [], _ => False
  | [a], p => p = a
  | [a, b], p => (b.sub a).cross (p.sub a) = ⟨0, 0, 0⟩
  | [a, b, c], p => P3.det (b.sub a) (c.sub a) (p.sub a) = 0
  | _, _ => True
theorem lvl_of : ∀ {tk : List P3} {p : P3}, raisesb tk p = false → lvl tk p
  | [], _, h => by simp [raisesb] at h
  | [a], p, h => by simpa [raisesb, lvl] using h
  | [a, b], p, h => by simpa [raisesb, lvl] using h
  | [a, b, c], p, h => by simpa [raisesb, lvl] using h
  | _ :: _ :: _ :: _ :: _, _, _ => trivial
theorem sub_self (a : P3) : a.sub a = ⟨0, 0, 0⟩ := by simp [P3.sub]
theorem cross_self (a : P3) : a.cross a = ⟨0, 0, 0⟩ := by
  simp only [P3.cross, P3.mk.injEq]
  refine ⟨by grind, by grind, by grind⟩
theorem cross_swap {a b : P3} (h : a.cross b = ⟨0, 0, 0⟩) : b.cross a = ⟨0, 0, 0⟩ := by
  simp only [P3.cross, P3.mk.injEq] at *
  refine ⟨by grind, by grind, by grind⟩
theorem det_rot (a b c : P3) : P3.det a b c = P3.det c a b := by
  simp only [P3.det, P3.dot, P3.cross]; grind
theorem lvl_self : ∀ (tk : List P3) (p : P3), lvl (tk ++ [p]) p
  | [], p => rfl
  | [a], p => cross_self _
  | [a, b], p => det_of_cross (cross_self _)
  | [_, _, _], _ => trivial
  | _ :: _ :: _ :: _ :: _, _ => trivial
theorem lvl_more : ∀ {tk : List P3} {p : P3} (q : P3), lvl tk p → lvl (tk ++ [q]) p
  | [], _, _, h => h.elim
  | [a], p, q, h => by
    have h : p = a := h
    show (q.sub a).cross (p.sub a) = ⟨0, 0, 0⟩
    rw [h, sub_self]
    simp [P3.cross]
  | [a, b], p, q, h => by
    show P3.det (b.sub a) (q.sub a) (p.sub a) = 0
    rw [det_rot, det_rot]
    exact det_of_cross (cross_swap h)
  | [_, _, _], _, _, _ => trivial
  | _ :: _ :: _ :: _ :: _, _, _, _ => trivial
theorem spst_lvl (ps : List P3) : ∀ k i p, i < k → ps[i]? = some p → lvl (spst ps k).1 p
  | 0, i, p, h, _ => by omega
  | k + 1, i, p, h, hp => by
    unfold spst
    cases hk : ps[k]? with
    | none =>
      rcases Nat.lt_or_ge i k with h1 | h1
      · exact spst_lvl ps k i p h1 hp
      · rw [show i = k by omega, hk] at hp; cases hp
    | some q =>
      dsimp only
      rcases Nat.lt_or_ge i k with h1 | h1
      · have ih := spst_lvl ps k i p h1 hp
        split
        · exact lvl_more q ih
        · exact ih
      · rw [show i = k by omega, hk] at hp
        cases hp
        split
        · exact lvl_self _ _
        · rename_i hr
          exact lvl_of (by simpa using hr)
theorem spst_head (ps : List P3) (h : 1 ≤ ps.length) : ∀ k, 1 ≤ k → ∃ tl ol, spst ps k = (pt ps 0 :: tl, 0 :: ol)
  | 0, h => by omega
  | 1, _ => by
    refine ⟨[], [], ?_⟩
    have : ps[0]? = some ps[0] := List.getElem?_eq_getElem (by omega)
    unfold spst
    rw [this]
    simp [spst, raisesb, pt, List.getD_eq_getElem?_getD, this]
  | k + 2, _ => by
    obtain ⟨tl, ol, e⟩ := spst_head ps h (k + 1) (by omega)
    unfold spst
    cases hk : ps[k + 1]? with
    | none => exact ⟨tl, ol, e⟩
    | some q =>
      dsimp only
      rw [e]
      split
      · exact ⟨tl ++ [q], ol ++ [((k + 1 : Nat) : Int)], rfl⟩
      · exact ⟨tl, ol, rfl⟩
theorem pt_get {ps : List P3} {i : Nat} (h : i < ps.length) : ps[i]? = some (pt ps i) := by
  unfold pt
  rw [List.getD_eq_getElem?_getD, List.getElem?_eq_getElem h]
  rfl
/-- The places of what is taken. -/
theorem taken_at (ps : List P3) {i : Nat} {q : P3} (h : (taken ps)[i]? = some q) : ∃ n : Nat, n < ps.length ∧ (spread ps)[i]? = some (n : Int) ∧ q = pt ps n := by
  obtain ⟨h4, hlen, hsub⟩ := spst_ok ps ps.length
  obtain ⟨h1, h2⟩ := spst_places ps ps.length (Nat.le_refl _)
  have hi : i < (spread ps).length := by
    rcases Nat.lt_or_ge i (spread ps).length with h' | h'
    · exact h'
    · unfold taken at h
      unfold spread at h'
      rw [List.getElem?_eq_none (by omega)] at h; cases h
  have hn : (spread ps)[i]? = some (spread ps)[i] := List.getElem?_eq_getElem hi
  obtain ⟨a, b, c⟩ := h1 i _ hn
  refine ⟨((spread ps)[i]).toNat, by omega, by rw [hn]; congr 1; omega, ?_⟩
  unfold taken at h
  rw [c, pt_get (by omega)] at h
  exact (Option.some.inj h).symm
theorem rank_three {ps : List P3} (h : ∃ j k i, 1 ≤ j ∧ j < k ∧ k < i ∧ i < ps.length ∧ dz ps j k i ≠ 0) : (spread ps).length = 4 := by
  obtain ⟨j, k, i, h1, h2, h3, h4, hd⟩ := h
  obtain ⟨hl4, hlen, hsub⟩ := spst_ok ps ps.length
  have hr := spst_raised ps ps.length
  obtain ⟨tl, ol, e⟩ := spst_head ps (by omega) ps.length (by omega)
  have hlv := fun n (hn : n < ps.length) => spst_lvl ps ps.length n _ hn (pt_get hn)
  unfold spread
  rw [← hlen]
  rw [e] at hl4 hr hlv ⊢
  dsimp only at hl4 hr hlv ⊢
  unfold dz at hd
  match tl, hl4, hr, hlv with
  | [], _, _, hlv =>
    have hlv : ∀ n, n < ps.length → pt ps n = pt ps 0 := hlv
    rw [hlv j (by omega), hlv k (by omega)] at hd
    exact absurd (det_of_cross (by rw [sub_self]; simp [P3.cross])) hd
  | [b], _, hr, hlv =>
    have hb := sub_ne (raised_two.1 hr)
    have hlv : ∀ n, n < ps.length → (b.sub (pt ps 0)).cross ((pt ps n).sub (pt ps 0)) = ⟨0, 0, 0⟩ := hlv
    exact absurd (det_of_cross (cross_level hb (hlv k (by omega)) (hlv i (by omega)))) hd
  | [b, c], _, hr, hlv =>
    have hc := (raised_three.1 hr).2
    have hlv : ∀ n, n < ps.length → P3.det (b.sub (pt ps 0)) (c.sub (pt ps 0)) ((pt ps n).sub (pt ps 0)) = 0 := hlv
    have hlv2 := fun n hn => (det_dot (pt ps 0) b c (pt ps n)).symm.trans (hlv n hn)
    exact absurd (det_level hc (hlv2 j (by omega)) (hlv2 k (by omega)) (hlv2 i (by omega))) hd
  | [b, c, d], _, _, _ => rfl
  | _ :: _ :: _ :: _ :: _, h, _, _ => simp at h
theorem rank_less {ps : List P3} (h1 : 1 ≤ ps.length) {e1 e2 : Bool} (hs1 : S1 ps ps.length e1) (hs2 : S2 ps ps.length 1 e2) (hs3 : S3 ps ps.length 1 1) : ((spread ps).length : Int) - 1 = rr e1 e2 := by
  obtain ⟨hl4, hlen, hsub⟩ := spst_ok ps ps.length
  have hr := spst_raised ps ps.length
  obtain ⟨tl, ol, e⟩ := spst_head ps (by omega) ps.length (by omega)
  have hlv := fun n (hn : n < ps.length) => spst_lvl ps ps.length n _ hn (pt_get hn)
  obtain ⟨hpl, hinc⟩ := spst_places ps ps.length (Nat.le_refl _)
  have hat := fun (i : Nat) (q : P3) => taken_at ps (i := i) (q := q)
  unfold taken spread at hat
  unfold spread
  rw [e] at hl4 hr hlv hinc hat hlen ⊢
  dsimp only at hl4 hr hlv hinc hat hlen ⊢
  rw [← hlen]
  have hz : ∀ i n, (0 :: ol)[i + 1]? = some n → ∀ m, (0 :: ol)[i]? = some m → m < n := fun i n hn m hm => hinc i m n hm hn
  have e1f : (∀ n, n < ps.length → pt ps n = pt ps 0) → e1 = false := fun h => by
    cases he : e1 with
    | false => rfl
    | true =>
      obtain ⟨i, _, hi, hne⟩ := hs1.1 he
      exact absurd (h i hi) hne
  have e2f : (∀ k i, k < ps.length → i < ps.length → ((pt ps k).sub (pt ps 0)).cross ((pt ps i).sub (pt ps 0)) = ⟨0, 0, 0⟩) → e2 = false := fun h => by
    cases he : e2 with
    | false => rfl
    | true =>
      obtain ⟨i, k, _, hk, hi, hne⟩ := hs2.1 he
      exact absurd (h k i (by omega) (by omega)) hne
  match tl, hl4, hr, hlv, hat with
  | [], _, _, hlv, _ =>
    have hlv : ∀ n, n < ps.length → pt ps n = pt ps 0 := hlv
    rw [e1f hlv, e2f fun k i hk _ => by rw [hlv k hk, sub_self]; simp [P3.cross]]
    rfl
  | [b], _, hr, hlv, hat =>
    have hb := raised_two.1 hr
    have hlv : ∀ n, n < ps.length → (b.sub (pt ps 0)).cross ((pt ps n).sub (pt ps 0)) = ⟨0, 0, 0⟩ := hlv
    rw [e2f fun k i hk hi => cross_level (sub_ne hb) (hlv k hk) (hlv i hi)]
    obtain ⟨n, hn, hn1, hn2⟩ := hat 1 b rfl
    have := hz 0 _ hn1 0 rfl
    rw [hs1.2 ⟨n, by omega, hn, by rw [← hn2]; exact hb⟩]
    rfl
  | [b, c], _, hr, hlv, hat =>
    have hc := (raised_three.1 hr).2
    obtain ⟨n, hn, hn1, hn2⟩ := hat 1 b rfl
    obtain ⟨m, hm, hm1, hm2⟩ := hat 2 c rfl
    have h01 := hz 0 _ hn1 0 rfl
    have h12 := hz 1 _ hm1 _ hn1
    rw [hs2.2 ⟨m, n, by omega, by omega, by omega, by unfold nl; rw [← hn2, ← hm2]; exact hc⟩]
    cases e1 <;> rfl
  | [b, c, d], _, hr, hlv, hat =>
    have hd := (raised_four.1 hr).2.2
    obtain ⟨n, hn, hn1, hn2⟩ := hat 1 b rfl
    obtain ⟨m, hm, hm1, hm2⟩ := hat 2 c rfl
    obtain ⟨l, hl, hl1, hl2⟩ := hat 3 d rfl
    have h01 := hz 0 _ hn1 0 rfl
    have h12 := hz 1 _ hm1 _ hn1
    have h23 := hz 2 _ hl1 _ hm1
    have := hs3 l m n (by omega) (by omega) (by omega) (by omega)
    unfold dz at this
    rw [← hn2, ← hm2, ← hl2] at this
    exact absurd this hd
  | _ :: _ :: _ :: _ :: _, h, _, _, _ => simp at h
theorem rOf_nil (w : World) : Calls Try.prog 27 #[.slice none 0 0] w (Ret (.int .i64 (-1)) w) := by
  go_enter Try.func27, Try.ntmps27
  have hp := Hp.start [] w
  go_wp2_with (first
          | ((with_reducible apply sx_load_agg hp); exact zt rfl; infer_instance; infer_instance; (first | exact zl rfl | exact LB_le (by omega)); (first | (with_reducible exact LB_set (by omega)) | (simp only [n0, Nat.reduceAdd, n1, n2, n3, n4, n5, n6, n7, n8, n9]; try rfl)); simp only [zp, zq, z0, z1])
          | ((with_reducible apply sx_indexAddr); exact zx rfl; exact zk rfl; infer_instance; (first | exact AggTy.size | exact OneTy.size); omega; omega; ((try simp only [m0, Int.reduceToNat, m1, m2, Nat.reduceMul, Nat.reduceAdd, m3, m4, m5, n0]); exact rfl); simp only [zp, zq, z0, z1])
          | ((with_reducible apply sx_load_far hp); exact zt rfl; assumption; infer_instance; assumption; (first | exact zl rfl | omega); simp only [zp, zq, z0, z1]))
  exact bodyPost_ret (results_one rfl rfl) rfl ⟨rfl, hp.keep⟩
theorem rOf_empty (w : World) (a : Option Addr) (cap : Nat) : Calls Try.prog 27 #[.slice a 0 cap] w (Ret (.int .i64 (-1)) w) := by
  go_enter Try.func27, Try.ntmps27
  have hp := Hp.start [] w
  go_wp2_with (first
          | ((with_reducible apply sx_load_agg hp); exact zt rfl; infer_instance; infer_instance; (first | exact zl rfl | exact LB_le (by omega)); (first | (with_reducible exact LB_set (by omega)) | (simp only [n0, Nat.reduceAdd, n1, n2, n3, n4, n5, n6, n7, n8, n9]; try rfl)); simp only [zp, zq, z0, z1])
          | ((with_reducible apply sx_indexAddr); exact zx rfl; exact zk rfl; infer_instance; (first | exact AggTy.size | exact OneTy.size); omega; omega; ((try simp only [m0, Int.reduceToNat, m1, m2, Nat.reduceMul, Nat.reduceAdd, m3, m4, m5, n0]); exact rfl); simp only [zp, zq, z0, z1])
          | ((with_reducible apply sx_load_far hp); exact zt rfl; assumption; infer_instance; assumption; (first | exact zl rfl | omega); simp only [zp, zq, z0, z1]))
  exact bodyPost_ret (results_one rfl rfl) rfl ⟨rfl, hp.keep⟩
/-- ninepinref07.Of: one less than the spread's places. -/
theorem rOf_any (ps : List P3) (hm : ∀ q ∈ ps, q.may) (hlen : ps.length ≤ maxLen) (v : Value) (w : World) (h : PSl w v ps) : Calls Try.prog 27 #[v] w (Ret (.int .i64 ((spread ps).length - 1)) w) := by
  rcases h with ⟨rfl, rfl⟩ | ⟨g, off, cap, bc, t, z, rfl, hb, hv⟩
  · exact rOf_nil w
  · rcases Nat.eq_zero_or_pos ps.length with h0 | h0
    · obtain rfl := List.eq_nil_of_length_eq_zero h0
      exact rOf_empty w _ cap
    · exact rOf_far ps hm h0 hlen _ (Lib.hid fun h => by rw [rank_three h]; rfl) (Lib.hid fun e1 e2 h1 h2 h3 => rank_less h0 h1 h2 h3) w g off cap bc t hb hv

/-! ### The spread of a list that is longer -/
theorem spst_prefix (a b : List P3) : ∀ k, k ≤ a.length → spst (a ++ b) k = spst a k
  | 0, _ => rfl
  | k + 1, h => by
    unfold spst
    rw [List.getElem?_append_left (by omega), spst_prefix a b k (by omega)]
theorem spread_more {tk : List P3} (hr : Raised [] tk) (p : P3) : (spread (tk ++ [p])).length = if raisesb tk p then tk.length + 1 else tk.length := by
  have h := spst_all hr tk.length (Nat.le_refl _)
  rw [List.take_length] at h
  unfold spread
  rw [List.length_append]
  show (spst (tk ++ [p]) (tk.length + 1)).2.length = _
  unfold spst
  rw [List.getElem?_append_right (Nat.le_refl _), Nat.sub_self, spst_prefix tk [p] _ (Nat.le_refl _), h.1]
  simp only [List.getElem?_cons_zero]
  split
  · simp [h.2]
  · simp [h.2]
end Go.Proofs.Ythnpmmpcejfllaa
