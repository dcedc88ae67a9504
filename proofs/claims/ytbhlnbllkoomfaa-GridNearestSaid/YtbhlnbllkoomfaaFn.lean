/-
  ninepinlaw06.GridNearest (contract).
-/
import Derived.Test.YtbhlnbllkoomfaaJe
import Derived.Test.YtbhlnbllkoomfaaFg
set_option linter.unusedSimpArgs false
set_option linter.unusedVariables false
set_option maxRecDepth 100000
namespace Go.Proofs.Ytbhlnbllkoomfaa
open Go Go.RowKit
attribute [local irreducible] wpList

theorem rnd_rv {n : Int} (h : may n) : rnd (rv n) = n := by
  unfold may at h
  unfold rnd rv cl
  rw [if_neg (by omega), if_neg (by omega)]
  omega
set_option maxHeartbeats 1000000 in
theorem close_any (n : Int) (h : I64 n) (w : World) : Calls Try.prog 44 #[.int .i64 n, .int .i64 (rnd n)] w (Ret (.bool true) w) := by
  have h1 : -32768 ≤ n - rnd n * 65536 := by unfold rnd; omega
  have h2 : n - rnd n * 65536 < 32768 := by unfold rnd; omega
  have h3 : n - rnd n * 65536 = wrap64 (n - wrap64 (rnd n * 65536)) := by unfold I64 at h; unfold wrap64 rnd; omega
  generalize rnd n = r at *
  obtain ⟨h4, h5⟩ := h
  have hb1 : -9223372036854808576 ≤ r * 65536 ∧ r * 65536 ≤ 9223372036854808576 := by omega
  go_enter Try.func44, Try.ntmps44
  have hp := Hp.start [] w
  go_wp2_with (first
          | fail)
  all_goals first
    | (exfalso; omega)
    | (refine bodyPost_ret (results_one rfl rfl) rfl ⟨?_, hp.keep⟩
       refine congrArg Ending.returned (congrArg Value.bool (decide_eq_true ?_))
       omega)
theorem rnd_mono {m n : Int} (h : m ≤ n) : rnd m ≤ rnd n := by
  unfold rnd
  omega
set_option maxHeartbeats 16000000 in
theorem nearest_core (p v u a b : P3) (r1 r2 : Value) (c : Int) (pq : P3)
    (HC : Hid (∀ w, Calls Try.prog 42 #[PV p] w (Ret (.int .i64 c) w)))
    (HV : Hid (∀ w, Calls Try.prog 40 #[PV p] w (Ret (PV pq) w)))
    (HP : Hid (c = 0 → ∀ w, Calls Try.prog 38 #[PV pq] w (Ret (.tuple #[PV p, .int .i64 0]) w)))
    (e f : Int)
    (H1 : Hid (∀ w, Calls Try.prog 38 #[PV v] w (Ret (.tuple #[PV a, .int .i64 e]) w)))
    (H2 : Hid (∀ w, Calls Try.prog 38 #[PV u] w (Ret (.tuple #[PV b, .int .i64 f]) w)))
    (K1 : Hid (e = 0 → ∀ w, Calls Try.prog 44 #[.int .i64 v.x, .int .i64 a.x] w (Ret (.bool true) w)))
    (K2 : Hid (e = 0 → ∀ w, Calls Try.prog 44 #[.int .i64 v.y, .int .i64 a.y] w (Ret (.bool true) w)))
    (K3 : Hid (e = 0 → ∀ w, Calls Try.prog 44 #[.int .i64 v.z, .int .i64 a.z] w (Ret (.bool true) w)))
    (L1 : Hid (e = 0 → f = 0 → u.x < v.x ∨ (decide (u.x < v.x) = false ∧ a.x ≤ b.x)))
    (L2 : Hid (e = 0 → f = 0 → u.y < v.y ∨ (decide (u.y < v.y) = false ∧ a.y ≤ b.y)))
    (L3 : Hid (e = 0 → f = 0 → u.z < v.z ∨ (decide (u.z < v.z) = false ∧ a.z ≤ b.z))) (w : World) :
    Calls Try.prog 13 #[PV p, PV v, PV u] w (Ret (.bool true) w) := by
  obtain ⟨px, py, pz⟩ := p
  obtain ⟨vx, vy, vz⟩ := v
  obtain ⟨ux, uy, uz⟩ := u
  obtain ⟨ax, ay, az⟩ := a
  obtain ⟨bx, by', bz⟩ := b
  dsimp only at *
  go_enter Try.func13, Try.ntmps13
  have hp := Hp.start [] w
  go_upto_region 1 with (first
          | ((with_reducible apply sx_box hp); (first | exact za rfl | exact zu rfl | exact zi rfl | exact zb rfl | exact zr rfl | exact zs rfl | exact zf rfl | exact zg rfl | exact zn rfl | exact zv rfl | exact zw rfl); exact rfl; clear hp; (try clear w1); intro g w1 hp; simp only [zp, zq, z0, z1])
          | ((with_reducible apply sx_alloc hp); infer_instance; exact rfl; clear hp; (try clear w1); intro g w1 hp; simp only [zp, zq, z0, z1]))
  rename_i gp gv K0 hK0 K hK
  obtain ⟨gu, rfl⟩ : ∃ k : Nat, k = g := ⟨_, rfl⟩
  go_upto_if 15 with (first
          | ((with_reducible apply sx_box hp); exact za rfl; exact rfl; clear hp; (try clear w1); intro g w1 hp; simp only [zp, zq, z0, z1])
          | ((with_reducible apply sx_alloc hp); infer_instance; exact rfl; clear hp; (try clear w1); intro g w1 hp; simp only [zp, zq, z0, z1])
          | ((with_reducible apply sx_load_agg hp); exact zt rfl; infer_instance; infer_instance; (first | exact zl rfl | exact LB_le (by omega)); (first | (with_reducible exact LB_set (by omega)) | (simp only [n0, Nat.reduceAdd, n1, n2, n3, n4, n5, n6, n7, n8, n9]; try rfl)); simp only [zp, zq, z0, z1])
          | ((with_reducible apply sx_load_one hp); exact zt rfl; infer_instance; infer_instance; (first | exact zio rfl | exact LB_get (by omega)); simp only [zp, zq, z0, z1])
          | ((with_reducible apply sx_store hp); exact zt rfl; exact za rfl; exact rfl; (first | exact AggTy.size | exact OneTy.size); exact rfl; infer_instance; (first | (with_reducible exact LB_set (by omega)) | (simp only [n0, Nat.reduceAdd, n1, n2, n3, n4, n5, n6, n7, n8, n9]; try rfl)); (first | exact zl rfl | exact LB_le (by omega)); exact rfl; infer_instance; clear hp; (try clear w1); intro w1 hp)
          | ((with_reducible refine sx_call hp (HC.out _) ?_); clear hp; (try clear w1); intro w1 hp))
  go_cut [6] (fun s6 wx => s6 = .bool false ∧ Hp [] w [⟨gu, 58, [.int .i64 ux, .int .i64 uy, .int .i64 uz]⟩, ⟨gv, 58, [.int .i64 vx, .int .i64 vy, .int .i64 vz]⟩] wx)
  case first =>
    by_cases hc : c = 0
    · have HR := Lib.hid (HP.out hc)
      have hcb : (c == 0) = true := by simp [hc]
      clear K1 K2 K3 L1 L2 L3 H1 H2 HP
      go_wp2_with (first
          | ((with_reducible apply sx_box hp); exact za rfl; exact rfl; clear hp; (try clear w1); intro g w1 hp; simp only [zp, zq, z0, z1])
          | ((with_reducible apply sx_alloc hp); infer_instance; exact rfl; clear hp; (try clear w1); intro g w1 hp; simp only [zp, zq, z0, z1])
          | ((with_reducible apply sx_load_agg hp); exact zt rfl; infer_instance; infer_instance; (first | exact zl rfl | exact LB_le (by omega)); (first | (with_reducible exact LB_set (by omega)) | (simp only [n0, Nat.reduceAdd, n1, n2, n3, n4, n5, n6, n7, n8, n9]; try rfl)); simp only [zp, zq, z0, z1])
          | ((with_reducible apply sx_load_one hp); exact zt rfl; infer_instance; infer_instance; (first | exact zio rfl | exact LB_get (by omega)); simp only [zp, zq, z0, z1])
          | ((with_reducible apply sx_store hp); exact zt rfl; exact za rfl; exact rfl; (first | exact AggTy.size | exact OneTy.size); exact rfl; infer_instance; (first | (with_reducible exact LB_set (by omega)) | (simp only [n0, Nat.reduceAdd, n1, n2, n3, n4, n5, n6, n7, n8, n9]; try rfl)); (first | exact zl rfl | exact LB_le (by omega)); exact rfl; infer_instance; clear hp; (try clear w1); intro w1 hp)
          | ((with_reducible first | refine sx_call hp (HV.out _) ?_ | refine sx_call hp (HR.out _) ?_); clear hp; (try clear w1); intro w1 hp))
      go_meet
      exact ⟨rfl, hp.sub (by repeat (first | exact List.Sublist.refl _ | apply List.Sublist.cons_cons | apply List.Sublist.cons))⟩
    · have hcb : (c == 0) = false := by simp [hc]
      clear K1 K2 K3 L1 L2 L3 H1 H2 HP
      go_wp2_with (first
          | ((with_reducible apply sx_box hp); exact za rfl; exact rfl; clear hp; (try clear w1); intro g w1 hp; simp only [zp, zq, z0, z1])
          | ((with_reducible apply sx_alloc hp); infer_instance; exact rfl; clear hp; (try clear w1); intro g w1 hp; simp only [zp, zq, z0, z1])
          | ((with_reducible apply sx_load_agg hp); exact zt rfl; infer_instance; infer_instance; (first | exact zl rfl | exact LB_le (by omega)); (first | (with_reducible exact LB_set (by omega)) | (simp only [n0, Nat.reduceAdd, n1, n2, n3, n4, n5, n6, n7, n8, n9]; try rfl)); simp only [zp, zq, z0, z1])
          | ((with_reducible apply sx_load_one hp); exact zt rfl; infer_instance; infer_instance; (first | exact zio rfl | exact LB_get (by omega)); simp only [zp, zq, z0, z1])
          | ((with_reducible apply sx_store hp); exact zt rfl; exact za rfl; exact rfl; (first | exact AggTy.size | exact OneTy.size); exact rfl; infer_instance; (first | (with_reducible exact LB_set (by omega)) | (simp only [n0, Nat.reduceAdd, n1, n2, n3, n4, n5, n6, n7, n8, n9]; try rfl)); (first | exact zl rfl | exact LB_le (by omega)); exact rfl; infer_instance; clear hp; (try clear w1); intro w1 hp))
      go_meet
      exact ⟨rfl, hp.sub (by repeat (first | exact List.Sublist.refl _ | apply List.Sublist.cons_cons | apply List.Sublist.cons))⟩
  case rest =>
    clear hp HP HV HC
    obtain ⟨rfl, hp⟩ := hcut
    go_upto_region 7 with (first
          | ((with_reducible apply sx_box hp); exact za rfl; exact rfl; clear hp; (try clear w1); intro g w1 hp; simp only [zp, zq, z0, z1])
          | ((with_reducible apply sx_alloc hp); infer_instance; exact rfl; clear hp; (try clear w1); intro g w1 hp; simp only [zp, zq, z0, z1])
          | ((with_reducible apply sx_load_agg hp); exact zt rfl; infer_instance; infer_instance; (first | exact zl rfl | exact LB_le (by omega)); (first | (with_reducible exact LB_set (by omega)) | (simp only [n0, Nat.reduceAdd, n1, n2, n3, n4, n5, n6, n7, n8, n9]; try rfl)); simp only [zp, zq, z0, z1])
          | ((with_reducible apply sx_load_one hp); exact zt rfl; infer_instance; infer_instance; (first | exact zio rfl | exact LB_get (by omega)); simp only [zp, zq, z0, z1])
          | ((with_reducible apply sx_store hp); exact zt rfl; exact za rfl; exact rfl; (first | exact AggTy.size | exact OneTy.size); exact rfl; infer_instance; (first | (with_reducible exact LB_set (by omega)) | (simp only [n0, Nat.reduceAdd, n1, n2, n3, n4, n5, n6, n7, n8, n9]; try rfl)); (first | exact zl rfl | exact LB_le (by omega)); exact rfl; infer_instance; clear hp; (try clear w1); intro w1 hp)
          | ((with_reducible first | refine sx_call hp (H1.out _) ?_ | refine sx_call hp (H2.out _) ?_); clear hp; (try clear w1); intro w1 hp))
    clear H1 H2
    by_cases he : e = 0
    · by_cases hf : f = 0
      · have k1 := Lib.hid (K1.out he)
        have k2 := Lib.hid (K2.out he)
        have k3 := Lib.hid (K3.out he)
        have l1 := L1.out he hf
        have l2 := L2.out he hf
        have l3 := L3.out he hf
        clear K1 K2 K3 L1 L2 L3
        subst he hf
        go_upto_region 9 with (first
          | ((with_reducible apply sx_box hp); exact za rfl; exact rfl; clear hp; (try clear w1); intro g w1 hp; simp only [zp, zq, z0, z1])
          | ((with_reducible apply sx_alloc hp); infer_instance; exact rfl; clear hp; (try clear w1); intro g w1 hp; simp only [zp, zq, z0, z1])
          | ((with_reducible apply sx_load_agg hp); exact zt rfl; infer_instance; infer_instance; (first | exact zl rfl | exact LB_le (by omega)); (first | (with_reducible exact LB_set (by omega)) | (simp only [n0, Nat.reduceAdd, n1, n2, n3, n4, n5, n6, n7, n8, n9]; try rfl)); simp only [zp, zq, z0, z1])
          | ((with_reducible apply sx_load_one hp); exact zt rfl; infer_instance; infer_instance; (first | exact zio rfl | exact LB_get (by omega)); simp only [zp, zq, z0, z1])
          | ((with_reducible apply sx_store hp); exact zt rfl; exact za rfl; exact rfl; (first | exact AggTy.size | exact OneTy.size); exact rfl; infer_instance; (first | (with_reducible exact LB_set (by omega)) | (simp only [n0, Nat.reduceAdd, n1, n2, n3, n4, n5, n6, n7, n8, n9]; try rfl)); (first | exact zl rfl | exact LB_le (by omega)); exact rfl; infer_instance; clear hp; (try clear w1); intro w1 hp))
        simp only [List.append_eq, List.cons_append, List.nil_append]
        rcases l1 with h1 | ⟨h1, m1⟩ <;> rcases l2 with h2 | ⟨h2, m2⟩ <;> rcases l3 with h3 | ⟨h3, m3⟩
        all_goals
          skip
          go_wp2_with (first
          | ((with_reducible apply sx_guard); (conv => whnf); refine Bx.mk ?_; (try simp only [zp, zq, z0, z1]))
          | ((with_reducible apply sx_box hp); exact za rfl; exact rfl; clear hp; (try clear w1); intro g w1 hp; simp only [zp, zq, z0, z1])
          | ((with_reducible apply sx_alloc hp); infer_instance; exact rfl; clear hp; (try clear w1); intro g w1 hp; simp only [zp, zq, z0, z1])
          | ((with_reducible apply sx_load_agg hp); exact zt rfl; infer_instance; infer_instance; (first | exact zl rfl | exact LB_le (by omega)); (first | (with_reducible exact LB_set (by omega)) | (simp only [n0, Nat.reduceAdd, n1, n2, n3, n4, n5, n6, n7, n8, n9]; try rfl)); simp only [zp, zq, z0, z1])
          | ((with_reducible apply sx_load_one hp); exact zt rfl; infer_instance; infer_instance; (first | exact zio rfl | exact LB_get (by omega)); simp only [zp, zq, z0, z1])
          | ((with_reducible apply sx_store hp); exact zt rfl; exact za rfl; exact rfl; (first | exact AggTy.size | exact OneTy.size); exact rfl; infer_instance; (first | (with_reducible exact LB_set (by omega)) | (simp only [n0, Nat.reduceAdd, n1, n2, n3, n4, n5, n6, n7, n8, n9]; try rfl)); (first | exact zl rfl | exact LB_le (by omega)); exact rfl; infer_instance; clear hp; (try clear w1); intro w1 hp)
          | ((with_reducible first | refine sx_call hp (k1.out _) ?_ | refine sx_call hp (k2.out _) ?_ | refine sx_call hp (k3.out _) ?_ | refine sx_call hp (awake6 _) ?_); clear hp; (try clear w1); intro w1 hp))
          exact bodyPost_ret (results_one rfl rfl) rfl ⟨rfl, hp.keep⟩
      · have hne : (f == 0) = false := by simp [hf]
        clear K1 K2 K3 L1 L2 L3
        subst he
        go_wp2_with (first
          | ((with_reducible apply sx_box hp); exact za rfl; exact rfl; clear hp; (try clear w1); intro g w1 hp; simp only [zp, zq, z0, z1])
          | ((with_reducible apply sx_alloc hp); infer_instance; exact rfl; clear hp; (try clear w1); intro g w1 hp; simp only [zp, zq, z0, z1])
          | ((with_reducible apply sx_load_agg hp); exact zt rfl; infer_instance; infer_instance; (first | exact zl rfl | exact LB_le (by omega)); (first | (with_reducible exact LB_set (by omega)) | (simp only [n0, Nat.reduceAdd, n1, n2, n3, n4, n5, n6, n7, n8, n9]; try rfl)); simp only [zp, zq, z0, z1])
          | ((with_reducible apply sx_load_one hp); exact zt rfl; infer_instance; infer_instance; (first | exact zio rfl | exact LB_get (by omega)); simp only [zp, zq, z0, z1])
          | ((with_reducible apply sx_store hp); exact zt rfl; exact za rfl; exact rfl; (first | exact AggTy.size | exact OneTy.size); exact rfl; infer_instance; (first | (with_reducible exact LB_set (by omega)) | (simp only [n0, Nat.reduceAdd, n1, n2, n3, n4, n5, n6, n7, n8, n9]; try rfl)); (first | exact zl rfl | exact LB_le (by omega)); exact rfl; infer_instance; clear hp; (try clear w1); intro w1 hp)
          | ((with_reducible refine sx_call hp (awake6 _) ?_); clear hp; (try clear w1); intro w1 hp))
        exact bodyPost_ret (results_one rfl rfl) rfl ⟨rfl, hp.keep⟩
    · have hne : (e == 0) = false := by simp [he]
      clear K1 K2 K3 L1 L2 L3
      go_wp2_with (first
          | ((with_reducible apply sx_box hp); exact za rfl; exact rfl; clear hp; (try clear w1); intro g w1 hp; simp only [zp, zq, z0, z1])
          | ((with_reducible apply sx_alloc hp); infer_instance; exact rfl; clear hp; (try clear w1); intro g w1 hp; simp only [zp, zq, z0, z1])
          | ((with_reducible apply sx_load_agg hp); exact zt rfl; infer_instance; infer_instance; (first | exact zl rfl | exact LB_le (by omega)); (first | (with_reducible exact LB_set (by omega)) | (simp only [n0, Nat.reduceAdd, n1, n2, n3, n4, n5, n6, n7, n8, n9]; try rfl)); simp only [zp, zq, z0, z1])
          | ((with_reducible apply sx_load_one hp); exact zt rfl; infer_instance; infer_instance; (first | exact zio rfl | exact LB_get (by omega)); simp only [zp, zq, z0, z1])
          | ((with_reducible apply sx_store hp); exact zt rfl; exact za rfl; exact rfl; (first | exact AggTy.size | exact OneTy.size); exact rfl; infer_instance; (first | (with_reducible exact LB_set (by omega)) | (simp only [n0, Nat.reduceAdd, n1, n2, n3, n4, n5, n6, n7, n8, n9]; try rfl)); (first | exact zl rfl | exact LB_le (by omega)); exact rfl; infer_instance; clear hp; (try clear w1); intro w1 hp)
          | ((with_reducible refine sx_call hp (awake6 _) ?_); clear hp; (try clear w1); intro w1 hp))
      exact bodyPost_ret (results_one rfl rfl) rfl ⟨rfl, hp.keep⟩
theorem rndV_two (x y z : Int) : ∃ a : P3, ∃ e : Int, rndV x y z = .tuple #[PV a, .int .i64 e] ∧ (e = 0 → a = ⟨rnd x, rnd y, rnd z⟩) := by
  unfold rndV
  split
  · exact ⟨_, _, rfl, fun _ => rfl⟩
  · exact ⟨_, _, rfl, fun h => absurd h (by omega)⟩
theorem nearest_law (p : P3) (hp : p.i64) (v : P3) (hv : v.i64) (u : P3) (hu : u.i64) (w : World) : Calls Try.prog 13 #[PV p, PV v, PV u] w (Ret (.bool true) w) := by
  have r1 := fun w => round_any v.x v.y v.z hv.1 hv.2.1 hv.2.2 w
  have r2 := fun w => round_any u.x u.y u.z hu.1 hu.2.1 hu.2.2 w
  obtain ⟨a, e, ha, ha'⟩ := rndV_two v.x v.y v.z
  obtain ⟨b, f, hb, hb'⟩ := rndV_two u.x u.y u.z
  rw [ha] at r1
  rw [hb] at r2
  have ord : ∀ m n : Int, n < m ∨ (decide (n < m) = false ∧ rnd m ≤ rnd n) := fun m n => by
    by_cases h : n < m
    · exact .inl h
    · exact .inr ⟨decide_eq_false h, rnd_mono (by omega)⟩
  refine nearest_core p v u a b (.bool true) (.bool true) _ p.rv (Lib.hid fun w => check_any p w) (Lib.hid fun w => value_any p hp w) (Lib.hid fun hc w => ?_) e f (Lib.hid r1) (Lib.hid r2)
    (Lib.hid fun he w => ?_) (Lib.hid fun he w => ?_) (Lib.hid fun he w => ?_) (Lib.hid fun he hf => ?_) (Lib.hid fun he hf => ?_) (Lib.hid fun he hf => ?_) w
  · have hm : p.may := by
      by_cases h : p.may
      · exact h
      · rw [if_neg h] at hc; omega
    have i : ∀ n, may n → I64 (rv n) := fun n h => by
      unfold may at h
      unfold rv cl I64
      rw [if_neg (by omega), if_neg (by omega)]
      omega
    have := round_any (rv p.x) (rv p.y) (rv p.z) (i _ hm.1) (i _ hm.2.1) (i _ hm.2.2) w
    unfold rndV at this
    rw [rnd_rv hm.1, rnd_rv hm.2.1, rnd_rv hm.2.2, if_pos hm] at this
    exact this
  · rw [ha' he]; exact close_any v.x hv.1 w
  · rw [ha' he]; exact close_any v.y hv.2.1 w
  · rw [ha' he]; exact close_any v.z hv.2.2 w
  · rw [ha' he, hb' hf]; exact ord _ _
  · rw [ha' he, hb' hf]; exact ord _ _
  · rw [ha' he, hb' hf]; exact ord _ _
end Go.Proofs.Ytbhlnbllkoomfaa
