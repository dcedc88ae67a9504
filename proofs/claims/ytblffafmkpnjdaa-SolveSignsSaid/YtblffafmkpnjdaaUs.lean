/-
  Law 23: Signs (printed by gen_us.py).
-/
import Derived.Test.YtblffafmkpnjdaaUq
import Derived.Test.YtblffafmkpnjdaaUv
set_option linter.unusedSimpArgs false
set_option linter.unusedVariables false
set_option maxRecDepth 100000
namespace Go.Proofs.Ytblffafmkpnjdaa
open Go Go.RowKit
attribute [local irreducible] wpList

theorem gr_eq {S : List Rw} {k : Nat} (h : k < S.length) : gr S k = S[k] := getR_eq h
theorem gb_eq {L : List Inr} {k : Nat} (h : k < L.length) : gb L k = L[k] := getD_eq h
set_option maxHeartbeats 2000000 in
theorem signs_long (s : Int) (b0 b1 : Option Addr) (nb nr c0 c1 : Nat) (h : 20 < (nb : Int) ∨ ¬ 20 < (nb : Int) ∧ 30 < (nr : Int)) (w : World) : Calls Try.prog 3 #[.slice b0 nb c0, .slice b1 nr c1, .int .i64 s] w (Ret (.bool true) w) := by
  rcases h with h | ⟨h, h1⟩
  · skip
    go_enter Try.func3, Try.ntmps3
    have hp := Hp.start [] w
    go_wp2_with (first
          | ((with_reducible apply sx_alloc hp); infer_instance; exact rfl; clear hp; (try clear w1); intro g w1 hp; simp only [zp, zq, z0, z1])
          | ((with_reducible apply sx_load_agg hp); exact zt rfl; infer_instance; infer_instance; (first | exact zl rfl | exact LB_le (by omega)); (first | (with_reducible exact LB_set (by omega)) | (simp only [n0, Nat.reduceAdd, n1, n2, n3, n4, n5, n6, n7, n8, n9]; try rfl)); simp only [zp, zq, z0, z1])
          | ((with_reducible apply sx_load_one hp); exact zt rfl; infer_instance; infer_instance; (first | exact zio rfl | exact LB_get (by omega)); simp only [zp, zq, z0, z1])
          | ((with_reducible apply sx_store hp); exact zt rfl; exact za rfl; exact rfl; (first | exact AggTy.size | exact OneTy.size); exact rfl; infer_instance; (first | (with_reducible exact LB_set (by omega)) | (simp only [n0, Nat.reduceAdd, n1, n2, n3, n4, n5, n6, n7, n8, n9]; try rfl)); (first | exact zl rfl | exact LB_le (by omega)); exact rfl; infer_instance; clear hp; (try clear w1); intro w1 hp)
          | ((with_reducible apply sx_indexAddr); exact zx rfl; exact zk rfl; infer_instance; (first | exact AggTy.size | exact OneTy.size); omega; omega; ((try simp only [m0, Int.reduceToNat, m1, m2, Nat.reduceMul, Nat.reduceAdd, m3, m4, m5, n0]); exact rfl); simp only [zp, zq, z0, z1])
          | ((with_reducible apply sx_load_far hp); exact zt rfl; assumption; infer_instance; assumption; (first | exact zl rfl | omega); simp only [zp, zq, z0, z1])
          | ((with_reducible apply sx_load_far1 hp); exact zt rfl; assumption; infer_instance; (first | assumption | (first | exact zio rfl | exact LB_get (by omega))); simp only [zp, zq, z0, z1])
          | ((with_reducible refine sx_call hp (awake23 _) ?_); clear hp; (try clear w1); intro w1 hp))
    exact bodyPost_ret (results_one rfl rfl) rfl ⟨rfl, hp.keep⟩
  · skip
    go_enter Try.func3, Try.ntmps3
    have hp := Hp.start [] w
    go_wp2_with (first
          | ((with_reducible apply sx_alloc hp); infer_instance; exact rfl; clear hp; (try clear w1); intro g w1 hp; simp only [zp, zq, z0, z1])
          | ((with_reducible apply sx_load_agg hp); exact zt rfl; infer_instance; infer_instance; (first | exact zl rfl | exact LB_le (by omega)); (first | (with_reducible exact LB_set (by omega)) | (simp only [n0, Nat.reduceAdd, n1, n2, n3, n4, n5, n6, n7, n8, n9]; try rfl)); simp only [zp, zq, z0, z1])
          | ((with_reducible apply sx_load_one hp); exact zt rfl; infer_instance; infer_instance; (first | exact zio rfl | exact LB_get (by omega)); simp only [zp, zq, z0, z1])
          | ((with_reducible apply sx_store hp); exact zt rfl; exact za rfl; exact rfl; (first | exact AggTy.size | exact OneTy.size); exact rfl; infer_instance; (first | (with_reducible exact LB_set (by omega)) | (simp only [n0, Nat.reduceAdd, n1, n2, n3, n4, n5, n6, n7, n8, n9]; try rfl)); (first | exact zl rfl | exact LB_le (by omega)); exact rfl; infer_instance; clear hp; (try clear w1); intro w1 hp)
          | ((with_reducible apply sx_indexAddr); exact zx rfl; exact zk rfl; infer_instance; (first | exact AggTy.size | exact OneTy.size); omega; omega; ((try simp only [m0, Int.reduceToNat, m1, m2, Nat.reduceMul, Nat.reduceAdd, m3, m4, m5, n0]); exact rfl); simp only [zp, zq, z0, z1])
          | ((with_reducible apply sx_load_far hp); exact zt rfl; assumption; infer_instance; assumption; (first | exact zl rfl | omega); simp only [zp, zq, z0, z1])
          | ((with_reducible apply sx_load_far1 hp); exact zt rfl; assumption; infer_instance; (first | assumption | (first | exact zio rfl | exact LB_get (by omega))); simp only [zp, zq, z0, z1])
          | ((with_reducible refine sx_call hp (awake23 _) ?_); clear hp; (try clear w1); intro w1 hp))
    exact bodyPost_ret (results_one rfl rfl) rfl ⟨rfl, hp.keep⟩
set_option maxHeartbeats 2000000 in
theorem signs_err (s e : Int) (he : (e == 0) = false) (b0 b1 : Option Addr) (nb nr c0 c1 : Nat) (h : ¬ 20 < (nb : Int)) (h1 : ¬ 30 < (nr : Int)) (w : World)
    (SV : Hid (∀ w1, Keep [] w w1 → Calls Try.prog 9 #[.slice b0 nb c0, .slice b1 nr c1, .int .i64 s] w1 (SolR w1 [] [] e))) : Calls Try.prog 3 #[.slice b0 nb c0, .slice b1 nr c1, .int .i64 s] w (Ret (.bool true) w) := by
  have HL2 : Hid (([] : List Inr).length = 0) := Lib.hid rfl
  have HS2 : Hid (([] : List Rw).length = 0) := Lib.hid rfl
  go_enter Try.func3, Try.ntmps3
  have hp := Hp.start [] w
  go_wp2_with (first
          | ((with_reducible apply sx_guard); (conv => whnf); refine Bx.mk ?_; (try simp only [zp, zq, z0, z1]))
          | ((with_reducible apply sx_alloc hp); infer_instance; exact rfl; clear hp; (try clear w1); intro g w1 hp; simp only [zp, zq, z0, z1])
          | ((with_reducible apply sx_load_agg hp); exact zt rfl; infer_instance; infer_instance; (first | exact zl rfl | exact LB_le (by omega)); (first | (with_reducible exact LB_set (by omega)) | (simp only [n0, Nat.reduceAdd, n1, n2, n3, n4, n5, n6, n7, n8, n9]; try rfl)); simp only [zp, zq, z0, z1])
          | ((with_reducible apply sx_load_one hp); exact zt rfl; infer_instance; infer_instance; (first | exact zio rfl | exact LB_get (by omega)); simp only [zp, zq, z0, z1])
          | ((with_reducible apply sx_store hp); exact zt rfl; exact za rfl; exact rfl; (first | exact AggTy.size | exact OneTy.size); exact rfl; infer_instance; (first | (with_reducible exact LB_set (by omega)) | (simp only [n0, Nat.reduceAdd, n1, n2, n3, n4, n5, n6, n7, n8, n9]; try rfl)); (first | exact zl rfl | exact LB_le (by omega)); exact rfl; infer_instance; clear hp; (try clear w1); intro w1 hp)
          | ((with_reducible apply sx_indexAddr); exact zx rfl; exact zk rfl; infer_instance; (first | exact AggTy.size | exact OneTy.size); omega; omega; ((try simp only [m0, Int.reduceToNat, m1, m2, Nat.reduceMul, Nat.reduceAdd, m3, m4, m5, n0]); exact rfl); simp only [zp, zq, z0, z1])
          | ((with_reducible apply sx_load_far hp); exact zt rfl; assumption; infer_instance; assumption; (first | exact zl rfl | omega); simp only [zp, zq, z0, z1])
          | ((with_reducible apply sx_load_far1 hp); exact zt rfl; assumption; infer_instance; (first | assumption | (first | exact zio rfl | exact LB_get (by omega))); simp only [zp, zq, z0, z1])
          | ((with_reducible refine sx_call hp (awake23 _) ?_); clear hp; (try clear w1); intro w1 hp)
          | ((with_reducible refine Calls.mono (SV.out _ hp.keep) ?_); (rintro _ w2 ⟨hk, vb, vr, rfl, hb, hr⟩); (have HK := Lib.hid (hp.keep.trans hk)); (obtain ⟨b2, c2, rfl⟩ := hb.shapeN HL2.out); (obtain ⟨b3, c3, rfl⟩ := hr.shapeN HS2.out); (have HB := Lib.hid hb); (have HR := Lib.hid hr); clear hb hr hk hp; (try clear w1); (have hp := Hp.start [] w2)))
  exact bodyPost_ret (results_one rfl rfl) rfl ⟨rfl, HK.out.trans hp.keep⟩
/-- What the law asks of one body. -/
def Nm (S : List Rw) (k : Nat) : Bool := S.any fun r => r.a == (k : Int) || r.b == (k : Int)
theorem nm_off {S : List Rw} {k n : Nat} (hn : ∀ r ∈ S, r.names n) (h : Nm S k = false) : ∀ j, j < S.length → ¬ (gr S j).on k := by
  intro j hj ho
  rw [gr_eq hj] at ho
  have hm := List.getElem_mem hj
  have h1 := (hn _ hm)
  rw [Nm, List.any_eq_false] at h
  have h2 := h _ hm
  generalize S[j] = r at *
  obtain ⟨a0, _, b0, _⟩ := h1
  simp at h2
  rcases ho with ho | ho <;> unfold ik at ho <;> omega
theorem nm_on {S : List Rw} {k n : Nat} (hn : ∀ r ∈ S, r.names n) (h : Nm S k = true) : ∃ j, j < S.length ∧ (gr S j).on k := by
  rw [Nm, List.any_eq_true] at h
  obtain ⟨r, hr, hx⟩ := h
  obtain ⟨j, hj, rfl⟩ := List.getElem_of_mem hr
  refine ⟨j, hj, ?_⟩
  rw [gr_eq hj]
  have h1 := hn _ hr
  generalize S[j] = r at *
  obtain ⟨a0, _, b0, _⟩ := h1
  simp at hx
  unfold Rw.on ik
  omega
set_option maxHeartbeats 16000000 in
theorem signs_main (s : Int) (b0 b1 : Option Addr) (nb nr c0 c1 : Nat) (h : ¬ 20 < (nb : Int)) (h1 : ¬ 30 < (nr : Int)) (w : World) (L L' : List Inr) (S S' : List Rw)
    (SV : Hid (∀ w1, Keep [] w w1 → Calls Try.prog 9 #[.slice b0 nb c0, .slice b1 nr c1, .int .i64 s] w1 (SolR w1 L' S' 0)))
    (FB : Hid (∀ w1, Keep [] w w1 → FSl NVl 16 w1 (.slice b0 nb c0) L)) (FR : Hid (∀ w1, Keep [] w w1 → FSl RVl 25 w1 (.slice b1 nr c1) S))
    (HL1 : Hid (L.length = nb)) (HL2 : Hid (L'.length = nb)) (HS1 : Hid (S.length = nr)) (HS2 : Hid (S'.length = nr))
    (CK : Hid (∀ v w1, FSl RVl 25 w1 v S' → Calls Try.prog 10 #[.int .i64 nb, v] w1 (Ret (.int .i64 0) w1)))
    (KP : Hid (Kept L S S.length (L', S'))) (NM : Hid (∀ r ∈ S, r.names nb)) (IS : Hid (∀ r ∈ S', r.i64f)) :
    Calls Try.prog 3 #[.slice b0 nb c0, .slice b1 nr c1, .int .i64 s] w (Ret (.bool true) w) := by
  go_enter Try.func3, Try.ntmps3
  have hp := Hp.start [] w
  go_upto_region 6 with (first
          | ((with_reducible apply sx_guard); (conv => whnf); refine Bx.mk ?_; (try simp only [zp, zq, z0, z1]))
          | ((with_reducible apply sx_alloc hp); infer_instance; exact rfl; clear hp; (try clear w1); intro g w1 hp; simp only [zp, zq, z0, z1])
          | ((with_reducible apply sx_load_agg hp); exact zt rfl; infer_instance; infer_instance; (first | exact zl rfl | exact LB_le (by omega)); (first | (with_reducible exact LB_set (by omega)) | (simp only [n0, Nat.reduceAdd, n1, n2, n3, n4, n5, n6, n7, n8, n9]; try rfl)); simp only [zp, zq, z0, z1])
          | ((with_reducible apply sx_load_one hp); exact zt rfl; infer_instance; infer_instance; (first | exact zio rfl | exact LB_get (by omega)); simp only [zp, zq, z0, z1])
          | ((with_reducible apply sx_store hp); exact zt rfl; exact za rfl; exact rfl; (first | exact AggTy.size | exact OneTy.size); exact rfl; infer_instance; (first | (with_reducible exact LB_set (by omega)) | (simp only [n0, Nat.reduceAdd, n1, n2, n3, n4, n5, n6, n7, n8, n9]; try rfl)); (first | exact zl rfl | exact LB_le (by omega)); exact rfl; infer_instance; clear hp; (try clear w1); intro w1 hp)
          | ((with_reducible apply sx_indexAddr); exact zx rfl; exact zk rfl; infer_instance; (first | exact AggTy.size | exact OneTy.size); omega; omega; ((try simp only [m0, Int.reduceToNat, m1, m2, Nat.reduceMul, Nat.reduceAdd, m3, m4, m5, n0]); exact rfl); simp only [zp, zq, z0, z1])
          | ((with_reducible apply sx_load_far hp); exact zt rfl; assumption; infer_instance; assumption; (first | exact zl rfl | omega); simp only [zp, zq, z0, z1])
          | ((with_reducible apply sx_load_far1 hp); exact zt rfl; assumption; infer_instance; (first | assumption | (first | exact zio rfl | exact LB_get (by omega))); simp only [zp, zq, z0, z1])
          | ((with_reducible refine Calls.mono (SV.out _ hp.keep) ?_); (rintro _ w2 ⟨hk, vb, vr, rfl, hb, hr⟩); (have HK := Lib.hid (hp.keep.trans hk)); (obtain ⟨b2, c2, rfl⟩ := hb.shapeN HL2.out); (obtain ⟨b3, c3, rfl⟩ := hr.shapeN HS2.out); (have HB := Lib.hid hb); (have HR := Lib.hid hr); clear hb hr hk hp; (try clear w1); (have hp := Hp.start [] w2)))
  have CKW : Hid (∀ w3, Keep [] w2 w3 → Calls Try.prog 10 #[.int .i64 nb, .slice b3 nr c3] w3 (Ret (.int .i64 0) w3)) := Lib.hid fun w3 hk => CK.out _ w3 (HR.out.keep hk)
  go_wp2_with (first
          | ((with_reducible apply sx_guard); (conv => whnf); refine Bx.mk ?_; (try simp only [zp, zq, z0, z1]))
          | ((with_reducible apply sx_alloc hp); infer_instance; exact rfl; clear hp; (try clear w1); intro g w1 hp; simp only [zp, zq, z0, z1])
          | ((with_reducible apply sx_load_agg hp); exact zt rfl; infer_instance; infer_instance; (first | exact zl rfl | exact LB_le (by omega)); (first | (with_reducible exact LB_set (by omega)) | (simp only [n0, Nat.reduceAdd, n1, n2, n3, n4, n5, n6, n7, n8, n9]; try rfl)); simp only [zp, zq, z0, z1])
          | ((with_reducible apply sx_load_one hp); exact zt rfl; infer_instance; infer_instance; (first | exact zio rfl | exact LB_get (by omega)); simp only [zp, zq, z0, z1])
          | ((with_reducible apply sx_store hp); exact zt rfl; exact za rfl; exact rfl; (first | exact AggTy.size | exact OneTy.size); exact rfl; infer_instance; (first | (with_reducible exact LB_set (by omega)) | (simp only [n0, Nat.reduceAdd, n1, n2, n3, n4, n5, n6, n7, n8, n9]; try rfl)); (first | exact zl rfl | exact LB_le (by omega)); exact rfl; infer_instance; clear hp; (try clear w1); intro w1 hp)
          | ((with_reducible apply sx_indexAddr); exact zx rfl; exact zk rfl; infer_instance; (first | exact AggTy.size | exact OneTy.size); omega; omega; ((try simp only [m0, Int.reduceToNat, m1, m2, Nat.reduceMul, Nat.reduceAdd, m3, m4, m5, n0]); exact rfl); simp only [zp, zq, z0, z1])
          | ((with_reducible apply sx_load_far hp); exact zt rfl; assumption; infer_instance; assumption; (first | exact zl rfl | omega); simp only [zp, zq, z0, z1])
          | ((with_reducible apply sx_load_far1 hp); exact zt rfl; assumption; infer_instance; (first | assumption | (first | exact zio rfl | exact LB_get (by omega))); simp only [zp, zq, z0, z1])
          | ((with_reducible refine sx_call hp (CKW.out _ hp.keep) ?_); clear hp; (try clear w1); intro w1 hp))
  go_loopw [10] (fun i wr => ∃ k : Nat, k ≤ nr ∧ i = .int .i64 k ∧ Hp [] w2 [] wr) (fun i _ => nr - (intOf i).toNat)
  case atStart => exact ⟨0, by omega, rfl, hp⟩
  case round =>
    clear hp
    obtain ⟨k, hk, rfl, hp⟩ := hrel
    by_cases hk1 : k < nr
    · have hk2 : (k : Int) < nr := by omega
      obtain ⟨g3, o3, d3, t3, y3, rfl, hd3, ha3, hl3⟩ := fsl_at HR.out (by omega) RVl_length (by rw [HS2.out]; exact hk1)
      obtain ⟨g1, o1, d1, t1, y1, rfl, hd1, ha1, hl1⟩ := fsl_at (FR.out w2 HK.out) (by omega) RVl_length (by rw [HS1.out]; exact hk1)
      have hks : k < S.length := by rw [HS1.out]; exact hk1
      have hks' : k < S'.length := by rw [HS2.out]; exact hk1
      have hst : S[k].stat S'[k] := by
        have := (KP.out.row k hks).1
        dsimp only at this
        rwa [gr_eq hks, gr_eq hks'] at this
      have hgd : S'[k].good := by
        have := (KP.out.row k hks).2
        dsimp only at this
        rwa [gr_eq hks'] at this
      have HI := Lib.hid (IS.out _ (List.getElem_mem (by rw [HS2.out]; exact hk1)))
      generalize S'[k] = r' at *
      generalize S[k] = r0 at *
      have ea : r'.a = r0.a := by rw [hst]
      have eb : r'.b = r0.b := by rw [hst]
      have en : r'.n = r0.n := by rw [hst]
      have x0 : d3[o3 + k * 25]? = some (.int .i64 r0.a) := by rw [← ea]; exact get_of 0 ha3 rfl
      have x1 : d3[o3 + k * 25 + 1]? = some (.int .i64 r0.b) := by rw [← eb]; exact get_of 1 ha3 rfl
      have x2 : (d3.drop (o3 + k * 25 + 2)).take 3 = [.int .i64 r0.n.x, .int .i64 r0.n.y, .int .i64 r0.n.z] := by rw [← en]; exact part_of 2 3 ha3 (by omega) rfl
      have x21 : d3[o3 + k * 25 + 21]? = some (.int .i64 r'.rub) := get_of 21 ha3 rfl
      have x22 : d3[o3 + k * 25 + 22]? = some (.int .i64 r'.pn) := get_of 22 ha3 rfl
      have x23 : d3[o3 + k * 25 + 23]? = some (.int .i64 r'.pt) := get_of 23 ha3 rfl
      have x24 : d3[o3 + k * 25 + 24]? = some (.int .i64 r'.pu) := get_of 24 ha3 rfl
      have q0 : d1[o1 + k * 25]? = some (.int .i64 r0.a) := get_of 0 ha1 rfl
      have q1 : d1[o1 + k * 25 + 1]? = some (.int .i64 r0.b) := get_of 1 ha1 rfl
      have q2 : (d1.drop (o1 + k * 25 + 2)).take 3 = [.int .i64 r0.n.x, .int .i64 r0.n.y, .int .i64 r0.n.z] := part_of 2 3 ha1 (by omega) rfl
      have hpn : decide (r'.pn < 0) = false := decide_eq_false (by have := hgd.1; omega)
      have IN := Lib.hid (inside_any r'.pt r'.pu (cl (r'.rub * r'.pn / 4294967296)) HI.out.2.2.2.2.2.2.2.1 HI.out.2.2.2.2.2.2.2.2 (cl_i64 _))
      rw [hgd.2] at IN
      have MU := Lib.hid (fmul_any r'.rub r'.pn HI.out.2.2.2.2.2.1 HI.out.2.2.2.2.2.2.1)
      generalize cl (r'.rub * r'.pn / 4294967296) = q at *
      clear ha1 ha3 hst hgd ea eb en HI
      as_aux_lemma =>
        go_wp2_with (first
          | ((with_reducible apply sx_alloc hp); infer_instance; exact rfl; clear hp; (try clear w1); intro g w1 hp; simp only [zp, zq, z0, z1])
          | ((with_reducible apply sx_load_agg hp); exact zt rfl; infer_instance; infer_instance; (first | exact zl rfl | exact LB_le (by omega)); (first | (with_reducible exact LB_set (by omega)) | (simp only [n0, Nat.reduceAdd, n1, n2, n3, n4, n5, n6, n7, n8, n9]; try rfl)); simp only [zp, zq, z0, z1])
          | ((with_reducible apply sx_load_one hp); exact zt rfl; infer_instance; infer_instance; (first | exact zio rfl | exact LB_get (by omega)); simp only [zp, zq, z0, z1])
          | ((with_reducible apply sx_store hp); exact zt rfl; exact za rfl; exact rfl; (first | exact AggTy.size | exact OneTy.size); exact rfl; infer_instance; (first | (with_reducible exact LB_set (by omega)) | (simp only [n0, Nat.reduceAdd, n1, n2, n3, n4, n5, n6, n7, n8, n9]; try rfl)); (first | exact zl rfl | exact LB_le (by omega)); exact rfl; infer_instance; clear hp; (try clear w1); intro w1 hp)
          | ((with_reducible apply sx_indexAddr); exact zx rfl; exact zk rfl; infer_instance; (first | exact AggTy.size | exact OneTy.size); omega; omega; ((try simp only [m0, Int.reduceToNat, m1, m2, Nat.reduceMul, Nat.reduceAdd, m3, m4, m5, n0]); exact rfl); simp only [zp, zq, z0, z1])
          | ((with_reducible apply sx_load_far hp); exact zt rfl; assumption; infer_instance; assumption; (first | exact zl rfl | omega); simp only [zp, zq, z0, z1])
          | ((with_reducible apply sx_load_far1 hp); exact zt rfl; assumption; infer_instance; (first | assumption | (first | exact zio rfl | exact LB_get (by omega))); simp only [zp, zq, z0, z1]))
        have hq := hp
        refine wp_drawnG_hp hp hq [] (.q 0 (.q 1 (.q 2 (.q 3 (.q 4 (.q 5 (.q 6 (.q 7 (.q 8 (.q 9 (.q 10 (.q 11 (.q 12 (.q 13 (.q 14 (.q 15 (.q 16 (.q 17 (.q 18 (.q 19 (.q 20 (.q 21 (.q 22 (.q 23 (.q 24 (.q 25 (.q 26 (.p 27 (.p 28 (.q 29 (.q 30 (.q 31 (.q 32 (.q 33 (.q 34 (.q 35 (.q 36 (.q 37 (.q 38 (.q 39 (.q 40 (.q 41 (.q 42 (.q 43 (.q 44 (.q 45 (.q 46 (.q 47 (.q 48 (.q 49 (.q 50 (.q 51 (.q 52 (.q 53 (.q 54 (.q 55 (.q 56 (.q 57 (.q 58 (.q 59 (.q 60 (.q 61 (.q 62 (.q 63 (.q 64 (.q 65 (.q 66 (.q 67 (.q 68 (.q 69 .nil)))))))))))))))))))))))))))))))))))))))))))))))))))))))))))))))))))))) (by kernel_rfl) (by kernel_rfl) ?_
        clear hp hq; (try clear w1); intro w1 hp hq
        repeat' (first
          | (((with_reducible apply sg_q); exact zo rfl); (first
              | ((with_reducible apply sg_load_agg hp); exact rfl; exact zt rfl; infer_instance; infer_instance; (first | exact zl rfl | exact LB_le (by omega)); (first | (with_reducible exact LB_set (by omega)) | (simp only [n0, Nat.reduceAdd, n1, n2, n3, n4, n5, n6, n7, n8, n9]; try rfl)); simp only [zp, zq, z0, z1])
              | ((with_reducible apply sg_load_far hp); exact rfl; exact zt rfl; assumption; infer_instance; assumption; (first | exact zl rfl | omega); simp only [zp, zq, z0, z1])
              | ((with_reducible apply sg_load_one hp); exact rfl; exact zt rfl; infer_instance; infer_instance; (first | exact zio rfl | exact LB_get (by omega)); simp only [zp, zq, z0, z1])
              | ((with_reducible apply sg_load_far1 hp); exact rfl; exact zt rfl; assumption; infer_instance; (first | assumption | (first | exact zio rfl | exact LB_get (by omega))); simp only [zp, zq, z0, z1])
              | ((with_reducible apply sg_move hp); (first | exact zb rfl | exact zi rfl | exact zs rfl); simp only [zp, zq, z0, z1])
              | ((with_reducible apply sg_indexAddr hp); exact rfl; exact zx rfl; exact zk rfl; infer_instance; (first | exact AggTy.size | exact OneTy.size); omega; omega; ((try simp only [m0, Int.reduceToNat, m1, m2, Nat.reduceMul, Nat.reduceAdd, m3, m4, m5, n0]); exact rfl); simp only [zp, zq, z0, z1])
              | ((with_reducible apply sg_pure hp); exact rfl; (focus (intro _; go_simp; (try go_ints); try with_reducible rfl)); simp only [zp, zq, z0, z1])
              | ((with_reducible apply sg_skip hp); exact rfl; simp only [zp, zq, z0, z1])))
          | (((with_reducible apply sg_p); exact zo rfl); (first
              | ((with_reducible apply sg_call hp); exact rfl; (focus (intro _; go_simp; try first | with_reducible rfl | exact ⟨rfl, rfl⟩)); (with_reducible first | exact fun w => MU.out w | exact fun w => IN.out w); simp only [zp, zq, z0, z1])
              | ((with_reducible apply sg_skipP hp); exact rfl; simp only [zp, zq, z0, z1])))
          | ((with_reducible apply sg_nil hq); clear hp hq; (try clear w1); intro w1 hp))
        go_wp2_with (first
          | ((with_reducible apply sx_alloc hp); infer_instance; exact rfl; clear hp; (try clear w1); intro g w1 hp; simp only [zp, zq, z0, z1])
          | ((with_reducible apply sx_load_agg hp); exact zt rfl; infer_instance; infer_instance; (first | exact zl rfl | exact LB_le (by omega)); (first | (with_reducible exact LB_set (by omega)) | (simp only [n0, Nat.reduceAdd, n1, n2, n3, n4, n5, n6, n7, n8, n9]; try rfl)); simp only [zp, zq, z0, z1])
          | ((with_reducible apply sx_load_one hp); exact zt rfl; infer_instance; infer_instance; (first | exact zio rfl | exact LB_get (by omega)); simp only [zp, zq, z0, z1])
          | ((with_reducible apply sx_store hp); exact zt rfl; exact za rfl; exact rfl; (first | exact AggTy.size | exact OneTy.size); exact rfl; infer_instance; (first | (with_reducible exact LB_set (by omega)) | (simp only [n0, Nat.reduceAdd, n1, n2, n3, n4, n5, n6, n7, n8, n9]; try rfl)); (first | exact zl rfl | exact LB_le (by omega)); exact rfl; infer_instance; clear hp; (try clear w1); intro w1 hp)
          | ((with_reducible apply sx_indexAddr); exact zx rfl; exact zk rfl; infer_instance; (first | exact AggTy.size | exact OneTy.size); omega; omega; ((try simp only [m0, Int.reduceToNat, m1, m2, Nat.reduceMul, Nat.reduceAdd, m3, m4, m5, n0]); exact rfl); simp only [zp, zq, z0, z1])
          | ((with_reducible apply sx_load_far hp); exact zt rfl; assumption; infer_instance; assumption; (first | exact zl rfl | omega); simp only [zp, zq, z0, z1])
          | ((with_reducible apply sx_load_far1 hp); exact zt rfl; assumption; infer_instance; (first | assumption | (first | exact zio rfl | exact LB_get (by omega))); simp only [zp, zq, z0, z1]))
        go_roundw
        case rel => exact ⟨k + 1, by omega, by go_num, hp.sub (List.nil_sublist _)⟩
        case measure => simp [intOf]; omega
    · obtain rfl : nr = k := by omega
      go_wp2_with (first
          | ((with_reducible apply sx_alloc hp); infer_instance; exact rfl; clear hp; (try clear w1); intro g w1 hp; simp only [zp, zq, z0, z1])
          | ((with_reducible apply sx_load_agg hp); exact zt rfl; infer_instance; infer_instance; (first | exact zl rfl | exact LB_le (by omega)); (first | (with_reducible exact LB_set (by omega)) | (simp only [n0, Nat.reduceAdd, n1, n2, n3, n4, n5, n6, n7, n8, n9]; try rfl)); simp only [zp, zq, z0, z1])
          | ((with_reducible apply sx_load_one hp); exact zt rfl; infer_instance; infer_instance; (first | exact zio rfl | exact LB_get (by omega)); simp only [zp, zq, z0, z1])
          | ((with_reducible apply sx_store hp); exact zt rfl; exact za rfl; exact rfl; (first | exact AggTy.size | exact OneTy.size); exact rfl; infer_instance; (first | (with_reducible exact LB_set (by omega)) | (simp only [n0, Nat.reduceAdd, n1, n2, n3, n4, n5, n6, n7, n8, n9]; try rfl)); (first | exact zl rfl | exact LB_le (by omega)); exact rfl; infer_instance; clear hp; (try clear w1); intro w1 hp)
          | ((with_reducible apply sx_indexAddr); exact zx rfl; exact zk rfl; infer_instance; (first | exact AggTy.size | exact OneTy.size); omega; omega; ((try simp only [m0, Int.reduceToNat, m1, m2, Nat.reduceMul, Nat.reduceAdd, m3, m4, m5, n0]); exact rfl); simp only [zp, zq, z0, z1])
          | ((with_reducible apply sx_load_far hp); exact zt rfl; assumption; infer_instance; assumption; (first | exact zl rfl | omega); simp only [zp, zq, z0, z1])
          | ((with_reducible apply sx_load_far1 hp); exact zt rfl; assumption; infer_instance; (first | assumption | (first | exact zio rfl | exact LB_get (by omega))); simp only [zp, zq, z0, z1]))
      clear hk hk1
      go_loopw [11] (fun i wr => ∃ k : Nat, k ≤ nb ∧ i = .int .i64 k ∧ Hp [] w2 [] wr) (fun i _ => nb - (intOf i).toNat)
      case atStart => exact ⟨0, by omega, rfl, hp.sub (List.nil_sublist _)⟩
      case round =>
        clear hp
        obtain ⟨k, hk, rfl, hp⟩ := hrel
        by_cases hk1 : k < nb
        · have hk2 : (k : Int) < nb := by omega
          go_wp2_with (first
          | ((with_reducible apply sx_alloc hp); infer_instance; exact rfl; clear hp; (try clear w1); intro g w1 hp; simp only [zp, zq, z0, z1])
          | ((with_reducible apply sx_load_agg hp); exact zt rfl; infer_instance; infer_instance; (first | exact zl rfl | exact LB_le (by omega)); (first | (with_reducible exact LB_set (by omega)) | (simp only [n0, Nat.reduceAdd, n1, n2, n3, n4, n5, n6, n7, n8, n9]; try rfl)); simp only [zp, zq, z0, z1])
          | ((with_reducible apply sx_load_one hp); exact zt rfl; infer_instance; infer_instance; (first | exact zio rfl | exact LB_get (by omega)); simp only [zp, zq, z0, z1])
          | ((with_reducible apply sx_store hp); exact zt rfl; exact za rfl; exact rfl; (first | exact AggTy.size | exact OneTy.size); exact rfl; infer_instance; (first | (with_reducible exact LB_set (by omega)) | (simp only [n0, Nat.reduceAdd, n1, n2, n3, n4, n5, n6, n7, n8, n9]; try rfl)); (first | exact zl rfl | exact LB_le (by omega)); exact rfl; infer_instance; clear hp; (try clear w1); intro w1 hp)
          | ((with_reducible apply sx_indexAddr); exact zx rfl; exact zk rfl; infer_instance; (first | exact AggTy.size | exact OneTy.size); omega; omega; ((try simp only [m0, Int.reduceToNat, m1, m2, Nat.reduceMul, Nat.reduceAdd, m3, m4, m5, n0]); exact rfl); simp only [zp, zq, z0, z1])
          | ((with_reducible apply sx_load_far hp); exact zt rfl; assumption; infer_instance; assumption; (first | exact zl rfl | omega); simp only [zp, zq, z0, z1])
          | ((with_reducible apply sx_load_far1 hp); exact zt rfl; assumption; infer_instance; (first | assumption | (first | exact zio rfl | exact LB_get (by omega))); simp only [zp, zq, z0, z1]))
          go_loopw [12, 13] (fun nv jv wr => ∃ j : Nat, j ≤ nr ∧ jv = .int .i64 j ∧ nv = .bool (Nm (S.take j) k) ∧ Hp [] w2 [] wr) (fun _ jv _ => nr - (intOf jv).toNat)
          case atStart => exact ⟨0, by omega, rfl, rfl, hp⟩
          case round =>
            clear hp
            obtain ⟨j, hj, rfl, rfl, hp⟩ := hrel
            by_cases hj1 : j < nr
            · have hj2 : (j : Int) < nr := by omega
              obtain ⟨g1, o1, d1, t1, y1, rfl, hd1, ha1, hl1⟩ := fsl_at (FR.out w2 HK.out) (by omega) RVl_length (by rw [HS1.out]; exact hj1)
              have hjs : j < S.length := by rw [HS1.out]; exact hj1
              have HN : Hid (Nm (S.take (j + 1)) k = (Nm (S.take j) k || (S[j].a == (k : Int) || S[j].b == (k : Int)))) := Lib.hid (by
                unfold Nm
                rw [List.take_add_one, List.any_append, List.getElem?_eq_getElem hjs]
                simp)
              generalize S[j] = r0 at *
              have q0 : d1[o1 + j * 25]? = some (.int .i64 r0.a) := get_of 0 ha1 rfl
              have q1 : d1[o1 + j * 25 + 1]? = some (.int .i64 r0.b) := get_of 1 ha1 rfl
              clear ha1 hjs
              generalize Nm (S.take j) k = nm at *
              cases nm with
              | true =>
                have H1 : Hid (Nm (S.take (j + 1)) k = true) := Lib.hid (by rw [HN.out]; rfl)
                clear HN
                as_aux_lemma =>
                  go_wp2_with (first
          | ((with_reducible apply sx_guard); (conv => whnf); refine Bx.mk ?_; (try simp only [zp, zq, z0, z1]))
          | ((with_reducible apply sx_alloc hp); infer_instance; exact rfl; clear hp; (try clear w1); intro g w1 hp; simp only [zp, zq, z0, z1])
          | ((with_reducible apply sx_load_agg hp); exact zt rfl; infer_instance; infer_instance; (first | exact zl rfl | exact LB_le (by omega)); (first | (with_reducible exact LB_set (by omega)) | (simp only [n0, Nat.reduceAdd, n1, n2, n3, n4, n5, n6, n7, n8, n9]; try rfl)); simp only [zp, zq, z0, z1])
          | ((with_reducible apply sx_load_one hp); exact zt rfl; infer_instance; infer_instance; (first | exact zio rfl | exact LB_get (by omega)); simp only [zp, zq, z0, z1])
          | ((with_reducible apply sx_store hp); exact zt rfl; exact za rfl; exact rfl; (first | exact AggTy.size | exact OneTy.size); exact rfl; infer_instance; (first | (with_reducible exact LB_set (by omega)) | (simp only [n0, Nat.reduceAdd, n1, n2, n3, n4, n5, n6, n7, n8, n9]; try rfl)); (first | exact zl rfl | exact LB_le (by omega)); exact rfl; infer_instance; clear hp; (try clear w1); intro w1 hp)
          | ((with_reducible apply sx_indexAddr); exact zx rfl; exact zk rfl; infer_instance; (first | exact AggTy.size | exact OneTy.size); omega; omega; ((try simp only [m0, Int.reduceToNat, m1, m2, Nat.reduceMul, Nat.reduceAdd, m3, m4, m5, n0]); exact rfl); simp only [zp, zq, z0, z1])
          | ((with_reducible apply sx_load_far hp); exact zt rfl; assumption; infer_instance; assumption; (first | exact zl rfl | omega); simp only [zp, zq, z0, z1])
          | ((with_reducible apply sx_load_far1 hp); exact zt rfl; assumption; infer_instance; (first | assumption | (first | exact zio rfl | exact LB_get (by omega))); simp only [zp, zq, z0, z1]))
                  go_roundw
                  case rel => exact ⟨j + 1, by omega, by go_num, by rw [H1.out], hp⟩
                  case measure => simp [intOf]; omega
              | false =>
                by_cases hx : r0.a = (k : Int)
                · have H1 : Hid (Nm (S.take (j + 1)) k = true) := Lib.hid (by rw [HN.out, hx]; simp)
                  clear HN
                  have hxb : (r0.a == (k : Int)) = true := by rw [hx]; simp
                  clear hx
                  as_aux_lemma =>
                    go_wp2_with (first
          | ((with_reducible apply sx_guard); (conv => whnf); refine Bx.mk ?_; (try simp only [zp, zq, z0, z1]))
          | ((with_reducible apply sx_alloc hp); infer_instance; exact rfl; clear hp; (try clear w1); intro g w1 hp; simp only [zp, zq, z0, z1])
          | ((with_reducible apply sx_load_agg hp); exact zt rfl; infer_instance; infer_instance; (first | exact zl rfl | exact LB_le (by omega)); (first | (with_reducible exact LB_set (by omega)) | (simp only [n0, Nat.reduceAdd, n1, n2, n3, n4, n5, n6, n7, n8, n9]; try rfl)); simp only [zp, zq, z0, z1])
          | ((with_reducible apply sx_load_one hp); exact zt rfl; infer_instance; infer_instance; (first | exact zio rfl | exact LB_get (by omega)); simp only [zp, zq, z0, z1])
          | ((with_reducible apply sx_store hp); exact zt rfl; exact za rfl; exact rfl; (first | exact AggTy.size | exact OneTy.size); exact rfl; infer_instance; (first | (with_reducible exact LB_set (by omega)) | (simp only [n0, Nat.reduceAdd, n1, n2, n3, n4, n5, n6, n7, n8, n9]; try rfl)); (first | exact zl rfl | exact LB_le (by omega)); exact rfl; infer_instance; clear hp; (try clear w1); intro w1 hp)
          | ((with_reducible apply sx_indexAddr); exact zx rfl; exact zk rfl; infer_instance; (first | exact AggTy.size | exact OneTy.size); omega; omega; ((try simp only [m0, Int.reduceToNat, m1, m2, Nat.reduceMul, Nat.reduceAdd, m3, m4, m5, n0]); exact rfl); simp only [zp, zq, z0, z1])
          | ((with_reducible apply sx_load_far hp); exact zt rfl; assumption; infer_instance; assumption; (first | exact zl rfl | omega); simp only [zp, zq, z0, z1])
          | ((with_reducible apply sx_load_far1 hp); exact zt rfl; assumption; infer_instance; (first | assumption | (first | exact zio rfl | exact LB_get (by omega))); simp only [zp, zq, z0, z1]))
                    go_roundw
                    case rel => exact ⟨j + 1, by omega, by go_num, by rw [H1.out], hp⟩
                    case measure => simp [intOf]; omega
                · have hxb : (r0.a == (k : Int)) = false := by simpa using hx
                  have H1 : Hid (Nm (S.take (j + 1)) k = (r0.b == (k : Int))) := Lib.hid (by rw [HN.out, hxb]; rfl)
                  clear HN
                  clear hx
                  as_aux_lemma =>
                    go_wp2_with (first
          | ((with_reducible apply sx_guard); (conv => whnf); refine Bx.mk ?_; (try simp only [zp, zq, z0, z1]))
          | ((with_reducible apply sx_alloc hp); infer_instance; exact rfl; clear hp; (try clear w1); intro g w1 hp; simp only [zp, zq, z0, z1])
          | ((with_reducible apply sx_load_agg hp); exact zt rfl; infer_instance; infer_instance; (first | exact zl rfl | exact LB_le (by omega)); (first | (with_reducible exact LB_set (by omega)) | (simp only [n0, Nat.reduceAdd, n1, n2, n3, n4, n5, n6, n7, n8, n9]; try rfl)); simp only [zp, zq, z0, z1])
          | ((with_reducible apply sx_load_one hp); exact zt rfl; infer_instance; infer_instance; (first | exact zio rfl | exact LB_get (by omega)); simp only [zp, zq, z0, z1])
          | ((with_reducible apply sx_store hp); exact zt rfl; exact za rfl; exact rfl; (first | exact AggTy.size | exact OneTy.size); exact rfl; infer_instance; (first | (with_reducible exact LB_set (by omega)) | (simp only [n0, Nat.reduceAdd, n1, n2, n3, n4, n5, n6, n7, n8, n9]; try rfl)); (first | exact zl rfl | exact LB_le (by omega)); exact rfl; infer_instance; clear hp; (try clear w1); intro w1 hp)
          | ((with_reducible apply sx_indexAddr); exact zx rfl; exact zk rfl; infer_instance; (first | exact AggTy.size | exact OneTy.size); omega; omega; ((try simp only [m0, Int.reduceToNat, m1, m2, Nat.reduceMul, Nat.reduceAdd, m3, m4, m5, n0]); exact rfl); simp only [zp, zq, z0, z1])
          | ((with_reducible apply sx_load_far hp); exact zt rfl; assumption; infer_instance; assumption; (first | exact zl rfl | omega); simp only [zp, zq, z0, z1])
          | ((with_reducible apply sx_load_far1 hp); exact zt rfl; assumption; infer_instance; (first | assumption | (first | exact zio rfl | exact LB_get (by omega))); simp only [zp, zq, z0, z1]))
                    go_roundw
                    case rel => exact ⟨j + 1, by omega, by go_num, by rw [H1.out], hp⟩
                    case measure => simp [intOf]; omega
            · obtain rfl : nr = j := by omega
              have e9 : S.take nr = S := List.take_of_length_le (by rw [HS1.out]; exact Nat.le_refl _)
              rw [e9]
              obtain ⟨g1, o1, d1, t1, y1, rfl, hd1, ha1, hl1⟩ := fsl_at (FB.out w2 HK.out) (by omega) NVl_length (by rw [HL1.out]; exact hk1)
              obtain ⟨g3, o3, d3, t3, y3, rfl, hd3, ha3, hl3⟩ := fsl_at HB.out (by omega) NVl_length (by rw [HL2.out]; exact hk1)
              have hkl : k < L.length := by rw [HL1.out]; exact hk1
              have hkl2 : k < L'.length := by rw [HL2.out]; exact hk1
              have PU := KP.out.pu k
              dsimp only at PU
              rw [gb_eq hkl, gb_eq hkl2] at PU
              have OFF : Nm S k = false → L'[k] = L[k] := fun e => by
                have h9 := KP.out.off k (nm_off NM.out e)
                dsimp only at h9
                rwa [gb_eq hkl, gb_eq hkl2] at h9
              have LIM : Nm S k = true → L'[k].lim := fun e => by
                obtain ⟨j9, hj9, ho9⟩ := nm_on NM.out e
                have h9 := KP.out.lim k j9 hj9 ho9
                dsimp only at h9
                rwa [gb_eq hkl2] at h9
              generalize L[k] = bb at *
              generalize L'[k] = lb at *
              generalize Nm S k = nm at *
              obtain ⟨s1, s2, s3, s4⟩ := PU.stay
              have FX : bb.still → lb = bb := PU.fixed
              clear PU
              obtain ⟨lm, lp, lq, lr, lv, ls⟩ := lb
              dsimp only at s1 s2 s3 s4
              subst s1 s2 s3 s4
              have q1 : (d1.drop (o1 + k * 16)).take 16 = NVl bb := ha1
              have z0' : d3[o3 + k * 16]? = some (.int .i64 bb.m) := get_of 0 ha3 rfl
              have z1' : (d3.drop (o3 + k * 16 + 1)).take 9 = [.int .i64 bb.p.x, .int .i64 bb.p.y, .int .i64 bb.p.z, .int .i64 bb.q.x, .int .i64 bb.q.y, .int .i64 bb.q.z, .int .i64 bb.r.x, .int .i64 bb.r.y, .int .i64 bb.r.z] := part_of 1 9 ha3 (by omega) rfl
              have z2' : (d3.drop (o3 + k * 16 + 10)).take 3 = [.int .i64 lv.x, .int .i64 lv.y, .int .i64 lv.z] := part_of 10 3 ha3 (by omega) rfl
              have z3' : (d3.drop (o3 + k * 16 + 13)).take 3 = [.int .i64 ls.x, .int .i64 ls.y, .int .i64 ls.z] := part_of 13 3 ha3 (by omega) rfl
              have EZ : ∀ d w, (Op.equalIn (d + 4) 38 (.agg #[.int .i64 bb.p.x, .int .i64 bb.p.y, .int .i64 bb.p.z, .int .i64 bb.q.x, .int .i64 bb.q.y, .int .i64 bb.q.z, .int .i64 bb.r.x, .int .i64 bb.r.y, .int .i64 bb.r.z]) (.agg #[.int .i64 0, .int .i64 0, .int .i64 0, .int .i64 0, .int .i64 0, .int .i64 0, .int .i64 0, .int .i64 0, .int .i64 0])).run Try.prog w = .ok (decide (bb.p = ⟨0, 0, 0⟩ ∧ bb.q = ⟨0, 0, 0⟩ ∧ bb.r = ⟨0, 0, 0⟩)) w := fun d w => eq_mat w d bb.p bb.q bb.r ⟨0, 0, 0⟩ ⟨0, 0, 0⟩ ⟨0, 0, 0⟩
              unfold NVl at q1 ha3
              dsimp only at ha3
              clear ha1
              go_upto_region 22 with (first
          | ((with_reducible apply sx_alloc hp); infer_instance; exact rfl; clear hp; (try clear w1); intro g w1 hp; simp only [zp, zq, z0, z1])
          | ((with_reducible apply sx_load_agg hp); exact zt rfl; infer_instance; infer_instance; (first | exact zl rfl | exact LB_le (by omega)); (first | (with_reducible exact LB_set (by omega)) | (simp only [n0, Nat.reduceAdd, n1, n2, n3, n4, n5, n6, n7, n8, n9]; try rfl)); simp only [zp, zq, z0, z1])
          | ((with_reducible apply sx_load_one hp); exact zt rfl; infer_instance; infer_instance; (first | exact zio rfl | exact LB_get (by omega)); simp only [zp, zq, z0, z1])
          | ((with_reducible apply sx_store hp); exact zt rfl; exact za rfl; exact rfl; (first | exact AggTy.size | exact OneTy.size); exact rfl; infer_instance; (first | (with_reducible exact LB_set (by omega)) | (simp only [n0, Nat.reduceAdd, n1, n2, n3, n4, n5, n6, n7, n8, n9]; try rfl)); (first | exact zl rfl | exact LB_le (by omega)); exact rfl; infer_instance; clear hp; (try clear w1); intro w1 hp)
          | ((with_reducible apply sx_indexAddr); exact zx rfl; exact zk rfl; infer_instance; (first | exact AggTy.size | exact OneTy.size); omega; omega; ((try simp only [m0, Int.reduceToNat, m1, m2, Nat.reduceMul, Nat.reduceAdd, m3, m4, m5, n0]); exact rfl); simp only [zp, zq, z0, z1])
          | ((with_reducible apply sx_load_far hp); exact zt rfl; assumption; infer_instance; assumption; (first | exact zl rfl | omega); simp only [zp, zq, z0, z1])
          | ((with_reducible apply sx_load_far1 hp); exact zt rfl; assumption; infer_instance; (first | assumption | (first | exact zio rfl | exact LB_get (by omega))); simp only [zp, zq, z0, z1]))
              rename_i K9 hK9
              go_cut [14, 15] (fun s t wx => s = .pointer (some ⟨g, 0, none⟩) ∧ ∃ fx : Bool, t = .bool fx ∧ (fx = true → bb.still) ∧ Hp [] w2 [⟨g, 40, [.int .i64 bb.m, .int .i64 bb.p.x, .int .i64 bb.p.y, .int .i64 bb.p.z, .int .i64 bb.q.x, .int .i64 bb.q.y, .int .i64 bb.q.z, .int .i64 bb.r.x, .int .i64 bb.r.y, .int .i64 bb.r.z, .int .i64 bb.v.x, .int .i64 bb.v.y, .int .i64 bb.v.z, .int .i64 bb.s.x, .int .i64 bb.s.y, .int .i64 bb.s.z]⟩] wx)
              case first =>
                have CV := Lib.hid (limited_any bb.v)
                have CS := Lib.hid (limited_any bb.s)
                clear OFF LIM FX q1 ha3 z0' z1' z2' z3'
                by_cases f1 : bb.m = 0
                case neg =>
                  have f1b : (bb.m == 0) = false := by simpa using f1
                  clear f1
                  as_aux_lemma =>
                    go_wp2_with (first
          | ((with_reducible apply sx_guard); (conv => whnf); refine Bx.mk ?_; (try simp only [zp, zq, z0, z1]))
          | ((with_reducible apply sx_alloc hp); infer_instance; exact rfl; clear hp; (try clear w1); intro g w1 hp; simp only [zp, zq, z0, z1])
          | ((with_reducible apply sx_load_agg hp); exact zt rfl; infer_instance; infer_instance; (first | exact zl rfl | exact LB_le (by omega)); (first | (with_reducible exact LB_set (by omega)) | (simp only [n0, Nat.reduceAdd, n1, n2, n3, n4, n5, n6, n7, n8, n9]; try rfl)); simp only [zp, zq, z0, z1])
          | ((with_reducible apply sx_load_one hp); exact zt rfl; infer_instance; infer_instance; (first | exact zio rfl | exact LB_get (by omega)); simp only [zp, zq, z0, z1])
          | ((with_reducible apply sx_store hp); exact zt rfl; exact za rfl; exact rfl; (first | exact AggTy.size | exact OneTy.size); exact rfl; infer_instance; (first | (with_reducible exact LB_set (by omega)) | (simp only [n0, Nat.reduceAdd, n1, n2, n3, n4, n5, n6, n7, n8, n9]; try rfl)); (first | exact zl rfl | exact LB_le (by omega)); exact rfl; infer_instance; clear hp; (try clear w1); intro w1 hp)
          | ((with_reducible apply sx_indexAddr); exact zx rfl; exact zk rfl; infer_instance; (first | exact AggTy.size | exact OneTy.size); omega; omega; ((try simp only [m0, Int.reduceToNat, m1, m2, Nat.reduceMul, Nat.reduceAdd, m3, m4, m5, n0]); exact rfl); simp only [zp, zq, z0, z1])
          | ((with_reducible apply sx_load_far hp); exact zt rfl; assumption; infer_instance; assumption; (first | exact zl rfl | omega); simp only [zp, zq, z0, z1])
          | ((with_reducible apply sx_load_far1 hp); exact zt rfl; assumption; infer_instance; (first | assumption | (first | exact zio rfl | exact LB_get (by omega))); simp only [zp, zq, z0, z1])
          | ((with_reducible first | refine sx_call hp (CV.out _) ?_ | refine sx_call hp (CS.out _) ?_); clear hp; (try clear w1); intro w1 hp))
                    go_meet
                    exact ⟨rfl, _, rfl, (fun h => by cases h), hp⟩
                have f1b : (bb.m == 0) = true := by rw [f1]; rfl
                by_cases f2 : bb.p = ⟨0, 0, 0⟩ ∧ bb.q = ⟨0, 0, 0⟩ ∧ bb.r = ⟨0, 0, 0⟩
                case neg =>
                  have f2b := decide_eq_false f2
                  clear f1 f2
                  as_aux_lemma =>
                    go_wp2_with (first
          | ((with_reducible apply sx_guard); (conv => whnf); refine Bx.mk ?_; (try simp only [zp, zq, z0, z1]))
          | ((with_reducible apply sx_alloc hp); infer_instance; exact rfl; clear hp; (try clear w1); intro g w1 hp; simp only [zp, zq, z0, z1])
          | ((with_reducible apply sx_load_agg hp); exact zt rfl; infer_instance; infer_instance; (first | exact zl rfl | exact LB_le (by omega)); (first | (with_reducible exact LB_set (by omega)) | (simp only [n0, Nat.reduceAdd, n1, n2, n3, n4, n5, n6, n7, n8, n9]; try rfl)); simp only [zp, zq, z0, z1])
          | ((with_reducible apply sx_load_one hp); exact zt rfl; infer_instance; infer_instance; (first | exact zio rfl | exact LB_get (by omega)); simp only [zp, zq, z0, z1])
          | ((with_reducible apply sx_store hp); exact zt rfl; exact za rfl; exact rfl; (first | exact AggTy.size | exact OneTy.size); exact rfl; infer_instance; (first | (with_reducible exact LB_set (by omega)) | (simp only [n0, Nat.reduceAdd, n1, n2, n3, n4, n5, n6, n7, n8, n9]; try rfl)); (first | exact zl rfl | exact LB_le (by omega)); exact rfl; infer_instance; clear hp; (try clear w1); intro w1 hp)
          | ((with_reducible apply sx_indexAddr); exact zx rfl; exact zk rfl; infer_instance; (first | exact AggTy.size | exact OneTy.size); omega; omega; ((try simp only [m0, Int.reduceToNat, m1, m2, Nat.reduceMul, Nat.reduceAdd, m3, m4, m5, n0]); exact rfl); simp only [zp, zq, z0, z1])
          | ((with_reducible apply sx_load_far hp); exact zt rfl; assumption; infer_instance; assumption; (first | exact zl rfl | omega); simp only [zp, zq, z0, z1])
          | ((with_reducible apply sx_load_far1 hp); exact zt rfl; assumption; infer_instance; (first | assumption | (first | exact zio rfl | exact LB_get (by omega))); simp only [zp, zq, z0, z1])
          | ((with_reducible first | refine sx_call hp (CV.out _) ?_ | refine sx_call hp (CS.out _) ?_); clear hp; (try clear w1); intro w1 hp))
                    go_meet
                    exact ⟨rfl, _, rfl, (fun h => by cases h), hp⟩
                have f2b := decide_eq_true f2
                cases f3 : bb.v.lim with
                | false =>
                  rw [f3] at CV
                  clear f1 f2 f3
                  as_aux_lemma =>
                    go_wp2_with (first
          | ((with_reducible apply sx_guard); (conv => whnf); refine Bx.mk ?_; (try simp only [zp, zq, z0, z1]))
          | ((with_reducible apply sx_alloc hp); infer_instance; exact rfl; clear hp; (try clear w1); intro g w1 hp; simp only [zp, zq, z0, z1])
          | ((with_reducible apply sx_load_agg hp); exact zt rfl; infer_instance; infer_instance; (first | exact zl rfl | exact LB_le (by omega)); (first | (with_reducible exact LB_set (by omega)) | (simp only [n0, Nat.reduceAdd, n1, n2, n3, n4, n5, n6, n7, n8, n9]; try rfl)); simp only [zp, zq, z0, z1])
          | ((with_reducible apply sx_load_one hp); exact zt rfl; infer_instance; infer_instance; (first | exact zio rfl | exact LB_get (by omega)); simp only [zp, zq, z0, z1])
          | ((with_reducible apply sx_store hp); exact zt rfl; exact za rfl; exact rfl; (first | exact AggTy.size | exact OneTy.size); exact rfl; infer_instance; (first | (with_reducible exact LB_set (by omega)) | (simp only [n0, Nat.reduceAdd, n1, n2, n3, n4, n5, n6, n7, n8, n9]; try rfl)); (first | exact zl rfl | exact LB_le (by omega)); exact rfl; infer_instance; clear hp; (try clear w1); intro w1 hp)
          | ((with_reducible apply sx_indexAddr); exact zx rfl; exact zk rfl; infer_instance; (first | exact AggTy.size | exact OneTy.size); omega; omega; ((try simp only [m0, Int.reduceToNat, m1, m2, Nat.reduceMul, Nat.reduceAdd, m3, m4, m5, n0]); exact rfl); simp only [zp, zq, z0, z1])
          | ((with_reducible apply sx_load_far hp); exact zt rfl; assumption; infer_instance; assumption; (first | exact zl rfl | omega); simp only [zp, zq, z0, z1])
          | ((with_reducible apply sx_load_far1 hp); exact zt rfl; assumption; infer_instance; (first | assumption | (first | exact zio rfl | exact LB_get (by omega))); simp only [zp, zq, z0, z1])
          | ((with_reducible first | refine sx_call hp (CV.out _) ?_ | refine sx_call hp (CS.out _) ?_); clear hp; (try clear w1); intro w1 hp))
                    go_meet
                    exact ⟨rfl, _, rfl, (fun h => by cases h), hp⟩
                | true =>
                  rw [f3] at CV
                  cases f4 : bb.s.lim with
                  | false =>
                    rw [f4] at CS
                    clear f1 f2 f3 f4
                    as_aux_lemma =>
                      go_wp2_with (first
          | ((with_reducible apply sx_guard); (conv => whnf); refine Bx.mk ?_; (try simp only [zp, zq, z0, z1]))
          | ((with_reducible apply sx_alloc hp); infer_instance; exact rfl; clear hp; (try clear w1); intro g w1 hp; simp only [zp, zq, z0, z1])
          | ((with_reducible apply sx_load_agg hp); exact zt rfl; infer_instance; infer_instance; (first | exact zl rfl | exact LB_le (by omega)); (first | (with_reducible exact LB_set (by omega)) | (simp only [n0, Nat.reduceAdd, n1, n2, n3, n4, n5, n6, n7, n8, n9]; try rfl)); simp only [zp, zq, z0, z1])
          | ((with_reducible apply sx_load_one hp); exact zt rfl; infer_instance; infer_instance; (first | exact zio rfl | exact LB_get (by omega)); simp only [zp, zq, z0, z1])
          | ((with_reducible apply sx_store hp); exact zt rfl; exact za rfl; exact rfl; (first | exact AggTy.size | exact OneTy.size); exact rfl; infer_instance; (first | (with_reducible exact LB_set (by omega)) | (simp only [n0, Nat.reduceAdd, n1, n2, n3, n4, n5, n6, n7, n8, n9]; try rfl)); (first | exact zl rfl | exact LB_le (by omega)); exact rfl; infer_instance; clear hp; (try clear w1); intro w1 hp)
          | ((with_reducible apply sx_indexAddr); exact zx rfl; exact zk rfl; infer_instance; (first | exact AggTy.size | exact OneTy.size); omega; omega; ((try simp only [m0, Int.reduceToNat, m1, m2, Nat.reduceMul, Nat.reduceAdd, m3, m4, m5, n0]); exact rfl); simp only [zp, zq, z0, z1])
          | ((with_reducible apply sx_load_far hp); exact zt rfl; assumption; infer_instance; assumption; (first | exact zl rfl | omega); simp only [zp, zq, z0, z1])
          | ((with_reducible apply sx_load_far1 hp); exact zt rfl; assumption; infer_instance; (first | assumption | (first | exact zio rfl | exact LB_get (by omega))); simp only [zp, zq, z0, z1])
          | ((with_reducible first | refine sx_call hp (CV.out _) ?_ | refine sx_call hp (CS.out _) ?_); clear hp; (try clear w1); intro w1 hp))
                      go_meet
                      exact ⟨rfl, _, rfl, (fun h => by cases h), hp⟩
                  | true =>
                    rw [f4] at CS
                    have ST : Hid bb.still := Lib.hid ⟨f1, f2.1, f2.2.1, f2.2.2, f3, f4⟩
                    clear f1 f2 f3 f4
                    as_aux_lemma =>
                      go_wp2_with (first
          | ((with_reducible apply sx_guard); (conv => whnf); refine Bx.mk ?_; (try simp only [zp, zq, z0, z1]))
          | ((with_reducible apply sx_alloc hp); infer_instance; exact rfl; clear hp; (try clear w1); intro g w1 hp; simp only [zp, zq, z0, z1])
          | ((with_reducible apply sx_load_agg hp); exact zt rfl; infer_instance; infer_instance; (first | exact zl rfl | exact LB_le (by omega)); (first | (with_reducible exact LB_set (by omega)) | (simp only [n0, Nat.reduceAdd, n1, n2, n3, n4, n5, n6, n7, n8, n9]; try rfl)); simp only [zp, zq, z0, z1])
          | ((with_reducible apply sx_load_one hp); exact zt rfl; infer_instance; infer_instance; (first | exact zio rfl | exact LB_get (by omega)); simp only [zp, zq, z0, z1])
          | ((with_reducible apply sx_store hp); exact zt rfl; exact za rfl; exact rfl; (first | exact AggTy.size | exact OneTy.size); exact rfl; infer_instance; (first | (with_reducible exact LB_set (by omega)) | (simp only [n0, Nat.reduceAdd, n1, n2, n3, n4, n5, n6, n7, n8, n9]; try rfl)); (first | exact zl rfl | exact LB_le (by omega)); exact rfl; infer_instance; clear hp; (try clear w1); intro w1 hp)
          | ((with_reducible apply sx_indexAddr); exact zx rfl; exact zk rfl; infer_instance; (first | exact AggTy.size | exact OneTy.size); omega; omega; ((try simp only [m0, Int.reduceToNat, m1, m2, Nat.reduceMul, Nat.reduceAdd, m3, m4, m5, n0]); exact rfl); simp only [zp, zq, z0, z1])
          | ((with_reducible apply sx_load_far hp); exact zt rfl; assumption; infer_instance; assumption; (first | exact zl rfl | omega); simp only [zp, zq, z0, z1])
          | ((with_reducible apply sx_load_far1 hp); exact zt rfl; assumption; infer_instance; (first | assumption | (first | exact zio rfl | exact LB_get (by omega))); simp only [zp, zq, z0, z1])
          | ((with_reducible first | refine sx_call hp (CV.out _) ?_ | refine sx_call hp (CS.out _) ?_); clear hp; (try clear w1); intro w1 hp))
                      go_meet
                      exact ⟨rfl, _, rfl, (fun _ => ST.out), hp⟩
              case rest =>
              clear hp EZ
              obtain ⟨rfl, fx, rfl, hfx, hp⟩ := hcut
              cases nm with
              | false =>
                have e1 : lv = bb.v := congrArg Inr.v (OFF rfl)
                have e2 : ls = bb.s := congrArg Inr.s (OFF rfl)
                clear OFF LIM FX hfx
                subst e1 e2
                cases fx
                all_goals
                  as_aux_lemma =>
                    go_wp2_with (first
          | ((with_reducible apply sx_guard); (conv => whnf); refine Bx.mk ?_; (try simp only [zp, zq, z0, z1]))
          | ((with_reducible apply sx_alloc hp); infer_instance; exact rfl; clear hp; (try clear w1); intro g w1 hp; simp only [zp, zq, z0, z1])
          | ((with_reducible apply sx_load_agg hp); exact zt rfl; infer_instance; infer_instance; (first | exact zl rfl | exact LB_le (by omega)); (first | (with_reducible exact LB_set (by omega)) | (simp only [n0, Nat.reduceAdd, n1, n2, n3, n4, n5, n6, n7, n8, n9]; try rfl)); simp only [zp, zq, z0, z1])
          | ((with_reducible apply sx_load_one hp); exact zt rfl; infer_instance; infer_instance; (first | exact zio rfl | exact LB_get (by omega)); simp only [zp, zq, z0, z1])
          | ((with_reducible apply sx_store hp); exact zt rfl; exact za rfl; exact rfl; (first | exact AggTy.size | exact OneTy.size); exact rfl; infer_instance; (first | (with_reducible exact LB_set (by omega)) | (simp only [n0, Nat.reduceAdd, n1, n2, n3, n4, n5, n6, n7, n8, n9]; try rfl)); (first | exact zl rfl | exact LB_le (by omega)); exact rfl; infer_instance; clear hp; (try clear w1); intro w1 hp)
          | ((with_reducible apply sx_indexAddr); exact zx rfl; exact zk rfl; infer_instance; (first | exact AggTy.size | exact OneTy.size); omega; omega; ((try simp only [m0, Int.reduceToNat, m1, m2, Nat.reduceMul, Nat.reduceAdd, m3, m4, m5, n0]); exact rfl); simp only [zp, zq, z0, z1])
          | ((with_reducible apply sx_load_far hp); exact zt rfl; assumption; infer_instance; assumption; (first | exact zl rfl | omega); simp only [zp, zq, z0, z1])
          | ((with_reducible apply sx_load_far1 hp); exact zt rfl; assumption; infer_instance; (first | assumption | (first | exact zio rfl | exact LB_get (by omega))); simp only [zp, zq, z0, z1]))
                    have hq := hp
                    refine wp_drawnG_hp hp hq [] (.q 0 (.q 1 (.q 2 (.q 3 (.q 4 (.q 5 (.q 6 (.q 7 (.q 8 (.q 9 (.q 10 (.q 11 (.q 12 (.q 13 (.q 14 (.q 15 (.q 16 (.q 17 (.q 18 (.q 19 (.q 20 (.p 21 (.q 22 (.q 23 (.q 24 (.q 25 (.q 26 (.q 27 (.q 28 (.p 29 (.q 30 (.q 31 (.q 32 (.q 33 (.q 34 (.q 35 (.q 36 (.q 37 (.q 38 (.q 39 (.q 40 (.q 41 (.q 42 (.q 43 (.q 44 (.q 45 (.q 46 (.q 47 (.q 48 (.q 49 (.q 50 (.q 51 (.q 52 (.q 53 .nil)))))))))))))))))))))))))))))))))))))))))))))))))))))) (by kernel_rfl) (by kernel_rfl) ?_
                    clear hp hq; (try clear w1); intro w1 hp hq
                    repeat' (first
                      | (((with_reducible apply sg_q); exact zo rfl); (first
                          | ((with_reducible apply sg_load_agg hp); exact rfl; exact zt rfl; infer_instance; infer_instance; (first | exact zl rfl | exact LB_le (by omega)); (first | (with_reducible exact LB_set (by omega)) | (simp only [n0, Nat.reduceAdd, n1, n2, n3, n4, n5, n6, n7, n8, n9]; try rfl)); simp only [zp, zq, z0, z1])
                          | ((with_reducible apply sg_load_far hp); exact rfl; exact zt rfl; assumption; infer_instance; assumption; (first | exact zl rfl | omega); simp only [zp, zq, z0, z1])
                          | ((with_reducible apply sg_load_one hp); exact rfl; exact zt rfl; infer_instance; infer_instance; (first | exact zio rfl | exact LB_get (by omega)); simp only [zp, zq, z0, z1])
                          | ((with_reducible apply sg_load_far1 hp); exact rfl; exact zt rfl; assumption; infer_instance; (first | assumption | (first | exact zio rfl | exact LB_get (by omega))); simp only [zp, zq, z0, z1])
                          | ((with_reducible apply sg_move hp); (first | exact zb rfl | exact zi rfl | exact zs rfl); simp only [zp, zq, z0, z1])
                          | ((with_reducible apply sg_indexAddr hp); exact rfl; exact zx rfl; exact zk rfl; infer_instance; (first | exact AggTy.size | exact OneTy.size); omega; omega; ((try simp only [m0, Int.reduceToNat, m1, m2, Nat.reduceMul, Nat.reduceAdd, m3, m4, m5, n0]); exact rfl); simp only [zp, zq, z0, z1])
                          | ((with_reducible apply sg_pure hp); exact rfl; (focus (intro _; go_simp; (try go_ints); try with_reducible rfl)); simp only [zp, zq, z0, z1])
                          | ((with_reducible apply sg_skip hp); exact rfl; simp only [zp, zq, z0, z1])))
                      | (((with_reducible apply sg_p); exact zo rfl); ((with_reducible apply sg_skipP hp); exact rfl; simp only [zp, zq, z0, z1]))
                      | ((with_reducible apply sg_nil hq); clear hp hq; (try clear w1); intro w1 hp))
                    go_wp2_with (first
          | ((with_reducible apply sx_alloc hp); infer_instance; exact rfl; clear hp; (try clear w1); intro g w1 hp; simp only [zp, zq, z0, z1])
          | ((with_reducible apply sx_load_agg hp); exact zt rfl; infer_instance; infer_instance; (first | exact zl rfl | exact LB_le (by omega)); (first | (with_reducible exact LB_set (by omega)) | (simp only [n0, Nat.reduceAdd, n1, n2, n3, n4, n5, n6, n7, n8, n9]; try rfl)); simp only [zp, zq, z0, z1])
          | ((with_reducible apply sx_load_one hp); exact zt rfl; infer_instance; infer_instance; (first | exact zio rfl | exact LB_get (by omega)); simp only [zp, zq, z0, z1])
          | ((with_reducible apply sx_store hp); exact zt rfl; exact za rfl; exact rfl; (first | exact AggTy.size | exact OneTy.size); exact rfl; infer_instance; (first | (with_reducible exact LB_set (by omega)) | (simp only [n0, Nat.reduceAdd, n1, n2, n3, n4, n5, n6, n7, n8, n9]; try rfl)); (first | exact zl rfl | exact LB_le (by omega)); exact rfl; infer_instance; clear hp; (try clear w1); intro w1 hp)
          | ((with_reducible apply sx_indexAddr); exact zx rfl; exact zk rfl; infer_instance; (first | exact AggTy.size | exact OneTy.size); omega; omega; ((try simp only [m0, Int.reduceToNat, m1, m2, Nat.reduceMul, Nat.reduceAdd, m3, m4, m5, n0]); exact rfl); simp only [zp, zq, z0, z1])
          | ((with_reducible apply sx_load_far hp); exact zt rfl; assumption; infer_instance; assumption; (first | exact zl rfl | omega); simp only [zp, zq, z0, z1])
          | ((with_reducible apply sx_load_far1 hp); exact zt rfl; assumption; infer_instance; (first | assumption | (first | exact zio rfl | exact LB_get (by omega))); simp only [zp, zq, z0, z1]))
                    go_roundw
                    case rel => exact ⟨k + 1, by omega, by go_num, hp.sub (List.nil_sublist _)⟩
                    case measure => simp [intOf]; omega
              | true =>
                have CLV := Lib.hid (limited_any lv)
                have CLS := Lib.hid (limited_any ls)
                have g8 := LIM rfl
                have g6 : lv.lim = true := g8.1
                have g7 : ls.lim = true := g8.2
                rw [g6] at CLV
                rw [g7] at CLS
                clear OFF LIM g6 g7 g8
                cases fx with
                | false =>
                  clear hfx FX
                  as_aux_lemma =>
                    go_wp2_with (first
          | ((with_reducible apply sx_guard); (conv => whnf); refine Bx.mk ?_; (try simp only [zp, zq, z0, z1]))
          | ((with_reducible apply sx_alloc hp); infer_instance; exact rfl; clear hp; (try clear w1); intro g w1 hp; simp only [zp, zq, z0, z1])
          | ((with_reducible apply sx_load_agg hp); exact zt rfl; infer_instance; infer_instance; (first | exact zl rfl | exact LB_le (by omega)); (first | (with_reducible exact LB_set (by omega)) | (simp only [n0, Nat.reduceAdd, n1, n2, n3, n4, n5, n6, n7, n8, n9]; try rfl)); simp only [zp, zq, z0, z1])
          | ((with_reducible apply sx_load_one hp); exact zt rfl; infer_instance; infer_instance; (first | exact zio rfl | exact LB_get (by omega)); simp only [zp, zq, z0, z1])
          | ((with_reducible apply sx_store hp); exact zt rfl; exact za rfl; exact rfl; (first | exact AggTy.size | exact OneTy.size); exact rfl; infer_instance; (first | (with_reducible exact LB_set (by omega)) | (simp only [n0, Nat.reduceAdd, n1, n2, n3, n4, n5, n6, n7, n8, n9]; try rfl)); (first | exact zl rfl | exact LB_le (by omega)); exact rfl; infer_instance; clear hp; (try clear w1); intro w1 hp)
          | ((with_reducible apply sx_indexAddr); exact zx rfl; exact zk rfl; infer_instance; (first | exact AggTy.size | exact OneTy.size); omega; omega; ((try simp only [m0, Int.reduceToNat, m1, m2, Nat.reduceMul, Nat.reduceAdd, m3, m4, m5, n0]); exact rfl); simp only [zp, zq, z0, z1])
          | ((with_reducible apply sx_load_far hp); exact zt rfl; assumption; infer_instance; assumption; (first | exact zl rfl | omega); simp only [zp, zq, z0, z1])
          | ((with_reducible apply sx_load_far1 hp); exact zt rfl; assumption; infer_instance; (first | assumption | (first | exact zio rfl | exact LB_get (by omega))); simp only [zp, zq, z0, z1]))
                    have hq := hp
                    refine wp_drawnG_hp hp hq [] (.q 0 (.q 1 (.q 2 (.q 3 (.q 4 (.q 5 (.q 6 (.q 7 (.q 8 (.q 9 (.q 10 (.q 11 (.q 12 (.q 13 (.q 14 (.q 15 (.q 16 (.q 17 (.q 18 (.q 19 (.q 20 (.p 21 (.q 22 (.q 23 (.q 24 (.q 25 (.q 26 (.q 27 (.q 28 (.p 29 (.q 30 (.q 31 (.q 32 (.q 33 (.q 34 (.q 35 (.q 36 (.q 37 (.q 38 (.q 39 (.q 40 (.q 41 (.q 42 (.q 43 (.q 44 (.q 45 (.q 46 (.q 47 (.q 48 (.q 49 (.q 50 (.q 51 (.q 52 (.q 53 .nil)))))))))))))))))))))))))))))))))))))))))))))))))))))) (by kernel_rfl) (by kernel_rfl) ?_
                    clear hp hq; (try clear w1); intro w1 hp hq
                    repeat' (first
                      | (((with_reducible apply sg_q); exact zo rfl); (first
                          | ((with_reducible apply sg_load_agg hp); exact rfl; exact zt rfl; infer_instance; infer_instance; (first | exact zl rfl | exact LB_le (by omega)); (first | (with_reducible exact LB_set (by omega)) | (simp only [n0, Nat.reduceAdd, n1, n2, n3, n4, n5, n6, n7, n8, n9]; try rfl)); simp only [zp, zq, z0, z1])
                          | ((with_reducible apply sg_load_far hp); exact rfl; exact zt rfl; assumption; infer_instance; assumption; (first | exact zl rfl | omega); simp only [zp, zq, z0, z1])
                          | ((with_reducible apply sg_load_one hp); exact rfl; exact zt rfl; infer_instance; infer_instance; (first | exact zio rfl | exact LB_get (by omega)); simp only [zp, zq, z0, z1])
                          | ((with_reducible apply sg_load_far1 hp); exact rfl; exact zt rfl; assumption; infer_instance; (first | assumption | (first | exact zio rfl | exact LB_get (by omega))); simp only [zp, zq, z0, z1])
                          | ((with_reducible apply sg_move hp); (first | exact zb rfl | exact zi rfl | exact zs rfl); simp only [zp, zq, z0, z1])
                          | ((with_reducible apply sg_indexAddr hp); exact rfl; exact zx rfl; exact zk rfl; infer_instance; (first | exact AggTy.size | exact OneTy.size); omega; omega; ((try simp only [m0, Int.reduceToNat, m1, m2, Nat.reduceMul, Nat.reduceAdd, m3, m4, m5, n0]); exact rfl); simp only [zp, zq, z0, z1])
                          | ((with_reducible apply sg_pure hp); exact rfl; (focus (intro _; go_simp; (try go_ints); try with_reducible rfl)); simp only [zp, zq, z0, z1])
                          | ((with_reducible apply sg_skip hp); exact rfl; simp only [zp, zq, z0, z1])))
                      | (((with_reducible apply sg_p); exact zo rfl); (first
                          | ((with_reducible apply sg_call hp); exact rfl; (focus (intro _; go_simp; try first | with_reducible rfl | exact ⟨rfl, rfl⟩)); (with_reducible first | exact fun w => CLV.out w | exact fun w => CLS.out w); simp only [zp, zq, z0, z1])
                          | ((with_reducible apply sg_skipP hp); exact rfl; simp only [zp, zq, z0, z1])))
                      | ((with_reducible apply sg_nil hq); clear hp hq; (try clear w1); intro w1 hp))
                    go_wp2_with (first
          | ((with_reducible apply sx_alloc hp); infer_instance; exact rfl; clear hp; (try clear w1); intro g w1 hp; simp only [zp, zq, z0, z1])
          | ((with_reducible apply sx_load_agg hp); exact zt rfl; infer_instance; infer_instance; (first | exact zl rfl | exact LB_le (by omega)); (first | (with_reducible exact LB_set (by omega)) | (simp only [n0, Nat.reduceAdd, n1, n2, n3, n4, n5, n6, n7, n8, n9]; try rfl)); simp only [zp, zq, z0, z1])
          | ((with_reducible apply sx_load_one hp); exact zt rfl; infer_instance; infer_instance; (first | exact zio rfl | exact LB_get (by omega)); simp only [zp, zq, z0, z1])
          | ((with_reducible apply sx_store hp); exact zt rfl; exact za rfl; exact rfl; (first | exact AggTy.size | exact OneTy.size); exact rfl; infer_instance; (first | (with_reducible exact LB_set (by omega)) | (simp only [n0, Nat.reduceAdd, n1, n2, n3, n4, n5, n6, n7, n8, n9]; try rfl)); (first | exact zl rfl | exact LB_le (by omega)); exact rfl; infer_instance; clear hp; (try clear w1); intro w1 hp)
          | ((with_reducible apply sx_indexAddr); exact zx rfl; exact zk rfl; infer_instance; (first | exact AggTy.size | exact OneTy.size); omega; omega; ((try simp only [m0, Int.reduceToNat, m1, m2, Nat.reduceMul, Nat.reduceAdd, m3, m4, m5, n0]); exact rfl); simp only [zp, zq, z0, z1])
          | ((with_reducible apply sx_load_far hp); exact zt rfl; assumption; infer_instance; assumption; (first | exact zl rfl | omega); simp only [zp, zq, z0, z1])
          | ((with_reducible apply sx_load_far1 hp); exact zt rfl; assumption; infer_instance; (first | assumption | (first | exact zio rfl | exact LB_get (by omega))); simp only [zp, zq, z0, z1]))
                    go_roundw
                    case rel => exact ⟨k + 1, by omega, by go_num, hp.sub (List.nil_sublist _)⟩
                    case measure => simp [intOf]; omega
                | true =>
                  have g9 := FX (hfx rfl)
                  have e1 : lv = bb.v := congrArg Inr.v g9
                  have e2 : ls = bb.s := congrArg Inr.s g9
                  clear FX g9 hfx
                  subst e1 e2
                  as_aux_lemma =>
                    go_wp2_with (first
          | ((with_reducible apply sx_guard); (conv => whnf); refine Bx.mk ?_; (try simp only [zp, zq, z0, z1]))
          | ((with_reducible apply sx_alloc hp); infer_instance; exact rfl; clear hp; (try clear w1); intro g w1 hp; simp only [zp, zq, z0, z1])
          | ((with_reducible apply sx_load_agg hp); exact zt rfl; infer_instance; infer_instance; (first | exact zl rfl | exact LB_le (by omega)); (first | (with_reducible exact LB_set (by omega)) | (simp only [n0, Nat.reduceAdd, n1, n2, n3, n4, n5, n6, n7, n8, n9]; try rfl)); simp only [zp, zq, z0, z1])
          | ((with_reducible apply sx_load_one hp); exact zt rfl; infer_instance; infer_instance; (first | exact zio rfl | exact LB_get (by omega)); simp only [zp, zq, z0, z1])
          | ((with_reducible apply sx_store hp); exact zt rfl; exact za rfl; exact rfl; (first | exact AggTy.size | exact OneTy.size); exact rfl; infer_instance; (first | (with_reducible exact LB_set (by omega)) | (simp only [n0, Nat.reduceAdd, n1, n2, n3, n4, n5, n6, n7, n8, n9]; try rfl)); (first | exact zl rfl | exact LB_le (by omega)); exact rfl; infer_instance; clear hp; (try clear w1); intro w1 hp)
          | ((with_reducible apply sx_indexAddr); exact zx rfl; exact zk rfl; infer_instance; (first | exact AggTy.size | exact OneTy.size); omega; omega; ((try simp only [m0, Int.reduceToNat, m1, m2, Nat.reduceMul, Nat.reduceAdd, m3, m4, m5, n0]); exact rfl); simp only [zp, zq, z0, z1])
          | ((with_reducible apply sx_load_far hp); exact zt rfl; assumption; infer_instance; assumption; (first | exact zl rfl | omega); simp only [zp, zq, z0, z1])
          | ((with_reducible apply sx_load_far1 hp); exact zt rfl; assumption; infer_instance; (first | assumption | (first | exact zio rfl | exact LB_get (by omega))); simp only [zp, zq, z0, z1]))
                    have hq := hp
                    refine wp_drawnG_hp hp hq [] (.q 0 (.q 1 (.q 2 (.q 3 (.q 4 (.q 5 (.q 6 (.q 7 (.q 8 (.q 9 (.q 10 (.q 11 (.q 12 (.q 13 (.q 14 (.q 15 (.q 16 (.q 17 (.q 18 (.q 19 (.q 20 (.p 21 (.q 22 (.q 23 (.q 24 (.q 25 (.q 26 (.q 27 (.q 28 (.p 29 (.q 30 (.q 31 (.q 32 (.q 33 (.q 34 (.q 35 (.q 36 (.q 37 (.q 38 (.q 39 (.q 40 (.q 41 (.q 42 (.q 43 (.q 44 (.q 45 (.q 46 (.q 47 (.q 48 (.q 49 (.q 50 (.q 51 (.q 52 (.q 53 .nil)))))))))))))))))))))))))))))))))))))))))))))))))))))) (by kernel_rfl) (by kernel_rfl) ?_
                    clear hp hq; (try clear w1); intro w1 hp hq
                    repeat' (first
                      | (((with_reducible apply sg_q); exact zo rfl); (first
                          | ((with_reducible apply sg_load_agg hp); exact rfl; exact zt rfl; infer_instance; infer_instance; (first | exact zl rfl | exact LB_le (by omega)); (first | (with_reducible exact LB_set (by omega)) | (simp only [n0, Nat.reduceAdd, n1, n2, n3, n4, n5, n6, n7, n8, n9]; try rfl)); simp only [zp, zq, z0, z1])
                          | ((with_reducible apply sg_load_far hp); exact rfl; exact zt rfl; assumption; infer_instance; assumption; (first | exact zl rfl | omega); simp only [zp, zq, z0, z1])
                          | ((with_reducible apply sg_load_one hp); exact rfl; exact zt rfl; infer_instance; infer_instance; (first | exact zio rfl | exact LB_get (by omega)); simp only [zp, zq, z0, z1])
                          | ((with_reducible apply sg_load_far1 hp); exact rfl; exact zt rfl; assumption; infer_instance; (first | assumption | (first | exact zio rfl | exact LB_get (by omega))); simp only [zp, zq, z0, z1])
                          | ((with_reducible apply sg_move hp); (first | exact zb rfl | exact zi rfl | exact zs rfl); simp only [zp, zq, z0, z1])
                          | ((with_reducible apply sg_indexAddr hp); exact rfl; exact zx rfl; exact zk rfl; infer_instance; (first | exact AggTy.size | exact OneTy.size); omega; omega; ((try simp only [m0, Int.reduceToNat, m1, m2, Nat.reduceMul, Nat.reduceAdd, m3, m4, m5, n0]); exact rfl); simp only [zp, zq, z0, z1])
                          | ((with_reducible apply sg_pure hp); exact rfl; (focus (intro _; go_simp; (try go_ints); try with_reducible rfl)); simp only [zp, zq, z0, z1])
                          | ((with_reducible apply sg_skip hp); exact rfl; simp only [zp, zq, z0, z1])))
                      | (((with_reducible apply sg_p); exact zo rfl); (first
                          | ((with_reducible apply sg_call hp); exact rfl; (focus (intro _; go_simp; try first | with_reducible rfl | exact ⟨rfl, rfl⟩)); (with_reducible first | exact fun w => CLV.out w | exact fun w => CLS.out w); simp only [zp, zq, z0, z1])
                          | ((with_reducible apply sg_skipP hp); exact rfl; simp only [zp, zq, z0, z1])))
                      | ((with_reducible apply sg_nil hq); clear hp hq; (try clear w1); intro w1 hp))
                    go_wp2_with (first
          | ((with_reducible apply sx_alloc hp); infer_instance; exact rfl; clear hp; (try clear w1); intro g w1 hp; simp only [zp, zq, z0, z1])
          | ((with_reducible apply sx_load_agg hp); exact zt rfl; infer_instance; infer_instance; (first | exact zl rfl | exact LB_le (by omega)); (first | (with_reducible exact LB_set (by omega)) | (simp only [n0, Nat.reduceAdd, n1, n2, n3, n4, n5, n6, n7, n8, n9]; try rfl)); simp only [zp, zq, z0, z1])
          | ((with_reducible apply sx_load_one hp); exact zt rfl; infer_instance; infer_instance; (first | exact zio rfl | exact LB_get (by omega)); simp only [zp, zq, z0, z1])
          | ((with_reducible apply sx_store hp); exact zt rfl; exact za rfl; exact rfl; (first | exact AggTy.size | exact OneTy.size); exact rfl; infer_instance; (first | (with_reducible exact LB_set (by omega)) | (simp only [n0, Nat.reduceAdd, n1, n2, n3, n4, n5, n6, n7, n8, n9]; try rfl)); (first | exact zl rfl | exact LB_le (by omega)); exact rfl; infer_instance; clear hp; (try clear w1); intro w1 hp)
          | ((with_reducible apply sx_indexAddr); exact zx rfl; exact zk rfl; infer_instance; (first | exact AggTy.size | exact OneTy.size); omega; omega; ((try simp only [m0, Int.reduceToNat, m1, m2, Nat.reduceMul, Nat.reduceAdd, m3, m4, m5, n0]); exact rfl); simp only [zp, zq, z0, z1])
          | ((with_reducible apply sx_load_far hp); exact zt rfl; assumption; infer_instance; assumption; (first | exact zl rfl | omega); simp only [zp, zq, z0, z1])
          | ((with_reducible apply sx_load_far1 hp); exact zt rfl; assumption; infer_instance; (first | assumption | (first | exact zio rfl | exact LB_get (by omega))); simp only [zp, zq, z0, z1]))
                    go_roundw
                    case rel => exact ⟨k + 1, by omega, by go_num, hp.sub (List.nil_sublist _)⟩
                    case measure => simp [intOf]; omega
        · obtain rfl : k = nb := by omega
          go_wp2_with (first
          | ((with_reducible apply sx_alloc hp); infer_instance; exact rfl; clear hp; (try clear w1); intro g w1 hp; simp only [zp, zq, z0, z1])
          | ((with_reducible apply sx_load_agg hp); exact zt rfl; infer_instance; infer_instance; (first | exact zl rfl | exact LB_le (by omega)); (first | (with_reducible exact LB_set (by omega)) | (simp only [n0, Nat.reduceAdd, n1, n2, n3, n4, n5, n6, n7, n8, n9]; try rfl)); simp only [zp, zq, z0, z1])
          | ((with_reducible apply sx_load_one hp); exact zt rfl; infer_instance; infer_instance; (first | exact zio rfl | exact LB_get (by omega)); simp only [zp, zq, z0, z1])
          | ((with_reducible apply sx_store hp); exact zt rfl; exact za rfl; exact rfl; (first | exact AggTy.size | exact OneTy.size); exact rfl; infer_instance; (first | (with_reducible exact LB_set (by omega)) | (simp only [n0, Nat.reduceAdd, n1, n2, n3, n4, n5, n6, n7, n8, n9]; try rfl)); (first | exact zl rfl | exact LB_le (by omega)); exact rfl; infer_instance; clear hp; (try clear w1); intro w1 hp)
          | ((with_reducible apply sx_indexAddr); exact zx rfl; exact zk rfl; infer_instance; (first | exact AggTy.size | exact OneTy.size); omega; omega; ((try simp only [m0, Int.reduceToNat, m1, m2, Nat.reduceMul, Nat.reduceAdd, m3, m4, m5, n0]); exact rfl); simp only [zp, zq, z0, z1])
          | ((with_reducible apply sx_load_far hp); exact zt rfl; assumption; infer_instance; assumption; (first | exact zl rfl | omega); simp only [zp, zq, z0, z1])
          | ((with_reducible apply sx_load_far1 hp); exact zt rfl; assumption; infer_instance; (first | assumption | (first | exact zio rfl | exact LB_get (by omega))); simp only [zp, zq, z0, z1])
          | ((with_reducible refine sx_call hp (awake23 _) ?_); clear hp; (try clear w1); intro w1 hp))
          exact bodyPost_ret (results_one rfl rfl) rfl ⟨rfl, HK.out.trans hp.keep⟩
theorem signs_law (L : List Inr) (hn : L.length ≤ maxLen) (hL : ∀ x ∈ L, x.i64) {W : World} {v v2 : Value} (h : FSl NVl 16 W v L) (S : List Rw) (hm : S.length ≤ maxLen) (hS : ∀ x ∈ S, x.i64f) (h2 : FSl RVl 25 W v2 S) (s : Int) (hs : I64 s) :
    Calls Try.prog 3 #[v, v2, .int .i64 s] W (Ret (.bool true) W) := by
  obtain ⟨b0, c0, rfl⟩ := h.shape
  obtain ⟨b1, c1, rfl⟩ := h2.shape
  by_cases h20 : 20 < (L.length : Int)
  · exact signs_long s b0 b1 _ _ c0 c1 (.inl h20) W
  by_cases h30 : 30 < (S.length : Int)
  · exact signs_long s b0 b1 _ _ c0 c1 (.inr ⟨h20, h30⟩) W
  have SV := fun w1 (hk : Keep [] W w1) => solve_any L S s hL hS _ _ w1 (h.keep hk) (h2.keep hk)
  unfold solveM at SV
  by_cases h3 : s < 0 ∨ 64 < s
  · simp only [if_pos h3] at SV
    exact signs_err s 3 (by decide) b0 b1 _ _ c0 c1 h20 h30 W (Lib.hid SV)
  simp only [if_neg h3] at SV
  by_cases hc : checkM L.length S = 0
  · simp only [if_pos hc] at SV
    have KP := kept_sweeps hL hS hc s.toNat
    have hok : Okst L.length S.length (L, S) := ⟨hL, rfl, rfl, fun r hr => ⟨hS r hr, check_names hc r hr⟩⟩
    have hok2 := sweepM_ok (eachM_ok warm_steps hok S.length (Nat.le_refl _)) s.toNat
    have CKM := kept_check KP hc
    generalize sweepM S.length s.toNat (eachM warmM S.length (L, S)) = st at *
    have IS : ∀ r ∈ st.2, r.i64f := fun r hr => (hok2.2.2.2 r hr).1
    refine signs_main s b0 b1 _ _ c0 c1 h20 h30 W L st.1 S st.2 (Lib.hid SV) (Lib.hid fun w1 hk => h.keep hk) (Lib.hid fun w1 hk => h2.keep hk) (Lib.hid rfl) (Lib.hid KP.ll) (Lib.hid rfl) (Lib.hid KP.lr) (Lib.hid fun v w1 hv => ?_) (Lib.hid KP) (Lib.hid (check_names hc)) (Lib.hid IS)
    have CA := check_any (L.length : Int) IS w1 hv
    rw [KP.ll] at CKM
    rwa [CKM] at CA
  · simp only [if_neg hc] at SV
    exact signs_err s _ (by simpa using hc) b0 b1 _ _ c0 c1 h20 h30 W (Lib.hid SV)
end Go.Proofs.Ytblffafmkpnjdaa
