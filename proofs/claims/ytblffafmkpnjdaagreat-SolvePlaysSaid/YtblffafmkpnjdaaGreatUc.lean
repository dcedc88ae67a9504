/-
  ninepinref23.Check (printed by gen_uc.py).
-/
import Derived.Test.YtblffafmkpnjdaaGreatUr
set_option linter.unusedSimpArgs false
set_option linter.unusedVariables false
set_option maxRecDepth 100000
namespace Go.Proofs.YtblffafmkpnjdaaGreat
open Go Go.RowKit
attribute [local irreducible] wpList
theorem Qpi (nb : Int) (v : Value) (m : Nat) (b : Option Addr) (c : Nat) (hv : v = .slice b m c) (h : 4096 < nb ∨ ¬ 4096 < nb ∧ 16384 < (m : Int)) (w : World) : Calls Tryz.prog 15 #[.int .i64 nb,v] w (Ret (.int .i64 3) w) := by
  subst hv
  rcases h with h | ⟨h,h1⟩
  · skip
    go_enter Tryz.func15,Tryz.ntmps15
    have hp := Hp.start [] w
    go_wp2_with (first | ((with_reducible apply Qag hp);exact ii;exact rfl;clear hp;(try clear w1);intro g w1 hp;simp only [zp,zq,z0,z1]) | ((with_reducible apply Qaa hp);exact zt rfl;exact ii;exact ii;(first | exact zl rfl | exact Qad (by omega));(first | (with_reducible exact Qab (by omega)) | (simp only [n0,Nat.reduceAdd,n1,n2,n3,n4,n5,n6,n7,n8,n9];try rfl));simp only [zp,zq,z0,z1]) | ((with_reducible apply Qac hp);exact zt rfl;exact ii;exact ii;(first | exact zio rfl | exact Qae (by omega));simp only [zp,zq,z0,z1]) | ((with_reducible apply Qah hp);exact zt rfl;exact za rfl;exact rfl;exact Sz.z;exact rfl;exact ii;(first | (with_reducible exact Qab (by omega)) | (simp only [n0,Nat.reduceAdd,n1,n2,n3,n4,n5,n6,n7,n8,n9];try rfl));(first | exact zl rfl | exact Qad (by omega));exact rfl;exact ii;clear hp;(try clear w1);intro w1 hp) | ((with_reducible apply Qaj);exact zx rfl;exact zk rfl;exact ii;exact Sz.z;omega;omega;((try simp only [m0,Int.reduceToNat,m1,m2,Nat.reduceMul,Nat.reduceAdd,m3,m4,m5,n0]);exact rfl);simp only [zp,zq,z0,z1]) | ((with_reducible apply Qam hp);exact zt rfl;assumption;exact ii;assumption;(first | exact zl rfl | omega);simp only [zp,zq,z0,z1]) | ((with_reducible apply Qai hp);exact zt rfl;assumption;exact ii;(first | assumption | (first | exact zio rfl | exact Qae (by omega)));simp only [zp,zq,z0,z1]))
    exact bodyPost_ret (Qaf rfl rfl) rfl ⟨rfl,hp.keep⟩
  · skip
    go_enter Tryz.func15,Tryz.ntmps15
    have hp := Hp.start [] w
    go_wp2_with (first | ((with_reducible apply Qag hp);exact ii;exact rfl;clear hp;(try clear w1);intro g w1 hp;simp only [zp,zq,z0,z1]) | ((with_reducible apply Qaa hp);exact zt rfl;exact ii;exact ii;(first | exact zl rfl | exact Qad (by omega));(first | (with_reducible exact Qab (by omega)) | (simp only [n0,Nat.reduceAdd,n1,n2,n3,n4,n5,n6,n7,n8,n9];try rfl));simp only [zp,zq,z0,z1]) | ((with_reducible apply Qac hp);exact zt rfl;exact ii;exact ii;(first | exact zio rfl | exact Qae (by omega));simp only [zp,zq,z0,z1]) | ((with_reducible apply Qah hp);exact zt rfl;exact za rfl;exact rfl;exact Sz.z;exact rfl;exact ii;(first | (with_reducible exact Qab (by omega)) | (simp only [n0,Nat.reduceAdd,n1,n2,n3,n4,n5,n6,n7,n8,n9];try rfl));(first | exact zl rfl | exact Qad (by omega));exact rfl;exact ii;clear hp;(try clear w1);intro w1 hp) | ((with_reducible apply Qaj);exact zx rfl;exact zk rfl;exact ii;exact Sz.z;omega;omega;((try simp only [m0,Int.reduceToNat,m1,m2,Nat.reduceMul,Nat.reduceAdd,m3,m4,m5,n0]);exact rfl);simp only [zp,zq,z0,z1]) | ((with_reducible apply Qam hp);exact zt rfl;assumption;exact ii;assumption;(first | exact zl rfl | omega);simp only [zp,zq,z0,z1]) | ((with_reducible apply Qai hp);exact zt rfl;assumption;exact ii;(first | assumption | (first | exact zio rfl | exact Qae (by omega)));simp only [zp,zq,z0,z1]))
    exact bodyPost_ret (Qaf rfl rfl) rfl ⟨rfl,hp.keep⟩
theorem rcheck_nil (nb : Int) (h : ¬ 4096 < nb) (w : World) : Calls Tryz.prog 15 #[.int .i64 nb,.slice none 0 0] w (Ret (.int .i64 0) w) := by
  go_enter Tryz.func15,Tryz.ntmps15
  have hp := Hp.start [] w
  go_wp2_with (first | ((with_reducible apply Qag hp);exact ii;exact rfl;clear hp;(try clear w1);intro g w1 hp;simp only [zp,zq,z0,z1]) | ((with_reducible apply Qaa hp);exact zt rfl;exact ii;exact ii;(first | exact zl rfl | exact Qad (by omega));(first | (with_reducible exact Qab (by omega)) | (simp only [n0,Nat.reduceAdd,n1,n2,n3,n4,n5,n6,n7,n8,n9];try rfl));simp only [zp,zq,z0,z1]) | ((with_reducible apply Qac hp);exact zt rfl;exact ii;exact ii;(first | exact zio rfl | exact Qae (by omega));simp only [zp,zq,z0,z1]) | ((with_reducible apply Qah hp);exact zt rfl;exact za rfl;exact rfl;exact Sz.z;exact rfl;exact ii;(first | (with_reducible exact Qab (by omega)) | (simp only [n0,Nat.reduceAdd,n1,n2,n3,n4,n5,n6,n7,n8,n9];try rfl));(first | exact zl rfl | exact Qad (by omega));exact rfl;exact ii;clear hp;(try clear w1);intro w1 hp) | ((with_reducible apply Qaj);exact zx rfl;exact zk rfl;exact ii;exact Sz.z;omega;omega;((try simp only [m0,Int.reduceToNat,m1,m2,Nat.reduceMul,Nat.reduceAdd,m3,m4,m5,n0]);exact rfl);simp only [zp,zq,z0,z1]) | ((with_reducible apply Qam hp);exact zt rfl;assumption;exact ii;assumption;(first | exact zl rfl | omega);simp only [zp,zq,z0,z1]) | ((with_reducible apply Qai hp);exact zt rfl;assumption;exact ii;(first | assumption | (first | exact zio rfl | exact Qae (by omega)));simp only [zp,zq,z0,z1]))
  go_loopw [5] (fun i wr => i = .int .i64 (0 : Int) ∧ Hp [] w [] wr) (fun i _ => 0)
  case atStart => exact ⟨rfl,hp⟩
  case round =>
    clear hp
    obtain ⟨rfl,hp⟩ := hrel
    go_wp2_with (first | ((with_reducible apply Qag hp);exact ii;exact rfl;clear hp;(try clear w1);intro g w1 hp;simp only [zp,zq,z0,z1]) | ((with_reducible apply Qaa hp);exact zt rfl;exact ii;exact ii;(first | exact zl rfl | exact Qad (by omega));(first | (with_reducible exact Qab (by omega)) | (simp only [n0,Nat.reduceAdd,n1,n2,n3,n4,n5,n6,n7,n8,n9];try rfl));simp only [zp,zq,z0,z1]) | ((with_reducible apply Qac hp);exact zt rfl;exact ii;exact ii;(first | exact zio rfl | exact Qae (by omega));simp only [zp,zq,z0,z1]) | ((with_reducible apply Qah hp);exact zt rfl;exact za rfl;exact rfl;exact Sz.z;exact rfl;exact ii;(first | (with_reducible exact Qab (by omega)) | (simp only [n0,Nat.reduceAdd,n1,n2,n3,n4,n5,n6,n7,n8,n9];try rfl));(first | exact zl rfl | exact Qad (by omega));exact rfl;exact ii;clear hp;(try clear w1);intro w1 hp) | ((with_reducible apply Qaj);exact zx rfl;exact zk rfl;exact ii;exact Sz.z;omega;omega;((try simp only [m0,Int.reduceToNat,m1,m2,Nat.reduceMul,Nat.reduceAdd,m3,m4,m5,n0]);exact rfl);simp only [zp,zq,z0,z1]) | ((with_reducible apply Qam hp);exact zt rfl;assumption;exact ii;assumption;(first | exact zl rfl | omega);simp only [zp,zq,z0,z1]) | ((with_reducible apply Qai hp);exact zt rfl;assumption;exact ii;(first | assumption | (first | exact zio rfl | exact Qae (by omega)));simp only [zp,zq,z0,z1]))
    exact bodyPost_ret (Qaf rfl rfl) rfl ⟨rfl,hp.keep⟩
set_option maxHeartbeats 16000000 in
theorem rcheck_far (nb : Int) (S : List Rw) (h1 : ¬ 4096 < nb) (h2 : ¬ 16384 < (S.length : Int)) (e : Int) (HE : Hid (e = if S.any (·.bad nb) then 2 else 0)) (HS : Hid (∀ r ∈ S,r.i64f)) (g off cap : Nat) (bc : List Value) (tx : TypeId) (zx : Nat × Nat) (w : World) (hb : w.heap[g]? = some (.cells bc.toArray tx zx)) (hn : (bc.drop off).take (S.length * 25) = S.flatMap RVl) :
    Calls Tryz.prog 15 #[.int .i64 nb,.slice (some ⟨g,off,none⟩) S.length cap] w (Ret (.int .i64 e) w) := by
  have HN := Lib.hid hn
  clear hn
  go_enter Tryz.func15,Tryz.ntmps15
  have hp := Hp.start [] w
  go_wp2_with (first | ((with_reducible apply Qag hp);exact ii;exact rfl;clear hp;(try clear w1);intro g w1 hp;simp only [zp,zq,z0,z1]) | ((with_reducible apply Qaa hp);exact zt rfl;exact ii;exact ii;(first | exact zl rfl | exact Qad (by omega));(first | (with_reducible exact Qab (by omega)) | (simp only [n0,Nat.reduceAdd,n1,n2,n3,n4,n5,n6,n7,n8,n9];try rfl));simp only [zp,zq,z0,z1]) | ((with_reducible apply Qac hp);exact zt rfl;exact ii;exact ii;(first | exact zio rfl | exact Qae (by omega));simp only [zp,zq,z0,z1]) | ((with_reducible apply Qah hp);exact zt rfl;exact za rfl;exact rfl;exact Sz.z;exact rfl;exact ii;(first | (with_reducible exact Qab (by omega)) | (simp only [n0,Nat.reduceAdd,n1,n2,n3,n4,n5,n6,n7,n8,n9];try rfl));(first | exact zl rfl | exact Qad (by omega));exact rfl;exact ii;clear hp;(try clear w1);intro w1 hp) | ((with_reducible apply Qaj);exact zx rfl;exact zk rfl;exact ii;exact Sz.z;omega;omega;((try simp only [m0,Int.reduceToNat,m1,m2,Nat.reduceMul,Nat.reduceAdd,m3,m4,m5,n0]);exact rfl);simp only [zp,zq,z0,z1]) | ((with_reducible apply Qam hp);exact zt rfl;assumption;exact ii;assumption;(first | exact zl rfl | omega);simp only [zp,zq,z0,z1]) | ((with_reducible apply Qai hp);exact zt rfl;assumption;exact ii;(first | assumption | (first | exact zio rfl | exact Qae (by omega)));simp only [zp,zq,z0,z1]))
  go_loopw [5] (fun i wr => ∃ k : Nat,k ≤ S.length ∧ i = .int .i64 k ∧ (S.take k).any (·.bad nb) = false ∧ Hp [] w [] wr) (fun i _ => S.length - (intOf i).toNat)
  case atStart => exact ⟨0,by omega,rfl,rfl,hp⟩
  case round =>
    clear hp
    obtain ⟨k,hk,rfl,hf,hp⟩ := hrel
    have HF := Lib.hid hf
    clear hf
    by_cases hk1 : k < S.length
    · have hk2 : (k : Int) < S.length := by omega
      obtain ⟨hat,hroom⟩ := fl_at (by omega) Qbx HN.out hk1
      have HR := Lib.hid (HS.out _ (List.getElem_mem hk1))
      have HB := Lib.hid (bad_any (nb := nb) hk1)
      have HT : Hid (S[k].bad nb = false → (S.take (k + 1)).any (·.bad nb) = false) := Lib.hid fun h => by
        rw [List.take_add_one,List.any_append,HF.out,List.getElem?_eq_getElem hk1]
        simp [h]
      clear HF
      unfold RVl at hat
      generalize S[k] = r at *
      have MU := Lib.hid (Qdv r.rub r.pn HR.out.2.2.2.2.2.1 HR.out.2.2.2.2.2.2.1)
      have OU := Lib.hid (Qik r.pt r.pu (cl (r.rub * r.pn / 4294967296)) HR.out.2.2.2.2.2.2.2.1 HR.out.2.2.2.2.2.2.2.2 (Qbu _))
      have HO : Hid (r.bad nb = (!(decide (0 ≤ r.a) && decide (r.a < nb) && decide (0 ≤ r.b) && decide (r.b < nb) && !(r.a == r.b)) || decide (r.rub < 0) || decide (17179869184 < r.rub) || decide (r.pn < 0) || outv r.pt r.pu (cl (r.rub * r.pn / 4294967296)))) := Lib.hid rfl
      generalize r.bad nb = bd at *
      generalize outv r.pt r.pu (cl (r.rub * r.pn / 4294967296)) = ob at *
      generalize cl (r.rub * r.pn / 4294967296) = q at *
      by_cases hc0 : r.a < 0
      case pos =>
        obtain rfl : bd = true := by rw [HO.out];simp [show ¬ (0 ≤ r.a) by omega]
        obtain rfl : e = 2 := by rw [HE.out,if_pos (HB.out rfl)]
        have x0 : decide (r.a < 0) = true := decide_eq_true hc0
        clear hc0
        as_aux_lemma =>
          go_wp2_with (first | ((with_reducible apply Qbj);(conv => whnf);refine Bx.mk ?_;(try simp only [zp,zq,z0,z1])) | ((with_reducible apply Qag hp);exact ii;exact rfl;clear hp;(try clear w1);intro g w1 hp;simp only [zp,zq,z0,z1]) | ((with_reducible apply Qaa hp);exact zt rfl;exact ii;exact ii;(first | exact zl rfl | exact Qad (by omega));(first | (with_reducible exact Qab (by omega)) | (simp only [n0,Nat.reduceAdd,n1,n2,n3,n4,n5,n6,n7,n8,n9];try rfl));simp only [zp,zq,z0,z1]) | ((with_reducible apply Qac hp);exact zt rfl;exact ii;exact ii;(first | exact zio rfl | exact Qae (by omega));simp only [zp,zq,z0,z1]) | ((with_reducible apply Qah hp);exact zt rfl;exact za rfl;exact rfl;exact Sz.z;exact rfl;exact ii;(first | (with_reducible exact Qab (by omega)) | (simp only [n0,Nat.reduceAdd,n1,n2,n3,n4,n5,n6,n7,n8,n9];try rfl));(first | exact zl rfl | exact Qad (by omega));exact rfl;exact ii;clear hp;(try clear w1);intro w1 hp) | ((with_reducible apply Qaj);exact zx rfl;exact zk rfl;exact ii;exact Sz.z;omega;omega;((try simp only [m0,Int.reduceToNat,m1,m2,Nat.reduceMul,Nat.reduceAdd,m3,m4,m5,n0]);exact rfl);simp only [zp,zq,z0,z1]) | ((with_reducible apply Qam hp);exact zt rfl;assumption;exact ii;assumption;(first | exact zl rfl | omega);simp only [zp,zq,z0,z1]) | ((with_reducible apply Qai hp);exact zt rfl;assumption;exact ii;(first | assumption | (first | exact zio rfl | exact Qae (by omega)));simp only [zp,zq,z0,z1]))
          exact bodyPost_ret (Qaf rfl rfl) rfl ⟨rfl,hp.keep⟩
      by_cases hc1 : nb ≤ r.a
      case pos =>
        obtain rfl : bd = true := by rw [HO.out];simp [show ¬ (r.a < nb) by omega]
        obtain rfl : e = 2 := by rw [HE.out,if_pos (HB.out rfl)]
        have x0 : decide (r.a < 0) = false := decide_eq_false hc0
        have x1 : decide (nb ≤ r.a) = true := decide_eq_true hc1
        clear hc0 hc1
        as_aux_lemma =>
          go_wp2_with (first | ((with_reducible apply Qbj);(conv => whnf);refine Bx.mk ?_;(try simp only [zp,zq,z0,z1])) | ((with_reducible apply Qag hp);exact ii;exact rfl;clear hp;(try clear w1);intro g w1 hp;simp only [zp,zq,z0,z1]) | ((with_reducible apply Qaa hp);exact zt rfl;exact ii;exact ii;(first | exact zl rfl | exact Qad (by omega));(first | (with_reducible exact Qab (by omega)) | (simp only [n0,Nat.reduceAdd,n1,n2,n3,n4,n5,n6,n7,n8,n9];try rfl));simp only [zp,zq,z0,z1]) | ((with_reducible apply Qac hp);exact zt rfl;exact ii;exact ii;(first | exact zio rfl | exact Qae (by omega));simp only [zp,zq,z0,z1]) | ((with_reducible apply Qah hp);exact zt rfl;exact za rfl;exact rfl;exact Sz.z;exact rfl;exact ii;(first | (with_reducible exact Qab (by omega)) | (simp only [n0,Nat.reduceAdd,n1,n2,n3,n4,n5,n6,n7,n8,n9];try rfl));(first | exact zl rfl | exact Qad (by omega));exact rfl;exact ii;clear hp;(try clear w1);intro w1 hp) | ((with_reducible apply Qaj);exact zx rfl;exact zk rfl;exact ii;exact Sz.z;omega;omega;((try simp only [m0,Int.reduceToNat,m1,m2,Nat.reduceMul,Nat.reduceAdd,m3,m4,m5,n0]);exact rfl);simp only [zp,zq,z0,z1]) | ((with_reducible apply Qam hp);exact zt rfl;assumption;exact ii;assumption;(first | exact zl rfl | omega);simp only [zp,zq,z0,z1]) | ((with_reducible apply Qai hp);exact zt rfl;assumption;exact ii;(first | assumption | (first | exact zio rfl | exact Qae (by omega)));simp only [zp,zq,z0,z1]))
          exact bodyPost_ret (Qaf rfl rfl) rfl ⟨rfl,hp.keep⟩
      by_cases hc2 : r.b < 0
      case pos =>
        obtain rfl : bd = true := by rw [HO.out];simp [show ¬ (0 ≤ r.b) by omega]
        obtain rfl : e = 2 := by rw [HE.out,if_pos (HB.out rfl)]
        have x0 : decide (r.a < 0) = false := decide_eq_false hc0
        have x1 : decide (nb ≤ r.a) = false := decide_eq_false hc1
        have x2 : decide (r.b < 0) = true := decide_eq_true hc2
        clear hc0 hc1 hc2
        as_aux_lemma =>
          go_wp2_with (first | ((with_reducible apply Qbj);(conv => whnf);refine Bx.mk ?_;(try simp only [zp,zq,z0,z1])) | ((with_reducible apply Qag hp);exact ii;exact rfl;clear hp;(try clear w1);intro g w1 hp;simp only [zp,zq,z0,z1]) | ((with_reducible apply Qaa hp);exact zt rfl;exact ii;exact ii;(first | exact zl rfl | exact Qad (by omega));(first | (with_reducible exact Qab (by omega)) | (simp only [n0,Nat.reduceAdd,n1,n2,n3,n4,n5,n6,n7,n8,n9];try rfl));simp only [zp,zq,z0,z1]) | ((with_reducible apply Qac hp);exact zt rfl;exact ii;exact ii;(first | exact zio rfl | exact Qae (by omega));simp only [zp,zq,z0,z1]) | ((with_reducible apply Qah hp);exact zt rfl;exact za rfl;exact rfl;exact Sz.z;exact rfl;exact ii;(first | (with_reducible exact Qab (by omega)) | (simp only [n0,Nat.reduceAdd,n1,n2,n3,n4,n5,n6,n7,n8,n9];try rfl));(first | exact zl rfl | exact Qad (by omega));exact rfl;exact ii;clear hp;(try clear w1);intro w1 hp) | ((with_reducible apply Qaj);exact zx rfl;exact zk rfl;exact ii;exact Sz.z;omega;omega;((try simp only [m0,Int.reduceToNat,m1,m2,Nat.reduceMul,Nat.reduceAdd,m3,m4,m5,n0]);exact rfl);simp only [zp,zq,z0,z1]) | ((with_reducible apply Qam hp);exact zt rfl;assumption;exact ii;assumption;(first | exact zl rfl | omega);simp only [zp,zq,z0,z1]) | ((with_reducible apply Qai hp);exact zt rfl;assumption;exact ii;(first | assumption | (first | exact zio rfl | exact Qae (by omega)));simp only [zp,zq,z0,z1]))
          exact bodyPost_ret (Qaf rfl rfl) rfl ⟨rfl,hp.keep⟩
      by_cases hc3 : nb ≤ r.b
      case pos =>
        obtain rfl : bd = true := by rw [HO.out];simp [show ¬ (r.b < nb) by omega]
        obtain rfl : e = 2 := by rw [HE.out,if_pos (HB.out rfl)]
        have x0 : decide (r.a < 0) = false := decide_eq_false hc0
        have x1 : decide (nb ≤ r.a) = false := decide_eq_false hc1
        have x2 : decide (r.b < 0) = false := decide_eq_false hc2
        have x3 : decide (nb ≤ r.b) = true := decide_eq_true hc3
        clear hc0 hc1 hc2 hc3
        as_aux_lemma =>
          go_wp2_with (first | ((with_reducible apply Qbj);(conv => whnf);refine Bx.mk ?_;(try simp only [zp,zq,z0,z1])) | ((with_reducible apply Qag hp);exact ii;exact rfl;clear hp;(try clear w1);intro g w1 hp;simp only [zp,zq,z0,z1]) | ((with_reducible apply Qaa hp);exact zt rfl;exact ii;exact ii;(first | exact zl rfl | exact Qad (by omega));(first | (with_reducible exact Qab (by omega)) | (simp only [n0,Nat.reduceAdd,n1,n2,n3,n4,n5,n6,n7,n8,n9];try rfl));simp only [zp,zq,z0,z1]) | ((with_reducible apply Qac hp);exact zt rfl;exact ii;exact ii;(first | exact zio rfl | exact Qae (by omega));simp only [zp,zq,z0,z1]) | ((with_reducible apply Qah hp);exact zt rfl;exact za rfl;exact rfl;exact Sz.z;exact rfl;exact ii;(first | (with_reducible exact Qab (by omega)) | (simp only [n0,Nat.reduceAdd,n1,n2,n3,n4,n5,n6,n7,n8,n9];try rfl));(first | exact zl rfl | exact Qad (by omega));exact rfl;exact ii;clear hp;(try clear w1);intro w1 hp) | ((with_reducible apply Qaj);exact zx rfl;exact zk rfl;exact ii;exact Sz.z;omega;omega;((try simp only [m0,Int.reduceToNat,m1,m2,Nat.reduceMul,Nat.reduceAdd,m3,m4,m5,n0]);exact rfl);simp only [zp,zq,z0,z1]) | ((with_reducible apply Qam hp);exact zt rfl;assumption;exact ii;assumption;(first | exact zl rfl | omega);simp only [zp,zq,z0,z1]) | ((with_reducible apply Qai hp);exact zt rfl;assumption;exact ii;(first | assumption | (first | exact zio rfl | exact Qae (by omega)));simp only [zp,zq,z0,z1]))
          exact bodyPost_ret (Qaf rfl rfl) rfl ⟨rfl,hp.keep⟩
      by_cases hc4 : r.a = r.b
      case pos =>
        obtain rfl : bd = true := by rw [HO.out];simp [hc4]
        obtain rfl : e = 2 := by rw [HE.out,if_pos (HB.out rfl)]
        have x0 : decide (r.a < 0) = false := decide_eq_false hc0
        have x1 : decide (nb ≤ r.a) = false := decide_eq_false hc1
        have x2 : decide (r.b < 0) = false := decide_eq_false hc2
        have x3 : decide (nb ≤ r.b) = false := decide_eq_false hc3
        have x4 : (r.a == r.b) = true := by simpa using hc4
        clear hc0 hc1 hc2 hc3 hc4
        as_aux_lemma =>
          go_wp2_with (first | ((with_reducible apply Qbj);(conv => whnf);refine Bx.mk ?_;(try simp only [zp,zq,z0,z1])) | ((with_reducible apply Qag hp);exact ii;exact rfl;clear hp;(try clear w1);intro g w1 hp;simp only [zp,zq,z0,z1]) | ((with_reducible apply Qaa hp);exact zt rfl;exact ii;exact ii;(first | exact zl rfl | exact Qad (by omega));(first | (with_reducible exact Qab (by omega)) | (simp only [n0,Nat.reduceAdd,n1,n2,n3,n4,n5,n6,n7,n8,n9];try rfl));simp only [zp,zq,z0,z1]) | ((with_reducible apply Qac hp);exact zt rfl;exact ii;exact ii;(first | exact zio rfl | exact Qae (by omega));simp only [zp,zq,z0,z1]) | ((with_reducible apply Qah hp);exact zt rfl;exact za rfl;exact rfl;exact Sz.z;exact rfl;exact ii;(first | (with_reducible exact Qab (by omega)) | (simp only [n0,Nat.reduceAdd,n1,n2,n3,n4,n5,n6,n7,n8,n9];try rfl));(first | exact zl rfl | exact Qad (by omega));exact rfl;exact ii;clear hp;(try clear w1);intro w1 hp) | ((with_reducible apply Qaj);exact zx rfl;exact zk rfl;exact ii;exact Sz.z;omega;omega;((try simp only [m0,Int.reduceToNat,m1,m2,Nat.reduceMul,Nat.reduceAdd,m3,m4,m5,n0]);exact rfl);simp only [zp,zq,z0,z1]) | ((with_reducible apply Qam hp);exact zt rfl;assumption;exact ii;assumption;(first | exact zl rfl | omega);simp only [zp,zq,z0,z1]) | ((with_reducible apply Qai hp);exact zt rfl;assumption;exact ii;(first | assumption | (first | exact zio rfl | exact Qae (by omega)));simp only [zp,zq,z0,z1]))
          exact bodyPost_ret (Qaf rfl rfl) rfl ⟨rfl,hp.keep⟩
      by_cases hc5 : r.rub < 0
      case pos =>
        obtain rfl : bd = true := by rw [HO.out];simp [hc5]
        obtain rfl : e = 2 := by rw [HE.out,if_pos (HB.out rfl)]
        have x0 : decide (r.a < 0) = false := decide_eq_false hc0
        have x1 : decide (nb ≤ r.a) = false := decide_eq_false hc1
        have x2 : decide (r.b < 0) = false := decide_eq_false hc2
        have x3 : decide (nb ≤ r.b) = false := decide_eq_false hc3
        have x4 : (r.a == r.b) = false := by simpa using hc4
        have x5 : decide (r.rub < 0) = true := decide_eq_true hc5
        clear hc0 hc1 hc2 hc3 hc4 hc5
        as_aux_lemma =>
          go_wp2_with (first | ((with_reducible apply Qbj);(conv => whnf);refine Bx.mk ?_;(try simp only [zp,zq,z0,z1])) | ((with_reducible apply Qag hp);exact ii;exact rfl;clear hp;(try clear w1);intro g w1 hp;simp only [zp,zq,z0,z1]) | ((with_reducible apply Qaa hp);exact zt rfl;exact ii;exact ii;(first | exact zl rfl | exact Qad (by omega));(first | (with_reducible exact Qab (by omega)) | (simp only [n0,Nat.reduceAdd,n1,n2,n3,n4,n5,n6,n7,n8,n9];try rfl));simp only [zp,zq,z0,z1]) | ((with_reducible apply Qac hp);exact zt rfl;exact ii;exact ii;(first | exact zio rfl | exact Qae (by omega));simp only [zp,zq,z0,z1]) | ((with_reducible apply Qah hp);exact zt rfl;exact za rfl;exact rfl;exact Sz.z;exact rfl;exact ii;(first | (with_reducible exact Qab (by omega)) | (simp only [n0,Nat.reduceAdd,n1,n2,n3,n4,n5,n6,n7,n8,n9];try rfl));(first | exact zl rfl | exact Qad (by omega));exact rfl;exact ii;clear hp;(try clear w1);intro w1 hp) | ((with_reducible apply Qaj);exact zx rfl;exact zk rfl;exact ii;exact Sz.z;omega;omega;((try simp only [m0,Int.reduceToNat,m1,m2,Nat.reduceMul,Nat.reduceAdd,m3,m4,m5,n0]);exact rfl);simp only [zp,zq,z0,z1]) | ((with_reducible apply Qam hp);exact zt rfl;assumption;exact ii;assumption;(first | exact zl rfl | omega);simp only [zp,zq,z0,z1]) | ((with_reducible apply Qai hp);exact zt rfl;assumption;exact ii;(first | assumption | (first | exact zio rfl | exact Qae (by omega)));simp only [zp,zq,z0,z1]))
          exact bodyPost_ret (Qaf rfl rfl) rfl ⟨rfl,hp.keep⟩
      by_cases hc6 : 17179869184 < r.rub
      case pos =>
        obtain rfl : bd = true := by rw [HO.out];simp [hc6]
        obtain rfl : e = 2 := by rw [HE.out,if_pos (HB.out rfl)]
        have x0 : decide (r.a < 0) = false := decide_eq_false hc0
        have x1 : decide (nb ≤ r.a) = false := decide_eq_false hc1
        have x2 : decide (r.b < 0) = false := decide_eq_false hc2
        have x3 : decide (nb ≤ r.b) = false := decide_eq_false hc3
        have x4 : (r.a == r.b) = false := by simpa using hc4
        have x5 : decide (r.rub < 0) = false := decide_eq_false hc5
        have x6 : decide (17179869184 < r.rub) = true := decide_eq_true hc6
        clear hc0 hc1 hc2 hc3 hc4 hc5 hc6
        as_aux_lemma =>
          go_wp2_with (first | ((with_reducible apply Qbj);(conv => whnf);refine Bx.mk ?_;(try simp only [zp,zq,z0,z1])) | ((with_reducible apply Qag hp);exact ii;exact rfl;clear hp;(try clear w1);intro g w1 hp;simp only [zp,zq,z0,z1]) | ((with_reducible apply Qaa hp);exact zt rfl;exact ii;exact ii;(first | exact zl rfl | exact Qad (by omega));(first | (with_reducible exact Qab (by omega)) | (simp only [n0,Nat.reduceAdd,n1,n2,n3,n4,n5,n6,n7,n8,n9];try rfl));simp only [zp,zq,z0,z1]) | ((with_reducible apply Qac hp);exact zt rfl;exact ii;exact ii;(first | exact zio rfl | exact Qae (by omega));simp only [zp,zq,z0,z1]) | ((with_reducible apply Qah hp);exact zt rfl;exact za rfl;exact rfl;exact Sz.z;exact rfl;exact ii;(first | (with_reducible exact Qab (by omega)) | (simp only [n0,Nat.reduceAdd,n1,n2,n3,n4,n5,n6,n7,n8,n9];try rfl));(first | exact zl rfl | exact Qad (by omega));exact rfl;exact ii;clear hp;(try clear w1);intro w1 hp) | ((with_reducible apply Qaj);exact zx rfl;exact zk rfl;exact ii;exact Sz.z;omega;omega;((try simp only [m0,Int.reduceToNat,m1,m2,Nat.reduceMul,Nat.reduceAdd,m3,m4,m5,n0]);exact rfl);simp only [zp,zq,z0,z1]) | ((with_reducible apply Qam hp);exact zt rfl;assumption;exact ii;assumption;(first | exact zl rfl | omega);simp only [zp,zq,z0,z1]) | ((with_reducible apply Qai hp);exact zt rfl;assumption;exact ii;(first | assumption | (first | exact zio rfl | exact Qae (by omega)));simp only [zp,zq,z0,z1]))
          exact bodyPost_ret (Qaf rfl rfl) rfl ⟨rfl,hp.keep⟩
      by_cases hc7 : r.pn < 0
      case pos =>
        obtain rfl : bd = true := by rw [HO.out];simp [hc7]
        obtain rfl : e = 2 := by rw [HE.out,if_pos (HB.out rfl)]
        have x0 : decide (r.a < 0) = false := decide_eq_false hc0
        have x1 : decide (nb ≤ r.a) = false := decide_eq_false hc1
        have x2 : decide (r.b < 0) = false := decide_eq_false hc2
        have x3 : decide (nb ≤ r.b) = false := decide_eq_false hc3
        have x4 : (r.a == r.b) = false := by simpa using hc4
        have x5 : decide (r.rub < 0) = false := decide_eq_false hc5
        have x6 : decide (17179869184 < r.rub) = false := decide_eq_false hc6
        have x7 : decide (r.pn < 0) = true := decide_eq_true hc7
        clear hc0 hc1 hc2 hc3 hc4 hc5 hc6 hc7
        as_aux_lemma =>
          go_wp2_with (first | ((with_reducible apply Qbj);(conv => whnf);refine Bx.mk ?_;(try simp only [zp,zq,z0,z1])) | ((with_reducible apply Qag hp);exact ii;exact rfl;clear hp;(try clear w1);intro g w1 hp;simp only [zp,zq,z0,z1]) | ((with_reducible apply Qaa hp);exact zt rfl;exact ii;exact ii;(first | exact zl rfl | exact Qad (by omega));(first | (with_reducible exact Qab (by omega)) | (simp only [n0,Nat.reduceAdd,n1,n2,n3,n4,n5,n6,n7,n8,n9];try rfl));simp only [zp,zq,z0,z1]) | ((with_reducible apply Qac hp);exact zt rfl;exact ii;exact ii;(first | exact zio rfl | exact Qae (by omega));simp only [zp,zq,z0,z1]) | ((with_reducible apply Qah hp);exact zt rfl;exact za rfl;exact rfl;exact Sz.z;exact rfl;exact ii;(first | (with_reducible exact Qab (by omega)) | (simp only [n0,Nat.reduceAdd,n1,n2,n3,n4,n5,n6,n7,n8,n9];try rfl));(first | exact zl rfl | exact Qad (by omega));exact rfl;exact ii;clear hp;(try clear w1);intro w1 hp) | ((with_reducible apply Qaj);exact zx rfl;exact zk rfl;exact ii;exact Sz.z;omega;omega;((try simp only [m0,Int.reduceToNat,m1,m2,Nat.reduceMul,Nat.reduceAdd,m3,m4,m5,n0]);exact rfl);simp only [zp,zq,z0,z1]) | ((with_reducible apply Qam hp);exact zt rfl;assumption;exact ii;assumption;(first | exact zl rfl | omega);simp only [zp,zq,z0,z1]) | ((with_reducible apply Qai hp);exact zt rfl;assumption;exact ii;(first | assumption | (first | exact zio rfl | exact Qae (by omega)));simp only [zp,zq,z0,z1]))
          exact bodyPost_ret (Qaf rfl rfl) rfl ⟨rfl,hp.keep⟩
      cases ob with
      | true =>
        obtain rfl : bd = true := by rw [HO.out];simp
        obtain rfl : e = 2 := by rw [HE.out,if_pos (HB.out rfl)]
        have x0 : decide (r.a < 0) = false := decide_eq_false hc0
        have x1 : decide (nb ≤ r.a) = false := decide_eq_false hc1
        have x2 : decide (r.b < 0) = false := decide_eq_false hc2
        have x3 : decide (nb ≤ r.b) = false := decide_eq_false hc3
        have x4 : (r.a == r.b) = false := by simpa using hc4
        have x5 : decide (r.rub < 0) = false := decide_eq_false hc5
        have x6 : decide (17179869184 < r.rub) = false := decide_eq_false hc6
        have x7 : decide (r.pn < 0) = false := decide_eq_false hc7
        clear hc0 hc1 hc2 hc3 hc4 hc5 hc6 hc7
        go_wp2_with (first | ((with_reducible apply Qbj);(conv => whnf);refine Bx.mk ?_;(try simp only [zp,zq,z0,z1])) | ((with_reducible apply Qag hp);exact ii;exact rfl;clear hp;(try clear w1);intro g w1 hp;simp only [zp,zq,z0,z1]) | ((with_reducible apply Qaa hp);exact zt rfl;exact ii;exact ii;(first | exact zl rfl | exact Qad (by omega));(first | (with_reducible exact Qab (by omega)) | (simp only [n0,Nat.reduceAdd,n1,n2,n3,n4,n5,n6,n7,n8,n9];try rfl));simp only [zp,zq,z0,z1]) | ((with_reducible apply Qac hp);exact zt rfl;exact ii;exact ii;(first | exact zio rfl | exact Qae (by omega));simp only [zp,zq,z0,z1]) | ((with_reducible apply Qah hp);exact zt rfl;exact za rfl;exact rfl;exact Sz.z;exact rfl;exact ii;(first | (with_reducible exact Qab (by omega)) | (simp only [n0,Nat.reduceAdd,n1,n2,n3,n4,n5,n6,n7,n8,n9];try rfl));(first | exact zl rfl | exact Qad (by omega));exact rfl;exact ii;clear hp;(try clear w1);intro w1 hp) | ((with_reducible apply Qaj);exact zx rfl;exact zk rfl;exact ii;exact Sz.z;omega;omega;((try simp only [m0,Int.reduceToNat,m1,m2,Nat.reduceMul,Nat.reduceAdd,m3,m4,m5,n0]);exact rfl);simp only [zp,zq,z0,z1]) | ((with_reducible apply Qam hp);exact zt rfl;assumption;exact ii;assumption;(first | exact zl rfl | omega);simp only [zp,zq,z0,z1]) | ((with_reducible apply Qai hp);exact zt rfl;assumption;exact ii;(first | assumption | (first | exact zio rfl | exact Qae (by omega)));simp only [zp,zq,z0,z1]))
        have hq := hp
        refine Qau hp hq [] (.q 0 (.q 1 (.q 2 (.q 3 (.q 4 (.q 5 (.q 6 (.q 7 (.p 8 (.p 9 .nil)))))))))) (by kernel_rfl) (by kernel_rfl) ?_
        clear hp hq;(try clear w1);intro w1 hp hq
        repeat' (first | (((with_reducible apply sg_q);exact zo rfl);(first | ((with_reducible apply Qbb hp);exact rfl;exact zt rfl;exact ii;exact ii;(first | exact zio rfl | exact Qae (by omega));simp only [zp,zq,z0,z1]) | ((with_reducible apply Qbe hp);exact rfl;exact zt rfl;assumption;exact ii;(first | assumption | (first | exact zio rfl | exact Qae (by omega)));simp only [zp,zq,z0,z1]) | ((with_reducible apply Qbm hp);exact rfl;(focus (intro _;go_simp;(try go_ints);try with_reducible rfl));simp only [zp,zq,z0,z1]))) | (((with_reducible apply sg_p);exact zo rfl);((with_reducible apply Qbp hp);exact rfl;(focus (intro _;go_simp;try first | with_reducible rfl | exact ⟨rfl,rfl⟩));(with_reducible first | exact fun w => MU.out w | exact fun w => OU.out w);simp only [zp,zq,z0,z1])) | ((with_reducible apply Qbt hq);clear hp hq;(try clear w1);intro w1 hp))
        go_wp2_with (first | ((with_reducible apply Qag hp);exact ii;exact rfl;clear hp;(try clear w1);intro g w1 hp;simp only [zp,zq,z0,z1]) | ((with_reducible apply Qaa hp);exact zt rfl;exact ii;exact ii;(first | exact zl rfl | exact Qad (by omega));(first | (with_reducible exact Qab (by omega)) | (simp only [n0,Nat.reduceAdd,n1,n2,n3,n4,n5,n6,n7,n8,n9];try rfl));simp only [zp,zq,z0,z1]) | ((with_reducible apply Qac hp);exact zt rfl;exact ii;exact ii;(first | exact zio rfl | exact Qae (by omega));simp only [zp,zq,z0,z1]) | ((with_reducible apply Qah hp);exact zt rfl;exact za rfl;exact rfl;exact Sz.z;exact rfl;exact ii;(first | (with_reducible exact Qab (by omega)) | (simp only [n0,Nat.reduceAdd,n1,n2,n3,n4,n5,n6,n7,n8,n9];try rfl));(first | exact zl rfl | exact Qad (by omega));exact rfl;exact ii;clear hp;(try clear w1);intro w1 hp) | ((with_reducible apply Qaj);exact zx rfl;exact zk rfl;exact ii;exact Sz.z;omega;omega;((try simp only [m0,Int.reduceToNat,m1,m2,Nat.reduceMul,Nat.reduceAdd,m3,m4,m5,n0]);exact rfl);simp only [zp,zq,z0,z1]) | ((with_reducible apply Qam hp);exact zt rfl;assumption;exact ii;assumption;(first | exact zl rfl | omega);simp only [zp,zq,z0,z1]) | ((with_reducible apply Qai hp);exact zt rfl;assumption;exact ii;(first | assumption | (first | exact zio rfl | exact Qae (by omega)));simp only [zp,zq,z0,z1]))
        exact bodyPost_ret (Qaf rfl rfl) rfl ⟨rfl,hp.keep⟩
      | false =>
        obtain rfl : bd = false := by rw [HO.out];simp [show 0 ≤ r.a by omega,show r.a < nb by omega,show 0 ≤ r.b by omega,show r.b < nb by omega,hc4,hc5,hc6,hc7]
        have x0 : decide (r.a < 0) = false := decide_eq_false hc0
        have x1 : decide (nb ≤ r.a) = false := decide_eq_false hc1
        have x2 : decide (r.b < 0) = false := decide_eq_false hc2
        have x3 : decide (nb ≤ r.b) = false := decide_eq_false hc3
        have x4 : (r.a == r.b) = false := by simpa using hc4
        have x5 : decide (r.rub < 0) = false := decide_eq_false hc5
        have x6 : decide (17179869184 < r.rub) = false := decide_eq_false hc6
        have x7 : decide (r.pn < 0) = false := decide_eq_false hc7
        clear hc0 hc1 hc2 hc3 hc4 hc5 hc6 hc7
        go_wp2_with (first | ((with_reducible apply Qbj);(conv => whnf);refine Bx.mk ?_;(try simp only [zp,zq,z0,z1])) | ((with_reducible apply Qag hp);exact ii;exact rfl;clear hp;(try clear w1);intro g w1 hp;simp only [zp,zq,z0,z1]) | ((with_reducible apply Qaa hp);exact zt rfl;exact ii;exact ii;(first | exact zl rfl | exact Qad (by omega));(first | (with_reducible exact Qab (by omega)) | (simp only [n0,Nat.reduceAdd,n1,n2,n3,n4,n5,n6,n7,n8,n9];try rfl));simp only [zp,zq,z0,z1]) | ((with_reducible apply Qac hp);exact zt rfl;exact ii;exact ii;(first | exact zio rfl | exact Qae (by omega));simp only [zp,zq,z0,z1]) | ((with_reducible apply Qah hp);exact zt rfl;exact za rfl;exact rfl;exact Sz.z;exact rfl;exact ii;(first | (with_reducible exact Qab (by omega)) | (simp only [n0,Nat.reduceAdd,n1,n2,n3,n4,n5,n6,n7,n8,n9];try rfl));(first | exact zl rfl | exact Qad (by omega));exact rfl;exact ii;clear hp;(try clear w1);intro w1 hp) | ((with_reducible apply Qaj);exact zx rfl;exact zk rfl;exact ii;exact Sz.z;omega;omega;((try simp only [m0,Int.reduceToNat,m1,m2,Nat.reduceMul,Nat.reduceAdd,m3,m4,m5,n0]);exact rfl);simp only [zp,zq,z0,z1]) | ((with_reducible apply Qam hp);exact zt rfl;assumption;exact ii;assumption;(first | exact zl rfl | omega);simp only [zp,zq,z0,z1]) | ((with_reducible apply Qai hp);exact zt rfl;assumption;exact ii;(first | assumption | (first | exact zio rfl | exact Qae (by omega)));simp only [zp,zq,z0,z1]))
        have hq := hp
        refine Qau hp hq [] (.q 0 (.q 1 (.q 2 (.q 3 (.q 4 (.q 5 (.q 6 (.q 7 (.p 8 (.p 9 .nil)))))))))) (by kernel_rfl) (by kernel_rfl) ?_
        clear hp hq;(try clear w1);intro w1 hp hq
        repeat' (first | (((with_reducible apply sg_q);exact zo rfl);(first | ((with_reducible apply Qbb hp);exact rfl;exact zt rfl;exact ii;exact ii;(first | exact zio rfl | exact Qae (by omega));simp only [zp,zq,z0,z1]) | ((with_reducible apply Qbe hp);exact rfl;exact zt rfl;assumption;exact ii;(first | assumption | (first | exact zio rfl | exact Qae (by omega)));simp only [zp,zq,z0,z1]) | ((with_reducible apply Qbm hp);exact rfl;(focus (intro _;go_simp;(try go_ints);try with_reducible rfl));simp only [zp,zq,z0,z1]))) | (((with_reducible apply sg_p);exact zo rfl);((with_reducible apply Qbp hp);exact rfl;(focus (intro _;go_simp;try first | with_reducible rfl | exact ⟨rfl,rfl⟩));(with_reducible first | exact fun w => MU.out w | exact fun w => OU.out w);simp only [zp,zq,z0,z1])) | ((with_reducible apply Qbt hq);clear hp hq;(try clear w1);intro w1 hp))
        go_wp2_with (first | ((with_reducible apply Qag hp);exact ii;exact rfl;clear hp;(try clear w1);intro g w1 hp;simp only [zp,zq,z0,z1]) | ((with_reducible apply Qaa hp);exact zt rfl;exact ii;exact ii;(first | exact zl rfl | exact Qad (by omega));(first | (with_reducible exact Qab (by omega)) | (simp only [n0,Nat.reduceAdd,n1,n2,n3,n4,n5,n6,n7,n8,n9];try rfl));simp only [zp,zq,z0,z1]) | ((with_reducible apply Qac hp);exact zt rfl;exact ii;exact ii;(first | exact zio rfl | exact Qae (by omega));simp only [zp,zq,z0,z1]) | ((with_reducible apply Qah hp);exact zt rfl;exact za rfl;exact rfl;exact Sz.z;exact rfl;exact ii;(first | (with_reducible exact Qab (by omega)) | (simp only [n0,Nat.reduceAdd,n1,n2,n3,n4,n5,n6,n7,n8,n9];try rfl));(first | exact zl rfl | exact Qad (by omega));exact rfl;exact ii;clear hp;(try clear w1);intro w1 hp) | ((with_reducible apply Qaj);exact zx rfl;exact zk rfl;exact ii;exact Sz.z;omega;omega;((try simp only [m0,Int.reduceToNat,m1,m2,Nat.reduceMul,Nat.reduceAdd,m3,m4,m5,n0]);exact rfl);simp only [zp,zq,z0,z1]) | ((with_reducible apply Qam hp);exact zt rfl;assumption;exact ii;assumption;(first | exact zl rfl | omega);simp only [zp,zq,z0,z1]) | ((with_reducible apply Qai hp);exact zt rfl;assumption;exact ii;(first | assumption | (first | exact zio rfl | exact Qae (by omega)));simp only [zp,zq,z0,z1]))
        go_roundw
        case rel => exact ⟨k + 1,by omega,by go_num,HT.out (by simp),hp.sub (List.nil_sublist _)⟩
        case measure => simp [intOf];omega
    · obtain rfl : k = S.length := by omega
      obtain rfl : e = 0 := by
        have := HF.out
        rw [List.take_length] at this
        rw [HE.out,this]
        rfl
      go_wp2_with (first | ((with_reducible apply Qag hp);exact ii;exact rfl;clear hp;(try clear w1);intro g w1 hp;simp only [zp,zq,z0,z1]) | ((with_reducible apply Qaa hp);exact zt rfl;exact ii;exact ii;(first | exact zl rfl | exact Qad (by omega));(first | (with_reducible exact Qab (by omega)) | (simp only [n0,Nat.reduceAdd,n1,n2,n3,n4,n5,n6,n7,n8,n9];try rfl));simp only [zp,zq,z0,z1]) | ((with_reducible apply Qac hp);exact zt rfl;exact ii;exact ii;(first | exact zio rfl | exact Qae (by omega));simp only [zp,zq,z0,z1]) | ((with_reducible apply Qah hp);exact zt rfl;exact za rfl;exact rfl;exact Sz.z;exact rfl;exact ii;(first | (with_reducible exact Qab (by omega)) | (simp only [n0,Nat.reduceAdd,n1,n2,n3,n4,n5,n6,n7,n8,n9];try rfl));(first | exact zl rfl | exact Qad (by omega));exact rfl;exact ii;clear hp;(try clear w1);intro w1 hp) | ((with_reducible apply Qaj);exact zx rfl;exact zk rfl;exact ii;exact Sz.z;omega;omega;((try simp only [m0,Int.reduceToNat,m1,m2,Nat.reduceMul,Nat.reduceAdd,m3,m4,m5,n0]);exact rfl);simp only [zp,zq,z0,z1]) | ((with_reducible apply Qam hp);exact zt rfl;assumption;exact ii;assumption;(first | exact zl rfl | omega);simp only [zp,zq,z0,z1]) | ((with_reducible apply Qai hp);exact zt rfl;assumption;exact ii;(first | assumption | (first | exact zio rfl | exact Qae (by omega)));simp only [zp,zq,z0,z1]))
      exact bodyPost_ret (Qaf rfl rfl) rfl ⟨rfl,hp.keep⟩
theorem Qli {S : List Rw} {v : Value} (nb : Int) (hS : ∀ r ∈ S,r.i64f) (w : World) (h : FSl RVl 25 w v S) : Calls Tryz.prog 15 #[.int .i64 nb,v] w (Ret (.int .i64 (Qep nb S)) w) := by
  obtain ⟨b,c,hv⟩ := h.shape
  unfold Qep
  by_cases h1 : 4096 < nb ∨ 16384 < S.length
  · rw [if_pos h1]
    exact Qpi nb v S.length b c hv (by omega) w
  · rw [if_neg h1]
    rcases h with ⟨rfl,rfl⟩ | ⟨g,off,cap,bc,t,z,rfl,h2,h3⟩
    · exact rcheck_nil nb (by omega) w
    · exact rcheck_far nb S (by omega) (by omega) _ (Lib.hid rfl) (Lib.hid hS) g off cap bc t z w h2 h3
end Go.Proofs.YtblffafmkpnjdaaGreat
