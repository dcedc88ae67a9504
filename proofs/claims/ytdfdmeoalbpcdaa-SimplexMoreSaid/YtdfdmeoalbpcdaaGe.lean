/-
  Package grid: Check (contract).
-/
import Derived.Test.YtdfdmeoalbpcdaaGd
import Derived.Laws.IdiomArrays
set_option linter.unusedSimpArgs false
set_option maxRecDepth 100000
namespace Go.Proofs.Ytdfdmeoalbpcdaa
open Go Go.RowKit
set_option maxHeartbeats 1000000 in
theorem check_gen (x y z r : Int) (H0 : Hid (may x ∧ may y ∧ may z → r = 0)) (H7 : Hid (¬ (may x ∧ may y ∧ may z) → r = 7)) (w : World) : Calls Try.prog 15 #[PV ⟨x,y,z⟩] w (Ret (.int .i64 r) w) := by
  go_enter Try.func15,Try.ntmps15
  have hp := Hp.start [] w
  go_wp2_with (first|((with_reducible apply Qan hp);exact za rfl;exact rfl;clear hp;(try clear w1);intro g w1 hp;simp only [zp,zq,z0,z1])|((with_reducible apply Qad hp);exact zt rfl;exact ii;exact ii;(first|exact zio rfl|exact Qae (by omega));simp only [zp,zq,z0,z1])|((with_reducible apply Qbe);exact za rfl;exact zk rfl;exact ii;exact ii;omega;omega;(first|exact rfl|(go_simp;done));simp only [zp,zq,z0,z1])|((with_reducible apply Qbd);exact za rfl;exact zk rfl;exact ii;exact ii;omega;omega;((try simp only [m0,Int.reduceToNat,m1,m2,Nat.reduceMul,m3,m4,n5,n1,n2,n3,n4,n6]);exact rfl);simp only [zp,zq,z0,z1]))
  go_loopw [12] (fun i wr => ∃ k : Nat,k ≤ 3 ∧ i = .int .i64 k ∧ (0 < k → may x) ∧ (1 < k → may y) ∧ (2 < k → may z) ∧ Hp [] w [⟨g,24,[.int .i64 x,.int .i64 y,.int .i64 z]⟩] wr) (fun i _ => 3 - (intOf i).toNat)
  case atStart => exact ⟨0,by omega,rfl,by omega,by omega,by omega,hp⟩
  case round =>
    clear hp
    obtain ⟨k,hk,rfl,h0,h1',h2',hp⟩ := hrel
    unfold may at h0 h1' h2'
    obtain rfl|rfl|rfl|rfl : k = 0 ∨ k = 1 ∨ k = 2 ∨ k = 3 := by omega
    · by_cases h1 : x < -268435456
      · have hb : ¬ (may x ∧ may y ∧ may z) := by unfold may;omega
        obtain rfl := H7.out hb
        go_wp2_with (first|((with_reducible apply Qan hp);exact za rfl;exact rfl;clear hp;(try clear w1);intro g w1 hp;simp only [zp,zq,z0,z1])|((with_reducible apply Qad hp);exact zt rfl;exact ii;exact ii;(first|exact zio rfl|exact Qae (by omega));simp only [zp,zq,z0,z1])|((with_reducible apply Qbe);exact za rfl;exact zk rfl;exact ii;exact ii;omega;omega;(first|exact rfl|(go_simp;done));simp only [zp,zq,z0,z1])|((with_reducible apply Qbd);exact za rfl;exact zk rfl;exact ii;exact ii;omega;omega;((try simp only [m0,Int.reduceToNat,m1,m2,Nat.reduceMul,m3,m4,n5,n1,n2,n3,n4,n6]);exact rfl);simp only [zp,zq,z0,z1]))
        exact bodyPost_ret (Qak rfl rfl) rfl ⟨rfl,hp.keep⟩
      · by_cases h2 : 268435456 < x
        · have hb : ¬ (may x ∧ may y ∧ may z) := by unfold may;omega
          obtain rfl := H7.out hb
          go_wp2_with (first|((with_reducible apply Qan hp);exact za rfl;exact rfl;clear hp;(try clear w1);intro g w1 hp;simp only [zp,zq,z0,z1])|((with_reducible apply Qad hp);exact zt rfl;exact ii;exact ii;(first|exact zio rfl|exact Qae (by omega));simp only [zp,zq,z0,z1])|((with_reducible apply Qbe);exact za rfl;exact zk rfl;exact ii;exact ii;omega;omega;(first|exact rfl|(go_simp;done));simp only [zp,zq,z0,z1])|((with_reducible apply Qbd);exact za rfl;exact zk rfl;exact ii;exact ii;omega;omega;((try simp only [m0,Int.reduceToNat,m1,m2,Nat.reduceMul,m3,m4,n5,n1,n2,n3,n4,n6]);exact rfl);simp only [zp,zq,z0,z1]))
          exact bodyPost_ret (Qak rfl rfl) rfl ⟨rfl,hp.keep⟩
        · go_wp2_with (first|((with_reducible apply Qan hp);exact za rfl;exact rfl;clear hp;(try clear w1);intro g w1 hp;simp only [zp,zq,z0,z1])|((with_reducible apply Qad hp);exact zt rfl;exact ii;exact ii;(first|exact zio rfl|exact Qae (by omega));simp only [zp,zq,z0,z1])|((with_reducible apply Qbe);exact za rfl;exact zk rfl;exact ii;exact ii;omega;omega;(first|exact rfl|(go_simp;done));simp only [zp,zq,z0,z1])|((with_reducible apply Qbd);exact za rfl;exact zk rfl;exact ii;exact ii;omega;omega;((try simp only [m0,Int.reduceToNat,m1,m2,Nat.reduceMul,m3,m4,n5,n1,n2,n3,n4,n6]);exact rfl);simp only [zp,zq,z0,z1]))
          go_roundw
          case rel => exact ⟨1,by omega,rfl,by unfold may;omega,by unfold may;omega,by unfold may;omega,hp⟩
          case measure => simp [intOf]
    · by_cases h1 : y < -268435456
      · have hb : ¬ (may x ∧ may y ∧ may z) := by unfold may;omega
        obtain rfl := H7.out hb
        go_wp2_with (first|((with_reducible apply Qan hp);exact za rfl;exact rfl;clear hp;(try clear w1);intro g w1 hp;simp only [zp,zq,z0,z1])|((with_reducible apply Qad hp);exact zt rfl;exact ii;exact ii;(first|exact zio rfl|exact Qae (by omega));simp only [zp,zq,z0,z1])|((with_reducible apply Qbe);exact za rfl;exact zk rfl;exact ii;exact ii;omega;omega;(first|exact rfl|(go_simp;done));simp only [zp,zq,z0,z1])|((with_reducible apply Qbd);exact za rfl;exact zk rfl;exact ii;exact ii;omega;omega;((try simp only [m0,Int.reduceToNat,m1,m2,Nat.reduceMul,m3,m4,n5,n1,n2,n3,n4,n6]);exact rfl);simp only [zp,zq,z0,z1]))
        exact bodyPost_ret (Qak rfl rfl) rfl ⟨rfl,hp.keep⟩
      · by_cases h2 : 268435456 < y
        · have hb : ¬ (may x ∧ may y ∧ may z) := by unfold may;omega
          obtain rfl := H7.out hb
          go_wp2_with (first|((with_reducible apply Qan hp);exact za rfl;exact rfl;clear hp;(try clear w1);intro g w1 hp;simp only [zp,zq,z0,z1])|((with_reducible apply Qad hp);exact zt rfl;exact ii;exact ii;(first|exact zio rfl|exact Qae (by omega));simp only [zp,zq,z0,z1])|((with_reducible apply Qbe);exact za rfl;exact zk rfl;exact ii;exact ii;omega;omega;(first|exact rfl|(go_simp;done));simp only [zp,zq,z0,z1])|((with_reducible apply Qbd);exact za rfl;exact zk rfl;exact ii;exact ii;omega;omega;((try simp only [m0,Int.reduceToNat,m1,m2,Nat.reduceMul,m3,m4,n5,n1,n2,n3,n4,n6]);exact rfl);simp only [zp,zq,z0,z1]))
          exact bodyPost_ret (Qak rfl rfl) rfl ⟨rfl,hp.keep⟩
        · go_wp2_with (first|((with_reducible apply Qan hp);exact za rfl;exact rfl;clear hp;(try clear w1);intro g w1 hp;simp only [zp,zq,z0,z1])|((with_reducible apply Qad hp);exact zt rfl;exact ii;exact ii;(first|exact zio rfl|exact Qae (by omega));simp only [zp,zq,z0,z1])|((with_reducible apply Qbe);exact za rfl;exact zk rfl;exact ii;exact ii;omega;omega;(first|exact rfl|(go_simp;done));simp only [zp,zq,z0,z1])|((with_reducible apply Qbd);exact za rfl;exact zk rfl;exact ii;exact ii;omega;omega;((try simp only [m0,Int.reduceToNat,m1,m2,Nat.reduceMul,m3,m4,n5,n1,n2,n3,n4,n6]);exact rfl);simp only [zp,zq,z0,z1]))
          go_roundw
          case rel => exact ⟨2,by omega,rfl,by unfold may;omega,by unfold may;omega,by unfold may;omega,hp⟩
          case measure => simp [intOf]
    · by_cases h1 : z < -268435456
      · have hb : ¬ (may x ∧ may y ∧ may z) := by unfold may;omega
        obtain rfl := H7.out hb
        go_wp2_with (first|((with_reducible apply Qan hp);exact za rfl;exact rfl;clear hp;(try clear w1);intro g w1 hp;simp only [zp,zq,z0,z1])|((with_reducible apply Qad hp);exact zt rfl;exact ii;exact ii;(first|exact zio rfl|exact Qae (by omega));simp only [zp,zq,z0,z1])|((with_reducible apply Qbe);exact za rfl;exact zk rfl;exact ii;exact ii;omega;omega;(first|exact rfl|(go_simp;done));simp only [zp,zq,z0,z1])|((with_reducible apply Qbd);exact za rfl;exact zk rfl;exact ii;exact ii;omega;omega;((try simp only [m0,Int.reduceToNat,m1,m2,Nat.reduceMul,m3,m4,n5,n1,n2,n3,n4,n6]);exact rfl);simp only [zp,zq,z0,z1]))
        exact bodyPost_ret (Qak rfl rfl) rfl ⟨rfl,hp.keep⟩
      · by_cases h2 : 268435456 < z
        · have hb : ¬ (may x ∧ may y ∧ may z) := by unfold may;omega
          obtain rfl := H7.out hb
          go_wp2_with (first|((with_reducible apply Qan hp);exact za rfl;exact rfl;clear hp;(try clear w1);intro g w1 hp;simp only [zp,zq,z0,z1])|((with_reducible apply Qad hp);exact zt rfl;exact ii;exact ii;(first|exact zio rfl|exact Qae (by omega));simp only [zp,zq,z0,z1])|((with_reducible apply Qbe);exact za rfl;exact zk rfl;exact ii;exact ii;omega;omega;(first|exact rfl|(go_simp;done));simp only [zp,zq,z0,z1])|((with_reducible apply Qbd);exact za rfl;exact zk rfl;exact ii;exact ii;omega;omega;((try simp only [m0,Int.reduceToNat,m1,m2,Nat.reduceMul,m3,m4,n5,n1,n2,n3,n4,n6]);exact rfl);simp only [zp,zq,z0,z1]))
          exact bodyPost_ret (Qak rfl rfl) rfl ⟨rfl,hp.keep⟩
        · go_wp2_with (first|((with_reducible apply Qan hp);exact za rfl;exact rfl;clear hp;(try clear w1);intro g w1 hp;simp only [zp,zq,z0,z1])|((with_reducible apply Qad hp);exact zt rfl;exact ii;exact ii;(first|exact zio rfl|exact Qae (by omega));simp only [zp,zq,z0,z1])|((with_reducible apply Qbe);exact za rfl;exact zk rfl;exact ii;exact ii;omega;omega;(first|exact rfl|(go_simp;done));simp only [zp,zq,z0,z1])|((with_reducible apply Qbd);exact za rfl;exact zk rfl;exact ii;exact ii;omega;omega;((try simp only [m0,Int.reduceToNat,m1,m2,Nat.reduceMul,m3,m4,n5,n1,n2,n3,n4,n6]);exact rfl);simp only [zp,zq,z0,z1]))
          go_roundw
          case rel => exact ⟨3,by omega,rfl,by unfold may;omega,by unfold may;omega,by unfold may;omega,hp⟩
          case measure => simp [intOf]
    · have hb : may x ∧ may y ∧ may z := by unfold may;omega
      obtain rfl := H0.out hb
      go_wp2_with (first|((with_reducible apply Qan hp);exact za rfl;exact rfl;clear hp;(try clear w1);intro g w1 hp;simp only [zp,zq,z0,z1])|((with_reducible apply Qad hp);exact zt rfl;exact ii;exact ii;(first|exact zio rfl|exact Qae (by omega));simp only [zp,zq,z0,z1])|((with_reducible apply Qbe);exact za rfl;exact zk rfl;exact ii;exact ii;omega;omega;(first|exact rfl|(go_simp;done));simp only [zp,zq,z0,z1])|((with_reducible apply Qbd);exact za rfl;exact zk rfl;exact ii;exact ii;omega;omega;((try simp only [m0,Int.reduceToNat,m1,m2,Nat.reduceMul,m3,m4,n5,n1,n2,n3,n4,n6]);exact rfl);simp only [zp,zq,z0,z1]))
      exact bodyPost_ret (Qak rfl rfl) rfl ⟨rfl,hp.keep⟩
theorem Qlj (p : P3) (w : World) : Calls Try.prog 15 #[PV p] w (Ret (.int .i64 (if p.may then 0 else 7)) w) :=
  check_gen p.x p.y p.z _ (Lib.hid fun h => if_pos h) (Lib.hid fun h => if_neg h) w
end Go.Proofs.Ytdfdmeoalbpcdaa
