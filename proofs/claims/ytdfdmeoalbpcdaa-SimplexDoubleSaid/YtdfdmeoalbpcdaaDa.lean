/-
  math/bits.Len64; package wide: length, half, left, Bits (contracts).
-/
import Derived.Test.YtdfdmeoalbpcdaaMc
import Derived.Lib.BitFns
import Derived.Laws.BitsAllLaws
set_option linter.unusedSimpArgs false
set_option linter.unusedVariables false
set_option maxRecDepth 100000
namespace Go.Proofs.Ytdfdmeoalbpcdaa
open Go Go.RowKit
theorem Qno : ∀ (f x : Nat),x < 2 ^ f → f ≤ 64 → x < 2 ^ Lib.bitLen x ∧ (x ≠ 0 → 2 ^ (Lib.bitLen x - 1) ≤ x ∧ 1 ≤ Lib.bitLen x)
  | 0,x,h,_ => by
    obtain rfl : x = 0 := by simpa using h
    exact ⟨by decide,fun h => absurd rfl h⟩
  | f + 1,x,h,hf => by
    by_cases h0 : x = 0
    · subst h0;exact ⟨by decide,fun h => absurd rfl h⟩
    · have h64 : x < 2 ^ 64 := Nat.lt_of_lt_of_le h (Nat.pow_le_pow_right (by omega) hf)
      obtain ⟨i1,i2⟩ := Qno f (x / 2) (by rw [Nat.pow_succ] at h;omega) (by omega)
      rw [Lib.bitLen_half x h0 h64]
      refine ⟨by rw [Nat.add_comm,Nat.pow_succ];omega,fun _ => ⟨?_,by omega⟩⟩
      by_cases h1 : x / 2 = 0
      · have : x = 1 := by omega
        subst this
        decide
      · obtain ⟨j1,j2⟩ := i2 h1
        rw [show 1 + Lib.bitLen (x / 2) - 1 = (Lib.bitLen (x / 2) - 1) + 1 by omega,Nat.pow_succ]
        omega
theorem Qfj (y : Int) (h0 : 0 ≤ y) (h1 : y < 256) : 0 ≤ y ∧ y < (Lib.len8tab.size : Int) := by
  rw [Lib.len8tab_size];omega
theorem Qnn (y : Int) (h0 : 0 ≤ y) (h1 : y < 256) (h : y.toNat < Lib.len8tab.size) : ((Lib.len8tab[y.toNat]'h).toNat : Int) = (Lib.bitLen y.toNat : Int) ∧ Lib.bitLen y.toNat ≤ 8 := by
  have e : ((Lib.len8tab[y.toNat]'h).toNat : Int) = Lib.len8 y := by
    unfold Lib.len8
    rw [getElem?_pos Lib.len8tab y.toNat h]
    rfl
  rw [e,Lib.len8_of y h0 (by omega)]
  exact ⟨rfl,Lib.bitLen_le8' y h0 (by omega)⟩
theorem Qga (k : Nat) (hk : k ≤ 56) (y : Int) (h0 : 0 ≤ y) (h1 : y < 256) (h : y.toNat < Lib.len8tab.size) (x : Nat) (hx : Lib.bitLen x = k + Lib.bitLen y.toNat) : RowKit.wrap64 ((k : Int) + RowKit.wrap64 ((Lib.len8tab[y.toNat]'h).toNat : Int)) = (Lib.bitLen x : Int) := by
  obtain ⟨e,hb⟩ := Qnn y h0 h1 h
  rw [e,hx]
  unfold RowKit.wrap64
  omega
theorem len_fin0 (y : Int) (h0 : 0 ≤ y) (h1 : y < 256) (h : y.toNat < Lib.len8tab.size) (x : Nat) (hx : Lib.bitLen x = Lib.bitLen y.toNat) : RowKit.wrap64 (RowKit.wrap64 ((Lib.len8tab[y.toNat]'h).toNat : Int)) = (Lib.bitLen x : Int) := by
  obtain ⟨e,hb⟩ := Qnn y h0 h1 h
  rw [e,hx]
  unfold RowKit.wrap64
  omega
set_option maxHeartbeats 4000000 in
theorem len64_any (x : Int) (h0 : 0 ≤ x) (h1 : x < 18446744073709551616) (w : World) : Calls Try.prog 98 #[.int .u64 x] w (Ret (.int .i64 (Lib.bitLen x.toNat)) w) := by
  by_cases c1 : 4294967296 ≤ x
  · by_cases c2 : 65536 ≤ x / 4294967296
    · by_cases c3 : 256 ≤ x / 4294967296 / 65536
      · have hin := Qfj (x / 4294967296 / 65536 / 256) (by omega) (by omega)
        have hb : Lib.bitLen x.toNat = 56 + Lib.bitLen (x / 4294967296 / 65536 / 256).toNat := by
          rw [Lib.bitLen_shift56 x.toNat (by omega) (by omega),show (x / 4294967296 / 65536 / 256).toNat = x.toNat / 72057594037927936 by omega]
        have HB := Lib.hid hb
        clear hb
        go_enter Try.func98,Try.ntmps98
        have hp := Hp.start [] w
        go_wp2_with (fail)
        exact bodyPost_ret (Qab rfl rfl) rfl ⟨congrArg Ending.returned (congrArg (Value.int IntKind.i64) (Qga 56 (by omega) _ (by omega) (by omega) _ _ HB.out)),hp.keep⟩
      · have hin := Qfj (x / 4294967296 / 65536) (by omega) (by omega)
        have hb : Lib.bitLen x.toNat = 48 + Lib.bitLen (x / 4294967296 / 65536).toNat := by
          rw [Lib.bitLen_shift48 x.toNat (by omega) (by omega),show (x / 4294967296 / 65536).toNat = x.toNat / 281474976710656 by omega]
        have HB := Lib.hid hb
        clear hb
        go_enter Try.func98,Try.ntmps98
        have hp := Hp.start [] w
        go_wp2_with (fail)
        exact bodyPost_ret (Qab rfl rfl) rfl ⟨congrArg Ending.returned (congrArg (Value.int IntKind.i64) (Qga 48 (by omega) _ (by omega) (by omega) _ _ HB.out)),hp.keep⟩
    · by_cases c3 : 256 ≤ x / 4294967296
      · have hin := Qfj (x / 4294967296 / 256) (by omega) (by omega)
        have hb : Lib.bitLen x.toNat = 40 + Lib.bitLen (x / 4294967296 / 256).toNat := by
          rw [Lib.bitLen_shift40 x.toNat (by omega) (by omega),show (x / 4294967296 / 256).toNat = x.toNat / 1099511627776 by omega]
        have HB := Lib.hid hb
        clear hb
        go_enter Try.func98,Try.ntmps98
        have hp := Hp.start [] w
        go_wp2_with (fail)
        exact bodyPost_ret (Qab rfl rfl) rfl ⟨congrArg Ending.returned (congrArg (Value.int IntKind.i64) (Qga 40 (by omega) _ (by omega) (by omega) _ _ HB.out)),hp.keep⟩
      · have hin := Qfj (x / 4294967296) (by omega) (by omega)
        have hb : Lib.bitLen x.toNat = 32 + Lib.bitLen (x / 4294967296).toNat := by
          rw [Lib.bitLen_shift32 x.toNat (by omega) (by omega),show (x / 4294967296).toNat = x.toNat / 4294967296 by omega]
        have HB := Lib.hid hb
        clear hb
        go_enter Try.func98,Try.ntmps98
        have hp := Hp.start [] w
        go_wp2_with (fail)
        exact bodyPost_ret (Qab rfl rfl) rfl ⟨congrArg Ending.returned (congrArg (Value.int IntKind.i64) (Qga 32 (by omega) _ (by omega) (by omega) _ _ HB.out)),hp.keep⟩
  · by_cases c2 : 65536 ≤ x
    · by_cases c3 : 256 ≤ x / 65536
      · have hin := Qfj (x / 65536 / 256) (by omega) (by omega)
        have hb : Lib.bitLen x.toNat = 24 + Lib.bitLen (x / 65536 / 256).toNat := by
          rw [Lib.bitLen_shift24 x.toNat (by omega) (by omega),show (x / 65536 / 256).toNat = x.toNat / 16777216 by omega]
        have HB := Lib.hid hb
        clear hb
        go_enter Try.func98,Try.ntmps98
        have hp := Hp.start [] w
        go_wp2_with (fail)
        exact bodyPost_ret (Qab rfl rfl) rfl ⟨congrArg Ending.returned (congrArg (Value.int IntKind.i64) (Qga 24 (by omega) _ (by omega) (by omega) _ _ HB.out)),hp.keep⟩
      · have hin := Qfj (x / 65536) (by omega) (by omega)
        have hb : Lib.bitLen x.toNat = 16 + Lib.bitLen (x / 65536).toNat := by
          rw [Lib.bitLen_shift16 x.toNat (by omega) (by omega),show (x / 65536).toNat = x.toNat / 65536 by omega]
        have HB := Lib.hid hb
        clear hb
        go_enter Try.func98,Try.ntmps98
        have hp := Hp.start [] w
        go_wp2_with (fail)
        exact bodyPost_ret (Qab rfl rfl) rfl ⟨congrArg Ending.returned (congrArg (Value.int IntKind.i64) (Qga 16 (by omega) _ (by omega) (by omega) _ _ HB.out)),hp.keep⟩
    · by_cases c3 : 256 ≤ x
      · have hin := Qfj (x / 256) (by omega) (by omega)
        have hb : Lib.bitLen x.toNat = 8 + Lib.bitLen (x / 256).toNat := by
          rw [Lib.bitLen_shift8 x.toNat (by omega) (by omega),show (x / 256).toNat = x.toNat / 256 by omega]
        have HB := Lib.hid hb
        clear hb
        go_enter Try.func98,Try.ntmps98
        have hp := Hp.start [] w
        go_wp2_with (fail)
        exact bodyPost_ret (Qab rfl rfl) rfl ⟨congrArg Ending.returned (congrArg (Value.int IntKind.i64) (Qga 8 (by omega) _ (by omega) (by omega) _ _ HB.out)),hp.keep⟩
      · have hin := Qfj (x) (by omega) (by omega)
        have hb : Lib.bitLen x.toNat = Lib.bitLen (x).toNat := rfl
        have HB := Lib.hid hb
        clear hb
        go_enter Try.func98,Try.ntmps98
        have hp := Hp.start [] w
        go_wp2_with (fail)
        exact bodyPost_ret (Qab rfl rfl) rfl ⟨congrArg Ending.returned (congrArg (Value.int IntKind.i64) (len_fin0 _ (by omega) (by omega) _ _ rfl)),hp.keep⟩
/-- How many bits a number from 0 on has. -/
def nb (x : Int) : Nat := if x = 0 then 0 else x.toNat.log2 + 1
theorem nb_zero : nb 0 = 0 := rfl
theorem Qev (m : Nat) : ((2 ^ m : Nat) : Int) = (2 : Int) ^ m := by rw [Int.natCast_pow];rfl
theorem Qkp {x : Int} (h : 0 ≤ x) : x < 2 ^ nb x ∧ (x ≠ 0 → (2 : Int) ^ (nb x - 1) ≤ x ∧ 1 ≤ nb x) := by
  unfold nb
  split
  · rename_i h0;subst h0;exact ⟨by decide,fun h => absurd rfl h⟩
  · rename_i h0
    have h1 := Nat.lt_log2_self (n := x.toNat)
    have h2 := Nat.log2_self_le (n := x.toNat) (by omega)
    have e1 := Qev (x.toNat.log2 + 1)
    have e2 := Qev x.toNat.log2
    refine ⟨by omega,fun _ => ⟨?_,by omega⟩⟩
    rw [Nat.add_sub_cancel]
    omega
theorem nb_is {x : Int} {m : Nat} (hm : 1 ≤ m) (h1 : (2 : Int) ^ (m - 1) ≤ x) (h2 : x < 2 ^ m) : nb x = m := by
  have hp := Qay (m - 1)
  unfold nb
  rw [if_neg (by omega)]
  have e1 := Qev (m - 1)
  have e2 := Qev m
  have : x.toNat.log2 = m - 1 := (Nat.log2_eq_iff (by omega)).2 ⟨by omega,by rw [show m - 1 + 1 = m by omega];omega⟩
  omega
/-- The limb's bits, above those of the limbs below. -/
theorem nb_limb {x : Int} (h0 : 0 ≤ x) {k : Nat} (hx : x < 2 ^ (64 * (k + 1))) (hl : lb x k ≠ 0) : ((nb x : Nat) : Int) = 64 * (k : Int) + Lib.bitLen (lb x k).toNat := by
  have a0 := Qbl x k
  have a1 := Qff x k
  obtain ⟨b1,b2⟩ := Qno 64 (lb x k).toNat (by omega) (Nat.le_refl _)
  obtain ⟨b3,b4⟩ := b2 (by omega)
  have hs := Qlr x k
  rw [Int.emod_eq_of_lt h0 hx] at hs
  have hP := Qay (64 * k)
  have r0 := Int.emod_nonneg x (show (2 : Int) ^ (64 * k) ≠ 0 by omega)
  have r1 := Int.emod_lt_of_pos x hP
  generalize Lib.bitLen (lb x k).toNat = m at *
  have c1 := Qev m
  have c2 := Qev (m - 1)
  have e := nb_is (x := x) (m := 64 * k + m) (by omega) (by
      rw [show 64 * k + m - 1 = 64 * k + (m - 1) by omega,Int.pow_add]
      have := Int.mul_le_mul_of_nonneg_left (show (2 : Int) ^ (m - 1) ≤ lb x k by omega) (Int.le_of_lt hP)
      omega) (by
      rw [Int.pow_add]
      have := Int.mul_le_mul_of_nonneg_left (show lb x k + 1 ≤ (2 : Int) ^ m by omega) (Int.le_of_lt hP)
      rw [Int.mul_add] at this
      omega)
  rw [e]
  omega
set_option maxHeartbeats 4000000 in
theorem Qmk (x : Int) (h0 : 0 ≤ x) (h1 : x < M512) (w : World) : Calls Try.prog 86 #[W x] w (Ret (.int .i64 (nb x)) w) := by
  have HX := Lib.hid (show x < 2 ^ (64 * 8) by rw [← M512_eq];exact h1)
  clear h1
  have HN := Lib.hid h0
  go_enter Try.func86,Try.ntmps86
  have hp := Hp.start [] w
  go_wp2_with ((with_reducible apply Qaw hp);exact za rfl;exact rfl;clear hp;(try clear w1);intro g w1 hp;simp only [zp,zq,z0,z1])
  obtain ⟨g1,rfl⟩ : ∃ y : Nat,y = g := ⟨_,rfl⟩
  go_loopw [3] (fun i wr => ∃ k : Nat,k ≤ 8 ∧ i = .int .i64 ((k : Int) - 1) ∧ x < 2 ^ (64 * k) ∧ Hp [] w [⟨g1,80,LB (lb x)⟩] wr) (fun i _ => (intOf i + 1).toNat)
  case atStart => exact ⟨8,by omega,rfl,HX.out,hp⟩
  case round =>
    clear hp
    obtain ⟨k,hk,rfl,hx,hp⟩ := hrel
    have HK := Lib.hid hx
    clear hx
    cases k with
    | zero =>
      have hz : x = 0 := by have := HK.out;simp at this;omega
      rw [show (((0 : Nat)) : Int) - 1 = -1 from rfl]
      go_wp2_with (fail)
      exact bodyPost_ret (Qab rfl rfl) rfl ⟨by rw [hz,nb_zero];rfl,hp.keep⟩
    | succ i =>
      rw [show ((i + 1 : Nat) : Int) - 1 = (i : Int) by omega]
      have hi : i < 8 := by omega
      have hi8 : (i : Int) < 8 := by omega
      have hl0 := Qbl x i
      have hl1 := Qff x i
      by_cases hz : lb x i = 0
      · have hne : (lb x i == 0) = true := by simp [hz]
        have HZ := Lib.hid hz
        clear hz
        go_wp2_with ((with_reducible apply Qai hp);exact zt rfl;exact ii;exact ii;(exact Qct (by omega));simp only [zp,zq,z0,z1])
        go_roundw
        case rel =>
          refine ⟨i,by omega,rfl,?_,hp⟩
          have := Qlr x i
          rw [Int.emod_eq_of_lt HN.out HK.out,HZ.out] at this
          have hb := Int.emod_lt_of_pos x (Qay (64 * i))
          omega
        case measure => simp [intOf]
      · have hne : (lb x i == 0) = false := by simp [hz]
        have hl64 := len64_any (lb x i) hl0 hl1
        have e := nb_limb h0 HK.out hz
        have hbl := Lib.bitLen_le (lb x i).toNat 64 (by omega) (by omega)
        generalize Lib.bitLen (lb x i).toNat = m at *
        have HL := Lib.hid hl64
        have E := Lib.hid e
        clear hz hl64 e
        go_wp2_with (first|((with_reducible apply Qai hp);exact zt rfl;exact ii;exact ii;(exact Qct (by omega));simp only [zp,zq,z0,z1])|((with_reducible refine Qah hp (HL.out _) ?_);clear hp;(try clear w1);intro w1 hp))
        exact bodyPost_ret (Qab rfl rfl) rfl ⟨by rw [E.out];rfl,hp.keep⟩
end Go.Proofs.Ytdfdmeoalbpcdaa
