/-
  fix.Text: every number (printed by gen_tx.py).
-/
import Derived.Test.YtbdkbmhejoakiaaDoorTw
import Derived.Laws.Concat
set_option linter.unusedSimpArgs false
set_option linter.unusedVariables false
set_option maxRecDepth 100000
namespace Go.Proofs.YtbdkbmhejoakiaaDoor
open Go Go.RowKit
attribute [local irreducible] wpList

/-- A text that is not long. -/
class Sh (s : ByteArray) (n : outParam Nat) : Prop where
  h : s.size ≤ n
instance (priority := 10) : Sh { data := #[] } 0 := ⟨Nat.le_refl _⟩
instance (priority := 10) (a : UInt8) : Sh { data := #[a] } 1 := ⟨Nat.le_refl _⟩
instance (priority := 10) (a b c d e f g h : UInt8) : Sh { data := #[a, b, c, d, e, f, g, h] } 8 := ⟨Nat.le_refl _⟩
instance (priority := 10) (a b c d e f g h : UInt8) : Sh { data := [a, b, c, d, e, f, g, h].toArray } 8 := ⟨Nat.le_refl _⟩
instance (priority := 10) {x y : ByteArray} {m n : Nat} [hx : Sh x m] [hy : Sh y n] : Sh (x ++ y) (m + n) := ⟨by rw [ByteArray.size_append]; have := hx.h; have := hy.h; omega⟩
@[go_sem 100000] theorem cat_short {P : Program} (x y : ByteArray) {m n : Nat} [hx : Sh x m] [hy : Sh y n] (h : m + n ≤ 9223372036854775807) (w : World) : (Op.stringOp .add x y).run P w = .ok (.string (x ++ y)) w :=
  run_string_add_sum w x y (by have := hx.h; have := hy.h; omega)
theorem and15 {m : Int} (h0 : 0 ≤ m) (h1 : m < 18446744073709551616) : bits BinOp.and IntKind.u64 m 15 = m % 16 := by
  obtain ⟨a, rfl⟩ : ∃ a : Nat, m = a := ⟨m.toNat, by omega⟩
  have h := bits_and_u64_nat a 15 (by omega) (by omega)
  rw [show (((15 : Nat)) : Int) = 15 from rfl] at h
  rw [h, show a &&& 15 = a % 16 from Nat.and_two_pow_sub_one_eq_mod a 4]
  omega
theorem and_lo {m : Int} (h0 : 0 ≤ m) (h1 : m < 18446744073709551616) : 0 ≤ bits BinOp.and IntKind.u64 m 15 := by rw [and15 h0 h1]; omega
theorem and_hi {m : Int} (h0 : 0 ≤ m) (h1 : m < 18446744073709551616) : bits BinOp.and IntKind.u64 m 15 < 16 := by rw [and15 h0 h1]; omega
theorem hex_tab : ∀ d : Fin 16, ((({ data := #[48, 49, 50, 51, 52, 53, 54, 55, 56, 57, 97, 98, 99, 100, 101, 102] } : ByteArray)[d.val]'(d.isLt)).toNat : Int) = ((hexc d.val).toNat : Int) := by decide
theorem and_ch {m : Int} (h0 : 0 ≤ m) (h1 : m < 18446744073709551616) : ∀ h, ((({ data := #[48, 49, 50, 51, 52, 53, 54, 55, 56, 57, 97, 98, 99, 100, 101, 102] } : ByteArray)[(bits BinOp.and IntKind.u64 m 15).toNat]'h).toNat : Int) = ((hexc (m.toNat % 16)).toNat : Int) := by
  intro h
  have e : (bits BinOp.and IntKind.u64 m 15).toNat = m.toNat % 16 := by rw [and15 h0 h1]; omega
  have := hex_tab ⟨m.toNat % 16, by omega⟩
  rw [← this]
  congr 3
set_option maxHeartbeats 8000000 in
theorem text_pos (n : Int) (h0 : ¬ n < 0) (hN : n < 9223372036854775808) (D : List UInt8) (hD : D.length ≤ 100) (w : World) (hE : Env w) (F1 : Hid (∀ w, Env w → Calls Tryd.prog 34 #[.int .u64 (n / 4294967296), .int .i64 10] w (Ret (.string ⟨D.toArray⟩) w))) (s : ByteArray) (HS : Hid ((({ data := #[] } : ByteArray) ++ ⟨D.toArray⟩ ++ { data := #[46] } ++ { data := ([hexc ((n / 268435456).toNat % 16), hexc ((n / 16777216).toNat % 16), hexc ((n / 1048576).toNat % 16), hexc ((n / 65536).toNat % 16), hexc ((n / 4096).toNat % 16), hexc ((n / 256).toNat % 16), hexc ((n / 16).toNat % 16), hexc (n.toNat % 16)] : List UInt8).toArray }) = s)) :
    Calls Tryd.prog 12 #[.int .i64 n] w (Ret (.string s) w) := by
  have hn0 : 0 ≤ n := by omega
  have HE := Lib.hid hE
  clear hE
  have K0 := Lib.hid (fun gl wr (h : Tail [] w gl [] ((([.int .u8 ((hexc ((n / 268435456).toNat % 16)).toNat : Int), .int .u8 ((hexc ((n / 16777216).toNat % 16)).toNat : Int), .int .u8 ((hexc ((n / 1048576).toNat % 16)).toNat : Int), .int .u8 ((hexc ((n / 65536).toNat % 16)).toNat : Int), .int .u8 ((hexc ((n / 4096).toNat % 16)).toNat : Int), .int .u8 ((hexc ((n / 256).toNat % 16)).toNat : Int), .int .u8 ((hexc ((n / 16).toNat % 16)).toNat : Int), .int .u8 ((hexc (n.toNat % 16)).toNat : Int)] : List Value)).take 0) wr) => text1_any (X := []) (w0 := w) gl [] (n / 268435456) (((hexc ((n / 268435456).toNat % 16)).toNat : Nat) : Int) (and_lo (by omega) (by omega)) (and_hi (by omega) (by omega)) (and_ch (by omega) (by omega)) ((([.int .u8 ((hexc ((n / 268435456).toNat % 16)).toNat : Int), .int .u8 ((hexc ((n / 16777216).toNat % 16)).toNat : Int), .int .u8 ((hexc ((n / 1048576).toNat % 16)).toNat : Int), .int .u8 ((hexc ((n / 65536).toNat % 16)).toNat : Int), .int .u8 ((hexc ((n / 4096).toNat % 16)).toNat : Int), .int .u8 ((hexc ((n / 256).toNat % 16)).toNat : Int), .int .u8 ((hexc ((n / 16).toNat % 16)).toNat : Int), .int .u8 ((hexc (n.toNat % 16)).toNat : Int)] : List Value)).take 0) (by simp) wr h)
  have K1 := Lib.hid (fun gl wr (h : Tail [] w gl [] ((([.int .u8 ((hexc ((n / 268435456).toNat % 16)).toNat : Int), .int .u8 ((hexc ((n / 16777216).toNat % 16)).toNat : Int), .int .u8 ((hexc ((n / 1048576).toNat % 16)).toNat : Int), .int .u8 ((hexc ((n / 65536).toNat % 16)).toNat : Int), .int .u8 ((hexc ((n / 4096).toNat % 16)).toNat : Int), .int .u8 ((hexc ((n / 256).toNat % 16)).toNat : Int), .int .u8 ((hexc ((n / 16).toNat % 16)).toNat : Int), .int .u8 ((hexc (n.toNat % 16)).toNat : Int)] : List Value)).take 1) wr) => text1_any (X := []) (w0 := w) gl [] (n / 16777216) (((hexc ((n / 16777216).toNat % 16)).toNat : Nat) : Int) (and_lo (by omega) (by omega)) (and_hi (by omega) (by omega)) (and_ch (by omega) (by omega)) ((([.int .u8 ((hexc ((n / 268435456).toNat % 16)).toNat : Int), .int .u8 ((hexc ((n / 16777216).toNat % 16)).toNat : Int), .int .u8 ((hexc ((n / 1048576).toNat % 16)).toNat : Int), .int .u8 ((hexc ((n / 65536).toNat % 16)).toNat : Int), .int .u8 ((hexc ((n / 4096).toNat % 16)).toNat : Int), .int .u8 ((hexc ((n / 256).toNat % 16)).toNat : Int), .int .u8 ((hexc ((n / 16).toNat % 16)).toNat : Int), .int .u8 ((hexc (n.toNat % 16)).toNat : Int)] : List Value)).take 1) (by simp) wr h)
  have K2 := Lib.hid (fun gl wr (h : Tail [] w gl [] ((([.int .u8 ((hexc ((n / 268435456).toNat % 16)).toNat : Int), .int .u8 ((hexc ((n / 16777216).toNat % 16)).toNat : Int), .int .u8 ((hexc ((n / 1048576).toNat % 16)).toNat : Int), .int .u8 ((hexc ((n / 65536).toNat % 16)).toNat : Int), .int .u8 ((hexc ((n / 4096).toNat % 16)).toNat : Int), .int .u8 ((hexc ((n / 256).toNat % 16)).toNat : Int), .int .u8 ((hexc ((n / 16).toNat % 16)).toNat : Int), .int .u8 ((hexc (n.toNat % 16)).toNat : Int)] : List Value)).take 2) wr) => text1_any (X := []) (w0 := w) gl [] (n / 1048576) (((hexc ((n / 1048576).toNat % 16)).toNat : Nat) : Int) (and_lo (by omega) (by omega)) (and_hi (by omega) (by omega)) (and_ch (by omega) (by omega)) ((([.int .u8 ((hexc ((n / 268435456).toNat % 16)).toNat : Int), .int .u8 ((hexc ((n / 16777216).toNat % 16)).toNat : Int), .int .u8 ((hexc ((n / 1048576).toNat % 16)).toNat : Int), .int .u8 ((hexc ((n / 65536).toNat % 16)).toNat : Int), .int .u8 ((hexc ((n / 4096).toNat % 16)).toNat : Int), .int .u8 ((hexc ((n / 256).toNat % 16)).toNat : Int), .int .u8 ((hexc ((n / 16).toNat % 16)).toNat : Int), .int .u8 ((hexc (n.toNat % 16)).toNat : Int)] : List Value)).take 2) (by simp) wr h)
  have K3 := Lib.hid (fun gl wr (h : Tail [] w gl [] ((([.int .u8 ((hexc ((n / 268435456).toNat % 16)).toNat : Int), .int .u8 ((hexc ((n / 16777216).toNat % 16)).toNat : Int), .int .u8 ((hexc ((n / 1048576).toNat % 16)).toNat : Int), .int .u8 ((hexc ((n / 65536).toNat % 16)).toNat : Int), .int .u8 ((hexc ((n / 4096).toNat % 16)).toNat : Int), .int .u8 ((hexc ((n / 256).toNat % 16)).toNat : Int), .int .u8 ((hexc ((n / 16).toNat % 16)).toNat : Int), .int .u8 ((hexc (n.toNat % 16)).toNat : Int)] : List Value)).take 3) wr) => text1_any (X := []) (w0 := w) gl [] (n / 65536) (((hexc ((n / 65536).toNat % 16)).toNat : Nat) : Int) (and_lo (by omega) (by omega)) (and_hi (by omega) (by omega)) (and_ch (by omega) (by omega)) ((([.int .u8 ((hexc ((n / 268435456).toNat % 16)).toNat : Int), .int .u8 ((hexc ((n / 16777216).toNat % 16)).toNat : Int), .int .u8 ((hexc ((n / 1048576).toNat % 16)).toNat : Int), .int .u8 ((hexc ((n / 65536).toNat % 16)).toNat : Int), .int .u8 ((hexc ((n / 4096).toNat % 16)).toNat : Int), .int .u8 ((hexc ((n / 256).toNat % 16)).toNat : Int), .int .u8 ((hexc ((n / 16).toNat % 16)).toNat : Int), .int .u8 ((hexc (n.toNat % 16)).toNat : Int)] : List Value)).take 3) (by simp) wr h)
  have K4 := Lib.hid (fun gl wr (h : Tail [] w gl [] ((([.int .u8 ((hexc ((n / 268435456).toNat % 16)).toNat : Int), .int .u8 ((hexc ((n / 16777216).toNat % 16)).toNat : Int), .int .u8 ((hexc ((n / 1048576).toNat % 16)).toNat : Int), .int .u8 ((hexc ((n / 65536).toNat % 16)).toNat : Int), .int .u8 ((hexc ((n / 4096).toNat % 16)).toNat : Int), .int .u8 ((hexc ((n / 256).toNat % 16)).toNat : Int), .int .u8 ((hexc ((n / 16).toNat % 16)).toNat : Int), .int .u8 ((hexc (n.toNat % 16)).toNat : Int)] : List Value)).take 4) wr) => text1_any (X := []) (w0 := w) gl [] (n / 4096) (((hexc ((n / 4096).toNat % 16)).toNat : Nat) : Int) (and_lo (by omega) (by omega)) (and_hi (by omega) (by omega)) (and_ch (by omega) (by omega)) ((([.int .u8 ((hexc ((n / 268435456).toNat % 16)).toNat : Int), .int .u8 ((hexc ((n / 16777216).toNat % 16)).toNat : Int), .int .u8 ((hexc ((n / 1048576).toNat % 16)).toNat : Int), .int .u8 ((hexc ((n / 65536).toNat % 16)).toNat : Int), .int .u8 ((hexc ((n / 4096).toNat % 16)).toNat : Int), .int .u8 ((hexc ((n / 256).toNat % 16)).toNat : Int), .int .u8 ((hexc ((n / 16).toNat % 16)).toNat : Int), .int .u8 ((hexc (n.toNat % 16)).toNat : Int)] : List Value)).take 4) (by simp) wr h)
  have K5 := Lib.hid (fun gl wr (h : Tail [] w gl [] ((([.int .u8 ((hexc ((n / 268435456).toNat % 16)).toNat : Int), .int .u8 ((hexc ((n / 16777216).toNat % 16)).toNat : Int), .int .u8 ((hexc ((n / 1048576).toNat % 16)).toNat : Int), .int .u8 ((hexc ((n / 65536).toNat % 16)).toNat : Int), .int .u8 ((hexc ((n / 4096).toNat % 16)).toNat : Int), .int .u8 ((hexc ((n / 256).toNat % 16)).toNat : Int), .int .u8 ((hexc ((n / 16).toNat % 16)).toNat : Int), .int .u8 ((hexc (n.toNat % 16)).toNat : Int)] : List Value)).take 5) wr) => text1_any (X := []) (w0 := w) gl [] (n / 256) (((hexc ((n / 256).toNat % 16)).toNat : Nat) : Int) (and_lo (by omega) (by omega)) (and_hi (by omega) (by omega)) (and_ch (by omega) (by omega)) ((([.int .u8 ((hexc ((n / 268435456).toNat % 16)).toNat : Int), .int .u8 ((hexc ((n / 16777216).toNat % 16)).toNat : Int), .int .u8 ((hexc ((n / 1048576).toNat % 16)).toNat : Int), .int .u8 ((hexc ((n / 65536).toNat % 16)).toNat : Int), .int .u8 ((hexc ((n / 4096).toNat % 16)).toNat : Int), .int .u8 ((hexc ((n / 256).toNat % 16)).toNat : Int), .int .u8 ((hexc ((n / 16).toNat % 16)).toNat : Int), .int .u8 ((hexc (n.toNat % 16)).toNat : Int)] : List Value)).take 5) (by simp) wr h)
  have K6 := Lib.hid (fun gl wr (h : Tail [] w gl [] ((([.int .u8 ((hexc ((n / 268435456).toNat % 16)).toNat : Int), .int .u8 ((hexc ((n / 16777216).toNat % 16)).toNat : Int), .int .u8 ((hexc ((n / 1048576).toNat % 16)).toNat : Int), .int .u8 ((hexc ((n / 65536).toNat % 16)).toNat : Int), .int .u8 ((hexc ((n / 4096).toNat % 16)).toNat : Int), .int .u8 ((hexc ((n / 256).toNat % 16)).toNat : Int), .int .u8 ((hexc ((n / 16).toNat % 16)).toNat : Int), .int .u8 ((hexc (n.toNat % 16)).toNat : Int)] : List Value)).take 6) wr) => text1_any (X := []) (w0 := w) gl [] (n / 16) (((hexc ((n / 16).toNat % 16)).toNat : Nat) : Int) (and_lo (by omega) (by omega)) (and_hi (by omega) (by omega)) (and_ch (by omega) (by omega)) ((([.int .u8 ((hexc ((n / 268435456).toNat % 16)).toNat : Int), .int .u8 ((hexc ((n / 16777216).toNat % 16)).toNat : Int), .int .u8 ((hexc ((n / 1048576).toNat % 16)).toNat : Int), .int .u8 ((hexc ((n / 65536).toNat % 16)).toNat : Int), .int .u8 ((hexc ((n / 4096).toNat % 16)).toNat : Int), .int .u8 ((hexc ((n / 256).toNat % 16)).toNat : Int), .int .u8 ((hexc ((n / 16).toNat % 16)).toNat : Int), .int .u8 ((hexc (n.toNat % 16)).toNat : Int)] : List Value)).take 6) (by simp) wr h)
  have K7 := Lib.hid (fun gl wr (h : Tail [] w gl [] ((([.int .u8 ((hexc ((n / 268435456).toNat % 16)).toNat : Int), .int .u8 ((hexc ((n / 16777216).toNat % 16)).toNat : Int), .int .u8 ((hexc ((n / 1048576).toNat % 16)).toNat : Int), .int .u8 ((hexc ((n / 65536).toNat % 16)).toNat : Int), .int .u8 ((hexc ((n / 4096).toNat % 16)).toNat : Int), .int .u8 ((hexc ((n / 256).toNat % 16)).toNat : Int), .int .u8 ((hexc ((n / 16).toNat % 16)).toNat : Int), .int .u8 ((hexc (n.toNat % 16)).toNat : Int)] : List Value)).take 7) wr) => text1_any (X := []) (w0 := w) gl [] n (((hexc (n.toNat % 16)).toNat : Nat) : Int) (and_lo (by omega) (by omega)) (and_hi (by omega) (by omega)) (and_ch (by omega) (by omega)) ((([.int .u8 ((hexc ((n / 268435456).toNat % 16)).toNat : Int), .int .u8 ((hexc ((n / 16777216).toNat % 16)).toNat : Int), .int .u8 ((hexc ((n / 1048576).toNat % 16)).toNat : Int), .int .u8 ((hexc ((n / 65536).toNat % 16)).toNat : Int), .int .u8 ((hexc ((n / 4096).toNat % 16)).toNat : Int), .int .u8 ((hexc ((n / 256).toNat % 16)).toNat : Int), .int .u8 ((hexc ((n / 16).toNat % 16)).toNat : Int), .int .u8 ((hexc (n.toNat % 16)).toNat : Int)] : List Value)).take 7) (by simp) wr h)
  go_enter Tryd.func12, Tryd.ntmps12
  have hp := Hp.start [] w
  go_wp2_with (first
          | ((with_reducible apply sx_alloc hp); infer_instance; exact rfl; clear hp; (try clear w1); intro g w1 hp; simp only [zp, zq, z0, z1])
          | ((with_reducible apply sx_load_one hp); exact zt rfl; infer_instance; infer_instance; (first | exact zso rfl | exact LB_get (by omega)); simp only [zp, zq, z0, z1]))
  rename_i K9 hK9
  have hT : Tail [] w g [] ((([.int .u8 ((hexc ((n / 268435456).toNat % 16)).toNat : Int), .int .u8 ((hexc ((n / 16777216).toNat % 16)).toNat : Int), .int .u8 ((hexc ((n / 1048576).toNat % 16)).toNat : Int), .int .u8 ((hexc ((n / 65536).toNat % 16)).toNat : Int), .int .u8 ((hexc ((n / 4096).toNat % 16)).toNat : Int), .int .u8 ((hexc ((n / 256).toNat % 16)).toNat : Int), .int .u8 ((hexc ((n / 16).toNat % 16)).toNat : Int), .int .u8 ((hexc (n.toNat % 16)).toNat : Int)] : List Value)).take 0) w1 := .inl ⟨rfl, hp⟩
  clear hp
  go_loopw [15] (fun i wr => ∃ k : Nat, k ≤ 8 ∧ i = .int .i64 k ∧ Tail [] w g [] ((([.int .u8 ((hexc ((n / 268435456).toNat % 16)).toNat : Int), .int .u8 ((hexc ((n / 16777216).toNat % 16)).toNat : Int), .int .u8 ((hexc ((n / 1048576).toNat % 16)).toNat : Int), .int .u8 ((hexc ((n / 65536).toNat % 16)).toNat : Int), .int .u8 ((hexc ((n / 4096).toNat % 16)).toNat : Int), .int .u8 ((hexc ((n / 256).toNat % 16)).toNat : Int), .int .u8 ((hexc ((n / 16).toNat % 16)).toNat : Int), .int .u8 ((hexc (n.toNat % 16)).toNat : Int)] : List Value)).take k) wr) (fun i _ => 8 - (intOf i).toNat)
  case atStart => exact ⟨0, by omega, rfl, hT⟩
  case round =>
    clear hT
    obtain ⟨k, hk, rfl, hT⟩ := hrel
    by_cases hk8 : k < 8
    · rcases (by omega : k = 0 ∨ k = 1 ∨ k = 2 ∨ k = 3 ∨ k = 4 ∨ k = 5 ∨ k = 6 ∨ k = 7) with rfl | rfl | rfl | rfl | rfl | rfl | rfl | rfl
      · rw [show (((0 : Nat)) : Int) = 0 from rfl]
        go_wp2_with (first
          | ((with_reducible apply sx_alloc hp); infer_instance; exact rfl; clear hp; (try clear w1); intro g w1 hp; simp only [zp, zq, z0, z1])
          | ((with_reducible apply sx_load_one hp); exact zt rfl; infer_instance; infer_instance; (first | exact zso rfl | exact LB_get (by omega)); simp only [zp, zq, z0, z1])
          | ((with_reducible refine sx_callS (K0.out _ _ hT) ?_); clear hT; rintro w1 hT))
        go_roundw
        case rel => exact ⟨1, by omega, rfl, hT⟩
        case measure => simp [intOf]
      · rw [show (((1 : Nat)) : Int) = 1 from rfl]
        go_wp2_with (first
          | ((with_reducible apply sx_alloc hp); infer_instance; exact rfl; clear hp; (try clear w1); intro g w1 hp; simp only [zp, zq, z0, z1])
          | ((with_reducible apply sx_load_one hp); exact zt rfl; infer_instance; infer_instance; (first | exact zso rfl | exact LB_get (by omega)); simp only [zp, zq, z0, z1])
          | ((with_reducible refine sx_callS (K1.out _ _ hT) ?_); clear hT; rintro w1 hT))
        go_roundw
        case rel => exact ⟨2, by omega, rfl, hT⟩
        case measure => simp [intOf]
      · rw [show (((2 : Nat)) : Int) = 2 from rfl]
        go_wp2_with (first
          | ((with_reducible apply sx_alloc hp); infer_instance; exact rfl; clear hp; (try clear w1); intro g w1 hp; simp only [zp, zq, z0, z1])
          | ((with_reducible apply sx_load_one hp); exact zt rfl; infer_instance; infer_instance; (first | exact zso rfl | exact LB_get (by omega)); simp only [zp, zq, z0, z1])
          | ((with_reducible refine sx_callS (K2.out _ _ hT) ?_); clear hT; rintro w1 hT))
        go_roundw
        case rel => exact ⟨3, by omega, rfl, hT⟩
        case measure => simp [intOf]
      · rw [show (((3 : Nat)) : Int) = 3 from rfl]
        go_wp2_with (first
          | ((with_reducible apply sx_alloc hp); infer_instance; exact rfl; clear hp; (try clear w1); intro g w1 hp; simp only [zp, zq, z0, z1])
          | ((with_reducible apply sx_load_one hp); exact zt rfl; infer_instance; infer_instance; (first | exact zso rfl | exact LB_get (by omega)); simp only [zp, zq, z0, z1])
          | ((with_reducible refine sx_callS (K3.out _ _ hT) ?_); clear hT; rintro w1 hT))
        go_roundw
        case rel => exact ⟨4, by omega, rfl, hT⟩
        case measure => simp [intOf]
      · rw [show (((4 : Nat)) : Int) = 4 from rfl]
        go_wp2_with (first
          | ((with_reducible apply sx_alloc hp); infer_instance; exact rfl; clear hp; (try clear w1); intro g w1 hp; simp only [zp, zq, z0, z1])
          | ((with_reducible apply sx_load_one hp); exact zt rfl; infer_instance; infer_instance; (first | exact zso rfl | exact LB_get (by omega)); simp only [zp, zq, z0, z1])
          | ((with_reducible refine sx_callS (K4.out _ _ hT) ?_); clear hT; rintro w1 hT))
        go_roundw
        case rel => exact ⟨5, by omega, rfl, hT⟩
        case measure => simp [intOf]
      · rw [show (((5 : Nat)) : Int) = 5 from rfl]
        go_wp2_with (first
          | ((with_reducible apply sx_alloc hp); infer_instance; exact rfl; clear hp; (try clear w1); intro g w1 hp; simp only [zp, zq, z0, z1])
          | ((with_reducible apply sx_load_one hp); exact zt rfl; infer_instance; infer_instance; (first | exact zso rfl | exact LB_get (by omega)); simp only [zp, zq, z0, z1])
          | ((with_reducible refine sx_callS (K5.out _ _ hT) ?_); clear hT; rintro w1 hT))
        go_roundw
        case rel => exact ⟨6, by omega, rfl, hT⟩
        case measure => simp [intOf]
      · rw [show (((6 : Nat)) : Int) = 6 from rfl]
        go_wp2_with (first
          | ((with_reducible apply sx_alloc hp); infer_instance; exact rfl; clear hp; (try clear w1); intro g w1 hp; simp only [zp, zq, z0, z1])
          | ((with_reducible apply sx_load_one hp); exact zt rfl; infer_instance; infer_instance; (first | exact zso rfl | exact LB_get (by omega)); simp only [zp, zq, z0, z1])
          | ((with_reducible refine sx_callS (K6.out _ _ hT) ?_); clear hT; rintro w1 hT))
        go_roundw
        case rel => exact ⟨7, by omega, rfl, hT⟩
        case measure => simp [intOf]
      · rw [show (((7 : Nat)) : Int) = 7 from rfl]
        go_wp2_with (first
          | ((with_reducible apply sx_alloc hp); infer_instance; exact rfl; clear hp; (try clear w1); intro g w1 hp; simp only [zp, zq, z0, z1])
          | ((with_reducible apply sx_load_one hp); exact zt rfl; infer_instance; infer_instance; (first | exact zso rfl | exact LB_get (by omega)); simp only [zp, zq, z0, z1])
          | ((with_reducible refine sx_callS (K7.out _ _ hT) ?_); clear hT; rintro w1 hT))
        go_roundw
        case rel => exact ⟨8, by omega, rfl, hT⟩
        case measure => simp [intOf]
    · obtain rfl : k = 8 := by omega
      rcases hT with ⟨h, _⟩ | ⟨g2, cap, jj, hl0, hl1, hl2, hl3, hp1⟩
      · cases h
      · rw [show (((8 : Nat)) : Int) = 8 from rfl]
        have hp : Hp [] w [⟨g, 57, [.slice (some ⟨g2, 0, none⟩) 8 cap]⟩, ⟨g2, 5, ([.int .u8 ((hexc ((n / 268435456).toNat % 16)).toNat : Int), .int .u8 ((hexc ((n / 16777216).toNat % 16)).toNat : Int), .int .u8 ((hexc ((n / 1048576).toNat % 16)).toNat : Int), .int .u8 ((hexc ((n / 65536).toNat % 16)).toNat : Int), .int .u8 ((hexc ((n / 4096).toNat % 16)).toNat : Int), .int .u8 ((hexc ((n / 256).toNat % 16)).toNat : Int), .int .u8 ((hexc ((n / 16).toNat % 16)).toNat : Int), .int .u8 ((hexc (n.toNat % 16)).toNat : Int)] : List Value) ++ jj⟩] wr := hp1
        have hcs : ∀ k (hk : k < ([hexc ((n / 268435456).toNat % 16), hexc ((n / 16777216).toNat % 16), hexc ((n / 1048576).toNat % 16), hexc ((n / 65536).toNat % 16), hexc ((n / 4096).toNat % 16), hexc ((n / 256).toNat % 16), hexc ((n / 16).toNat % 16), hexc (n.toNat % 16)] : List UInt8).length), (([.int .u8 ((hexc ((n / 268435456).toNat % 16)).toNat : Int), .int .u8 ((hexc ((n / 16777216).toNat % 16)).toNat : Int), .int .u8 ((hexc ((n / 1048576).toNat % 16)).toNat : Int), .int .u8 ((hexc ((n / 65536).toNat % 16)).toNat : Int), .int .u8 ((hexc ((n / 4096).toNat % 16)).toNat : Int), .int .u8 ((hexc ((n / 256).toNat % 16)).toNat : Int), .int .u8 ((hexc ((n / 16).toNat % 16)).toNat : Int), .int .u8 ((hexc (n.toNat % 16)).toNat : Int)] : List Value) ++ jj)[k]? = some (.int .u8 ((([hexc ((n / 268435456).toNat % 16), hexc ((n / 16777216).toNat % 16), hexc ((n / 1048576).toNat % 16), hexc ((n / 65536).toNat % 16), hexc ((n / 4096).toNat % 16), hexc ((n / 256).toNat % 16), hexc ((n / 16).toNat % 16), hexc (n.toNat % 16)] : List UInt8)[k]'hk).toNat : Int)) := by
          intro k hk
          match k, hk with
          | 0, _ | 1, _ | 2, _ | 3, _ | 4, _ | 5, _ | 6, _ | 7, _ => rfl
        clear hp1 hl0 hl1 hl2 hl3 hk8 hk
        go_upto_region 11 with (first
          | ((with_reducible apply sx_alloc hp); infer_instance; exact rfl; clear hp; (try clear w1); intro g w1 hp; simp only [zp, zq, z0, z1])
          | ((with_reducible apply sx_load_one hp); exact zt rfl; infer_instance; infer_instance; (first | exact zso rfl | exact LB_get (by omega)); simp only [zp, zq, z0, z1]))
        haveI : Sh (⟨D.toArray⟩ : ByteArray) 100 := ⟨by show D.toArray.size ≤ 100; simpa using hD⟩
        have hq := hp
        refine wp_drawn_hp hp hq [] (.q 0 (.q 1 (.q 2 (.q 6 (.b2 3 (.q 4 (.q 5 (.l 7 (.q 8 (.q 9 .nil))))) 7 (.l 3 (.q 4 (.q 5 (.q 8 (.q 9 .nil)))))))))) (by kernel_rfl) (by kernel_rfl) ?_
        clear hp hq; (try clear w1); intro w1 hp hq
        repeat' (first
          | (((with_reducible apply sd_q); exact zo rfl); (first
              | ((with_reducible apply sd_load_one hp); exact rfl; exact zt rfl; infer_instance; infer_instance; (first | exact zso rfl | exact LB_get (by omega)); simp only [zp, zq, z0, z1])
              | ((with_reducible apply sd_move hp); (first | exact zi rfl | exact zg rfl); simp only [zp, zq, z0, z1])
              | ((with_reducible apply sd_assign hp); exact zg rfl; simp only [zp, zq, z0, z1])
              | ((with_reducible apply sd_pure hp); exact rfl; (focus (intro _; go_simp; (try go_ints); try with_reducible rfl)); simp only [zp, zq, z0, z1])))
          | (((with_reducible apply sd_l); exact zo rfl); (first
              | ((with_reducible apply sd_callM hp); exact rfl; (focus (intro _; go_simp; try first | with_reducible rfl | exact ⟨rfl, rfl⟩)); (with_reducible exact F1.out _ (HE.out.keep hq.keep)); exact hq; clear hp hq; (try clear w1); intro w1 hp hq; simp only [zp, zq, z0, z1])
              | ((with_reducible apply sd_convBS [hexc ((n / 268435456).toNat % 16), hexc ((n / 16777216).toNat % 16), hexc ((n / 1048576).toNat % 16), hexc ((n / 65536).toNat % 16), hexc ((n / 4096).toNat % 16), hexc ((n / 256).toNat % 16), hexc ((n / 16).toNat % 16), hexc (n.toNat % 16)] hp); exact rfl; exact zx rfl; infer_instance; exact rfl; exact Tryd.underlying57; exact Tryd.underlying5; exact Tryd.underlying9; exact hcs; simp only [zp, zq, z0, z1])))
          | (with_reducible apply sd_b2)
          | ((with_reducible apply sd_nil); clear hp; have hp := hq; clear hq))
        all_goals
          go_wp2
          exact bodyPost_ret (results_one rfl rfl) rfl ⟨congrArg (fun s => Ending.returned (Value.string s)) HS.out, hp.keep⟩
set_option maxHeartbeats 8000000 in
theorem text_neg (a n : Int) (h0 : a < 0) (hn0 : 0 ≤ n) (hN : n ≤ 9223372036854775808) (hwr : IntKind.u64.wrap (-IntKind.u64.wrap a) = n) (D : List UInt8) (hD : D.length ≤ 100) (w : World) (hE : Env w) (F1 : Hid (∀ w, Env w → Calls Tryd.prog 34 #[.int .u64 (n / 4294967296), .int .i64 10] w (Ret (.string ⟨D.toArray⟩) w))) (s : ByteArray) (HS : Hid ((({ data := #[45] } : ByteArray) ++ ⟨D.toArray⟩ ++ { data := #[46] } ++ { data := ([hexc ((n / 268435456).toNat % 16), hexc ((n / 16777216).toNat % 16), hexc ((n / 1048576).toNat % 16), hexc ((n / 65536).toNat % 16), hexc ((n / 4096).toNat % 16), hexc ((n / 256).toNat % 16), hexc ((n / 16).toNat % 16), hexc (n.toNat % 16)] : List UInt8).toArray }) = s)) :
    Calls Tryd.prog 12 #[.int .i64 a] w (Ret (.string s) w) := by
  have HE := Lib.hid hE
  clear hE
  have K0 := Lib.hid (fun gl wr (h : Tail [] w gl [] ((([.int .u8 ((hexc ((n / 268435456).toNat % 16)).toNat : Int), .int .u8 ((hexc ((n / 16777216).toNat % 16)).toNat : Int), .int .u8 ((hexc ((n / 1048576).toNat % 16)).toNat : Int), .int .u8 ((hexc ((n / 65536).toNat % 16)).toNat : Int), .int .u8 ((hexc ((n / 4096).toNat % 16)).toNat : Int), .int .u8 ((hexc ((n / 256).toNat % 16)).toNat : Int), .int .u8 ((hexc ((n / 16).toNat % 16)).toNat : Int), .int .u8 ((hexc (n.toNat % 16)).toNat : Int)] : List Value)).take 0) wr) => text1_any (X := []) (w0 := w) gl [] (n / 268435456) (((hexc ((n / 268435456).toNat % 16)).toNat : Nat) : Int) (and_lo (by omega) (by omega)) (and_hi (by omega) (by omega)) (and_ch (by omega) (by omega)) ((([.int .u8 ((hexc ((n / 268435456).toNat % 16)).toNat : Int), .int .u8 ((hexc ((n / 16777216).toNat % 16)).toNat : Int), .int .u8 ((hexc ((n / 1048576).toNat % 16)).toNat : Int), .int .u8 ((hexc ((n / 65536).toNat % 16)).toNat : Int), .int .u8 ((hexc ((n / 4096).toNat % 16)).toNat : Int), .int .u8 ((hexc ((n / 256).toNat % 16)).toNat : Int), .int .u8 ((hexc ((n / 16).toNat % 16)).toNat : Int), .int .u8 ((hexc (n.toNat % 16)).toNat : Int)] : List Value)).take 0) (by simp) wr h)
  have K1 := Lib.hid (fun gl wr (h : Tail [] w gl [] ((([.int .u8 ((hexc ((n / 268435456).toNat % 16)).toNat : Int), .int .u8 ((hexc ((n / 16777216).toNat % 16)).toNat : Int), .int .u8 ((hexc ((n / 1048576).toNat % 16)).toNat : Int), .int .u8 ((hexc ((n / 65536).toNat % 16)).toNat : Int), .int .u8 ((hexc ((n / 4096).toNat % 16)).toNat : Int), .int .u8 ((hexc ((n / 256).toNat % 16)).toNat : Int), .int .u8 ((hexc ((n / 16).toNat % 16)).toNat : Int), .int .u8 ((hexc (n.toNat % 16)).toNat : Int)] : List Value)).take 1) wr) => text1_any (X := []) (w0 := w) gl [] (n / 16777216) (((hexc ((n / 16777216).toNat % 16)).toNat : Nat) : Int) (and_lo (by omega) (by omega)) (and_hi (by omega) (by omega)) (and_ch (by omega) (by omega)) ((([.int .u8 ((hexc ((n / 268435456).toNat % 16)).toNat : Int), .int .u8 ((hexc ((n / 16777216).toNat % 16)).toNat : Int), .int .u8 ((hexc ((n / 1048576).toNat % 16)).toNat : Int), .int .u8 ((hexc ((n / 65536).toNat % 16)).toNat : Int), .int .u8 ((hexc ((n / 4096).toNat % 16)).toNat : Int), .int .u8 ((hexc ((n / 256).toNat % 16)).toNat : Int), .int .u8 ((hexc ((n / 16).toNat % 16)).toNat : Int), .int .u8 ((hexc (n.toNat % 16)).toNat : Int)] : List Value)).take 1) (by simp) wr h)
  have K2 := Lib.hid (fun gl wr (h : Tail [] w gl [] ((([.int .u8 ((hexc ((n / 268435456).toNat % 16)).toNat : Int), .int .u8 ((hexc ((n / 16777216).toNat % 16)).toNat : Int), .int .u8 ((hexc ((n / 1048576).toNat % 16)).toNat : Int), .int .u8 ((hexc ((n / 65536).toNat % 16)).toNat : Int), .int .u8 ((hexc ((n / 4096).toNat % 16)).toNat : Int), .int .u8 ((hexc ((n / 256).toNat % 16)).toNat : Int), .int .u8 ((hexc ((n / 16).toNat % 16)).toNat : Int), .int .u8 ((hexc (n.toNat % 16)).toNat : Int)] : List Value)).take 2) wr) => text1_any (X := []) (w0 := w) gl [] (n / 1048576) (((hexc ((n / 1048576).toNat % 16)).toNat : Nat) : Int) (and_lo (by omega) (by omega)) (and_hi (by omega) (by omega)) (and_ch (by omega) (by omega)) ((([.int .u8 ((hexc ((n / 268435456).toNat % 16)).toNat : Int), .int .u8 ((hexc ((n / 16777216).toNat % 16)).toNat : Int), .int .u8 ((hexc ((n / 1048576).toNat % 16)).toNat : Int), .int .u8 ((hexc ((n / 65536).toNat % 16)).toNat : Int), .int .u8 ((hexc ((n / 4096).toNat % 16)).toNat : Int), .int .u8 ((hexc ((n / 256).toNat % 16)).toNat : Int), .int .u8 ((hexc ((n / 16).toNat % 16)).toNat : Int), .int .u8 ((hexc (n.toNat % 16)).toNat : Int)] : List Value)).take 2) (by simp) wr h)
  have K3 := Lib.hid (fun gl wr (h : Tail [] w gl [] ((([.int .u8 ((hexc ((n / 268435456).toNat % 16)).toNat : Int), .int .u8 ((hexc ((n / 16777216).toNat % 16)).toNat : Int), .int .u8 ((hexc ((n / 1048576).toNat % 16)).toNat : Int), .int .u8 ((hexc ((n / 65536).toNat % 16)).toNat : Int), .int .u8 ((hexc ((n / 4096).toNat % 16)).toNat : Int), .int .u8 ((hexc ((n / 256).toNat % 16)).toNat : Int), .int .u8 ((hexc ((n / 16).toNat % 16)).toNat : Int), .int .u8 ((hexc (n.toNat % 16)).toNat : Int)] : List Value)).take 3) wr) => text1_any (X := []) (w0 := w) gl [] (n / 65536) (((hexc ((n / 65536).toNat % 16)).toNat : Nat) : Int) (and_lo (by omega) (by omega)) (and_hi (by omega) (by omega)) (and_ch (by omega) (by omega)) ((([.int .u8 ((hexc ((n / 268435456).toNat % 16)).toNat : Int), .int .u8 ((hexc ((n / 16777216).toNat % 16)).toNat : Int), .int .u8 ((hexc ((n / 1048576).toNat % 16)).toNat : Int), .int .u8 ((hexc ((n / 65536).toNat % 16)).toNat : Int), .int .u8 ((hexc ((n / 4096).toNat % 16)).toNat : Int), .int .u8 ((hexc ((n / 256).toNat % 16)).toNat : Int), .int .u8 ((hexc ((n / 16).toNat % 16)).toNat : Int), .int .u8 ((hexc (n.toNat % 16)).toNat : Int)] : List Value)).take 3) (by simp) wr h)
  have K4 := Lib.hid (fun gl wr (h : Tail [] w gl [] ((([.int .u8 ((hexc ((n / 268435456).toNat % 16)).toNat : Int), .int .u8 ((hexc ((n / 16777216).toNat % 16)).toNat : Int), .int .u8 ((hexc ((n / 1048576).toNat % 16)).toNat : Int), .int .u8 ((hexc ((n / 65536).toNat % 16)).toNat : Int), .int .u8 ((hexc ((n / 4096).toNat % 16)).toNat : Int), .int .u8 ((hexc ((n / 256).toNat % 16)).toNat : Int), .int .u8 ((hexc ((n / 16).toNat % 16)).toNat : Int), .int .u8 ((hexc (n.toNat % 16)).toNat : Int)] : List Value)).take 4) wr) => text1_any (X := []) (w0 := w) gl [] (n / 4096) (((hexc ((n / 4096).toNat % 16)).toNat : Nat) : Int) (and_lo (by omega) (by omega)) (and_hi (by omega) (by omega)) (and_ch (by omega) (by omega)) ((([.int .u8 ((hexc ((n / 268435456).toNat % 16)).toNat : Int), .int .u8 ((hexc ((n / 16777216).toNat % 16)).toNat : Int), .int .u8 ((hexc ((n / 1048576).toNat % 16)).toNat : Int), .int .u8 ((hexc ((n / 65536).toNat % 16)).toNat : Int), .int .u8 ((hexc ((n / 4096).toNat % 16)).toNat : Int), .int .u8 ((hexc ((n / 256).toNat % 16)).toNat : Int), .int .u8 ((hexc ((n / 16).toNat % 16)).toNat : Int), .int .u8 ((hexc (n.toNat % 16)).toNat : Int)] : List Value)).take 4) (by simp) wr h)
  have K5 := Lib.hid (fun gl wr (h : Tail [] w gl [] ((([.int .u8 ((hexc ((n / 268435456).toNat % 16)).toNat : Int), .int .u8 ((hexc ((n / 16777216).toNat % 16)).toNat : Int), .int .u8 ((hexc ((n / 1048576).toNat % 16)).toNat : Int), .int .u8 ((hexc ((n / 65536).toNat % 16)).toNat : Int), .int .u8 ((hexc ((n / 4096).toNat % 16)).toNat : Int), .int .u8 ((hexc ((n / 256).toNat % 16)).toNat : Int), .int .u8 ((hexc ((n / 16).toNat % 16)).toNat : Int), .int .u8 ((hexc (n.toNat % 16)).toNat : Int)] : List Value)).take 5) wr) => text1_any (X := []) (w0 := w) gl [] (n / 256) (((hexc ((n / 256).toNat % 16)).toNat : Nat) : Int) (and_lo (by omega) (by omega)) (and_hi (by omega) (by omega)) (and_ch (by omega) (by omega)) ((([.int .u8 ((hexc ((n / 268435456).toNat % 16)).toNat : Int), .int .u8 ((hexc ((n / 16777216).toNat % 16)).toNat : Int), .int .u8 ((hexc ((n / 1048576).toNat % 16)).toNat : Int), .int .u8 ((hexc ((n / 65536).toNat % 16)).toNat : Int), .int .u8 ((hexc ((n / 4096).toNat % 16)).toNat : Int), .int .u8 ((hexc ((n / 256).toNat % 16)).toNat : Int), .int .u8 ((hexc ((n / 16).toNat % 16)).toNat : Int), .int .u8 ((hexc (n.toNat % 16)).toNat : Int)] : List Value)).take 5) (by simp) wr h)
  have K6 := Lib.hid (fun gl wr (h : Tail [] w gl [] ((([.int .u8 ((hexc ((n / 268435456).toNat % 16)).toNat : Int), .int .u8 ((hexc ((n / 16777216).toNat % 16)).toNat : Int), .int .u8 ((hexc ((n / 1048576).toNat % 16)).toNat : Int), .int .u8 ((hexc ((n / 65536).toNat % 16)).toNat : Int), .int .u8 ((hexc ((n / 4096).toNat % 16)).toNat : Int), .int .u8 ((hexc ((n / 256).toNat % 16)).toNat : Int), .int .u8 ((hexc ((n / 16).toNat % 16)).toNat : Int), .int .u8 ((hexc (n.toNat % 16)).toNat : Int)] : List Value)).take 6) wr) => text1_any (X := []) (w0 := w) gl [] (n / 16) (((hexc ((n / 16).toNat % 16)).toNat : Nat) : Int) (and_lo (by omega) (by omega)) (and_hi (by omega) (by omega)) (and_ch (by omega) (by omega)) ((([.int .u8 ((hexc ((n / 268435456).toNat % 16)).toNat : Int), .int .u8 ((hexc ((n / 16777216).toNat % 16)).toNat : Int), .int .u8 ((hexc ((n / 1048576).toNat % 16)).toNat : Int), .int .u8 ((hexc ((n / 65536).toNat % 16)).toNat : Int), .int .u8 ((hexc ((n / 4096).toNat % 16)).toNat : Int), .int .u8 ((hexc ((n / 256).toNat % 16)).toNat : Int), .int .u8 ((hexc ((n / 16).toNat % 16)).toNat : Int), .int .u8 ((hexc (n.toNat % 16)).toNat : Int)] : List Value)).take 6) (by simp) wr h)
  have K7 := Lib.hid (fun gl wr (h : Tail [] w gl [] ((([.int .u8 ((hexc ((n / 268435456).toNat % 16)).toNat : Int), .int .u8 ((hexc ((n / 16777216).toNat % 16)).toNat : Int), .int .u8 ((hexc ((n / 1048576).toNat % 16)).toNat : Int), .int .u8 ((hexc ((n / 65536).toNat % 16)).toNat : Int), .int .u8 ((hexc ((n / 4096).toNat % 16)).toNat : Int), .int .u8 ((hexc ((n / 256).toNat % 16)).toNat : Int), .int .u8 ((hexc ((n / 16).toNat % 16)).toNat : Int), .int .u8 ((hexc (n.toNat % 16)).toNat : Int)] : List Value)).take 7) wr) => text1_any (X := []) (w0 := w) gl [] n (((hexc (n.toNat % 16)).toNat : Nat) : Int) (and_lo (by omega) (by omega)) (and_hi (by omega) (by omega)) (and_ch (by omega) (by omega)) ((([.int .u8 ((hexc ((n / 268435456).toNat % 16)).toNat : Int), .int .u8 ((hexc ((n / 16777216).toNat % 16)).toNat : Int), .int .u8 ((hexc ((n / 1048576).toNat % 16)).toNat : Int), .int .u8 ((hexc ((n / 65536).toNat % 16)).toNat : Int), .int .u8 ((hexc ((n / 4096).toNat % 16)).toNat : Int), .int .u8 ((hexc ((n / 256).toNat % 16)).toNat : Int), .int .u8 ((hexc ((n / 16).toNat % 16)).toNat : Int), .int .u8 ((hexc (n.toNat % 16)).toNat : Int)] : List Value)).take 7) (by simp) wr h)
  go_enter Tryd.func12, Tryd.ntmps12
  have hp := Hp.start [] w
  go_wp2_with (first
          | ((with_reducible apply sx_alloc hp); infer_instance; exact rfl; clear hp; (try clear w1); intro g w1 hp; simp only [zp, zq, z0, z1])
          | ((with_reducible apply sx_load_one hp); exact zt rfl; infer_instance; infer_instance; (first | exact zso rfl | exact LB_get (by omega)); simp only [zp, zq, z0, z1]))
  rename_i K9 hK9
  have hT : Tail [] w g [] ((([.int .u8 ((hexc ((n / 268435456).toNat % 16)).toNat : Int), .int .u8 ((hexc ((n / 16777216).toNat % 16)).toNat : Int), .int .u8 ((hexc ((n / 1048576).toNat % 16)).toNat : Int), .int .u8 ((hexc ((n / 65536).toNat % 16)).toNat : Int), .int .u8 ((hexc ((n / 4096).toNat % 16)).toNat : Int), .int .u8 ((hexc ((n / 256).toNat % 16)).toNat : Int), .int .u8 ((hexc ((n / 16).toNat % 16)).toNat : Int), .int .u8 ((hexc (n.toNat % 16)).toNat : Int)] : List Value)).take 0) w1 := .inl ⟨rfl, hp⟩
  clear hp
  go_loopw [15] (fun i wr => ∃ k : Nat, k ≤ 8 ∧ i = .int .i64 k ∧ Tail [] w g [] ((([.int .u8 ((hexc ((n / 268435456).toNat % 16)).toNat : Int), .int .u8 ((hexc ((n / 16777216).toNat % 16)).toNat : Int), .int .u8 ((hexc ((n / 1048576).toNat % 16)).toNat : Int), .int .u8 ((hexc ((n / 65536).toNat % 16)).toNat : Int), .int .u8 ((hexc ((n / 4096).toNat % 16)).toNat : Int), .int .u8 ((hexc ((n / 256).toNat % 16)).toNat : Int), .int .u8 ((hexc ((n / 16).toNat % 16)).toNat : Int), .int .u8 ((hexc (n.toNat % 16)).toNat : Int)] : List Value)).take k) wr) (fun i _ => 8 - (intOf i).toNat)
  case atStart => exact ⟨0, by omega, rfl, hT⟩
  case round =>
    clear hT
    obtain ⟨k, hk, rfl, hT⟩ := hrel
    by_cases hk8 : k < 8
    · rcases (by omega : k = 0 ∨ k = 1 ∨ k = 2 ∨ k = 3 ∨ k = 4 ∨ k = 5 ∨ k = 6 ∨ k = 7) with rfl | rfl | rfl | rfl | rfl | rfl | rfl | rfl
      · rw [show (((0 : Nat)) : Int) = 0 from rfl]
        go_wp2_with (first
          | ((with_reducible apply sx_alloc hp); infer_instance; exact rfl; clear hp; (try clear w1); intro g w1 hp; simp only [zp, zq, z0, z1])
          | ((with_reducible apply sx_load_one hp); exact zt rfl; infer_instance; infer_instance; (first | exact zso rfl | exact LB_get (by omega)); simp only [zp, zq, z0, z1])
          | ((with_reducible refine sx_callS (K0.out _ _ hT) ?_); clear hT; rintro w1 hT))
        go_roundw
        case rel => exact ⟨1, by omega, rfl, hT⟩
        case measure => simp [intOf]
      · rw [show (((1 : Nat)) : Int) = 1 from rfl]
        go_wp2_with (first
          | ((with_reducible apply sx_alloc hp); infer_instance; exact rfl; clear hp; (try clear w1); intro g w1 hp; simp only [zp, zq, z0, z1])
          | ((with_reducible apply sx_load_one hp); exact zt rfl; infer_instance; infer_instance; (first | exact zso rfl | exact LB_get (by omega)); simp only [zp, zq, z0, z1])
          | ((with_reducible refine sx_callS (K1.out _ _ hT) ?_); clear hT; rintro w1 hT))
        go_roundw
        case rel => exact ⟨2, by omega, rfl, hT⟩
        case measure => simp [intOf]
      · rw [show (((2 : Nat)) : Int) = 2 from rfl]
        go_wp2_with (first
          | ((with_reducible apply sx_alloc hp); infer_instance; exact rfl; clear hp; (try clear w1); intro g w1 hp; simp only [zp, zq, z0, z1])
          | ((with_reducible apply sx_load_one hp); exact zt rfl; infer_instance; infer_instance; (first | exact zso rfl | exact LB_get (by omega)); simp only [zp, zq, z0, z1])
          | ((with_reducible refine sx_callS (K2.out _ _ hT) ?_); clear hT; rintro w1 hT))
        go_roundw
        case rel => exact ⟨3, by omega, rfl, hT⟩
        case measure => simp [intOf]
      · rw [show (((3 : Nat)) : Int) = 3 from rfl]
        go_wp2_with (first
          | ((with_reducible apply sx_alloc hp); infer_instance; exact rfl; clear hp; (try clear w1); intro g w1 hp; simp only [zp, zq, z0, z1])
          | ((with_reducible apply sx_load_one hp); exact zt rfl; infer_instance; infer_instance; (first | exact zso rfl | exact LB_get (by omega)); simp only [zp, zq, z0, z1])
          | ((with_reducible refine sx_callS (K3.out _ _ hT) ?_); clear hT; rintro w1 hT))
        go_roundw
        case rel => exact ⟨4, by omega, rfl, hT⟩
        case measure => simp [intOf]
      · rw [show (((4 : Nat)) : Int) = 4 from rfl]
        go_wp2_with (first
          | ((with_reducible apply sx_alloc hp); infer_instance; exact rfl; clear hp; (try clear w1); intro g w1 hp; simp only [zp, zq, z0, z1])
          | ((with_reducible apply sx_load_one hp); exact zt rfl; infer_instance; infer_instance; (first | exact zso rfl | exact LB_get (by omega)); simp only [zp, zq, z0, z1])
          | ((with_reducible refine sx_callS (K4.out _ _ hT) ?_); clear hT; rintro w1 hT))
        go_roundw
        case rel => exact ⟨5, by omega, rfl, hT⟩
        case measure => simp [intOf]
      · rw [show (((5 : Nat)) : Int) = 5 from rfl]
        go_wp2_with (first
          | ((with_reducible apply sx_alloc hp); infer_instance; exact rfl; clear hp; (try clear w1); intro g w1 hp; simp only [zp, zq, z0, z1])
          | ((with_reducible apply sx_load_one hp); exact zt rfl; infer_instance; infer_instance; (first | exact zso rfl | exact LB_get (by omega)); simp only [zp, zq, z0, z1])
          | ((with_reducible refine sx_callS (K5.out _ _ hT) ?_); clear hT; rintro w1 hT))
        go_roundw
        case rel => exact ⟨6, by omega, rfl, hT⟩
        case measure => simp [intOf]
      · rw [show (((6 : Nat)) : Int) = 6 from rfl]
        go_wp2_with (first
          | ((with_reducible apply sx_alloc hp); infer_instance; exact rfl; clear hp; (try clear w1); intro g w1 hp; simp only [zp, zq, z0, z1])
          | ((with_reducible apply sx_load_one hp); exact zt rfl; infer_instance; infer_instance; (first | exact zso rfl | exact LB_get (by omega)); simp only [zp, zq, z0, z1])
          | ((with_reducible refine sx_callS (K6.out _ _ hT) ?_); clear hT; rintro w1 hT))
        go_roundw
        case rel => exact ⟨7, by omega, rfl, hT⟩
        case measure => simp [intOf]
      · rw [show (((7 : Nat)) : Int) = 7 from rfl]
        go_wp2_with (first
          | ((with_reducible apply sx_alloc hp); infer_instance; exact rfl; clear hp; (try clear w1); intro g w1 hp; simp only [zp, zq, z0, z1])
          | ((with_reducible apply sx_load_one hp); exact zt rfl; infer_instance; infer_instance; (first | exact zso rfl | exact LB_get (by omega)); simp only [zp, zq, z0, z1])
          | ((with_reducible refine sx_callS (K7.out _ _ hT) ?_); clear hT; rintro w1 hT))
        go_roundw
        case rel => exact ⟨8, by omega, rfl, hT⟩
        case measure => simp [intOf]
    · obtain rfl : k = 8 := by omega
      rcases hT with ⟨h, _⟩ | ⟨g2, cap, jj, hl0, hl1, hl2, hl3, hp1⟩
      · cases h
      · rw [show (((8 : Nat)) : Int) = 8 from rfl]
        have hp : Hp [] w [⟨g, 57, [.slice (some ⟨g2, 0, none⟩) 8 cap]⟩, ⟨g2, 5, ([.int .u8 ((hexc ((n / 268435456).toNat % 16)).toNat : Int), .int .u8 ((hexc ((n / 16777216).toNat % 16)).toNat : Int), .int .u8 ((hexc ((n / 1048576).toNat % 16)).toNat : Int), .int .u8 ((hexc ((n / 65536).toNat % 16)).toNat : Int), .int .u8 ((hexc ((n / 4096).toNat % 16)).toNat : Int), .int .u8 ((hexc ((n / 256).toNat % 16)).toNat : Int), .int .u8 ((hexc ((n / 16).toNat % 16)).toNat : Int), .int .u8 ((hexc (n.toNat % 16)).toNat : Int)] : List Value) ++ jj⟩] wr := hp1
        have hcs : ∀ k (hk : k < ([hexc ((n / 268435456).toNat % 16), hexc ((n / 16777216).toNat % 16), hexc ((n / 1048576).toNat % 16), hexc ((n / 65536).toNat % 16), hexc ((n / 4096).toNat % 16), hexc ((n / 256).toNat % 16), hexc ((n / 16).toNat % 16), hexc (n.toNat % 16)] : List UInt8).length), (([.int .u8 ((hexc ((n / 268435456).toNat % 16)).toNat : Int), .int .u8 ((hexc ((n / 16777216).toNat % 16)).toNat : Int), .int .u8 ((hexc ((n / 1048576).toNat % 16)).toNat : Int), .int .u8 ((hexc ((n / 65536).toNat % 16)).toNat : Int), .int .u8 ((hexc ((n / 4096).toNat % 16)).toNat : Int), .int .u8 ((hexc ((n / 256).toNat % 16)).toNat : Int), .int .u8 ((hexc ((n / 16).toNat % 16)).toNat : Int), .int .u8 ((hexc (n.toNat % 16)).toNat : Int)] : List Value) ++ jj)[k]? = some (.int .u8 ((([hexc ((n / 268435456).toNat % 16), hexc ((n / 16777216).toNat % 16), hexc ((n / 1048576).toNat % 16), hexc ((n / 65536).toNat % 16), hexc ((n / 4096).toNat % 16), hexc ((n / 256).toNat % 16), hexc ((n / 16).toNat % 16), hexc (n.toNat % 16)] : List UInt8)[k]'hk).toNat : Int)) := by
          intro k hk
          match k, hk with
          | 0, _ | 1, _ | 2, _ | 3, _ | 4, _ | 5, _ | 6, _ | 7, _ => rfl
        clear hp1 hl0 hl1 hl2 hl3 hk8 hk
        go_upto_region 11 with (first
          | ((with_reducible apply sx_alloc hp); infer_instance; exact rfl; clear hp; (try clear w1); intro g w1 hp; simp only [zp, zq, z0, z1])
          | ((with_reducible apply sx_load_one hp); exact zt rfl; infer_instance; infer_instance; (first | exact zso rfl | exact LB_get (by omega)); simp only [zp, zq, z0, z1]))
        haveI : Sh (⟨D.toArray⟩ : ByteArray) 100 := ⟨by show D.toArray.size ≤ 100; simpa using hD⟩
        have hq := hp
        refine wp_drawn_hp hp hq [] (.q 0 (.q 1 (.q 2 (.q 6 (.b2 3 (.q 4 (.q 5 (.l 7 (.q 8 (.q 9 .nil))))) 7 (.l 3 (.q 4 (.q 5 (.q 8 (.q 9 .nil)))))))))) (by kernel_rfl) (by kernel_rfl) ?_
        clear hp hq; (try clear w1); intro w1 hp hq
        repeat' (first
          | (((with_reducible apply sd_q); exact zo rfl); (first
              | ((with_reducible apply sd_load_one hp); exact rfl; exact zt rfl; infer_instance; infer_instance; (first | exact zso rfl | exact LB_get (by omega)); simp only [zp, zq, z0, z1])
              | ((with_reducible apply sd_move hp); (first | exact zi rfl | exact zg rfl); simp only [zp, zq, z0, z1])
              | ((with_reducible apply sd_assign hp); exact zg rfl; simp only [zp, zq, z0, z1])
              | ((with_reducible apply sd_pure hp); exact rfl; (focus (intro _; go_simp; (try go_ints); try with_reducible rfl)); simp only [zp, zq, z0, z1])))
          | (((with_reducible apply sd_l); exact zo rfl); (first
              | ((with_reducible apply sd_callM hp); exact rfl; (focus (intro _; go_simp; try first | with_reducible rfl | exact ⟨rfl, rfl⟩)); (with_reducible exact F1.out _ (HE.out.keep hq.keep)); exact hq; clear hp hq; (try clear w1); intro w1 hp hq; simp only [zp, zq, z0, z1])
              | ((with_reducible apply sd_convBS [hexc ((n / 268435456).toNat % 16), hexc ((n / 16777216).toNat % 16), hexc ((n / 1048576).toNat % 16), hexc ((n / 65536).toNat % 16), hexc ((n / 4096).toNat % 16), hexc ((n / 256).toNat % 16), hexc ((n / 16).toNat % 16), hexc (n.toNat % 16)] hp); exact rfl; exact zx rfl; infer_instance; exact rfl; exact Tryd.underlying57; exact Tryd.underlying5; exact Tryd.underlying9; exact hcs; simp only [zp, zq, z0, z1])))
          | (with_reducible apply sd_b2)
          | ((with_reducible apply sd_nil); clear hp; have hp := hq; clear hq))
        all_goals
          go_wp2
          exact bodyPost_ret (results_one rfl rfl) rfl ⟨congrArg (fun s => Ending.returned (Value.string s)) HS.out, hp.keep⟩
theorem text_any (a : Int) (ha : I64 a) (w : World) (hE : Env w) : Calls Tryd.prog 12 #[.int .i64 a] w (Ret (.string ⟨(textB a).toArray⟩) w) := by
  unfold I64 at ha
  have F1 : ∀ (n : Int), 0 ≤ n → n < 18446744073709551616 → ∀ w, Env w → Calls Tryd.prog 34 #[.int .u64 n, .int .i64 10] w (Ret (.string ⟨(Lib.decDigits n.toNat).toArray⟩) w) := fun n h0 h1 w h => by
    have := ffmt_any n.toNat (by omega) w h.tab
    rwa [show ((n.toNat : Nat) : Int) = n by omega] at this
  have dl : ∀ m : Nat, m < 18446744073709551616 → (Lib.decDigits m).length ≤ 100 := fun m hm => by
    rw [Lib.decDigits_length]
    by_cases h0 : m = 0
    · rw [h0, Lib.nDigits_small (by omega)]; omega
    · have := Lib.numDigits_eq m (by omega) hm
      split at this <;> omega
  have hx : ∀ m : Nat, hex8 (m % 4294967296) = [hexc (m / 268435456 % 16), hexc (m / 16777216 % 16), hexc (m / 1048576 % 16), hexc (m / 65536 % 16), hexc (m / 4096 % 16), hexc (m / 256 % 16), hexc (m / 16 % 16), hexc (m % 16)] := fun m => by
    unfold hex8
    have e : ∀ p : Nat, p = 268435456 ∨ p = 16777216 ∨ p = 1048576 ∨ p = 65536 ∨ p = 4096 ∨ p = 256 ∨ p = 16 → m % 4294967296 / p % 16 = m / p % 16 := by
      rintro p (rfl | rfl | rfl | rfl | rfl | rfl | rfl) <;> omega
    rw [e _ (by simp), e _ (by simp), e _ (by simp), e _ (by simp), e _ (by simp), e _ (by simp), e _ (by simp), show m % 4294967296 % 16 = m % 16 by omega]
  by_cases h : a < 0
  · have hwr : IntKind.u64.wrap (-IntKind.u64.wrap a) = -a := by rw [IntKind.wrap_u64, IntKind.wrap_u64]; omega
    refine text_neg a (-a) h (by omega) (by omega) hwr _ (dl _ (by omega)) w hE (Lib.hid (F1 _ (by omega) (by omega))) _ (Lib.hid ?_)
    refine WideShapes.bytes_inj ?_
    unfold textB
    rw [if_pos h, hx, show a.natAbs = (-a).toNat by omega]
    have e0 : ((-a) / 4294967296).toNat = (-a).toNat / 4294967296 := by omega
    have e1 : ((-a) / 268435456).toNat = (-a).toNat / 268435456 := by omega
    have e2 : ((-a) / 16777216).toNat = (-a).toNat / 16777216 := by omega
    have e3 : ((-a) / 1048576).toNat = (-a).toNat / 1048576 := by omega
    have e4 : ((-a) / 65536).toNat = (-a).toNat / 65536 := by omega
    have e5 : ((-a) / 4096).toNat = (-a).toNat / 4096 := by omega
    have e6 : ((-a) / 256).toNat = (-a).toNat / 256 := by omega
    have e7 : ((-a) / 16).toNat = (-a).toNat / 16 := by omega
    simp [e0, e1, e2, e3, e4, e5, e6, e7]
  · refine text_pos a h (by omega) _ (dl _ (by omega)) w hE (Lib.hid (F1 _ (by omega) (by omega))) _ (Lib.hid ?_)
    refine WideShapes.bytes_inj ?_
    unfold textB
    rw [if_neg h, hx, show a.natAbs = a.toNat by omega]
    have e0 : (a / 4294967296).toNat = a.toNat / 4294967296 := by omega
    have e1 : (a / 268435456).toNat = a.toNat / 268435456 := by omega
    have e2 : (a / 16777216).toNat = a.toNat / 16777216 := by omega
    have e3 : (a / 1048576).toNat = a.toNat / 1048576 := by omega
    have e4 : (a / 65536).toNat = a.toNat / 65536 := by omega
    have e5 : (a / 4096).toNat = a.toNat / 4096 := by omega
    have e6 : (a / 256).toNat = a.toNat / 256 := by omega
    have e7 : (a / 16).toNat = a.toNat / 16 := by omega
    simp [e0, e1, e2, e3, e4, e5, e6, e7]
end Go.Proofs.YtbdkbmhejoakiaaDoor
