/-
  The reference's Text: one sign of sixteen, the digits.
-/
import Derived.Test.YtbdkbmhejoakiaaDoorTx
set_option linter.unusedSimpArgs false
set_option linter.unusedVariables false
set_option maxRecDepth 100000
namespace Go.Proofs.YtbdkbmhejoakiaaDoor
open Go Go.RowKit
attribute [local irreducible] wpList
section
variable {P : Program} {X : List Nat} {w0 w : World} {H : List Bk} {ops : Array Oper} {Q : Exit → Act → World → Prop} {a : Act} {rest : List Oper} {d : Tmp} {tp : TypeId} {pos : String} {af : Array Edge}
theorem sx_convBS {src dst e t : TypeId} {x : Operand} {g n cap : Nat} {cs : List Value} (l : List UInt8) (hp : Hp X w0 H w)
    (hx : a.eval x = .slice (some ⟨g, 0, none⟩) n cap) (h : Has H g t cs) (hn : n = l.length) (hs : P.underlying src = some (.slice e)) (he : P.underlying e = some (.int .u8)) (hd : P.underlying dst = some .string)
    (hc : ∀ j (hj : j < l.length), cs[j]? = some (.int .u8 (l[j].toNat : Int)))
    (hk : wpList P ops Q rest (a.put (some d) (.string ⟨l.toArray⟩)) w) : wpList P ops Q (⟨some d, .convert src dst x, tp, pos, af, none⟩ :: rest) a w := by
  subst hn
  refine wpList_plain rfl fun K hK => ?_
  unfold Oper.wp
  have hr := run_convert_bytes_back (P := P) w src dst e ⟨g, 0, none⟩ cap l hs he hd (fun j hj => by
    have := hp.cell (h := h) j
    rw [hc j hj] at this
    by_cases hj0 : j = 0
    · subst hj0; simpa [Addr.add] using this
    · simpa [Addr.add, hj0] using this)
  simp only [execOp, hx, Sem.run_bind, Result.andThen_ok, hr]
  exact hK _ _ hk
end
theorem ch_one {z : Int} {c : UInt8} (h : z = (c.toNat : Int)) : ∀ j (hj : j < ([c] : List UInt8).length), ([.int .u8 z] : List Value)[j]? = some (.int .u8 (([c] : List UInt8)[j].toNat : Int)) := by
  intro j hj
  match j, hj with
  | 0, _ => subst h; rfl
theorem hexc_lo : ∀ d, d < 10 → (hexc d).toNat = 48 + d := by decide
theorem hexc_hi : ∀ d, d < 16 → ¬ d < 10 → (hexc d).toNat = 87 + d := by decide
theorem fsixteen (n : Int) (h0 : 0 ≤ n) (h1 : n < 16) (w : World) : Calls Tryd.prog 35 #[.int .u64 n] w (Ret (.string ⟨[hexc n.toNat].toArray⟩) w) := by
  by_cases hn : n < 10
  · have HC := Lib.hid (ch_one (z := 48 + n) (c := hexc n.toNat) (by have := hexc_lo n.toNat (by omega); omega))
    go_enter Tryd.func35, Tryd.ntmps35
    have hp := Hp.start [] w
    go_wp2_with (first
          | ((with_reducible apply sx_buildSlice hp); infer_instance; (first | exact AggTy.size | exact OneTy.size); infer_instance; exact zl rfl; decide; (first | exact (rfl : _ = numbered 0 [_]) | exact (rfl : _ = numbered 0 [_, _]) | exact (rfl : _ = numbered 0 [_, _, _]) | exact (rfl : _ = numbered 0 [_, _, _, _])); exact rfl; (first | exact (rfl : _ = List.map (fun x : List Value => x.toArray) [_]) | exact (rfl : _ = List.map (fun x : List Value => x.toArray) [_, _]) | exact (rfl : _ = List.map (fun x : List Value => x.toArray) [_, _, _]) | exact (rfl : _ = List.map (fun x : List Value => x.toArray) [_, _, _, _])); (intro l hl <;> simp only [List.mem_cons, List.not_mem_nil, or_false] at hl <;> rcases hl with rfl | rfl | rfl | rfl <;> rfl); exact rfl; clear hp; (try clear w1); intro g w1 hp; simp only [zp, zq, z0, z1])
          | ((with_reducible apply sx_convBS [hexc n.toNat] hp); exact zx rfl; infer_instance; exact rfl; exact Tryd.underlying57; exact Tryd.underlying5; exact Tryd.underlying9; exact HC.out; simp only [zp, zq, z0, z1]))
    exact bodyPost_ret (results_one rfl rfl) rfl ⟨rfl, hp.keep⟩
  · have HC := Lib.hid (ch_one (z := 97 + n - 10) (c := hexc n.toNat) (by have := hexc_hi n.toNat (by omega) (by omega); omega))
    go_enter Tryd.func35, Tryd.ntmps35
    have hp := Hp.start [] w
    go_wp2_with (first
          | ((with_reducible apply sx_buildSlice hp); infer_instance; (first | exact AggTy.size | exact OneTy.size); infer_instance; exact zl rfl; decide; (first | exact (rfl : _ = numbered 0 [_]) | exact (rfl : _ = numbered 0 [_, _]) | exact (rfl : _ = numbered 0 [_, _, _]) | exact (rfl : _ = numbered 0 [_, _, _, _])); exact rfl; (first | exact (rfl : _ = List.map (fun x : List Value => x.toArray) [_]) | exact (rfl : _ = List.map (fun x : List Value => x.toArray) [_, _]) | exact (rfl : _ = List.map (fun x : List Value => x.toArray) [_, _, _]) | exact (rfl : _ = List.map (fun x : List Value => x.toArray) [_, _, _, _])); (intro l hl <;> simp only [List.mem_cons, List.not_mem_nil, or_false] at hl <;> rcases hl with rfl | rfl | rfl | rfl <;> rfl); exact rfl; clear hp; (try clear w1); intro g w1 hp; simp only [zp, zq, z0, z1])
          | ((with_reducible apply sx_convBS [hexc n.toNat] hp); exact zx rfl; infer_instance; exact rfl; exact Tryd.underlying57; exact Tryd.underlying5; exact Tryd.underlying9; exact HC.out; simp only [zp, zq, z0, z1]))
    exact bodyPost_ret (results_one rfl rfl) rfl ⟨rfl, hp.keep⟩
/-- The decimal digits of a number, none for 0. -/
def dec0 (u : Nat) : List UInt8 := if u = 0 then [] else Lib.decDigits u
/-- A number's last digit. -/
def dgc (u : Nat) : UInt8 := UInt8.ofNat (48 + u % 10)
theorem dec_rec (u : Nat) : Lib.decDigits u = dec0 (u / 10) ++ [dgc u] := by
  unfold dec0
  by_cases h : u < 10
  · rw [Lib.decDigits_one h, if_pos (by omega)]; unfold dgc; rw [show u % 10 = u by omega]; rfl
  · rw [Lib.decDigits, dif_neg h, if_neg (by omega)]; rfl
theorem dig_ch (u : Nat) : (dgc u).toNat = 48 + u % 10 := digit_nat _ (by omega)
theorem cat_list (a b : List UInt8) : (⟨a.toArray⟩ : ByteArray) ++ ⟨b.toArray⟩ = ⟨(a ++ b).toArray⟩ := WideShapes.bytes_inj (by simp)
theorem fdigits (n : Nat) (h1 : n < 18446744073709551616) (w : World) : Calls Tryd.prog 36 #[.int .u64 (n : Int)] w (Ret (.string ⟨(Lib.decDigits n).toArray⟩) w) := by
  have HC := Lib.hid (ch_one (z := 48 + (n : Int) % 10) (c := dgc n) (by rw [dig_ch]; omega))
  have HL : Hid ((Lib.decDigits n).length ≤ 100) := Lib.hid (by
    rw [Lib.decDigits_length]
    by_cases h0 : n = 0
    · rw [h0, Lib.nDigits_small (by omega)]; omega
    · have := Lib.numDigits_eq n (by omega) h1
      split at this <;> omega)
  go_enter Tryd.func36, Tryd.ntmps36
  have hp := Hp.start [] w
  go_wp2_with (first
          | ((with_reducible apply sx_buildSlice hp); infer_instance; (first | exact AggTy.size | exact OneTy.size); infer_instance; exact zl rfl; decide; (first | exact (rfl : _ = numbered 0 [_]) | exact (rfl : _ = numbered 0 [_, _]) | exact (rfl : _ = numbered 0 [_, _, _]) | exact (rfl : _ = numbered 0 [_, _, _, _])); exact rfl; (first | exact (rfl : _ = List.map (fun x : List Value => x.toArray) [_]) | exact (rfl : _ = List.map (fun x : List Value => x.toArray) [_, _]) | exact (rfl : _ = List.map (fun x : List Value => x.toArray) [_, _, _]) | exact (rfl : _ = List.map (fun x : List Value => x.toArray) [_, _, _, _])); (intro l hl <;> simp only [List.mem_cons, List.not_mem_nil, or_false] at hl <;> rcases hl with rfl | rfl | rfl | rfl <;> rfl); exact rfl; clear hp; (try clear w1); intro g w1 hp; simp only [zp, zq, z0, z1])
          | ((with_reducible apply sx_convBS [dgc n] hp); exact zx rfl; infer_instance; exact rfl; exact Tryd.underlying57; exact Tryd.underlying5; exact Tryd.underlying9; exact HC.out; simp only [zp, zq, z0, z1]))
  have hp0 := hp.sub (List.nil_sublist _)
  clear hp
  go_loopw [0, 3] (fun uv sv wr => ∃ (u : Nat) (r : List UInt8), u < 18446744073709551616 ∧ uv = .int .u64 (u : Int) ∧ sv = .string ⟨r.toArray⟩ ∧ dec0 u ++ r = Lib.decDigits n ∧ Hp [] w [] wr) (fun uv _ _ => (intOf uv).toNat)
  case atStart => exact ⟨n / 10, [dgc n], by omega, by rw [Int.natCast_ediv]; rfl, rfl, (dec_rec n).symm, hp0⟩
  case round =>
    obtain ⟨u, r, hu, rfl, rfl, hr, hp⟩ := hrel
    by_cases hz : u = 0
    · subst hz
      rw [show dec0 0 = [] from rfl, List.nil_append] at hr
      subst hr
      go_wp2_with (first
          | ((with_reducible apply sx_buildSlice hp); infer_instance; (first | exact AggTy.size | exact OneTy.size); infer_instance; exact zl rfl; decide; (first | exact (rfl : _ = numbered 0 [_]) | exact (rfl : _ = numbered 0 [_, _]) | exact (rfl : _ = numbered 0 [_, _, _]) | exact (rfl : _ = numbered 0 [_, _, _, _])); exact rfl; (first | exact (rfl : _ = List.map (fun x : List Value => x.toArray) [_]) | exact (rfl : _ = List.map (fun x : List Value => x.toArray) [_, _]) | exact (rfl : _ = List.map (fun x : List Value => x.toArray) [_, _, _]) | exact (rfl : _ = List.map (fun x : List Value => x.toArray) [_, _, _, _])); (intro l hl <;> simp only [List.mem_cons, List.not_mem_nil, or_false] at hl <;> rcases hl with rfl | rfl | rfl | rfl <;> rfl); exact rfl; clear hp; (try clear w1); intro g w1 hp; simp only [zp, zq, z0, z1])
          | ((with_reducible refine sx_call hp (F1.out _) ?_); clear hp; (try clear w1); intro w1 hp))
      exact bodyPost_ret (results_one rfl rfl) rfl ⟨rfl, hp.keep⟩
    · have hg : (decide ((0 : Int) < (u : Int))) = true := by simp; omega
      have HC := Lib.hid (ch_one (z := 48 + (u : Int) % 10) (c := dgc u) (by rw [dig_ch]; omega))
      haveI : Sh (⟨[dgc u].toArray⟩ : ByteArray) 1 := ⟨Nat.le_refl _⟩
      haveI : Sh (⟨r.toArray⟩ : ByteArray) 100 := ⟨by
        have := congrArg List.length hr
        have := HL.out
        rw [List.length_append] at *
        show r.toArray.size ≤ 100
        rw [List.size_toArray]
        omega⟩
      go_wp2_with (first
          | ((with_reducible apply sx_buildSlice hp); infer_instance; (first | exact AggTy.size | exact OneTy.size); infer_instance; exact zl rfl; decide; (first | exact (rfl : _ = numbered 0 [_]) | exact (rfl : _ = numbered 0 [_, _]) | exact (rfl : _ = numbered 0 [_, _, _]) | exact (rfl : _ = numbered 0 [_, _, _, _])); exact rfl; (first | exact (rfl : _ = List.map (fun x : List Value => x.toArray) [_]) | exact (rfl : _ = List.map (fun x : List Value => x.toArray) [_, _]) | exact (rfl : _ = List.map (fun x : List Value => x.toArray) [_, _, _]) | exact (rfl : _ = List.map (fun x : List Value => x.toArray) [_, _, _, _])); (intro l hl <;> simp only [List.mem_cons, List.not_mem_nil, or_false] at hl <;> rcases hl with rfl | rfl | rfl | rfl <;> rfl); exact rfl; clear hp; (try clear w1); intro g w1 hp; simp only [zp, zq, z0, z1])
          | ((with_reducible apply sx_convBS [dgc u] hp); exact zx rfl; infer_instance; exact rfl; exact Tryd.underlying57; exact Tryd.underlying5; exact Tryd.underlying9; exact HC.out; simp only [zp, zq, z0, z1]))
      go_roundw
      case rel => exact ⟨u / 10, dgc u :: r, by omega, by rw [Int.natCast_ediv]; rfl, by rw [cat_list]; rfl, by rw [← hr]; unfold dec0; rw [if_neg hz, dec_rec u]; simp [dec0], hp.sub (List.nil_sublist _)⟩
      case measure => simp [intOf]; omega
/-- The last j signs of sixteen. -/
def hexs : Nat → Nat → List UInt8
  | 0, _ => []
  | j + 1, t => hexs j (t / 16) ++ [hexc (t % 16)]
theorem hexs_succ (j t : Nat) : hexs (j + 1) t = hexs j (t / 16) ++ [hexc (t % 16)] := rfl
theorem hexs_len : ∀ (j t : Nat), (hexs j t).length = j
  | 0, _ => rfl
  | j + 1, t => by unfold hexs; rw [List.length_append, hexs_len j]; rfl
theorem hexs_8 (m : Nat) (h : m < 4294967296) : hexs 8 m = hex8 m := by
  unfold hex8
  simp only [hexs, Nat.div_div_eq_div_mul, List.nil_append, List.cons_append, Nat.reduceMul]
theorem rtext_pos (n : Int) (h0 : ¬ n < 0) (hN : n < 9223372036854775808) (w : World) (m : Nat) (hm : (m : Int) = n % 4294967296) (D : List UInt8) (hD : D.length ≤ 100) (F1 : Hid (∀ w, Calls Tryd.prog 36 #[.int .u64 (n / 4294967296)] w (Ret (.string ⟨D.toArray⟩) w))) (s : ByteArray) (HS : Hid ((({ data := #[] } : ByteArray) ++ ⟨D.toArray⟩ ++ { data := #[46] } ++ ⟨(hexs 8 m).toArray⟩) = s)) :
    Calls Tryd.prog 13 #[.int .i64 n] w (Ret (.string s) w) := by
  have hn0 : 0 ≤ n := by omega
  haveI : Sh (⟨D.toArray⟩ : ByteArray) 100 := ⟨by show D.toArray.size ≤ 100; simpa using hD⟩
  go_enter Tryd.func13, Tryd.ntmps13
  have hp := Hp.start [] w
  go_wp2_with (first
          | fail)
  go_loopw [5, 6, 7] (fun sv tv iv wr => ∃ (k t : Nat) (r : List UInt8), k ≤ 8 ∧ t < 4294967296 ∧ r.length = k ∧ sv = .string ⟨r.toArray⟩ ∧ tv = .int .u64 (t : Int) ∧ iv = .int .i64 (k : Int) ∧ hexs (8 - k) t ++ r = hexs 8 m ∧ Hp [] w [] wr) (fun _ _ iv _ => 8 - (intOf iv).toNat)
  case atStart => exact ⟨0, m, [], by omega, by omega, rfl, rfl, by rw [hm], rfl, by simp, hp⟩
  case round =>
    clear hp
    obtain ⟨k, t, r, hk, ht, hrl, rfl, rfl, rfl, hr, hp⟩ := hrel
    haveI : Sh (⟨r.toArray⟩ : ByteArray) 100 := ⟨by show r.toArray.size ≤ 100; rw [List.size_toArray]; omega⟩
    by_cases hk8 : k < 8
    · have hg : decide ((k : Int) < 8) = true := by simp; omega
      haveI : Sh (⟨[hexc (t % 16)].toArray⟩ : ByteArray) 1 := ⟨Nat.le_refl _⟩
      have S1 : Hid (∀ w, Calls Tryd.prog 35 #[.int .u64 ((t : Int) % 16)] w (Ret (.string ⟨[hexc (t % 16)].toArray⟩) w)) := Lib.hid (fun w => by
        have := fsixteen ((t : Int) % 16) (by omega) (by omega) w
        rwa [show ((t : Int) % 16).toNat = t % 16 by omega] at this)
      go_wp2_with (first
          | ((with_reducible refine sx_call hp (S1.out _) ?_); clear hp; (try clear w1); intro w1 hp))
      go_roundw
      case rel => exact ⟨k + 1, t / 16, hexc (t % 16) :: r, by omega, by omega, by simp [hrl], by rw [cat_list]; rfl, by rw [Int.natCast_ediv]; rfl, rfl, by rw [← hr, show 8 - k = (8 - (k + 1)) + 1 by omega]; rw [hexs_succ]; simp, hp⟩
      case measure => simp [intOf]; omega
    · obtain rfl : k = 8 := by omega
      obtain rfl : r = hexs 8 m := by rw [← hr]; rfl
      go_wp2_with (first
          | ((with_reducible refine sx_call hp (F1.out _) ?_); clear hp; (try clear w1); intro w1 hp))
      exact bodyPost_ret (results_one rfl rfl) rfl ⟨congrArg (fun s => Ending.returned (Value.string s)) HS.out, hp.keep⟩
theorem rtext_neg (a n : Int) (h0 : a < 0) (hn0 : 0 ≤ n) (hN : n ≤ 9223372036854775808) (hwr : IntKind.u64.wrap (-IntKind.u64.wrap a) = n) (w : World) (m : Nat) (hm : (m : Int) = n % 4294967296) (D : List UInt8) (hD : D.length ≤ 100) (F1 : Hid (∀ w, Calls Tryd.prog 36 #[.int .u64 (n / 4294967296)] w (Ret (.string ⟨D.toArray⟩) w))) (s : ByteArray) (HS : Hid ((({ data := #[45] } : ByteArray) ++ ⟨D.toArray⟩ ++ { data := #[46] } ++ ⟨(hexs 8 m).toArray⟩) = s)) :
    Calls Tryd.prog 13 #[.int .i64 a] w (Ret (.string s) w) := by
  haveI : Sh (⟨D.toArray⟩ : ByteArray) 100 := ⟨by show D.toArray.size ≤ 100; simpa using hD⟩
  go_enter Tryd.func13, Tryd.ntmps13
  have hp := Hp.start [] w
  go_wp2_with (first
          | fail)
  go_loopw [5, 6, 7] (fun sv tv iv wr => ∃ (k t : Nat) (r : List UInt8), k ≤ 8 ∧ t < 4294967296 ∧ r.length = k ∧ sv = .string ⟨r.toArray⟩ ∧ tv = .int .u64 (t : Int) ∧ iv = .int .i64 (k : Int) ∧ hexs (8 - k) t ++ r = hexs 8 m ∧ Hp [] w [] wr) (fun _ _ iv _ => 8 - (intOf iv).toNat)
  case atStart => exact ⟨0, m, [], by omega, by omega, rfl, rfl, by rw [hm], rfl, by simp, hp⟩
  case round =>
    clear hp
    obtain ⟨k, t, r, hk, ht, hrl, rfl, rfl, rfl, hr, hp⟩ := hrel
    haveI : Sh (⟨r.toArray⟩ : ByteArray) 100 := ⟨by show r.toArray.size ≤ 100; rw [List.size_toArray]; omega⟩
    by_cases hk8 : k < 8
    · have hg : decide ((k : Int) < 8) = true := by simp; omega
      haveI : Sh (⟨[hexc (t % 16)].toArray⟩ : ByteArray) 1 := ⟨Nat.le_refl _⟩
      have S1 : Hid (∀ w, Calls Tryd.prog 35 #[.int .u64 ((t : Int) % 16)] w (Ret (.string ⟨[hexc (t % 16)].toArray⟩) w)) := Lib.hid (fun w => by
        have := fsixteen ((t : Int) % 16) (by omega) (by omega) w
        rwa [show ((t : Int) % 16).toNat = t % 16 by omega] at this)
      go_wp2_with (first
          | ((with_reducible refine sx_call hp (S1.out _) ?_); clear hp; (try clear w1); intro w1 hp))
      go_roundw
      case rel => exact ⟨k + 1, t / 16, hexc (t % 16) :: r, by omega, by omega, by simp [hrl], by rw [cat_list]; rfl, by rw [Int.natCast_ediv]; rfl, rfl, by rw [← hr, show 8 - k = (8 - (k + 1)) + 1 by omega]; rw [hexs_succ]; simp, hp⟩
      case measure => simp [intOf]; omega
    · obtain rfl : k = 8 := by omega
      obtain rfl : r = hexs 8 m := by rw [← hr]; rfl
      go_wp2_with (first
          | ((with_reducible refine sx_call hp (F1.out _) ?_); clear hp; (try clear w1); intro w1 hp))
      exact bodyPost_ret (results_one rfl rfl) rfl ⟨congrArg (fun s => Ending.returned (Value.string s)) HS.out, hp.keep⟩
theorem rtext_any (a : Int) (ha : I64 a) (w : World) : Calls Tryd.prog 13 #[.int .i64 a] w (Ret (.string ⟨(textB a).toArray⟩) w) := by
  unfold I64 at ha
  have F1 : ∀ (n : Int), 0 ≤ n → n < 18446744073709551616 → ∀ w, Calls Tryd.prog 36 #[.int .u64 n] w (Ret (.string ⟨(Lib.decDigits n.toNat).toArray⟩) w) := fun n h0 h1 w => by
    have := fdigits n.toNat (by omega) w
    rwa [show ((n.toNat : Nat) : Int) = n by omega] at this
  have dl : ∀ m : Nat, m < 18446744073709551616 → (Lib.decDigits m).length ≤ 100 := fun m hm => by
    rw [Lib.decDigits_length]
    by_cases h0 : m = 0
    · rw [h0, Lib.nDigits_small (by omega)]; omega
    · have := Lib.numDigits_eq m (by omega) hm
      split at this <;> omega
  by_cases h : a < 0
  · have hwr : IntKind.u64.wrap (-IntKind.u64.wrap a) = -a := by rw [IntKind.wrap_u64, IntKind.wrap_u64]; omega
    refine rtext_neg a (-a) h (by omega) (by omega) hwr w (a.natAbs % 4294967296) (by omega) _ (dl _ (by omega)) (Lib.hid (F1 _ (by omega) (by omega))) _ (Lib.hid ?_)
    rw [hexs_8 _ (by omega)]
    refine WideShapes.bytes_inj ?_
    unfold textB
    rw [if_pos h, show a.natAbs / 4294967296 = (-a / 4294967296).toNat by omega]
    simp
  · refine rtext_pos a h (by omega) w (a.natAbs % 4294967296) (by omega) _ (dl _ (by omega)) (Lib.hid (F1 _ (by omega) (by omega))) _ (Lib.hid ?_)
    rw [hexs_8 _ (by omega)]
    refine WideShapes.bytes_inj ?_
    unfold textB
    rw [if_neg h, show a.natAbs / 4294967296 = (a / 4294967296).toNat by omega]
    simp
end Go.Proofs.YtbdkbmhejoakiaaDoor
