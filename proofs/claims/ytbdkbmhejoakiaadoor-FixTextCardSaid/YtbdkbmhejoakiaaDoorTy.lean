/-
  fix.Parse: every text; law 02: Back.
-/
import Derived.Test.YtbdkbmhejoakiaaDoorTx
import Derived.Test.YtbdkbmhejoakiaaDoorTc
import Derived.Lib.ParseIntBCases
set_option linter.unusedSimpArgs false
set_option linter.unusedVariables false
set_option maxRecDepth 100000
namespace Go.Proofs.YtbdkbmhejoakiaaDoor
open Go Go.RowKit
open Go.Lib (NumEnd)
attribute [local irreducible] wpList

section
variable (s x u v : ByteArray) (b c : Bool)
set_option maxHeartbeats 4000000 in
theorem fp_err1 (CP : Hid (∀ w, Calls Tryd.prog 30 #[.string s, .string { data := #[45] }] w (Ret (.tuple #[.string x, .bool b]) w))) (CU : Hid (∀ w, Calls Tryd.prog 31 #[.string x, .string { data := #[46] }] w (Ret (.tuple #[.string u, .string v, .bool c]) w))) (w : World) (hE : Env w)
    (P1 : Hid (∀ w, Env w → Calls Tryd.prog 32 #[.string u, .int .i64 10, .int .i64 32] w (fun e w1 => Keep [] w w1 ∧ ∃ (k : Int) (v : Value), e = .returned (.tuple #[.int .u64 k, v]) ∧ isErr v))) (P2 : Hid (∀ w, Env w → Calls Tryd.prog 32 #[.string v, .int .i64 16, .int .i64 32] w (fun e w1 => Keep [] w w1 ∧ ∃ (k : Int) (v : Value), e = .returned (.tuple #[.int .u64 k, v])))) :
    Calls Tryd.prog 10 #[.string s] w (Ret (.tuple #[.int .i64 0, .int .i64 6]) w) := by
  have HE := Lib.hid hE
  clear hE
  go_enter Tryd.func10, Tryd.ntmps10
  have hp := Hp.start [] w
  go_wp2_with (first
          | ((with_reducible apply sx_guard); (conv => whnf); refine Bx.mk ?_; (try simp only [zp, zq, z0, z1]))
          | ((with_reducible first | refine sx_call hp (CP.out _) ?_ | refine sx_call hp (CU.out _) ?_); clear hp; (try clear w1); intro w1 hp)
          | ((with_reducible refine Calls.mono (P1.out _ (HE.out.keep hp.keep)) ?_); (rintro _ w2 ⟨hk, k1, v1, rfl, te, pe, rfl⟩); (have hp := hp.call hk); clear hk)
          | ((with_reducible refine Calls.mono (P2.out _ (HE.out.keep hp.keep)) ?_); (rintro _ w3 ⟨hk, k2, v2, rfl⟩); (have hp := hp.call hk); clear hk))
  exact bodyPost_ret (results_two rfl rfl rfl) rfl ⟨rfl, hp.keep⟩
set_option maxHeartbeats 4000000 in
theorem fp_err2 (n : Int) (CP : Hid (∀ w, Calls Tryd.prog 30 #[.string s, .string { data := #[45] }] w (Ret (.tuple #[.string x, .bool b]) w))) (CU : Hid (∀ w, Calls Tryd.prog 31 #[.string x, .string { data := #[46] }] w (Ret (.tuple #[.string u, .string v, .bool c]) w))) (w : World) (hE : Env w)
    (P1 : Hid (∀ w, Env w → Calls Tryd.prog 32 #[.string u, .int .i64 10, .int .i64 32] w (Ret (.tuple #[.int .u64 n, .nilIface]) w))) (P2 : Hid (∀ w, Env w → Calls Tryd.prog 32 #[.string v, .int .i64 16, .int .i64 32] w (fun e w1 => Keep [] w w1 ∧ ∃ (k : Int) (v : Value), e = .returned (.tuple #[.int .u64 k, v]) ∧ isErr v))) :
    Calls Tryd.prog 10 #[.string s] w (Ret (.tuple #[.int .i64 0, .int .i64 6]) w) := by
  have HE := Lib.hid hE
  clear hE
  go_enter Tryd.func10, Tryd.ntmps10
  have hp := Hp.start [] w
  go_wp2_with (first
          | ((with_reducible apply sx_guard); (conv => whnf); refine Bx.mk ?_; (try simp only [zp, zq, z0, z1]))
          | ((with_reducible first | refine sx_call hp (CP.out _) ?_ | refine sx_call hp (CU.out _) ?_); clear hp; (try clear w1); intro w1 hp)
          | ((with_reducible refine sx_call hp (P1.out _ (HE.out.keep hp.keep)) ?_); clear hp; (try clear w1); intro w1 hp)
          | ((with_reducible refine Calls.mono (P2.out _ (HE.out.keep hp.keep)) ?_); (rintro _ w3 ⟨hk, k2, v2, rfl, te, pe, rfl⟩); (have hp := hp.call hk); clear hk))
  exact bodyPost_ret (results_two rfl rfl rfl) rfl ⟨rfl, hp.keep⟩
set_option maxHeartbeats 4000000 in
theorem fp_ok (n k A A2 : Int) (hn : 0 ≤ n ∧ n ≤ 4294967295) (hA : wrap64 (bits BinOp.or IntKind.u64 (n * 4294967296) k) = A) (hA2 : (if b then wrap64 (-A) else A) = A2) (tx : ByteArray) (q : Bool) (hq : (tx.toList == s.toList) = q) (CP : Hid (∀ w, Calls Tryd.prog 30 #[.string s, .string { data := #[45] }] w (Ret (.tuple #[.string x, .bool b]) w))) (CU : Hid (∀ w, Calls Tryd.prog 31 #[.string x, .string { data := #[46] }] w (Ret (.tuple #[.string u, .string v, .bool c]) w))) (w : World) (hE : Env w)
    (P1 : Hid (∀ w, Env w → Calls Tryd.prog 32 #[.string u, .int .i64 10, .int .i64 32] w (Ret (.tuple #[.int .u64 n, .nilIface]) w))) (P2 : Hid (∀ w, Env w → Calls Tryd.prog 32 #[.string v, .int .i64 16, .int .i64 32] w (Ret (.tuple #[.int .u64 k, .nilIface]) w)))
    (TX : Hid (∀ w, Env w → Calls Tryd.prog 12 #[.int .i64 A2] w (Ret (.string tx) w))) :
    Calls Tryd.prog 10 #[.string s] w (Ret (.tuple #[.int .i64 (if q then A2 else 0), .int .i64 (if q then 0 else 6)]) w) := by
  have HE := Lib.hid hE
  clear hE
  obtain ⟨hn1, hn2⟩ := hn
  cases b
  all_goals
    simp only [if_true, Bool.false_eq_true, if_false] at hA2
    try (subst hA2)
    cases q
    all_goals
      go_enter Tryd.func10, Tryd.ntmps10
      have hp := Hp.start [] w
      go_wp2_with (first
          | ((with_reducible apply sx_guard); (conv => whnf); refine Bx.mk ?_; (try simp only [zp, zq, z0, z1]))
          | ((with_reducible first | refine sx_call hp (CP.out _) ?_ | refine sx_call hp (CU.out _) ?_); clear hp; (try clear w1); intro w1 hp)
          | ((with_reducible refine sx_call hp (P1.out _ (HE.out.keep hp.keep)) ?_); clear hp; (try clear w1); intro w1 hp)
          | ((with_reducible refine sx_call hp (P2.out _ (HE.out.keep hp.keep)) ?_); clear hp; (try clear w1); intro w1 hp)
          | ((with_reducible refine sx_call hp (TX.out _ (HE.out.keep hp.keep)) ?_); clear hp; (try clear w1); intro w1 hp))
      exact bodyPost_ret (results_two rfl rfl rfl) rfl ⟨rfl, hp.keep⟩
end
theorem pur_ok {f : FuncId} {args : Array Value} {n : Nat} {w : World} (h : Calls Tryd.prog f args w (PuR (.ok n) w)) : Calls Tryd.prog f args w (Ret (.tuple #[.int .u64 (n : Int), .nilIface]) w) :=
  h.mono fun e w1 ⟨h1, k, v, h2, h3, h4⟩ => ⟨by rw [h2, h3, h4], h1⟩
theorem pur_any {f : FuncId} {args : Array Value} {r : NumEnd Nat} {w : World} (h : Calls Tryd.prog f args w (PuR r w)) : Calls Tryd.prog f args w (fun e w1 => Keep [] w w1 ∧ ∃ (k : Int) (v : Value), e = .returned (.tuple #[.int .u64 k, v])) :=
  h.mono fun e w1 ⟨h1, k, v, h2, _⟩ => ⟨h1, k, v, h2⟩
theorem pur_err {f : FuncId} {args : Array Value} {r : NumEnd Nat} {w : World} (hr : r = .syntax ∨ r = .range) (h : Calls Tryd.prog f args w (PuR r w)) : Calls Tryd.prog f args w (fun e w1 => Keep [] w w1 ∧ ∃ (k : Int) (v : Value), e = .returned (.tuple #[.int .u64 k, v]) ∧ isErr v) := by
  rcases hr with rfl | rfl
  · exact h.mono fun e w1 ⟨h1, k, v, h2, h3⟩ => ⟨h1, k, v, h2, h3⟩
  · exact h.mono fun e w1 ⟨h1, k, v, h2, h3⟩ => ⟨h1, k, v, h2, h3⟩
theorem parse16_le : ∀ (l : List UInt8) (acc u : Nat), acc ≤ 4294967295 → parse16 acc l = .ok u → u ≤ 4294967295
  | [], acc, u, h, e => by
    injection e with e
    omega
  | c :: r, acc, u, h, e => by
    rw [parse16_cons] at e
    cases hd : dig16 c with
    | none => rw [hd] at e; cases e
    | some d =>
      rw [hd] at e
      dsimp only at e
      split at e
      · cases e
      · exact parse16_le r _ u (by omega) e
theorem pu10_le {l : List UInt8} {u : Nat} (h : pu10 l = .ok u) : u ≤ 4294967295 := by
  unfold pu10 at h
  split at h
  · cases h
  · exact Lib.parseUintM_le 4294967295 l 0 u (by omega) h
theorem pu16_le {l : List UInt8} {u : Nat} (h : pu16 l = .ok u) : u ≤ 4294967295 := by
  unfold pu16 at h
  split at h
  · cases h
  · exact parse16_le l 0 u (by omega) h
theorem or_add (n k : Nat) (hn : n ≤ 4294967295) (hk : k ≤ 4294967295) : bits BinOp.or IntKind.u64 ((n : Int) * 4294967296) (k : Int) = ((n * 4294967296 + k : Nat) : Int) := by
  have h := bits_or_u64_nat (n * 4294967296) k (by omega) (by omega)
  rw [show ((n * 4294967296 : Nat) : Int) = (n : Int) * 4294967296 by omega] at h
  rw [h]
  congr 1
  have := Nat.two_pow_add_eq_or_of_lt (i := 32) (b := k) (by omega) n
  rw [Nat.mul_comm] at this
  exact this.symm
theorem signed_i64 (b : Bool) (n : Nat) : I64 (signed b n) := by
  unfold signed wrap64 I64
  split <;> omega
theorem list_beq (a b : ByteArray) : (a.toList == b.toList) = decide (a.data.toList = b.data.toList) := by
  rw [Lib.toList_data, Lib.toList_data, Bool.eq_iff_iff]
  simp
theorem fparse_any (s : ByteArray) (hs : s.size ≤ 140737488355328) (w : World) (hE : Env w) : Calls Tryd.prog 10 #[.string s] w (Ret (.tuple #[.int .i64 (parseF s.data.toList).1, .int .i64 (parseF s.data.toList).2]) w) := by
  obtain ⟨x, CP, hx, sx⟩ := fcutpre_all s (by omega)
  obtain ⟨u, v, c, CU, hu, hv, su, sv⟩ := fcut_any x (by omega)
  have P1 := fun w (h : Env w) => fpub u 10 (by omega) (pu10 u.data.toList) w h (Lib.hid (fpin10 u (by omega)))
  have P2 := fun w (h : Env w) => fpub v 16 (by omega) (pu16 v.data.toList) w h (Lib.hid (fpin16 v (by omega)))
  rw [hu, hx] at P1
  rw [hv, hx] at P2
  unfold parseF
  cases h1 : pu10 (cutA (lessSign s.data.toList)) with
  | ok n =>
    rw [h1] at P1
    cases h2 : pu16 (cutB (lessSign s.data.toList)) with
    | ok k =>
      rw [h2] at P2
      dsimp only
      have hn := pu10_le h1
      have hk := pu16_le h2
      have hb : (s.data.toList.head? == some 45) = pre45 s := rfl
      rw [hb]
      have I := signed_i64 (pre45 s) (n * 4294967296 + k)
      have hA : wrap64 (bits BinOp.or IntKind.u64 ((n : Int) * 4294967296) (k : Int)) = wrap64 ((n * 4294967296 + k : Nat) : Int) := by rw [or_add n k hn hk]
      have hA2 : (if pre45 s then wrap64 (-wrap64 ((n * 4294967296 + k : Nat) : Int)) else wrap64 ((n * 4294967296 + k : Nat) : Int)) = signed (pre45 s) (n * 4294967296 + k) := by unfold signed; rfl
      generalize signed (pre45 s) (n * 4294967296 + k) = A2 at *
      generalize wrap64 ((n * 4294967296 + k : Nat) : Int) = A at *
      have key := fp_ok s x u v (pre45 s) c n k A A2 (by omega) hA hA2 ⟨(textB A2).toArray⟩ (decide (textB A2 = s.data.toList)) (list_beq _ _) (Lib.hid CP) (Lib.hid CU) w hE (Lib.hid fun w h => pur_ok (P1 w h)) (Lib.hid fun w h => pur_ok (P2 w h)) (Lib.hid fun w h => text_any _ I w h)
      by_cases ht : textB A2 = s.data.toList
      · rw [if_pos ht]
        rw [decide_eq_true ht, if_pos rfl, if_pos rfl] at key
        dsimp only
        exact key
      · rw [if_neg ht]
        rw [decide_eq_false ht, if_neg (by simp), if_neg (by simp)] at key
        dsimp only
        exact key
    | «syntax» =>
      rw [h2] at P2
      exact fp_err2 s x u v (pre45 s) c n (Lib.hid CP) (Lib.hid CU) w hE (Lib.hid fun w h => pur_ok (P1 w h)) (Lib.hid fun w h => pur_err (.inl rfl) (P2 w h))
    | range =>
      rw [h2] at P2
      exact fp_err2 s x u v (pre45 s) c n (Lib.hid CP) (Lib.hid CU) w hE (Lib.hid fun w h => pur_ok (P1 w h)) (Lib.hid fun w h => pur_err (.inr rfl) (P2 w h))
  | «syntax» =>
    rw [h1] at P1
    exact fp_err1 s x u v (pre45 s) c (Lib.hid CP) (Lib.hid CU) w hE (Lib.hid fun w h => pur_err (.inl rfl) (P1 w h)) (Lib.hid fun w h => pur_any (P2 w h))
  | range =>
    rw [h1] at P1
    exact fp_err1 s x u v (pre45 s) c (Lib.hid CP) (Lib.hid CU) w hE (Lib.hid fun w h => pur_err (.inr rfl) (P1 w h)) (Lib.hid fun w h => pur_any (P2 w h))
theorem textB_short (a : Int) (ha : I64 a) : (textB a).length ≤ 200 := by
  have dl : (Lib.decDigits (a.natAbs / 4294967296)).length ≤ 100 := by
    unfold I64 at ha
    rw [Lib.decDigits_length]
    by_cases h0 : a.natAbs / 4294967296 = 0
    · rw [h0, Lib.nDigits_small (by omega)]; omega
    · have := Lib.numDigits_eq (a.natAbs / 4294967296) (by omega) (by omega)
      split at this <;> omega
  unfold textB hex8
  simp only [List.length_append, List.length_cons, List.length_nil]
  split <;> simp only [List.length_cons, List.length_nil] <;> omega
set_option maxHeartbeats 4000000 in
theorem back_core (a c f : Int) (s t t2 : ByteArray) (w : World) (hE : Env w) (T1 : Hid (∀ w, Env w → Calls Tryd.prog 12 #[.int .i64 a] w (Ret (.string t) w))) (P1 : Hid (∀ w, Env w → Calls Tryd.prog 10 #[.string t] w (Ret (.tuple #[.int .i64 a, .int .i64 0]) w)))
    (P2 : Hid (∀ w, Env w → Calls Tryd.prog 10 #[.string s] w (Ret (.tuple #[.int .i64 c, .int .i64 f]) w))) (T2 : Hid (∀ w, Env w → Calls Tryd.prog 12 #[.int .i64 c] w (Ret (.string t2) w))) (HC : Hid (c = 0 ∧ f = 6 ∨ f = 0 ∧ (t2.toList == s.toList) = true)) :
    Calls Tryd.prog 4 #[.int .i64 a, .string s] w (Ret (.bool true) w) := by
  have HE := Lib.hid hE
  clear hE
  rcases HC.out with ⟨rfl, rfl⟩ | ⟨rfl, h2⟩
  all_goals
    clear HC
    go_enter Tryd.func4, Tryd.ntmps4
    have hp := Hp.start [] w
    go_wp2_with (first
          | ((with_reducible apply sx_guard); (conv => whnf); refine Bx.mk ?_; (try simp only [zp, zq, z0, z1]))
          | ((with_reducible refine sx_call hp (awake2 _) ?_); clear hp; (try clear w1); intro w1 hp)
          | ((with_reducible refine sx_call hp (T1.out _ (HE.out.keep hp.keep)) ?_); clear hp; (try clear w1); intro w1 hp)
          | ((with_reducible refine sx_call hp (P1.out _ (HE.out.keep hp.keep)) ?_); clear hp; (try clear w1); intro w1 hp)
          | ((with_reducible refine sx_call hp (P2.out _ (HE.out.keep hp.keep)) ?_); clear hp; (try clear w1); intro w1 hp)
          | ((with_reducible refine sx_call hp (T2.out _ (HE.out.keep hp.keep)) ?_); clear hp; (try clear w1); intro w1 hp))
    exact bodyPost_ret (results_one rfl rfl) rfl ⟨rfl, hp.keep⟩
theorem back_law (a : Int) (ha : I64 a) (s : ByteArray) (hs : s.size ≤ 140737488355328) (w : World) (hE : Env w) : Calls Tryd.prog 4 #[.int .i64 a, .string s] w (Ret (.bool true) w) := by
  have T1 := text_any a ha
  have ts := textB_short a ha
  have P1 := fparse_any ⟨(textB a).toArray⟩ (by show (textB a).toArray.size ≤ _; simp; omega)
  have e1 : (⟨(textB a).toArray⟩ : ByteArray).data.toList = textB a := by simp
  rw [e1, parseF_text a ha] at P1
  have P2 := fparse_any s hs
  have hc : I64 (parseF s.data.toList).1 := by
    unfold parseF
    split
    · split
      · exact signed_i64 _ _
      · unfold I64; dsimp only; omega
    · unfold I64; dsimp only; omega
  have T2 := text_any (parseF s.data.toList).1 hc
  refine back_core a _ _ s _ _ w hE (Lib.hid T1) (Lib.hid P1) (Lib.hid P2) (Lib.hid T2) (Lib.hid ?_)
  rcases parseF_or s.data.toList with h | ⟨h1, h2⟩
  · rw [h]; exact .inl ⟨rfl, rfl⟩
  · refine .inr ⟨h1, ?_⟩
    rw [list_beq]
    simpa using h2
end Go.Proofs.YtbdkbmhejoakiaaDoor
