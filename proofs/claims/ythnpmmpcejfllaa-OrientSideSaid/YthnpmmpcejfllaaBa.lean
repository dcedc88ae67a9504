/-
  Numbers by their bits (plain); blocks that are told by a function; make([]int, n).
-/
import Derived.Test.YthnpmmpcejfllaaSl
import Derived.Test.YthnpmmpcejfllaaMp
import Derived.Laws.MakeOwn
set_option linter.unusedSimpArgs false
set_option linter.unusedVariables false
namespace Go.Proofs.Ythnpmmpcejfllaa
open Go Go.RowKit

/-! ### Blocks of ints -/
def tab (F : Nat → Int) (L : Nat) : List Value := (List.range L).map fun i => .int .i64 (F i)
theorem tab_length (F : Nat → Int) (L : Nat) : (tab F L).length = L := by simp [tab]
theorem tab_get {F : Nat → Int} {L k : Nat} (h : k < L) : (tab F L)[k]? = some (.int .i64 (F k)) := by simp [tab, h]
theorem tab_le {F : Nat → Int} {L k : Nat} (h : k < L) : k + 1 ≤ (tab F L).length := by rw [tab_length]; omega
theorem tab_set {F : Nat → Int} {L k : Nat} {v : Int} (h : k < L) : (tab F L).take k ++ [.int .i64 v] ++ (tab F L).drop (k + 1) = tab (upd F k v) L := by
  apply List.ext_getElem?
  intro i
  rcases Nat.lt_trichotomy i k with hi | rfl | hi
  · rw [List.append_assoc, List.getElem?_append_left (by simp [tab]; omega), List.getElem?_take_of_lt hi, tab_get (by omega), tab_get (by omega), upd_ne _ _ (by omega)]
  · rw [List.append_assoc, List.getElem?_append_right (by simp [tab]; omega)]
    have : i - (List.take i (tab F L)).length = 0 := by simp [tab]; omega
    rw [this, tab_get h, upd_same]
    rfl
  · rw [List.getElem?_append_right (by simp [tab]; omega)]
    have : i - (List.take k (tab F L) ++ [Value.int .i64 v]).length = i - (k + 1) := by simp [tab]; omega
    rw [this, List.getElem?_drop, show k + 1 + (i - (k + 1)) = i by omega]
    by_cases h2 : i < L
    · rw [tab_get h2, tab_get h2, upd_ne _ _ (by omega)]
    · rw [List.getElem?_eq_none (by rw [tab_length]; omega), List.getElem?_eq_none (by rw [tab_length]; omega)]
theorem tab_congr {F G : Nat → Int} {L : Nat} (h : ∀ j, j < L → F j = G j) : tab F L = tab G L := by
  unfold tab
  exact List.map_congr_left fun i hi => by rw [h i (List.mem_range.1 hi)]
theorem made_tab (n : Nat) : madeCells (Value.int .i64 0).cells (n * 1) = (tab (fun _ => 0) n).toArray := by
  apply Array.ext'
  unfold madeCells tab
  simp [Value.cells]
  intro a _
  rw [Nat.mod_one]
  rfl
theorem sx_makeSlice {P : Program} {X : List Nat} {w0 w : World} {H : List Bk} {ops : Array Oper} {Q : Exit → Act → World → Prop} {a : Act} {rest : List Oper} {d : Tmp} {tp t e : TypeId} {pos : String} {af : Array Edge} {x y : Operand} {n bytes : Nat}
    (hp : Hp X w0 H w) (ht : SliTy P t e) (he : ElemTy P e (.int .i64 0) 1 bytes) (hx : a.eval x = .int .i64 n) (hy : a.eval y = .int .i64 n) (hb : bytes * n ≤ 281474976710656) (h63 : n ≤ 9223372036854775807)
    (hk : ∀ g w1, Hp X w0 (⟨g, e, tab (fun _ => 0) n⟩ :: H) w1 → wpList P ops Q rest (a.put (some d) (.slice (some ⟨g, 0, none⟩) n n)) w1) : wpList P ops Q (⟨some d, .makeSlice t x y, tp, pos, af, none⟩ :: rest) a w := by
  obtain ⟨i, hi, hi'⟩ : ∃ i, P.info? e = some i ∧ (i.zero, i.size, i.bytes) = (some (.int .i64 0), 1, bytes) := by
    have := he.info
    cases h : P.info? e with
    | none => rw [h] at this; cases this
    | some i => rw [h] at this; exact ⟨i, rfl, by simpa using this⟩
  simp only [Prod.mk.injEq] at hi'
  obtain ⟨hiz, his, hib⟩ := hi'
  have hb1 : ((bytes * n : Nat) : Int) ≤ 281474976710656 := by omega
  rw [Int.natCast_mul] at hb1
  have hr := run_make (P := P) w t e i (.int .i64 0) ht.und hi hiz .i64 .i64 n n (by omega) (by omega) (by rw [hib]; exact hb1) (by omega)
  rw [his, Int.toNat_natCast, made_tab] at hr
  refine wpList_plain rfl fun K hK => ?_
  unfold Oper.wp
  simp only [execOp, hx, hy, Sem.run_bind, hr, Result.andThen_ok]
  exact hK _ _ (hk _ _ (hp.alloc e _))

/-- An operation without memory that alone may come up. -/
theorem sd_lpure {P : Program} {ops : Array Oper} {Q : Exit → Act → World → Prop} {N : List Nat} {X : List Nat} {w0 w : World} {H : List Bk} {a : Act} {i : Nat} {rest : Sc} {o : Oper} {v : Value} (hp : Hp X w0 H w) (hw : Region.wanted o (yielded ops a.tmps) = true) (hv : ∀ w, (execOp a.eval o).run P w = .ok (.value v) w)
    (hk : wpSched P ops Q (Hp X w0 H) N rest (a.put o.dst v) w) : wpL P ops Q (Hp X w0 H) N i rest o a w := by
  refine sd_loud hw ?_
  unfold Oper.wp
  simp only [hv, Oper.upon]
  exact ⟨fun _ => hp, hk⟩

/-- A call that is known of this world alone. -/
theorem sd_callM {P : Program} {ops : Array Oper} {Q : Exit → Act → World → Prop} {N : List Nat} {X : List Nat} {w0 w : World} {H Hq : List Bk} {a : Act} {i : Nat} {rest : Sc} {d : Tmp} {tp : TypeId} {pos : String} {af : Array Edge} {gd : Option (Nat × Bool)} {c : Call} {f : FuncId} {args : Array Value} {v : Value} (hp : Hp X w0 H w) (hw : Region.wanted ⟨some d, .call c, tp, pos, af, gd⟩ (yielded ops a.tmps) = true)
    (he : ∀ w, (execOp a.eval ⟨some d, .call c, tp, pos, af, gd⟩).run P w = .ok (.enter f args) w) (hc : Calls P f args w (Ret v w)) (hq : Hp X w0 Hq w)
    (hk : ∀ w1, Hp X w0 H w1 → Hp X w0 Hq w1 → wpSched P ops Q (Hp X w0 H) N rest (a.put (some d) v) w1) : wpL P ops Q (Hp X w0 H) N i rest ⟨some d, .call c, tp, pos, af, gd⟩ a w := by
  refine sd_loud hw ?_
  unfold Oper.wp
  simp only [he, Oper.upon]
  exact hc.mono fun e w1 ⟨he, hw1⟩ => by subst he; exact ⟨fun _ => hp.call hw1, hk w1 (hp.call hw1) (hq.call hw1)⟩

/-! ### Bits -/
/-- Bit i of n, in two's complement. -/
def bt (n : Int) (i : Nat) : Int := n / 2 ^ i % 2
theorem bt_bd (n : Int) (i : Nat) : 0 ≤ bt n i ∧ bt n i ≤ 1 := by unfold bt; omega
/-- What is carried into bit k. -/
def cb (a b c : Int) (k : Nat) : Int := (a % 2 ^ k + b % 2 ^ k + c) / 2 ^ k
theorem cb_zero {a b c : Int} : cb a b c 0 = c := by simp [cb, Int.emod_one]
theorem cb_bd (a b c : Int) (k : Nat) (h0 : 0 ≤ c) (h1 : c ≤ 1) : 0 ≤ cb a b c k ∧ cb a b c k ≤ 1 := by
  unfold cb
  have hp := pow_pos' k
  have ha := Int.emod_nonneg a (by omega : (2 : Int) ^ k ≠ 0)
  have hb := Int.emod_nonneg b (by omega : (2 : Int) ^ k ≠ 0)
  have ha' := Int.emod_lt_of_pos a hp
  have hb' := Int.emod_lt_of_pos b hp
  refine ⟨Int.ediv_nonneg (by omega) (by omega), ?_⟩
  have : (a % 2 ^ k + b % 2 ^ k + c) / 2 ^ k < 2 := by
    rw [Int.ediv_lt_iff_lt_mul hp]; omega
  omega
theorem sum_bt (a b c : Int) (k : Nat) : (bt a k + bt b k + cb a b c k) % 2 = bt (a + b + c) k := by
  have hp := pow_pos' k
  have ha : a = 2 ^ k * (a / 2 ^ k) + a % 2 ^ k := (Int.mul_ediv_add_emod _ _).symm
  have hb : b = 2 ^ k * (b / 2 ^ k) + b % 2 ^ k := (Int.mul_ediv_add_emod _ _).symm
  have hs : a + b + c = (a % 2 ^ k + b % 2 ^ k + c) + 2 ^ k * (a / 2 ^ k + b / 2 ^ k) := by
    rw [Int.mul_add]; omega
  have hd : (a + b + c) / 2 ^ k = cb a b c k + (a / 2 ^ k + b / 2 ^ k) := by
    rw [hs, Int.add_mul_ediv_left _ _ (by omega)]; rfl
  unfold bt
  rw [hd]
  omega
theorem cb_succ (a b c : Int) (k : Nat) : (bt a k + bt b k + cb a b c k) / 2 = cb a b c (k + 1) := by
  have hp := pow_pos' k
  have e : cb a b c (k + 1) = (a % (2 ^ k * 2) + b % (2 ^ k * 2) + c) / (2 ^ k * 2) := by
    unfold cb; rw [Int.pow_succ]
  rw [e, emod_split a _ _ hp (by omega), emod_split b _ _ hp (by omega), ← Int.ediv_ediv_of_nonneg (by omega)]
  have : (2 ^ k * (a / 2 ^ k % 2) + a % 2 ^ k + (2 ^ k * (b / 2 ^ k % 2) + b % 2 ^ k) + c) = (a % 2 ^ k + b % 2 ^ k + c) + 2 ^ k * (bt a k + bt b k) := by
    unfold bt; rw [Int.mul_add]; omega
  rw [this, Int.add_mul_ediv_left _ _ (by omega)]
  show _ = (cb a b c k + _) / _
  congr 1
  omega
theorem bt_not (a : Int) (k : Nat) : bt (-a - 1) k = 1 - bt a k := by
  have hp := pow_pos' k
  have hd : (-a - 1) / 2 ^ k = - (a / 2 ^ k) - 1 := by
    have ha : a = 2 ^ k * (a / 2 ^ k) + a % 2 ^ k := (Int.mul_ediv_add_emod _ _).symm
    have h0 := Int.emod_nonneg a (by omega : (2 : Int) ^ k ≠ 0)
    have h1 := Int.emod_lt_of_pos a hp
    have hs : -a - 1 = (2 ^ k - 1 - a % 2 ^ k) + 2 ^ k * (- (a / 2 ^ k) - 1) := by
      rw [Int.mul_sub, Int.mul_neg]; omega
    rw [hs, Int.add_mul_ediv_left _ _ (by omega), Int.ediv_eq_zero_of_lt (by omega) (by omega)]
    omega
  unfold bt
  rw [hd]
  omega
theorem bt_zero (k : Nat) : bt 0 k = 0 := by simp [bt]
/-- The bits of a limb. -/
theorem bt_limb (n : Int) (i : Nat) : lb n (i / 64) / 2 ^ (i % 64) % 2 = bt n i := by
  unfold lb bt
  have e : (18446744073709551616 : Int) = 2 ^ (i % 64) * (2 * 2 ^ (63 - i % 64)) := by
    rw [show (2 : Int) * 2 ^ (63 - i % 64) = 2 ^ (64 - i % 64) by rw [← Int.pow_succ', show 63 - i % 64 + 1 = 64 - i % 64 by omega], ← Int.pow_add, show i % 64 + (64 - i % 64) = 64 by omega]
    rfl
  have hp := pow_pos' (i % 64)
  have hp2 := pow_pos' (63 - i % 64)
  generalize hx : n / 2 ^ (64 * (i / 64)) = x
  have h1 : n / 2 ^ i = x / 2 ^ (i % 64) := by
    rw [← hx, Int.ediv_ediv_of_nonneg (Int.le_of_lt (pow_pos' _)), ← Int.pow_add, show 64 * (i / 64) + i % 64 = i by omega]
  rw [h1, e]
  generalize (2 : Int) ^ (i % 64) = p at *
  generalize (2 : Int) ^ (63 - i % 64) = q at *
  rw [emod_split x p (2 * q) hp (by omega), Int.add_comm, Int.add_mul_ediv_left _ _ (by omega)]
  rw [Int.ediv_eq_zero_of_lt (Int.emod_nonneg _ (by omega)) (Int.emod_lt_of_pos _ hp), Int.zero_add]
  generalize x / p = y
  have := Int.emod_emod_of_dvd y (show (2 : Int) ∣ 2 * q from ⟨q, rfl⟩)
  exact this
end Go.Proofs.Ythnpmmpcejfllaa
