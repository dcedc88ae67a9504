/-
  Numbers by their bits (plain); blocks that are told by a function; make([]int, n).
  Package ninepinref01: Long, plus, minus (contracts).
  Package ninepinref01: Of (contract).
  Package ninepinref01: Below, Small, Sign, Add, Sub, top, size (contracts).
  Package ninepinref01: Small, top, size, Add, Sub (contracts).
  Adding bit by bit: what the rounds of a product do (plain).
  Package ninepinref01: Mul (contract).
-/
import Derived.Test.YtbdkbmhejoakiaaDoorSl
import Derived.Test.YtbdkbmhejoakiaaDoorMp
import Derived.Laws.MakeOwn
import Derived.WalkKit
import Derived.WalkSmall
import Derived.Lib.Hide
import Derived.Test.YtbdkbmhejoakiaaDoorMc
set_option linter.unusedSimpArgs false
set_option linter.unusedVariables false
namespace Go.Proofs.YtbdkbmhejoakiaaDoor
open Go Go.RowKit

/-! ### Blocks of ints -/
def tab (F : Nat → Int) (L : Nat) : List Value := (List.range L).map fun i => .int .i64 (F i)
theorem tab_length (F : Nat → Int) (L : Nat) : (tab F L).length = L := by simp [tab]
theorem tab_get {F : Nat → Int} {L k : Nat} (h : k < L) : (tab F L)[k]? = some (.int .i64 (F k)) := by simp [tab, h]
theorem tab_le {F : Nat → Int} {L k : Nat} (h : k < L) : k + 1 ≤ (tab F L).length := by rw [tab_length]; omega
theorem tab_set {F : Nat → Int} {L k : Nat} {v : Int} (h : k < L) : (tab F L).take k ++ [.int .i64 v] ++ (tab F L).drop (k + 1) = tab (upd F k v) L := by
  apply List.ext_getElem?
  intro i
  rcases Nat.lt_trichotomy i k with hi | rfl | hi
  · rw [List.append_assoc, List.getElem?_append_left (by simp [tab]; omega), List.getElem?_take_of_lt hi, tab_get (by omega), tab_get (by omega), upd_ne _ _ (by omega)]
  · rw [List.append_assoc, List.getElem?_append_right (by simp [tab]; omega)]
    have : i - (List.take i (tab F L)).length = 0 := by simp [tab]; omega
    rw [this, tab_get h, upd_same]
    rfl
  · rw [List.getElem?_append_right (by simp [tab]; omega)]
    have : i - (List.take k (tab F L) ++ [Value.int .i64 v]).length = i - (k + 1) := by simp [tab]; omega
    rw [this, List.getElem?_drop, show k + 1 + (i - (k + 1)) = i by omega]
    by_cases h2 : i < L
    · rw [tab_get h2, tab_get h2, upd_ne _ _ (by omega)]
    · rw [List.getElem?_eq_none (by rw [tab_length]; omega), List.getElem?_eq_none (by rw [tab_length]; omega)]
theorem tab_congr {F G : Nat → Int} {L : Nat} (h : ∀ j, j < L → F j = G j) : tab F L = tab G L := by
  unfold tab
  exact List.map_congr_left fun i hi => by rw [h i (List.mem_range.1 hi)]
theorem made_tab (n : Nat) : madeCells (Value.int .i64 0).cells (n * 1) = (tab (fun _ => 0) n).toArray := by
  apply Array.ext'
  unfold madeCells tab
  simp [Value.cells]
  intro a _
  rw [Nat.mod_one]
  rfl
theorem sx_makeSlice {P : Program} {X : List Nat} {w0 w : World} {H : List Bk} {ops : Array Oper} {Q : Exit → Act → World → Prop} {a : Act} {rest : List Oper} {d : Tmp} {tp t e : TypeId} {pos : String} {af : Array Edge} {x y : Operand} {n bytes : Nat}
    (hp : Hp X w0 H w) (ht : SliTy P t e) (he : ElemTy P e (.int .i64 0) 1 bytes) (hx : a.eval x = .int .i64 n) (hy : a.eval y = .int .i64 n) (hb : bytes * n ≤ 281474976710656) (h63 : n ≤ 9223372036854775807)
    (hk : ∀ g w1, Hp X w0 (⟨g, e, tab (fun _ => 0) n⟩ :: H) w1 → wpList P ops Q rest (a.put (some d) (.slice (some ⟨g, 0, none⟩) n n)) w1) : wpList P ops Q (⟨some d, .makeSlice t x y, tp, pos, af, none⟩ :: rest) a w := by
  obtain ⟨i, hi, hi'⟩ : ∃ i, P.info? e = some i ∧ (i.zero, i.size, i.bytes) = (some (.int .i64 0), 1, bytes) := by
    have := he.info
    cases h : P.info? e with
    | none => rw [h] at this; cases this
    | some i => rw [h] at this; exact ⟨i, rfl, by simpa using this⟩
  simp only [Prod.mk.injEq] at hi'
  obtain ⟨hiz, his, hib⟩ := hi'
  have hb1 : ((bytes * n : Nat) : Int) ≤ 281474976710656 := by omega
  rw [Int.natCast_mul] at hb1
  have hr := run_make (P := P) w t e i (.int .i64 0) ht.und hi hiz .i64 .i64 n n (by omega) (by omega) (by rw [hib]; exact hb1) (by omega)
  rw [his, Int.toNat_natCast, made_tab] at hr
  refine wpList_plain rfl fun K hK => ?_
  unfold Oper.wp
  simp only [execOp, hx, hy, Sem.run_bind, hr, Result.andThen_ok]
  exact hK _ _ (hk _ _ (hp.alloc e _))

/-- An operation without memory that alone may come up. -/
theorem sd_lpure {P : Program} {ops : Array Oper} {Q : Exit → Act → World → Prop} {N : List Nat} {X : List Nat} {w0 w : World} {H : List Bk} {a : Act} {i : Nat} {rest : Sc} {o : Oper} {v : Value} (hp : Hp X w0 H w) (hw : Region.wanted o (yielded ops a.tmps) = true) (hv : ∀ w, (execOp a.eval o).run P w = .ok (.value v) w)
    (hk : wpSched P ops Q (Hp X w0 H) N rest (a.put o.dst v) w) : wpL P ops Q (Hp X w0 H) N i rest o a w := by
  refine sd_loud hw ?_
  unfold Oper.wp
  simp only [hv, Oper.upon]
  exact ⟨fun _ => hp, hk⟩

/-- A call that is known of this world alone. -/
theorem sd_callM {P : Program} {ops : Array Oper} {Q : Exit → Act → World → Prop} {N : List Nat} {X : List Nat} {w0 w : World} {H Hq : List Bk} {a : Act} {i : Nat} {rest : Sc} {d : Tmp} {tp : TypeId} {pos : String} {af : Array Edge} {gd : Option (Nat × Bool)} {c : Call} {f : FuncId} {args : Array Value} {v : Value} (hp : Hp X w0 H w) (hw : Region.wanted ⟨some d, .call c, tp, pos, af, gd⟩ (yielded ops a.tmps) = true)
    (he : ∀ w, (execOp a.eval ⟨some d, .call c, tp, pos, af, gd⟩).run P w = .ok (.enter f args) w) (hc : Calls P f args w (Ret v w)) (hq : Hp X w0 Hq w)
    (hk : ∀ w1, Hp X w0 H w1 → Hp X w0 Hq w1 → wpSched P ops Q (Hp X w0 H) N rest (a.put (some d) v) w1) : wpL P ops Q (Hp X w0 H) N i rest ⟨some d, .call c, tp, pos, af, gd⟩ a w := by
  refine sd_loud hw ?_
  unfold Oper.wp
  simp only [he, Oper.upon]
  exact hc.mono fun e w1 ⟨he, hw1⟩ => by subst he; exact ⟨fun _ => hp.call hw1, hk w1 (hp.call hw1) (hq.call hw1)⟩

/-! ### Bits -/
/-- Bit i of n, in two's complement. -/
def bt (n : Int) (i : Nat) : Int := n / 2 ^ i % 2
theorem bt_bd (n : Int) (i : Nat) : 0 ≤ bt n i ∧ bt n i ≤ 1 := by unfold bt; omega
/-- What is carried into bit k. -/
def cb (a b c : Int) (k : Nat) : Int := (a % 2 ^ k + b % 2 ^ k + c) / 2 ^ k
theorem cb_zero {a b c : Int} : cb a b c 0 = c := by simp [cb, Int.emod_one]
theorem cb_bd (a b c : Int) (k : Nat) (h0 : 0 ≤ c) (h1 : c ≤ 1) : 0 ≤ cb a b c k ∧ cb a b c k ≤ 1 := by
  unfold cb
  have hp := pow_pos' k
  have ha := Int.emod_nonneg a (by omega : (2 : Int) ^ k ≠ 0)
  have hb := Int.emod_nonneg b (by omega : (2 : Int) ^ k ≠ 0)
  have ha' := Int.emod_lt_of_pos a hp
  have hb' := Int.emod_lt_of_pos b hp
  refine ⟨Int.ediv_nonneg (by omega) (by omega), ?_⟩
  have : (a % 2 ^ k + b % 2 ^ k + c) / 2 ^ k < 2 := by
    rw [Int.ediv_lt_iff_lt_mul hp]; omega
  omega
theorem sum_bt (a b c : Int) (k : Nat) : (bt a k + bt b k + cb a b c k) % 2 = bt (a + b + c) k := by
  have hp := pow_pos' k
  have ha : a = 2 ^ k * (a / 2 ^ k) + a % 2 ^ k := (Int.mul_ediv_add_emod _ _).symm
  have hb : b = 2 ^ k * (b / 2 ^ k) + b % 2 ^ k := (Int.mul_ediv_add_emod _ _).symm
  have hs : a + b + c = (a % 2 ^ k + b % 2 ^ k + c) + 2 ^ k * (a / 2 ^ k + b / 2 ^ k) := by
    rw [Int.mul_add]; omega
  have hd : (a + b + c) / 2 ^ k = cb a b c k + (a / 2 ^ k + b / 2 ^ k) := by
    rw [hs, Int.add_mul_ediv_left _ _ (by omega)]; rfl
  unfold bt
  rw [hd]
  omega
theorem cb_succ (a b c : Int) (k : Nat) : (bt a k + bt b k + cb a b c k) / 2 = cb a b c (k + 1) := by
  have hp := pow_pos' k
  have e : cb a b c (k + 1) = (a % (2 ^ k * 2) + b % (2 ^ k * 2) + c) / (2 ^ k * 2) := by
    unfold cb; rw [Int.pow_succ]
  rw [e, emod_split a _ _ hp (by omega), emod_split b _ _ hp (by omega), ← Int.ediv_ediv_of_nonneg (by omega)]
  have : (2 ^ k * (a / 2 ^ k % 2) + a % 2 ^ k + (2 ^ k * (b / 2 ^ k % 2) + b % 2 ^ k) + c) = (a % 2 ^ k + b % 2 ^ k + c) + 2 ^ k * (bt a k + bt b k) := by
    unfold bt; rw [Int.mul_add]; omega
  rw [this, Int.add_mul_ediv_left _ _ (by omega)]
  show _ = (cb a b c k + _) / _
  congr 1
  omega
theorem bt_not (a : Int) (k : Nat) : bt (-a - 1) k = 1 - bt a k := by
  have hp := pow_pos' k
  have hd : (-a - 1) / 2 ^ k = - (a / 2 ^ k) - 1 := by
    have ha : a = 2 ^ k * (a / 2 ^ k) + a % 2 ^ k := (Int.mul_ediv_add_emod _ _).symm
    have h0 := Int.emod_nonneg a (by omega : (2 : Int) ^ k ≠ 0)
    have h1 := Int.emod_lt_of_pos a hp
    have hs : -a - 1 = (2 ^ k - 1 - a % 2 ^ k) + 2 ^ k * (- (a / 2 ^ k) - 1) := by
      rw [Int.mul_sub, Int.mul_neg]; omega
    rw [hs, Int.add_mul_ediv_left _ _ (by omega), Int.ediv_eq_zero_of_lt (by omega) (by omega)]
    omega
  unfold bt
  rw [hd]
  omega
theorem bt_zero (k : Nat) : bt 0 k = 0 := by simp [bt]
/-- The bits of a limb. -/
theorem bt_limb (n : Int) (i : Nat) : lb n (i / 64) / 2 ^ (i % 64) % 2 = bt n i := by
  unfold lb bt
  have e : (18446744073709551616 : Int) = 2 ^ (i % 64) * (2 * 2 ^ (63 - i % 64)) := by
    rw [show (2 : Int) * 2 ^ (63 - i % 64) = 2 ^ (64 - i % 64) by rw [← Int.pow_succ', show 63 - i % 64 + 1 = 64 - i % 64 by omega], ← Int.pow_add, show i % 64 + (64 - i % 64) = 64 by omega]
    rfl
  have hp := pow_pos' (i % 64)
  have hp2 := pow_pos' (63 - i % 64)
  generalize hx : n / 2 ^ (64 * (i / 64)) = x
  have h1 : n / 2 ^ i = x / 2 ^ (i % 64) := by
    rw [← hx, Int.ediv_ediv_of_nonneg (Int.le_of_lt (pow_pos' _)), ← Int.pow_add, show 64 * (i / 64) + i % 64 = i by omega]
  rw [h1, e]
  generalize (2 : Int) ^ (i % 64) = p at *
  generalize (2 : Int) ^ (63 - i % 64) = q at *
  rw [emod_split x p (2 * q) hp (by omega), Int.add_comm, Int.add_mul_ediv_left _ _ (by omega)]
  rw [Int.ediv_eq_zero_of_lt (Int.emod_nonneg _ (by omega)) (Int.emod_lt_of_pos _ hp), Int.zero_add]
  generalize x / p = y
  have := Int.emod_emod_of_dvd y (show (2 : Int) ∣ 2 * q from ⟨q, rfl⟩)
  exact this
end Go.Proofs.YtbdkbmhejoakiaaDoor
set_option linter.unusedSimpArgs false
set_option linter.unusedVariables false
set_option maxRecDepth 100000
namespace Go.Proofs.YtbdkbmhejoakiaaDoor
open Go Go.RowKit

/-- A slice that holds L bits of x. -/
def BSl (w : World) (v : Value) (x : Int) (L : Nat) : Prop := ∃ g off cap bc t z, v = .slice (some ⟨g, off, none⟩) L cap ∧ w.heap[g]? = some (.cells (bc : List Value).toArray t z) ∧ ∀ k, k < L → bc[off + k * 1]? = some (.int .i64 (bt x k))
theorem BSl.of {w : World} {g cap L : Nat} {t : TypeId} {x : Int} (h : w.heap[g]? = some (.cells (tab (bt x) L).toArray t (0, 0))) : BSl w (.slice (some ⟨g, 0, none⟩) L cap) x L :=
  ⟨g, 0, cap, _, t, _, rfl, h, fun k hk => by rw [Nat.zero_add, Nat.mul_one]; exact tab_get hk⟩
theorem M511_le {i : Nat} (hi : 511 ≤ i) : M511 ≤ 2 ^ i := by
  have h1 : (2 : Int) ^ i = 2 ^ (64 * 7) * 2 ^ (i - 448) := by rw [← Int.pow_add, show 64 * 7 + (i - 448) = i by omega]
  have h2 : (9223372036854775808 : Int) ≤ 2 ^ (i - 448) := by
    have h3 := Nat.pow_le_pow_right (n := 2) (by omega) (show 63 ≤ i - 448 by omega)
    have h4 : ((2 ^ 63 : Nat) : Int) ≤ ((2 ^ (i - 448) : Nat) : Int) := Int.ofNat_le.2 h3
    rw [Int.natCast_pow, Int.natCast_pow] at h4
    exact h4
  rw [h1, pow448]
  unfold M511
  omega
/-- Behind the sign's bit all are as it is. -/
theorem bt_sign {n : Int} (h : Fit n) {i : Nat} (hi : 511 ≤ i) : bt n i = if n < 0 then 1 else 0 := by
  unfold Fit at h
  have hp := M511_le hi
  have hq := pow_pos' i
  unfold bt
  split
  · have : n / 2 ^ i = -1 := by
      have h1 : n = 2 ^ i * (-1) + (n + 2 ^ i) := by omega
      rw [h1, Int.add_comm, Int.add_mul_ediv_left _ _ (by omega), Int.ediv_eq_zero_of_lt (by omega) (by omega)]
      omega
    rw [this]; rfl
  · rw [Int.ediv_eq_zero_of_lt (by omega) (by omega)]; rfl
theorem run_min2 {P : Program} (ts : Array TypeId) (t : TypeId) (k : Nat) : ∃ m : Nat, (∀ w, (Builtin.min_ ts t #[.int .i64 k, .int .i64 511]).run P w = .ok (.int .i64 m) w) ∧ m < 512 ∧ (k < 512 → m = k) ∧ (512 ≤ k → m = 511) := by
  by_cases h : k < 511
  · refine ⟨k, fun w => ?_, by omega, fun _ => rfl, fun _ => by omega⟩
    simp [Builtin.min_, Builtin.min2]; omega
  · refine ⟨511, fun w => ?_, by omega, fun _ => by omega, fun _ => rfl⟩
    simp [Builtin.min_, Builtin.min2]; omega
theorem tab_step {G : Nat → Int} {k L : Nat} {V : Int} (hV : V = G k) : tab (upd (fun j => if j < k then G j else 0) (k * 1) V) L = tab (fun j => if j < k + 1 then G j else 0) L := by
  refine tab_congr fun j _ => ?_
  rw [Nat.mul_one]
  by_cases h : j = k
  · subst h
    rw [upd_same, hV, if_pos (by omega)]
  · rw [upd_ne _ _ h]
    by_cases h2 : j < k
    · rw [if_pos h2, if_pos (by omega)]
    · rw [if_neg h2, if_neg (by omega)]
theorem tab_done {G : Nat → Int} {L : Nat} : tab (fun j => if j < L then G j else 0) L = tab G L := tab_congr fun j hj => if_pos hj
theorem tab_none {G : Nat → Int} {L : Nat} : tab (fun _ => 0) L = tab (fun j => if j < 0 then G j else 0) L := tab_congr fun j hj => (if_neg (by omega)).symm
theorem long_bit {n : Int} (hn : Fit n) {k m : Nat} (h1 : k < 512 → m = k) (h2 : 512 ≤ k → m = 511) : RowKit.wrap64 ((lb n (m / 64) / 2 ^ (m % 64)).tmod 2) = bt n k := by
  have h0 : 0 ≤ lb n (m / 64) / 2 ^ (m % 64) := Int.ediv_nonneg (lb_nonneg _ _) (Int.le_of_lt (pow_pos' _))
  rw [Int.tmod_eq_emod_of_nonneg h0, bt_limb]
  have hb := bt_bd n m
  rw [IntWalk.wrap64_in _ (by omega)]
  by_cases h : k < 512
  · rw [h1 h]
  · rw [h2 (by omega), bt_sign hn (by omega), bt_sign hn (by omega)]
end Go.Proofs.YtbdkbmhejoakiaaDoor
set_option linter.unusedSimpArgs false
set_option linter.unusedVariables false
set_option maxRecDepth 100000
namespace Go.Proofs.YtbdkbmhejoakiaaDoor
open Go Go.RowKit

/-- A limb, when its bits from k on are taken, the highest first. -/
def gl (m : Int) (k j : Nat) : Int := lb m j / 2 ^ (k - 64 * j)
theorem gl_bd (m : Int) (k j : Nat) : 0 ≤ gl m k j ∧ gl m k j < 18446744073709551616 := by
  unfold gl
  have h0 := lb_nonneg m j
  have h1 := lb_lt m j
  have hp := pow_pos' (k - 64 * j)
  refine ⟨Int.ediv_nonneg h0 (by omega), ?_⟩
  have := Int.ediv_le_self (a := lb m j) (2 ^ (k - 64 * j)) h0
  omega
theorem gl_step (m : Int) (i : Nat) : gl m (i + 1) (i / 64) * 2 + bt m i = gl m i (i / 64) := by
  rw [← bt_limb m i]
  unfold gl
  rw [show i + 1 - 64 * (i / 64) = i % 64 + 1 by omega, show i - 64 * (i / 64) = i % 64 by omega, Int.pow_succ, ← Int.ediv_ediv_of_nonneg (Int.le_of_lt (pow_pos' _))]
  omega
theorem gl_zero {m : Int} {k j : Nat} (h : 64 ≤ k - 64 * j) : gl m k j = 0 := by
  unfold gl
  refine Int.ediv_eq_zero_of_lt (lb_nonneg _ _) (Int.lt_of_lt_of_le (lb_lt _ _) ?_)
  have := Nat.pow_le_pow_right (n := 2) (by omega) h
  have h2 : ((2 ^ 64 : Nat) : Int) ≤ ((2 ^ (k - 64 * j) : Nat) : Int) := Int.ofNat_le.2 this
  rw [Int.natCast_pow, Int.natCast_pow] at h2
  exact h2
theorem gl_other (m : Int) {i j : Nat} (h : j ≠ i / 64) : gl m (i + 1) j = gl m i j := by
  by_cases h1 : i < 64 * j
  · unfold gl
    rw [show i + 1 - 64 * j = 0 by omega, show i - 64 * j = 0 by omega]
  · rw [gl_zero (by omega), gl_zero (by omega)]
theorem gl_all (m : Int) : LB (gl m 0) = LB (lb m) := LB_congr fun j _ => by simp [gl]
theorem gl_none (m : Int) : LB (gl m 512) = [.int .u64 0, .int .u64 0, .int .u64 0, .int .u64 0, .int .u64 0, .int .u64 0, .int .u64 0, .int .u64 0] := by
  simp only [LB, gl_zero (m := m) (k := 512) (j := 0) (by omega), gl_zero (m := m) (k := 512) (j := 1) (by omega), gl_zero (m := m) (k := 512) (j := 2) (by omega), gl_zero (m := m) (k := 512) (j := 3) (by omega), gl_zero (m := m) (k := 512) (j := 4) (by omega), gl_zero (m := m) (k := 512) (j := 5) (by omega), gl_zero (m := m) (k := 512) (j := 6) (by omega), gl_zero (m := m) (k := 512) (j := 7) (by omega)]
theorem gl_put (m : Int) (i : Nat) (V : Int) (hV : V = gl m i (i / 64)) : LB (upd (gl m (i + 1)) (i / 64) V) = LB (gl m i) := by
  refine LB_congr fun j _ => ?_
  by_cases h : j = i / 64
  · subst h; rw [upd_same, hV]
  · rw [upd_ne _ _ h, gl_other m h]

theorem bits_zero {h : Int} : ∀ T, (∀ t, t < T → bt h t = 0) → h % 2 ^ T = 0
  | 0, _ => by simp [Int.emod_one]
  | T + 1, H => by
    have ih := bits_zero T fun t ht => H t (by omega)
    rw [Int.pow_succ, emod_split h _ _ (pow_pos' T) (by omega)]
    have := H T (by omega)
    unfold bt at this
    rw [this, ih]
    omega
theorem bt_high (m : Int) (a t : Nat) : bt (m / 2 ^ a) t = bt m (a + t) := by
  unfold bt
  rw [Int.ediv_ediv_of_nonneg (Int.le_of_lt (pow_pos' _)), ← Int.pow_add]
theorem M511_pow {a : Nat} (ha : a = 511) : M511 = 2 ^ a := by
  have h1 : (2 : Int) ^ a = 2 ^ (64 * 7) * 2 ^ 63 := by rw [← Int.pow_add, show 64 * 7 + 63 = a by omega]
  rw [h1, pow448]
  rfl
theorem high_zero {h P : Int} (hP : 0 < P) (h0 : -P ≤ h) (h1 : h < P) (hd : h % (P * 2) = 0) : h = 0 := by
  obtain ⟨c, hc⟩ := Int.dvd_of_emod_eq_zero hd
  rcases Int.lt_trichotomy c 0 with hc0 | hc0 | hc0
  · have := Int.mul_le_mul_of_nonneg_left (show c ≤ -1 by omega) (show 0 ≤ P * 2 by omega)
    omega
  · rw [hc0] at hc; omega
  · have := Int.mul_le_mul_of_nonneg_left (show 1 ≤ c by omega) (show 0 ≤ P * 2 by omega)
    omega
/-- Bits that are one from the sign's on: the number fits. -/
theorem of_fit {m : Int} {L : Nat} (hL : 512 ≤ L) (hm : -(2 ^ (L - 1)) ≤ m ∧ m < 2 ^ (L - 1)) (H : ∀ j, 511 ≤ j → j < L → bt m j = bt m 511) : Fit m := by
  obtain ⟨a, ha⟩ : ∃ a : Nat, a = 511 := ⟨_, rfl⟩
  have hp := pow_pos' a
  have hT : (2 : Int) ^ (L - 1) = 2 ^ a * 2 ^ (L - 512) := by rw [← Int.pow_add, show a + (L - 512) = L - 1 by omega]
  have hT2 : (2 : Int) ^ (L - 511) = 2 ^ (L - 512) * 2 := by rw [show L - 511 = L - 512 + 1 by omega, Int.pow_succ]
  have hq := pow_pos' (L - 512)
  rw [hT] at hm
  have hd : m = 2 ^ a * (m / 2 ^ a) + m % 2 ^ a := (Int.mul_ediv_add_emod _ _).symm
  have h0 := Int.emod_nonneg m (by omega : (2 : Int) ^ a ≠ 0)
  have h1 := Int.emod_lt_of_pos m hp
  have hb : ∀ t, t < L - 511 → bt (m / 2 ^ a) t = bt m 511 := fun t ht => by rw [bt_high]; exact H _ (by omega) (by omega)
  have hlo : -(2 ^ (L - 512)) ≤ m / 2 ^ a := by
    rw [Int.le_ediv_iff_mul_le hp, Int.neg_mul, Int.mul_comm]; exact hm.1
  have hhi : m / 2 ^ a < 2 ^ (L - 512) := by
    rw [Int.ediv_lt_iff_lt_mul hp, Int.mul_comm]; exact hm.2
  have hz : m / 2 ^ a = 0 ∨ m / 2 ^ a = -1 := by
    generalize m / 2 ^ a = h at *
    have hb5 := bt_bd m 511
    rcases (by omega : bt m 511 = 0 ∨ bt m 511 = 1) with e | e
    · left
      have := bits_zero (L - 511) fun t ht => by rw [hb t ht, e]
      rw [hT2] at this
      exact high_zero hq hlo hhi this
    · right
      have := bits_zero (h := -h - 1) (L - 511) fun t ht => by rw [bt_not, hb t ht, e]; rfl
      rw [hT2] at this
      have := high_zero hq (by omega) (by omega) this
      omega
  unfold Fit
  rw [M511_pow ha]
  generalize (2 : Int) ^ a = P at *
  rcases hz with e | e <;> rw [e] at hd <;> omega
theorem fit_of {m : Int} (hf : Fit m) {j : Nat} (hj : 511 ≤ j) : bt m j = bt m 511 := by
  rw [bt_sign hf hj, bt_sign hf (Nat.le_refl _)]
end Go.Proofs.YtbdkbmhejoakiaaDoor
set_option linter.unusedSimpArgs false
set_option linter.unusedVariables false
set_option maxRecDepth 100000
namespace Go.Proofs.YtbdkbmhejoakiaaDoor
open Go Go.RowKit

theorem lb7_neg {n : Int} (h : Fit n) (hn : n < 0) : 9223372036854775808 ≤ lb n 7 := by
  have := ng_fit h
  unfold ng at this
  rw [decide_eq_true hn] at this
  exact of_decide_eq_true this
theorem lb7_pos {n : Int} (h : Fit n) (hn : ¬ n < 0) : ¬ 9223372036854775808 ≤ lb n 7 := by
  have := ng_fit h
  unfold ng at this
  rw [decide_eq_false hn] at this
  exact of_decide_eq_false this
end Go.Proofs.YtbdkbmhejoakiaaDoor
set_option linter.unusedSimpArgs false
set_option linter.unusedVariables false
set_option maxRecDepth 100000
namespace Go.Proofs.YtbdkbmhejoakiaaDoor
open Go Go.RowKit

/-- How many bits there are up to the last 1. -/
def tp (x : Int) : Nat → Nat
  | 0 => 0
  | k + 1 => if bt x k = 0 then tp x k else k + 1
theorem tp_le (x : Int) : ∀ k, tp x k ≤ k
  | 0 => Nat.le_refl _
  | k + 1 => by
    unfold tp
    split
    · exact Nat.le_succ_of_le (tp_le x k)
    · exact Nat.le_refl _
theorem tp_zero (x : Int) : ∀ {k j : Nat}, tp x k ≤ j → j < k → bt x j = 0
  | 0, j, h, hj => by omega
  | k + 1, j, h, hj => by
    unfold tp at h
    split at h
    · by_cases e : j = k
      · rw [e]; assumption
      · exact tp_zero x h (by omega)
    · omega
theorem M511_520 : M511 * 256 = 2 ^ (520 - 1) := by
  have h1 : (2 : Int) ^ (520 - 1) = 2 ^ (64 * 7) * 2 ^ 71 := by rw [← Int.pow_add]
  rw [h1, pow448]
  rfl
theorem room_add {a b : Int} (ha : Fit a) (hb : Fit b) : -(M511 * 256) ≤ a + b ∧ a + b < M511 * 256 := by unfold Fit M511 at *; omega
theorem room_sub {a b : Int} (ha : Fit a) (hb : Fit b) : -(M511 * 256) ≤ a + -b ∧ a + -b < M511 * 256 := by unfold Fit M511 at *; omega
/-- The absolute value. -/
def ab (n : Int) : Int := if n < 0 then -n else n
end Go.Proofs.YtbdkbmhejoakiaaDoor
set_option linter.unusedSimpArgs false
set_option linter.unusedVariables false
set_option maxRecDepth 100000
namespace Go.Proofs.YtbdkbmhejoakiaaDoor
open Go Go.RowKit

/-- A sum, of which so many bits are there. -/
def mx (S D : Int) (m : Nat) : Nat → Int := fun j => if j < m then bt (S + D) j else bt S j
theorem mx_at (S D : Int) (j : Nat) : mx S D j (j * 1) = bt S j := by
  unfold mx; rw [Nat.mul_one, if_neg (by omega)]
theorem mx_step {S D V : Int} {j L : Nat} (hV : V = bt (S + D) j) : tab (upd (mx S D j) (j * 1) V) L = tab (mx S D (j + 1)) L := by
  refine tab_congr fun i _ => ?_
  rw [Nat.mul_one]
  unfold mx
  by_cases h : i = j
  · subst h
    rw [upd_same, hV, if_pos (by omega)]
  · rw [upd_ne _ _ h]
    by_cases h2 : i < j
    · rw [if_pos h2, if_pos (by omega)]
    · rw [if_neg h2, if_neg (by omega)]
theorem pow_split {i j : Nat} (h : j ≤ i) : (2 : Int) ^ i = 2 ^ j * 2 ^ (i - j) := by rw [← Int.pow_add, show j + (i - j) = i by omega]
theorem bt_low (S A : Int) {i j : Nat} (h : j < i) : bt (S + A * 2 ^ i) j = bt S j := by
  unfold bt
  have hp := pow_pos' j
  have e : A * (2 : Int) ^ i = 2 ^ j * (A * 2 ^ (i - j)) := by rw [pow_split (show j ≤ i by omega)]; grind
  have e2 : A * (2 : Int) ^ (i - j) = 2 * (A * 2 ^ (i - j - 1)) := by
    rw [show i - j = (i - j - 1) + 1 by omega, Int.pow_succ]
    simp only [Nat.add_sub_cancel]
    grind
  rw [e, Int.add_mul_ediv_left _ _ (by omega), e2]
  omega
theorem mx_start (S A : Int) (i L : Nat) : tab (bt S) L = tab (mx S (A * 2 ^ i) i) L := by
  refine tab_congr fun j _ => ?_
  unfold mx
  split
  · exact (bt_low S A (by assumption)).symm
  · rfl
theorem cb_start (S A : Int) (i : Nat) : cb S (A * 2 ^ i) 0 i = 0 := by
  unfold cb
  have hp := pow_pos' i
  rw [Int.mul_emod_left, Int.add_zero, Int.add_zero, Int.ediv_eq_zero_of_lt (Int.emod_nonneg _ (by omega)) (Int.emod_lt_of_pos _ hp)]
theorem bt_shift (A : Int) (i k : Nat) : bt (A * 2 ^ i) (i + k) = bt A k := by
  unfold bt
  rw [Int.pow_add, Int.mul_comm A, Int.mul_ediv_mul_of_pos _ _ (pow_pos' i)]
/-- What has no bits from t on is less than 2^t. -/
theorem lt_top {A : Int} (hA : 0 ≤ A) {t L : Nat} (hl : A < 2 ^ L) (ht : t ≤ L) (H : ∀ j, t ≤ j → j < L → bt A j = 0) : A < 2 ^ t := by
  have hp := pow_pos' t
  have h0 : 0 ≤ A / 2 ^ t := Int.ediv_nonneg hA (by omega)
  have h1 : A / 2 ^ t < 2 ^ (L - t) := by
    rw [Int.ediv_lt_iff_lt_mul hp, Int.mul_comm, ← pow_split ht]; exact hl
  have h2 := bits_zero (h := A / 2 ^ t) (L - t) fun s hs => by rw [bt_high]; exact H _ (by omega) (by omega)
  rw [Int.emod_eq_of_lt h0 h1] at h2
  have := Int.mul_ediv_add_emod A (2 ^ t)
  have := Int.emod_lt_of_pos A hp
  rw [h2, Int.mul_zero] at *
  omega
theorem bt_small {A : Int} (hA : 0 ≤ A) {t k : Nat} (h : A < 2 ^ t) (hk : t ≤ k) : bt A k = 0 := by
  unfold bt
  have : A < 2 ^ k := by
    rw [pow_split hk]
    have h1 := pow_pos' (k - t)
    have h2 := Int.mul_le_mul_of_nonneg_left (show (1 : Int) ≤ 2 ^ (k - t) by omega) (Int.le_of_lt (pow_pos' t))
    omega
  rw [Int.ediv_eq_zero_of_lt hA this]; rfl
theorem shift_lt {A : Int} {t i k : Nat} (h : A < 2 ^ t) (hk : t ≤ k) : A * 2 ^ i < 2 ^ (i + k) := by
  rw [Int.pow_add, Int.mul_comm]
  refine Int.mul_lt_mul_of_pos_left ?_ (pow_pos' i)
  have h1 := pow_pos' (k - t)
  have h2 := Int.mul_le_mul_of_nonneg_left (show (1 : Int) ≤ 2 ^ (k - t) by omega) (Int.le_of_lt (pow_pos' t))
  rw [pow_split hk]
  omega
/-- Nothing is carried, and nothing is left to be added: the sum's other bits stand there. -/
theorem mx_end {S A : Int} {i k t L : Nat} (hA : 0 ≤ A) (h : A < 2 ^ t) (hk : t ≤ k) (hc : cb S (A * 2 ^ i) 0 (i + k) = 0) : tab (mx S (A * 2 ^ i) (i + k)) L = tab (bt (S + A * 2 ^ i)) L := by
  refine tab_congr fun j _ => ?_
  unfold mx
  split
  · rfl
  · have hp := pow_pos' (i + k)
    have hs : (S + A * 2 ^ i) / 2 ^ (i + k) = S / 2 ^ (i + k) := by
      have hd0 : 0 ≤ A * 2 ^ i := Int.mul_nonneg hA (Int.le_of_lt (pow_pos' i))
      have hd1 := shift_lt (i := i) h hk
      unfold cb at hc
      rw [Int.add_zero, Int.emod_eq_of_lt hd0 hd1] at hc
      generalize A * 2 ^ i = D at *
      generalize (2 : Int) ^ (i + k) = P at *
      have h1 := Int.mul_ediv_add_emod S P
      have h2 := Int.emod_nonneg S (by omega : P ≠ 0)
      have h3 : S + D = (S % P + D) + P * (S / P) := by omega
      rw [h3, Int.add_mul_ediv_left _ _ (by omega), hc]
      omega
    have hj : j = (i + k) + (j - (i + k)) := by omega
    rw [hj, ← bt_high, ← bt_high, hs]
theorem mul_bit {A B : Int} {i : Nat} (hb : bt B i = 1) : A * (B % 2 ^ i) + A * 2 ^ i = A * (B % 2 ^ (i + 1)) := by
  have h := emod_split B (2 ^ i) 2 (pow_pos' i) (by omega)
  unfold bt at hb
  rw [Int.pow_succ, h, hb]
  grind
theorem mul_nobit {A B : Int} {i : Nat} (hb : bt B i = 0) : A * (B % 2 ^ i) = A * (B % 2 ^ (i + 1)) := by
  have h := emod_split B (2 ^ i) 2 (pow_pos' i) (by omega)
  unfold bt at hb
  rw [Int.pow_succ, h, hb]
  grind
/-- Something is carried: the place is still within the product. -/
theorem carry_room {A B : Int} {i k t E : Nat} (hA : 0 ≤ A) (hB : 0 ≤ B) (h : A < 2 ^ t) (hk : t ≤ k) (hb : bt B i = 1) (hAB : A * B < 2 ^ E) (hc : 0 < cb (A * (B % 2 ^ i)) (A * 2 ^ i) 0 (i + k)) : i + k < E := by
  rcases Nat.lt_or_ge (i + k) E with h1 | h1
  · exact h1
  · exfalso
    have hS : 0 ≤ A * (B % 2 ^ i) := Int.mul_nonneg hA (Int.emod_nonneg _ (by have := pow_pos' i; omega))
    have hd0 : 0 ≤ A * 2 ^ i := Int.mul_nonneg hA (Int.le_of_lt (pow_pos' i))
    have hle : A * (B % 2 ^ i) + A * 2 ^ i ≤ A * B := by
      rw [mul_bit hb]
      exact Int.mul_le_mul_of_nonneg_left (emod_le' hB (pow_pos' _)) hA
    have hP : (2 : Int) ^ E ≤ 2 ^ (i + k) := by
      rw [pow_split h1]
      have h2 := pow_pos' (i + k - E)
      have := Int.mul_le_mul_of_nonneg_left (show (1 : Int) ≤ 2 ^ (i + k - E) by omega) (Int.le_of_lt (pow_pos' E))
      omega
    have hp := pow_pos' (i + k)
    have : cb (A * (B % 2 ^ i)) (A * 2 ^ i) 0 (i + k) = 0 := by
      unfold cb
      rw [Int.emod_eq_of_lt hS (by omega), Int.emod_eq_of_lt hd0 (by omega), Int.add_zero, Int.ediv_eq_zero_of_lt (by omega) (by omega)]
    omega
theorem ab_bd {n : Int} (h : Fit n) : 0 ≤ ab n ∧ ab n ≤ M511 := by unfold ab; unfold Fit at h; split <;> omega
theorem ab_mul (a b : Int) : ab a * ab b = ab (a * b) := by
  unfold ab
  by_cases ha : a < 0 <;> by_cases hb : b < 0
  · have := Int.mul_pos_of_neg_of_neg ha hb
    rw [if_pos ha, if_pos hb, if_neg (by omega), Int.neg_mul_neg]
  · rw [if_pos ha, if_neg hb]
    by_cases h0 : b = 0
    · subst h0; simp
    · have := Int.mul_neg_of_neg_of_pos ha (show 0 < b by omega)
      rw [if_pos this, Int.neg_mul]
  · rw [if_neg ha, if_pos hb]
    by_cases h0 : a = 0
    · subst h0; simp
    · have := Int.mul_neg_of_pos_of_neg (show 0 < a by omega) hb
      rw [if_pos this, Int.mul_neg]
  · have := Int.mul_nonneg (show 0 ≤ a by omega) (show 0 ≤ b by omega)
    rw [if_neg ha, if_neg hb, if_neg (by omega)]
theorem mul_ab {a b : Int} (h : (decide (a < 0) != decide (b < 0)) = false) : a * b = ab a * ab b := by
  unfold ab
  by_cases ha : a < 0 <;> by_cases hb : b < 0
  · rw [if_pos ha, if_pos hb, Int.neg_mul_neg]
  · simp [ha, hb] at h
  · simp [ha, hb] at h
  · rw [if_neg ha, if_neg hb]
theorem mul_ab_neg {a b : Int} (h : (decide (a < 0) != decide (b < 0)) = true) : a * b = -(ab a * ab b) := by
  unfold ab
  by_cases ha : a < 0 <;> by_cases hb : b < 0
  · simp [ha, hb] at h
  · rw [if_pos ha, if_neg hb, Int.neg_mul, Int.neg_neg]
  · rw [if_neg ha, if_pos hb, Int.mul_neg, Int.neg_neg]
  · simp [ha, hb] at h
/-- Products of two that fit, with room. -/
theorem prod_lt {a b : Int} (ha : Fit a) (hb : Fit b) {E : Nat} (hE : E = 1039) : ab a * ab b < 2 ^ E := by
  have h1 := ab_bd ha
  have h2 := ab_bd hb
  have h3 := Int.mul_le_mul h1.2 h2.2 h2.1 (Int.le_trans h1.1 h1.2)
  obtain ⟨c, hc⟩ : ∃ c : Nat, c = 511 := ⟨_, rfl⟩
  rw [M511_pow hc, ← Int.pow_add] at h3
  have h4 : (2 : Int) ^ E = 2 ^ (c + c) * 2 ^ (E - (c + c)) := pow_split (by omega)
  have h5 := pow_pos' (c + c)
  have h6 : E - (c + c) = 16 + 1 := by omega
  rw [h6] at h4
  have : (2 : Int) ^ (16 + 1) = 131072 := rfl
  rw [this] at h4
  omega
theorem ab_lt520 {n : Int} (h : Fit n) {E : Nat} (hE : E = 520) : ab n < 2 ^ E := by
  have h1 := ab_bd h
  obtain ⟨c, hc⟩ : ∃ c : Nat, c = 511 := ⟨_, rfl⟩
  rw [M511_pow hc] at h1
  have h4 : (2 : Int) ^ E = 2 ^ c * 2 ^ (E - c) := pow_split (by omega)
  have h5 := pow_pos' c
  have h6 : E - c = 9 := by omega
  rw [h6] at h4
  have : (2 : Int) ^ 9 = 512 := rfl
  rw [this] at h4
  omega
end Go.Proofs.YtbdkbmhejoakiaaDoor
set_option linter.unusedSimpArgs false
set_option linter.unusedVariables false
set_option maxRecDepth 100000
namespace Go.Proofs.YtbdkbmhejoakiaaDoor
open Go Go.RowKit

end Go.Proofs.YtbdkbmhejoakiaaDoor
