/-
  Numbers by their bits (plain); blocks that are told by a function; make([]int, n).
  Package ninepinref01: Long, plus, minus (contracts).
-/
import Derived.Test.YtbdkbmhejoakiaaGreatDoorSl
import Derived.Test.YtbdkbmhejoakiaaGreatDoorMp
import Derived.Laws.MakeOwn
import Derived.WalkKit
import Derived.WalkSmall
import Derived.Lib.Hide
set_option linter.unusedSimpArgs false
set_option linter.unusedVariables false
namespace Go.Proofs.YtbdkbmhejoakiaaGreatDoor
open Go Go.RowKit

/-! ### Blocks of ints -/
def tab (F : Nat → Int) (L : Nat) : List Value := (List.range L).map fun i => .int .i64 (F i)
theorem tab_length (F : Nat → Int) (L : Nat) : (tab F L).length = L := by simp [tab]
theorem tab_get {F : Nat → Int} {L k : Nat} (h : k < L) : (tab F L)[k]? = some (.int .i64 (F k)) := by simp [tab, h]
theorem tab_le {F : Nat → Int} {L k : Nat} (h : k < L) : k + 1 ≤ (tab F L).length := by rw [tab_length]; omega
theorem tab_set {F : Nat → Int} {L k : Nat} {v : Int} (h : k < L) : (tab F L).take k ++ [.int .i64 v] ++ (tab F L).drop (k + 1) = tab (upd F k v) L := by
  apply List.ext_getElem?
  intro i
  rcases Nat.lt_trichotomy i k with hi | rfl | hi
  · rw [List.append_assoc, List.getElem?_append_left (by simp [tab]; omega), List.getElem?_take_of_lt hi, tab_get (by omega), tab_get (by omega), upd_ne _ _ (by omega)]
  · rw [List.append_assoc, List.getElem?_append_right (by simp [tab]; omega)]
    have : i - (List.take i (tab F L)).length = 0 := by simp [tab]; omega
    rw [this, tab_get h, upd_same]
    rfl
  · rw [List.getElem?_append_right (by simp [tab]; omega)]
    have : i - (List.take k (tab F L) ++ [Value.int .i64 v]).length = i - (k + 1) := by simp [tab]; omega
    rw [this, List.getElem?_drop, show k + 1 + (i - (k + 1)) = i by omega]
    by_cases h2 : i < L
    · rw [tab_get h2, tab_get h2, upd_ne _ _ (by omega)]
    · rw [List.getElem?_eq_none (by rw [tab_length]; omega), List.getElem?_eq_none (by rw [tab_length]; omega)]
theorem tab_congr {F G : Nat → Int} {L : Nat} (h : ∀ j, j < L → F j = G j) : tab F L = tab G L := by
  unfold tab
  exact List.map_congr_left fun i hi => by rw [h i (List.mem_range.1 hi)]
theorem made_tab (n : Nat) : madeCells (Value.int .i64 0).cells (n * 1) = (tab (fun _ => 0) n).toArray := by
  apply Array.ext'
  unfold madeCells tab
  simp [Value.cells]
  intro a _
  rw [Nat.mod_one]
  rfl
theorem sx_makeSlice {P : Program} {X : List Nat} {w0 w : World} {H : List Bk} {ops : Array Oper} {Q : Exit → Act → World → Prop} {a : Act} {rest : List Oper} {d : Tmp} {tp t e : TypeId} {pos : String} {af : Array Edge} {x y : Operand} {n bytes : Nat}
    (hp : Hp X w0 H w) (ht : SliTy P t e) (he : ElemTy P e (.int .i64 0) 1 bytes) (hx : a.eval x = .int .i64 n) (hy : a.eval y = .int .i64 n) (hb : bytes * n ≤ 281474976710656) (h63 : n ≤ 9223372036854775807)
    (hk : ∀ g w1, Hp X w0 (⟨g, e, tab (fun _ => 0) n⟩ :: H) w1 → wpList P ops Q rest (a.put (some d) (.slice (some ⟨g, 0, none⟩) n n)) w1) : wpList P ops Q (⟨some d, .makeSlice t x y, tp, pos, af, none⟩ :: rest) a w := by
  obtain ⟨i, hi, hi'⟩ : ∃ i, P.info? e = some i ∧ (i.zero, i.size, i.bytes) = (some (.int .i64 0), 1, bytes) := by
    have := he.info
    cases h : P.info? e with
    | none => rw [h] at this; cases this
    | some i => rw [h] at this; exact ⟨i, rfl, by simpa using this⟩
  simp only [Prod.mk.injEq] at hi'
  obtain ⟨hiz, his, hib⟩ := hi'
  have hb1 : ((bytes * n : Nat) : Int) ≤ 281474976710656 := by omega
  rw [Int.natCast_mul] at hb1
  have hr := run_make (P := P) w t e i (.int .i64 0) ht.und hi hiz .i64 .i64 n n (by omega) (by omega) (by rw [hib]; exact hb1) (by omega)
  rw [his, Int.toNat_natCast, made_tab] at hr
  refine wpList_plain rfl fun K hK => ?_
  unfold Oper.wp
  simp only [execOp, hx, hy, Sem.run_bind, hr, Result.andThen_ok]
  exact hK _ _ (hk _ _ (hp.alloc e _))

/-- An operation without memory that alone may come up. -/
theorem sd_lpure {P : Program} {ops : Array Oper} {Q : Exit → Act → World → Prop} {N : List Nat} {X : List Nat} {w0 w : World} {H : List Bk} {a : Act} {i : Nat} {rest : Sc} {o : Oper} {v : Value} (hp : Hp X w0 H w) (hw : Region.wanted o (yielded ops a.tmps) = true) (hv : ∀ w, (execOp a.eval o).run P w = .ok (.value v) w)
    (hk : wpSched P ops Q (Hp X w0 H) N rest (a.put o.dst v) w) : wpL P ops Q (Hp X w0 H) N i rest o a w := by
  refine sd_loud hw ?_
  unfold Oper.wp
  simp only [hv, Oper.upon]
  exact ⟨fun _ => hp, hk⟩

/-- A call that is known of this world alone. -/
theorem sd_callM {P : Program} {ops : Array Oper} {Q : Exit → Act → World → Prop} {N : List Nat} {X : List Nat} {w0 w : World} {H Hq : List Bk} {a : Act} {i : Nat} {rest : Sc} {d : Tmp} {tp : TypeId} {pos : String} {af : Array Edge} {gd : Option (Nat × Bool)} {c : Call} {f : FuncId} {args : Array Value} {v : Value} (hp : Hp X w0 H w) (hw : Region.wanted ⟨some d, .call c, tp, pos, af, gd⟩ (yielded ops a.tmps) = true)
    (he : ∀ w, (execOp a.eval ⟨some d, .call c, tp, pos, af, gd⟩).run P w = .ok (.enter f args) w) (hc : Calls P f args w (Ret v w)) (hq : Hp X w0 Hq w)
    (hk : ∀ w1, Hp X w0 H w1 → Hp X w0 Hq w1 → wpSched P ops Q (Hp X w0 H) N rest (a.put (some d) v) w1) : wpL P ops Q (Hp X w0 H) N i rest ⟨some d, .call c, tp, pos, af, gd⟩ a w := by
  refine sd_loud hw ?_
  unfold Oper.wp
  simp only [he, Oper.upon]
  exact hc.mono fun e w1 ⟨he, hw1⟩ => by subst he; exact ⟨fun _ => hp.call hw1, hk w1 (hp.call hw1) (hq.call hw1)⟩

/-! ### Bits -/
/-- Bit i of n, in two's complement. -/
def bt (n : Int) (i : Nat) : Int := n / 2 ^ i % 2
theorem bt_bd (n : Int) (i : Nat) : 0 ≤ bt n i ∧ bt n i ≤ 1 := by unfold bt; omega
/-- What is carried into bit k. -/
def cb (a b c : Int) (k : Nat) : Int := (a % 2 ^ k + b % 2 ^ k + c) / 2 ^ k
theorem cb_zero {a b c : Int} : cb a b c 0 = c := by simp [cb, Int.emod_one]
theorem cb_bd (a b c : Int) (k : Nat) (h0 : 0 ≤ c) (h1 : c ≤ 1) : 0 ≤ cb a b c k ∧ cb a b c k ≤ 1 := by
  unfold cb
  have hp := pow_pos' k
  have ha := Int.emod_nonneg a (by omega : (2 : Int) ^ k ≠ 0)
  have hb := Int.emod_nonneg b (by omega : (2 : Int) ^ k ≠ 0)
  have ha' := Int.emod_lt_of_pos a hp
  have hb' := Int.emod_lt_of_pos b hp
  refine ⟨Int.ediv_nonneg (by omega) (by omega), ?_⟩
  have : (a % 2 ^ k + b % 2 ^ k + c) / 2 ^ k < 2 := by
    rw [Int.ediv_lt_iff_lt_mul hp]; omega
  omega
theorem sum_bt (a b c : Int) (k : Nat) : (bt a k + bt b k + cb a b c k) % 2 = bt (a + b + c) k := by
  have hp := pow_pos' k
  have ha : a = 2 ^ k * (a / 2 ^ k) + a % 2 ^ k := (Int.mul_ediv_add_emod _ _).symm
  have hb : b = 2 ^ k * (b / 2 ^ k) + b % 2 ^ k := (Int.mul_ediv_add_emod _ _).symm
  have hs : a + b + c = (a % 2 ^ k + b % 2 ^ k + c) + 2 ^ k * (a / 2 ^ k + b / 2 ^ k) := by
    rw [Int.mul_add]; omega
  have hd : (a + b + c) / 2 ^ k = cb a b c k + (a / 2 ^ k + b / 2 ^ k) := by
    rw [hs, Int.add_mul_ediv_left _ _ (by omega)]; rfl
  unfold bt
  rw [hd]
  omega
theorem cb_succ (a b c : Int) (k : Nat) : (bt a k + bt b k + cb a b c k) / 2 = cb a b c (k + 1) := by
  have hp := pow_pos' k
  have e : cb a b c (k + 1) = (a % (2 ^ k * 2) + b % (2 ^ k * 2) + c) / (2 ^ k * 2) := by
    unfold cb; rw [Int.pow_succ]
  rw [e, emod_split a _ _ hp (by omega), emod_split b _ _ hp (by omega), ← Int.ediv_ediv_of_nonneg (by omega)]
  have : (2 ^ k * (a / 2 ^ k % 2) + a % 2 ^ k + (2 ^ k * (b / 2 ^ k % 2) + b % 2 ^ k) + c) = (a % 2 ^ k + b % 2 ^ k + c) + 2 ^ k * (bt a k + bt b k) := by
    unfold bt; rw [Int.mul_add]; omega
  rw [this, Int.add_mul_ediv_left _ _ (by omega)]
  show _ = (cb a b c k + _) / _
  congr 1
  omega
theorem bt_not (a : Int) (k : Nat) : bt (-a - 1) k = 1 - bt a k := by
  have hp := pow_pos' k
  have hd : (-a - 1) / 2 ^ k = - (a / 2 ^ k) - 1 := by
    have ha : a = 2 ^ k * (a / 2 ^ k) + a % 2 ^ k := (Int.mul_ediv_add_emod _ _).symm
    have h0 := Int.emod_nonneg a (by omega : (2 : Int) ^ k ≠ 0)
    have h1 := Int.emod_lt_of_pos a hp
    have hs : -a - 1 = (2 ^ k - 1 - a % 2 ^ k) + 2 ^ k * (- (a / 2 ^ k) - 1) := by
      rw [Int.mul_sub, Int.mul_neg]; omega
    rw [hs, Int.add_mul_ediv_left _ _ (by omega), Int.ediv_eq_zero_of_lt (by omega) (by omega)]
    omega
  unfold bt
  rw [hd]
  omega
theorem bt_zero (k : Nat) : bt 0 k = 0 := by simp [bt]
/-- The bits of a limb. -/
theorem bt_limb (n : Int) (i : Nat) : lb n (i / 64) / 2 ^ (i % 64) % 2 = bt n i := by
  unfold lb bt
  have e : (18446744073709551616 : Int) = 2 ^ (i % 64) * (2 * 2 ^ (63 - i % 64)) := by
    rw [show (2 : Int) * 2 ^ (63 - i % 64) = 2 ^ (64 - i % 64) by rw [← Int.pow_succ', show 63 - i % 64 + 1 = 64 - i % 64 by omega], ← Int.pow_add, show i % 64 + (64 - i % 64) = 64 by omega]
    rfl
  have hp := pow_pos' (i % 64)
  have hp2 := pow_pos' (63 - i % 64)
  generalize hx : n / 2 ^ (64 * (i / 64)) = x
  have h1 : n / 2 ^ i = x / 2 ^ (i % 64) := by
    rw [← hx, Int.ediv_ediv_of_nonneg (Int.le_of_lt (pow_pos' _)), ← Int.pow_add, show 64 * (i / 64) + i % 64 = i by omega]
  rw [h1, e]
  generalize (2 : Int) ^ (i % 64) = p at *
  generalize (2 : Int) ^ (63 - i % 64) = q at *
  rw [emod_split x p (2 * q) hp (by omega), Int.add_comm, Int.add_mul_ediv_left _ _ (by omega)]
  rw [Int.ediv_eq_zero_of_lt (Int.emod_nonneg _ (by omega)) (Int.emod_lt_of_pos _ hp), Int.zero_add]
  generalize x / p = y
  have := Int.emod_emod_of_dvd y (show (2 : Int) ∣ 2 * q from ⟨q, rfl⟩)
  exact this
end Go.Proofs.YtbdkbmhejoakiaaGreatDoor
set_option linter.unusedSimpArgs false
set_option linter.unusedVariables false
set_option maxRecDepth 100000
namespace Go.Proofs.YtbdkbmhejoakiaaGreatDoor
open Go Go.RowKit

/-- A slice that holds L bits of x. -/
def BSl (w : World) (v : Value) (x : Int) (L : Nat) : Prop := ∃ g off cap bc t z, v = .slice (some ⟨g, off, none⟩) L cap ∧ w.heap[g]? = some (.cells (bc : List Value).toArray t z) ∧ ∀ k, k < L → bc[off + k * 1]? = some (.int .i64 (bt x k))
theorem BSl.of {w : World} {g cap L : Nat} {t : TypeId} {x : Int} (h : w.heap[g]? = some (.cells (tab (bt x) L).toArray t (0, 0))) : BSl w (.slice (some ⟨g, 0, none⟩) L cap) x L :=
  ⟨g, 0, cap, _, t, _, rfl, h, fun k hk => by rw [Nat.zero_add, Nat.mul_one]; exact tab_get hk⟩
theorem M511_le {i : Nat} (hi : 511 ≤ i) : M511 ≤ 2 ^ i := by
  have h1 : (2 : Int) ^ i = 2 ^ (64 * 7) * 2 ^ (i - 448) := by rw [← Int.pow_add, show 64 * 7 + (i - 448) = i by omega]
  have h2 : (9223372036854775808 : Int) ≤ 2 ^ (i - 448) := by
    have h3 := Nat.pow_le_pow_right (n := 2) (by omega) (show 63 ≤ i - 448 by omega)
    have h4 : ((2 ^ 63 : Nat) : Int) ≤ ((2 ^ (i - 448) : Nat) : Int) := Int.ofNat_le.2 h3
    rw [Int.natCast_pow, Int.natCast_pow] at h4
    exact h4
  rw [h1, pow448]
  unfold M511
  omega
/-- Behind the sign's bit all are as it is. -/
theorem bt_sign {n : Int} (h : Fit n) {i : Nat} (hi : 511 ≤ i) : bt n i = if n < 0 then 1 else 0 := by
  unfold Fit at h
  have hp := M511_le hi
  have hq := pow_pos' i
  unfold bt
  split
  · have : n / 2 ^ i = -1 := by
      have h1 : n = 2 ^ i * (-1) + (n + 2 ^ i) := by omega
      rw [h1, Int.add_comm, Int.add_mul_ediv_left _ _ (by omega), Int.ediv_eq_zero_of_lt (by omega) (by omega)]
      omega
    rw [this]; rfl
  · rw [Int.ediv_eq_zero_of_lt (by omega) (by omega)]; rfl
theorem run_min2 {P : Program} (ts : Array TypeId) (t : TypeId) (k : Nat) : ∃ m : Nat, (∀ w, (Builtin.min_ ts t #[.int .i64 k, .int .i64 511]).run P w = .ok (.int .i64 m) w) ∧ m < 512 ∧ (k < 512 → m = k) ∧ (512 ≤ k → m = 511) := by
  by_cases h : k < 511
  · refine ⟨k, fun w => ?_, by omega, fun _ => rfl, fun _ => by omega⟩
    simp [Builtin.min_, Builtin.min2]; omega
  · refine ⟨511, fun w => ?_, by omega, fun _ => by omega, fun _ => rfl⟩
    simp [Builtin.min_, Builtin.min2]; omega
theorem tab_step {G : Nat → Int} {k L : Nat} {V : Int} (hV : V = G k) : tab (upd (fun j => if j < k then G j else 0) (k * 1) V) L = tab (fun j => if j < k + 1 then G j else 0) L := by
  refine tab_congr fun j _ => ?_
  rw [Nat.mul_one]
  by_cases h : j = k
  · subst h
    rw [upd_same, hV, if_pos (by omega)]
  · rw [upd_ne _ _ h]
    by_cases h2 : j < k
    · rw [if_pos h2, if_pos (by omega)]
    · rw [if_neg h2, if_neg (by omega)]
theorem tab_done {G : Nat → Int} {L : Nat} : tab (fun j => if j < L then G j else 0) L = tab G L := tab_congr fun j hj => if_pos hj
theorem tab_none {G : Nat → Int} {L : Nat} : tab (fun _ => 0) L = tab (fun j => if j < 0 then G j else 0) L := tab_congr fun j hj => (if_neg (by omega)).symm
theorem long_bit {n : Int} (hn : Fit n) {k m : Nat} (h1 : k < 512 → m = k) (h2 : 512 ≤ k → m = 511) : RowKit.wrap64 ((lb n (m / 64) / 2 ^ (m % 64)).tmod 2) = bt n k := by
  have h0 : 0 ≤ lb n (m / 64) / 2 ^ (m % 64) := Int.ediv_nonneg (lb_nonneg _ _) (Int.le_of_lt (pow_pos' _))
  rw [Int.tmod_eq_emod_of_nonneg h0, bt_limb]
  have hb := bt_bd n m
  rw [IntWalk.wrap64_in _ (by omega)]
  by_cases h : k < 512
  · rw [h1 h]
  · rw [h2 (by omega), bt_sign hn (by omega), bt_sign hn (by omega)]
set_option maxHeartbeats 4000000 in
theorem long_any (n : Int) (hn : Fit n) (L : Nat) (hL : L ≤ 4096) (w : World) : Calls Tryz.prog 73 #[W n, .int .i64 L] w (RetN (fun g => .slice (some ⟨g, 0, none⟩) L L) 3 (tab (bt n) L) w) := by
  have Hn := Lib.hid hn
  clear hn
  go_enter Tryz.func73, Tryz.ntmps73
  have hp := Hp.start [] w
  go_wp2_with (first
          | ((with_reducible apply sx_box hp); exact za rfl; exact rfl; clear hp; (try clear w1); intro g w1 hp; simp only [zp, zq, z0, z1])
          | ((with_reducible apply sx_load_one hp); exact zt rfl; infer_instance; infer_instance; (first | exact zio rfl | exact LB_get (by omega)); simp only [zp, zq, z0, z1])
          | ((with_reducible apply sx_store hp); exact zt rfl; exact zi rfl; exact rfl; (first | exact AggTy.size | exact OneTy.size); exact rfl; infer_instance; (first | (with_reducible exact LB_set (by omega)) | (simp only [n0, Nat.reduceAdd, n1, n2, n3, n4, n5, n6, n7, n8, n9]; try rfl)); (first | exact zl rfl | exact LB_le (by omega)); exact rfl; infer_instance; clear hp; (try clear w1); intro w1 hp)
          | ((with_reducible apply sx_indexAddr); exact zx rfl; exact zk rfl; infer_instance; (first | exact AggTy.size | exact OneTy.size); omega; omega; ((try simp only [m0, Int.reduceToNat, m1, m2, Nat.reduceMul, Nat.reduceAdd, m3, m4, m5, n0]); exact rfl); simp only [zp, zq, z0, z1])
          | ((with_reducible apply sx_load_far1 hp); exact zt rfl; assumption; infer_instance; (first | assumption | (first | exact zio rfl | exact LB_get (by omega))); simp only [zp, zq, z0, z1])
          | ((with_reducible apply sx_makeSlice hp); infer_instance; infer_instance; exact zk rfl; exact zk rfl; omega; omega; clear hp; (try clear w1); intro g w1 hp; simp only [zp, zq, z0, z1]))
  rename_i g2 K hK
  obtain ⟨gl, rfl⟩ : ∃ x : Nat, x = g := ⟨_, rfl⟩
  go_loopw [6] (fun i wr => ∃ k : Nat, k ≤ L ∧ i = .int .i64 k ∧ Hp [] w [⟨gl, 3, tab (fun j => if j < k then bt n j else 0) L⟩, ⟨g2, 30, LB (lb n)⟩] wr) (fun i _ => L - (intOf i).toNat)
  case atStart => exact ⟨0, by omega, rfl, by rw [← tab_none]; exact hp⟩
  case round =>
    clear hp
    obtain ⟨k, hk, rfl, hp⟩ := hrel
    by_cases hk1 : k < L
    · have hk2 : (k : Int) < L := by omega
      obtain ⟨m, hmin, hm, hm1, hm2⟩ := run_min2 (P := Tryz.prog) #[3, 3] 3 k
      have HM1 := Lib.hid hm1
      have HM2 := Lib.hid hm2
      clear hm1 hm2
      go_wp2_with (first
          | ((with_reducible apply sx_box hp); exact za rfl; exact rfl; clear hp; (try clear w1); intro g w1 hp; simp only [zp, zq, z0, z1])
          | ((with_reducible apply sx_load_one hp); exact zt rfl; infer_instance; infer_instance; (first | exact zio rfl | exact LB_get (by omega) | exact tab_get (by omega)); simp only [zp, zq, z0, z1])
          | ((with_reducible apply sx_store hp); exact zt rfl; exact zi rfl; exact rfl; (first | exact AggTy.size | exact OneTy.size); exact rfl; infer_instance; (first | (with_reducible exact LB_set (by omega)) | (with_reducible exact tab_set (by omega)) | (simp only [n0, Nat.reduceAdd, n1, n2, n3, n4, n5, n6, n7, n8, n9]; try rfl)); (first | exact zl rfl | exact LB_le (by omega) | exact tab_le (by omega)); exact rfl; infer_instance; clear hp; (try clear w1); intro w1 hp)
          | ((with_reducible apply sx_indexAddr); exact zx rfl; exact zk rfl; infer_instance; (first | exact AggTy.size | exact OneTy.size); omega; omega; ((try simp only [m0, Int.reduceToNat, m1, m2, Nat.reduceMul, Nat.reduceAdd, m3, m4, m5, n0]); exact rfl); simp only [zp, zq, z0, z1])
          | ((with_reducible apply sx_load_far1 hp); exact zt rfl; assumption; infer_instance; (first | assumption | (first | exact zio rfl | exact LB_get (by omega) | exact tab_get (by omega))); simp only [zp, zq, z0, z1]))
      go_roundw
      case rel =>
        refine ⟨k + 1, by omega, by go_num, ?_⟩
        rw [← tab_step (V := _) (long_bit Hn.out HM1.out HM2.out)]
        exact hp
      case measure => simp [intOf]; omega
    · obtain rfl : k = L := by omega
      go_wp2_with (first
          | ((with_reducible apply sx_box hp); exact za rfl; exact rfl; clear hp; (try clear w1); intro g w1 hp; simp only [zp, zq, z0, z1])
          | ((with_reducible apply sx_load_one hp); exact zt rfl; infer_instance; infer_instance; (first | exact zio rfl | exact LB_get (by omega) | exact tab_get (by omega)); simp only [zp, zq, z0, z1])
          | ((with_reducible apply sx_store hp); exact zt rfl; exact zi rfl; exact rfl; (first | exact AggTy.size | exact OneTy.size); exact rfl; infer_instance; (first | (with_reducible exact LB_set (by omega)) | (with_reducible exact tab_set (by omega)) | (simp only [n0, Nat.reduceAdd, n1, n2, n3, n4, n5, n6, n7, n8, n9]; try rfl)); (first | exact zl rfl | exact LB_le (by omega) | exact tab_le (by omega)); exact rfl; infer_instance; clear hp; (try clear w1); intro w1 hp)
          | ((with_reducible apply sx_indexAddr); exact zx rfl; exact zk rfl; infer_instance; (first | exact AggTy.size | exact OneTy.size); omega; omega; ((try simp only [m0, Int.reduceToNat, m1, m2, Nat.reduceMul, Nat.reduceAdd, m3, m4, m5, n0]); exact rfl); simp only [zp, zq, z0, z1])
          | ((with_reducible apply sx_load_far1 hp); exact zt rfl; assumption; infer_instance; (first | assumption | (first | exact zio rfl | exact LB_get (by omega) | exact tab_get (by omega))); simp only [zp, zq, z0, z1]))
      rw [tab_done] at hp
      exact bodyPost_ret (results_one rfl rfl) rfl ⟨gl, rfl, hp.keep, hp.fresh, hp.blk⟩
set_option maxHeartbeats 4000000 in
theorem rplus_any (x y : Int) (L : Nat) (hL : L ≤ 4096) (v1 v2 : Value) (w : World) (h1 : BSl w v1 x L) (h2 : BSl w v2 y L) : Calls Tryz.prog 80 #[v1, v2] w (RetN (fun g => .slice (some ⟨g, 0, none⟩) L L) 3 (tab (bt (x + y)) L) w) := by
  obtain ⟨ga, oa, ca, bca, ta, qa, rfl, hba, hga⟩ := h1
  obtain ⟨gb, ob, cb', bcb, tb, qb, rfl, hbb, hgb⟩ := h2
  have HGA := Lib.hid hga
  have HGB := Lib.hid hgb
  clear hga hgb
  go_enter Tryz.func80, Tryz.ntmps80
  have hp := Hp.start [] w
  go_wp2_with (first
          | ((with_reducible apply sx_load_one hp); exact zt rfl; infer_instance; infer_instance; (first | exact zio rfl | exact LB_get (by omega)); simp only [zp, zq, z0, z1])
          | ((with_reducible apply sx_store hp); exact zt rfl; exact zi rfl; exact rfl; (first | exact AggTy.size | exact OneTy.size); exact rfl; infer_instance; (first | (with_reducible exact LB_set (by omega)) | (simp only [n0, Nat.reduceAdd, n1, n2, n3, n4, n5, n6, n7, n8, n9]; try rfl)); (first | exact zl rfl | exact LB_le (by omega)); exact rfl; infer_instance; clear hp; (try clear w1); intro w1 hp)
          | ((with_reducible apply sx_indexAddr); exact zx rfl; exact zk rfl; infer_instance; (first | exact AggTy.size | exact OneTy.size); omega; omega; ((try simp only [m0, Int.reduceToNat, m1, m2, Nat.reduceMul, Nat.reduceAdd, m3, m4, m5, n0]); exact rfl); simp only [zp, zq, z0, z1])
          | ((with_reducible apply sx_load_far1 hp); exact zt rfl; assumption; infer_instance; (first | assumption | (first | exact zio rfl | exact LB_get (by omega))); simp only [zp, zq, z0, z1])
          | ((with_reducible apply sx_makeSlice hp); infer_instance; infer_instance; exact zk rfl; exact zk rfl; omega; omega; clear hp; (try clear w1); intro g w1 hp; simp only [zp, zq, z0, z1]))
  obtain ⟨gl, rfl⟩ : ∃ x : Nat, x = g := ⟨_, rfl⟩
  go_loopw [6, 7] (fun c i wr => ∃ (k : Nat) (cc : Int), k ≤ L ∧ i = .int .i64 k ∧ c = .int .i64 cc ∧ cc = cb x y 0 k ∧ Hp [] w [⟨gl, 3, tab (fun j => if j < k then bt (x + y) j else 0) L⟩] wr) (fun _ i _ => L - (intOf i).toNat)
  case atStart => exact ⟨0, 0, by omega, rfl, rfl, cb_zero.symm, by rw [← tab_none]; exact hp⟩
  case round =>
    clear hp
    obtain ⟨k, cc, hk, rfl, rfl, hcc, hp⟩ := hrel
    by_cases hk1 : k < L
    · have hk2 : (k : Int) < L := by omega
      have ha := HGA.out k hk1
      have hb := HGB.out k hk1
      have hc := cb_bd x y 0 k (by omega) (by omega)
      have hx := bt_bd x k
      have hy := bt_bd y k
      have hs := sum_bt x y 0 k
      have hn := cb_succ x y 0 k
      rw [← hcc] at hc hs hn
      rw [Int.add_zero] at hs
      generalize bt x k = a at *
      generalize bt y k = b at *
      obtain ⟨hc0, hc1⟩ := hc
      obtain ⟨hx0, hx1⟩ := hx
      obtain ⟨hy0, hy1⟩ := hy
      have HS := Lib.hid hs
      have HN := Lib.hid hn
      clear hs hn hcc
      go_wp2_with (first
          | ((with_reducible apply sx_load_one hp); exact zt rfl; infer_instance; infer_instance; (first | exact zio rfl | exact LB_get (by omega) | assumption | exact tab_get (by omega)); simp only [zp, zq, z0, z1])
          | ((with_reducible apply sx_store hp); exact zt rfl; exact zi rfl; exact rfl; (first | exact AggTy.size | exact OneTy.size); exact rfl; infer_instance; (first | (with_reducible exact LB_set (by omega)) | (with_reducible exact tab_set (by omega)) | (simp only [n0, Nat.reduceAdd, n1, n2, n3, n4, n5, n6, n7, n8, n9]; try rfl)); (first | exact zl rfl | exact LB_le (by omega) | exact tab_le (by omega)); exact rfl; infer_instance; clear hp; (try clear w1); intro w1 hp)
          | ((with_reducible apply sx_indexAddr); exact zx rfl; exact zk rfl; infer_instance; (first | exact AggTy.size | exact OneTy.size); omega; omega; ((try simp only [m0, Int.reduceToNat, m1, m2, Nat.reduceMul, Nat.reduceAdd, m3, m4, m5, n0]); exact rfl); simp only [zp, zq, z0, z1])
          | ((with_reducible apply sx_load_far1 hp); exact zt rfl; assumption; infer_instance; (first | assumption | (first | exact zio rfl | exact LB_get (by omega) | assumption | exact tab_get (by omega))); simp only [zp, zq, z0, z1]))
      have hq := hp
      refine wp_drawn_hp hp hq [] (.q 0 (.q 1 (.q 2 (.q 3 (.q 4 (.q 5 (.q 6 (.q 7 (.q 8 (.q 9 (.q 10 (.q 11 .nil)))))))))))) (by kernel_rfl) (by kernel_rfl) ?_
      clear hp hq; (try clear w1); intro w1 hp hq
      repeat' (first
        | (((with_reducible apply sd_q); exact zo rfl); (first
            | ((with_reducible apply sd_load_one hp); exact rfl; exact zt rfl; infer_instance; infer_instance; (first | exact zio rfl | exact LB_get (by omega) | assumption); simp only [zp, zq, z0, z1])
            | ((with_reducible apply sd_load_far1 hp); exact rfl; exact zt rfl; assumption; infer_instance; (first | assumption | (first | exact zio rfl | exact LB_get (by omega) | assumption)); simp only [zp, zq, z0, z1])
            | ((with_reducible apply sd_move hp); (first | exact zi rfl | exact zs rfl); simp only [zp, zq, z0, z1])
            | ((with_reducible apply sd_assign hp); exact zi rfl; simp only [zp, zq, z0, z1])
            | ((with_reducible apply sd_indexAddr hp); exact rfl; exact zx rfl; exact zk rfl; infer_instance; (first | exact AggTy.size | exact OneTy.size); omega; omega; ((try simp only [m0, Int.reduceToNat, m1, m2, Nat.reduceMul, Nat.reduceAdd, m3, m4, m5, n0]); exact rfl); simp only [zp, zq, z0, z1])
            | ((with_reducible apply sd_pure hp); exact rfl; (focus (intro _; go_simp; (try go_ints); try with_reducible rfl)); simp only [zp, zq, z0, z1])))
        | ((with_reducible apply sd_nil); clear hp; have hp := hq; clear hq))
      go_wp2_with (first
          | ((with_reducible apply sx_load_one hp); exact zt rfl; infer_instance; infer_instance; (first | exact zio rfl | exact LB_get (by omega) | assumption | exact tab_get (by omega)); simp only [zp, zq, z0, z1])
          | ((with_reducible apply sx_store hp); exact zt rfl; exact zi rfl; exact rfl; (first | exact AggTy.size | exact OneTy.size); exact rfl; infer_instance; (first | (with_reducible exact LB_set (by omega)) | (with_reducible exact tab_set (by omega)) | (simp only [n0, Nat.reduceAdd, n1, n2, n3, n4, n5, n6, n7, n8, n9]; try rfl)); (first | exact zl rfl | exact LB_le (by omega) | exact tab_le (by omega)); exact rfl; infer_instance; clear hp; (try clear w1); intro w1 hp)
          | ((with_reducible apply sx_indexAddr); exact zx rfl; exact zk rfl; infer_instance; (first | exact AggTy.size | exact OneTy.size); omega; omega; ((try simp only [m0, Int.reduceToNat, m1, m2, Nat.reduceMul, Nat.reduceAdd, m3, m4, m5, n0]); exact rfl); simp only [zp, zq, z0, z1])
          | ((with_reducible apply sx_load_far1 hp); exact zt rfl; assumption; infer_instance; (first | assumption | (first | exact zio rfl | exact LB_get (by omega) | assumption | exact tab_get (by omega))); simp only [zp, zq, z0, z1]))
      go_roundw
      case rel =>
        refine ⟨k + 1, _, by omega, by go_num, rfl, HN.out, ?_⟩
        rw [← tab_step HS.out]
        exact hp
      case measure => simp [intOf]; omega
    · obtain rfl : k = L := by omega
      go_wp2_with (first
          | ((with_reducible apply sx_load_one hp); exact zt rfl; infer_instance; infer_instance; (first | exact zio rfl | exact LB_get (by omega) | exact tab_get (by omega)); simp only [zp, zq, z0, z1])
          | ((with_reducible apply sx_store hp); exact zt rfl; exact zi rfl; exact rfl; (first | exact AggTy.size | exact OneTy.size); exact rfl; infer_instance; (first | (with_reducible exact LB_set (by omega)) | (with_reducible exact tab_set (by omega)) | (simp only [n0, Nat.reduceAdd, n1, n2, n3, n4, n5, n6, n7, n8, n9]; try rfl)); (first | exact zl rfl | exact LB_le (by omega) | exact tab_le (by omega)); exact rfl; infer_instance; clear hp; (try clear w1); intro w1 hp)
          | ((with_reducible apply sx_indexAddr); exact zx rfl; exact zk rfl; infer_instance; (first | exact AggTy.size | exact OneTy.size); omega; omega; ((try simp only [m0, Int.reduceToNat, m1, m2, Nat.reduceMul, Nat.reduceAdd, m3, m4, m5, n0]); exact rfl); simp only [zp, zq, z0, z1])
          | ((with_reducible apply sx_load_far1 hp); exact zt rfl; assumption; infer_instance; (first | assumption | (first | exact zio rfl | exact LB_get (by omega) | exact tab_get (by omega))); simp only [zp, zq, z0, z1]))
      rw [tab_done] at hp
      exact bodyPost_ret (results_one rfl rfl) rfl ⟨gl, rfl, hp.keep, hp.fresh, hp.blk⟩
set_option maxHeartbeats 4000000 in
theorem rminus_any (x : Int) (L : Nat) (hL : L ≤ 4096) (v1 : Value) (w : World) (h1 : BSl w v1 x L) : Calls Tryz.prog 62 #[v1] w (RetN (fun g => .slice (some ⟨g, 0, none⟩) L L) 3 (tab (bt (-x)) L) w) := by
  obtain ⟨ga, oa, ca, bca, ta, qa, rfl, hba, hga⟩ := h1
  have HGA := Lib.hid hga
  clear hga
  go_enter Tryz.func62, Tryz.ntmps62
  have hp := Hp.start [] w
  go_wp2_with (first
          | ((with_reducible apply sx_load_one hp); exact zt rfl; infer_instance; infer_instance; (first | exact zio rfl | exact LB_get (by omega)); simp only [zp, zq, z0, z1])
          | ((with_reducible apply sx_store hp); exact zt rfl; exact zi rfl; exact rfl; (first | exact AggTy.size | exact OneTy.size); exact rfl; infer_instance; (first | (with_reducible exact LB_set (by omega)) | (simp only [n0, Nat.reduceAdd, n1, n2, n3, n4, n5, n6, n7, n8, n9]; try rfl)); (first | exact zl rfl | exact LB_le (by omega)); exact rfl; infer_instance; clear hp; (try clear w1); intro w1 hp)
          | ((with_reducible apply sx_indexAddr); exact zx rfl; exact zk rfl; infer_instance; (first | exact AggTy.size | exact OneTy.size); omega; omega; ((try simp only [m0, Int.reduceToNat, m1, m2, Nat.reduceMul, Nat.reduceAdd, m3, m4, m5, n0]); exact rfl); simp only [zp, zq, z0, z1])
          | ((with_reducible apply sx_load_far1 hp); exact zt rfl; assumption; infer_instance; (first | assumption | (first | exact zio rfl | exact LB_get (by omega))); simp only [zp, zq, z0, z1])
          | ((with_reducible apply sx_makeSlice hp); infer_instance; infer_instance; exact zk rfl; exact zk rfl; omega; omega; clear hp; (try clear w1); intro g w1 hp; simp only [zp, zq, z0, z1]))
  obtain ⟨gl, rfl⟩ : ∃ x : Nat, x = g := ⟨_, rfl⟩
  go_loopw [4, 5] (fun c i wr => ∃ (k : Nat) (cc : Int), k ≤ L ∧ i = .int .i64 k ∧ c = .int .i64 cc ∧ cc = cb (-x - 1) 0 1 k ∧ Hp [] w [⟨gl, 3, tab (fun j => if j < k then bt (-x) j else 0) L⟩] wr) (fun _ i _ => L - (intOf i).toNat)
  case atStart => exact ⟨0, 1, by omega, rfl, rfl, cb_zero.symm, by rw [← tab_none]; exact hp⟩
  case round =>
    clear hp
    obtain ⟨k, cc, hk, rfl, rfl, hcc, hp⟩ := hrel
    by_cases hk1 : k < L
    · have hk2 : (k : Int) < L := by omega
      have ha := HGA.out k hk1
      have hc := cb_bd (-x - 1) 0 1 k (by omega) (by omega)
      have hx := bt_bd x k
      have hs := sum_bt (-x - 1) 0 1 k
      have hn := cb_succ (-x - 1) 0 1 k
      rw [← hcc] at hc hs hn
      rw [bt_not, bt_zero, Int.add_zero] at hs hn
      rw [show -x - 1 + 0 + 1 = -x by omega] at hs
      generalize bt x k = a at *
      obtain ⟨hc0, hc1⟩ := hc
      obtain ⟨hx0, hx1⟩ := hx
      have HS := Lib.hid hs
      have HN := Lib.hid hn
      clear hs hn hcc
      go_wp2_with (first
          | ((with_reducible apply sx_load_one hp); exact zt rfl; infer_instance; infer_instance; (first | exact zio rfl | exact LB_get (by omega) | assumption | exact tab_get (by omega)); simp only [zp, zq, z0, z1])
          | ((with_reducible apply sx_store hp); exact zt rfl; exact zi rfl; exact rfl; (first | exact AggTy.size | exact OneTy.size); exact rfl; infer_instance; (first | (with_reducible exact LB_set (by omega)) | (with_reducible exact tab_set (by omega)) | (simp only [n0, Nat.reduceAdd, n1, n2, n3, n4, n5, n6, n7, n8, n9]; try rfl)); (first | exact zl rfl | exact LB_le (by omega) | exact tab_le (by omega)); exact rfl; infer_instance; clear hp; (try clear w1); intro w1 hp)
          | ((with_reducible apply sx_indexAddr); exact zx rfl; exact zk rfl; infer_instance; (first | exact AggTy.size | exact OneTy.size); omega; omega; ((try simp only [m0, Int.reduceToNat, m1, m2, Nat.reduceMul, Nat.reduceAdd, m3, m4, m5, n0]); exact rfl); simp only [zp, zq, z0, z1])
          | ((with_reducible apply sx_load_far1 hp); exact zt rfl; assumption; infer_instance; (first | assumption | (first | exact zio rfl | exact LB_get (by omega) | assumption | exact tab_get (by omega))); simp only [zp, zq, z0, z1]))
      go_roundw
      case rel =>
        refine ⟨k + 1, _, by omega, by go_num, rfl, HN.out, ?_⟩
        rw [← tab_step HS.out]
        exact hp
      case measure => simp [intOf]; omega
    · obtain rfl : k = L := by omega
      go_wp2_with (first
          | ((with_reducible apply sx_load_one hp); exact zt rfl; infer_instance; infer_instance; (first | exact zio rfl | exact LB_get (by omega) | exact tab_get (by omega)); simp only [zp, zq, z0, z1])
          | ((with_reducible apply sx_store hp); exact zt rfl; exact zi rfl; exact rfl; (first | exact AggTy.size | exact OneTy.size); exact rfl; infer_instance; (first | (with_reducible exact LB_set (by omega)) | (with_reducible exact tab_set (by omega)) | (simp only [n0, Nat.reduceAdd, n1, n2, n3, n4, n5, n6, n7, n8, n9]; try rfl)); (first | exact zl rfl | exact LB_le (by omega) | exact tab_le (by omega)); exact rfl; infer_instance; clear hp; (try clear w1); intro w1 hp)
          | ((with_reducible apply sx_indexAddr); exact zx rfl; exact zk rfl; infer_instance; (first | exact AggTy.size | exact OneTy.size); omega; omega; ((try simp only [m0, Int.reduceToNat, m1, m2, Nat.reduceMul, Nat.reduceAdd, m3, m4, m5, n0]); exact rfl); simp only [zp, zq, z0, z1])
          | ((with_reducible apply sx_load_far1 hp); exact zt rfl; assumption; infer_instance; (first | assumption | (first | exact zio rfl | exact LB_get (by omega) | exact tab_get (by omega))); simp only [zp, zq, z0, z1]))
      rw [tab_done] at hp
      exact bodyPost_ret (results_one rfl rfl) rfl ⟨gl, rfl, hp.keep, hp.fresh, hp.blk⟩
end Go.Proofs.YtbdkbmhejoakiaaGreatDoor
