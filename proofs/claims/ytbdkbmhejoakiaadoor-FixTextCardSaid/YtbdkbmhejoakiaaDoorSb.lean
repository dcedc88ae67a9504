/-
  Package ninepinref01: Sqrt (contract).
-/
import Derived.Test.YtbdkbmhejoakiaaDoorSa
import Derived.Test.YtbdkbmhejoakiaaDoorCa
import Derived.Test.YtbdkbmhejoakiaaDoorJc
set_option linter.unusedSimpArgs false
set_option linter.unusedVariables false
set_option maxRecDepth 100000
namespace Go.Proofs.YtbdkbmhejoakiaaDoor
open Go Go.RowKit
attribute [local irreducible] wpList

section
variable {P : Program} {X : List Nat} {w0 w : World} {H Hq : List Bk} {ops : Array Oper} {Q : Exit → Act → World → Prop} {a : Act} {N : List Nat} {i : Nat} {rest : Sc} {d : Tmp} {tp t e : TypeId} {pos : String} {af : Array Edge} {gd : Option (Nat × Bool)}
theorem sd_makeSlice {x y : Operand} {n bytes : Nat} (hq : Hp X w0 Hq w) (hsub : List.Sublist H Hq) (hw : Region.wanted ⟨some d, .makeSlice t x y, tp, pos, af, gd⟩ (yielded ops a.tmps) = true)
    (ht : SliTy P t e) (he : ElemTy P e (.int .i64 0) 1 bytes) (hx : a.eval x = .int .i64 n) (hy : a.eval y = .int .i64 n) (hb : bytes * n ≤ 281474976710656) (h63 : n ≤ 9223372036854775807)
    (hk : ∀ g w1, Hp X w0 H w1 → Hp X w0 (⟨g, e, tab (fun _ => 0) n⟩ :: Hq) w1 → wpSched P ops Q (Hp X w0 H) N rest (a.put (some d) (.slice (some ⟨g, 0, none⟩) n n)) w1) : wpL P ops Q (Hp X w0 H) N i rest ⟨some d, .makeSlice t x y, tp, pos, af, gd⟩ a w := by
  obtain ⟨i, hi, hi'⟩ : ∃ i, P.info? e = some i ∧ (i.zero, i.size, i.bytes) = (some (.int .i64 0), 1, bytes) := by
    have := he.info
    cases h : P.info? e with
    | none => rw [h] at this; cases this
    | some i => rw [h] at this; exact ⟨i, rfl, by simpa using this⟩
  simp only [Prod.mk.injEq] at hi'
  obtain ⟨hiz, his, hib⟩ := hi'
  have hb1 : ((bytes * n : Nat) : Int) ≤ 281474976710656 := by omega
  rw [Int.natCast_mul] at hb1
  have hr := run_make (P := P) w t e i (.int .i64 0) ht.und hi hiz .i64 .i64 n n (by omega) (by omega) (by rw [hib]; exact hb1) (by omega)
  rw [his, Int.toNat_natCast, made_tab] at hr
  refine sd_loud hw ?_
  unfold Oper.wp
  simp only [execOp, hx, hy, Sem.run_bind, hr, Result.andThen_ok]
  have h1 := hq.alloc e (tab (fun _ => 0) n)
  have h2 := h1.sub (hsub.cons _)
  exact ⟨fun _ => h2, hk _ _ h2 h1⟩
/-- What is appended is a part of a block, its beginning. -/
theorem sx_append_part {Q : Exit → Act → World → Prop} {rest : List Oper} {s x : Operand} {z : Value} {size bytes n m c gv cap gx : Nat} {ex : TypeId} {xs junk news bs : List Value} {H1 : List Bk} (hp : Hp X w0 H w) (ht : SliTy P t e) (he : ElemTy P e z size bytes) (hzs : z.cells.size = size) (hsz : 0 < size)
    (hs : a.eval s = .slice (some ⟨gv, 0, none⟩) n cap) (hperm : H.Perm (⟨gv, e, xs ++ junk⟩ :: H1)) (hxl : xs.length = n * size) (hjl : (xs ++ junk).length = cap * size) (hnc : n ≤ cap) (hcm : cap ≤ maxLen)
    (hx : a.eval x = .slice (some ⟨gx, 0, none⟩) m c) (hh : Has H gx ex bs) (hbs : bs.take (m * size) = news) (hl : news.length = m * size) (h1 : news.all (·.oneCell') = true) (hm : m ≠ 0) (hm1 : n + m ≤ maxLen) (hm2 : (n + m) * bytes ≤ 140737488355328)
    (hk : ∀ g cap' junk' w1, (xs ++ news ++ junk').length = cap' * size → n + m ≤ cap' → cap' ≤ maxLen → Hp X w0 (⟨g, e, xs ++ news ++ junk'⟩ :: H1) w1 → wpList P ops Q rest (a.put (some d) (.slice (some ⟨g, 0, none⟩) (n + m) cap')) w1) :
    wpList P ops Q (⟨some d, .call { callee := .builtin .append, args := #[s, x], argTypes := #[t, t] }, tp, pos, af, none⟩ :: rest) a w := by
  obtain ⟨i, hi, hi'⟩ : ∃ i, P.info? e = some i ∧ (i.zero, i.size, i.bytes) = (some z, size, bytes) := by
    have := he.info
    cases h : P.info? e with
    | none => rw [h] at this; cases this
    | some i => rw [h] at this; exact ⟨i, rfl, by simpa using this⟩
  simp only [Prod.mk.injEq] at hi'
  obtain ⟨hiz, his, hib⟩ := hi'
  have hbv := ((hp.perm hperm).own ⟨gv, e, xs ++ junk⟩ (by simp)).2
  have hcell : ∀ j u, news[j]? = some u → w.cell? (Addr.add ⟨gx, 0, none⟩ j) = some u := fun j u hj => by
    have hlt : j < m * size := by
      rcases Nat.lt_or_ge j news.length with h | h
      · omega
      · rw [List.getElem?_eq_none h] at hj; cases hj
    have e1 : Addr.add ⟨gx, 0, none⟩ j = ⟨gx, j, none⟩ := by simp [add_at]
    rw [e1, hp.cell, ← hj, ← hbs, List.getElem?_take, if_pos hlt]
  refine wpList_append_own_at w rfl s x t rfl 0 e i z size bytes ht.und hi hiz his hib hzs hsz (.slice (some ⟨gv, 0, none⟩) n cap) n xs hs ⟨hxl, .inr ⟨gv, cap, _, rfl, Nat.zero_le _, hbv, hnc, hcm, by simpa using hjl, by rw [List.toList_toArray, ← hxl, List.take_left']; rfl⟩⟩ ⟨gx, 0, none⟩ m c news hx hl hcell (fun u hu => List.all_eq_true.1 h1 u hu) hm1 hm2 (Nat.zero_le _) ?_
  intro v' w' hr hg hnil hob
  obtain ⟨hlen, hr⟩ := hr
  rcases hr with ⟨rfl, h0⟩ | ⟨g, cap', cur, rfl, _, hb, hn, hc, hcs, htk⟩
  · exact absurd (hnil.1 rfl).2 hm
  · have hgs : g = gv ∨ g = w.heap.size := by
      rcases hob with h | h
      · left; simpa [Value.ownBlock] using h
      · right; simpa [Value.ownBlock] using h
    have e1 : cur.toList = xs ++ news ++ cur.toList.drop ((n + m) * size) := by rw [← htk, List.take_append_drop]
    refine hk g cap' (cur.toList.drop ((n + m) * size)) w' ?_ hn hc ?_
    · rw [← e1]; simpa using hcs
    · rw [← e1]
      exact hp.grew hperm hg hgs (by simpa using hb)
end
/-! ### Two bits at a time -/
theorem bt_two (n c : Int) (h0 : 0 ≤ c) (h3 : c ≤ 3) (j : Nat) : bt (4 * n + c) (j + 2) = bt n j := by
  unfold bt
  have e : (2 : Int) ^ (j + 2) = 4 * 2 ^ j := by rw [Int.pow_add]; omega
  rw [e, ← Int.ediv_ediv_of_nonneg (by omega), show (4 * n + c) / 4 = n by omega]
theorem bt_oneup (n c : Int) (h0 : 0 ≤ c) (h3 : c ≤ 1) (j : Nat) : bt (2 * n + c) (j + 1) = bt n j := by
  unfold bt
  have e : (2 : Int) ^ (j + 1) = 2 * 2 ^ j := by rw [Int.pow_add]; omega
  rw [e, ← Int.ediv_ediv_of_nonneg (by omega), show (2 * n + c) / 2 = n by omega]
theorem tab_two (n b0 b1 : Int) (h0 : 0 ≤ b0 ∧ b0 ≤ 1) (h1 : 0 ≤ b1 ∧ b1 ≤ 1) : [Value.int .i64 b0, .int .i64 b1] ++ tab (bt n) 518 = tab (bt (4 * n + (b0 + 2 * b1))) 520 := by
  apply List.ext_getElem?
  intro i
  match i with
  | 0 =>
    rw [tab_get (by omega)]
    simp only [List.cons_append, List.getElem?_cons_zero]
    congr 2
    simp only [bt, Int.pow_zero, Int.ediv_one]
    omega
  | 1 =>
    rw [tab_get (by omega)]
    simp only [List.cons_append, List.getElem?_cons_succ, List.getElem?_cons_zero]
    congr 2
    simp only [bt, Int.pow_one]
    omega
  | j + 2 =>
    simp only [List.cons_append, List.getElem?_cons_succ, List.nil_append]
    by_cases hj : j < 518
    · rw [tab_get hj, tab_get (by omega), bt_two n _ (by omega) (by omega)]
    · rw [List.getElem?_eq_none (by rw [tab_length]; omega), List.getElem?_eq_none (by rw [tab_length]; omega)]
theorem tab_oneup (n b0 : Int) (h0 : 0 ≤ b0 ∧ b0 ≤ 1) : [Value.int .i64 b0] ++ tab (bt n) 519 = tab (bt (2 * n + b0)) 520 := by
  apply List.ext_getElem?
  intro i
  match i with
  | 0 =>
    rw [tab_get (by omega)]
    simp only [List.cons_append, List.getElem?_cons_zero]
    congr 2
    simp only [bt, Int.pow_zero, Int.ediv_one]
    omega
  | j + 1 =>
    simp only [List.cons_append, List.getElem?_cons_succ, List.nil_append]
    by_cases hj : j < 519
    · rw [tab_get hj, tab_get (by omega), bt_oneup n _ (by omega) (by omega)]
    · rw [List.getElem?_eq_none (by rw [tab_length]; omega), List.getElem?_eq_none (by rw [tab_length]; omega)]
theorem tab_take {F : Nat → Int} {L k : Nat} (h : k ≤ L) (junk : List Value) : (tab F L ++ junk).take k = tab F k := by
  rw [List.take_append_of_le_length (by rw [tab_length]; exact h)]
  unfold tab
  rw [← List.map_take, List.take_range, Nat.min_eq_left h]
theorem bt_pair (a : Int) (j : Nat) : bt a (2 * j) + 2 * bt a (2 * j + 1) = a / 4 ^ j % 4 := by
  unfold bt
  have e1 : (2 : Int) ^ (2 * j) = 4 ^ j := by rw [Int.pow_mul]; rfl
  have e2 : (2 : Int) ^ (2 * j + 1) = 4 ^ j * 2 := by rw [Int.pow_succ, e1]
  rw [e2, ← Int.ediv_ediv_of_nonneg (Int.pow_nonneg (by omega)), e1]
  omega
/-- One step of the root by hand. -/
theorem rt_digit {A c : Int} (hA : 0 ≤ A) (h0 : 0 ≤ c) (h3 : c ≤ 3) :
    (4 * (A - rt A * rt A) + c < 4 * rt A + 1 → rt (4 * A + c) = 2 * rt A ∧ 4 * A + c - rt (4 * A + c) * rt (4 * A + c) = 4 * (A - rt A * rt A) + c) ∧
    (¬ 4 * (A - rt A * rt A) + c < 4 * rt A + 1 → rt (4 * A + c) = 2 * rt A + 1 ∧ 4 * A + c - rt (4 * A + c) * rt (4 * A + c) = 4 * (A - rt A * rt A) + c - (4 * rt A + 1)) := by
  obtain ⟨h1, h2⟩ := rt_spec hA
  have hr := rt_nonneg A
  generalize rt A = r at *
  have e0 : (r + 1) * (r + 1) = r * r + 2 * r + 1 := by grind
  have e1 : 2 * r * (2 * r) = 4 * (r * r) := by grind
  have e2 : (2 * r + 1) * (2 * r + 1) = 4 * (r * r) + 4 * r + 1 := by grind
  have e3 : (2 * r + 1 + 1) * (2 * r + 1 + 1) = 4 * (r * r) + 8 * r + 4 := by grind
  constructor
  · intro h
    have e : rt (4 * A + c) = 2 * r := rt_uniq (by omega) (by omega) (by omega)
    rw [e]
    exact ⟨rfl, by omega⟩
  · intro h
    have e : rt (4 * A + c) = 2 * r + 1 := rt_uniq (by omega) (by omega) (by omega)
    rw [e]
    exact ⟨rfl, by omega⟩
theorem quarter (a : Int) (j : Nat) : a / 4 ^ j = 4 * (a / 4 ^ (j + 1)) + a / 4 ^ j % 4 := by
  have e : (4 : Int) ^ (j + 1) = 4 ^ j * 4 := Int.pow_succ _ _
  rw [e, ← Int.ediv_ediv_of_nonneg (Int.pow_nonneg (by omega))]
  omega
/-- How great what is left can get. -/
theorem left_bd {A : Int} (hA : 0 ≤ A) : 0 ≤ A - rt A * rt A ∧ A - rt A * rt A ≤ 2 * rt A := by
  obtain ⟨h1, h2⟩ := rt_spec hA
  have e0 : (rt A + 1) * (rt A + 1) = rt A * rt A + 2 * rt A + 1 := by grind
  omega
theorem rt_bd {A : Int} (hA : 0 ≤ A) (h : A < M511) : rt A < 115792089237316195423570985008687907853269984665640564039457584007913129639936 := by
  obtain ⟨h1, h2⟩ := rt_spec hA
  have hr := rt_nonneg A
  by_cases h9 : rt A < 115792089237316195423570985008687907853269984665640564039457584007913129639936
  · exact h9
  · have := sq_mono (a := 115792089237316195423570985008687907853269984665640564039457584007913129639936) (b := rt A) (by omega) (by omega)
    unfold M511 at h
    omega

theorem tab_naught : tab (fun _ => 0) 520 = tab (bt 0) 520 := tab_congr fun j _ => by simp [bt]
theorem BSl.pre {w : World} {g cap : Nat} {t : TypeId} {x : Int} {L : Nat} {junk : List Value} (h : w.heap[g]? = some (.cells (tab (bt x) L ++ junk).toArray t (0, 0))) : BSl w (.slice (some ⟨g, 0, none⟩) L cap) x L :=
  ⟨g, 0, cap, _, t, _, rfl, h, fun k hk => by
    rw [Nat.zero_add, Nat.mul_one, List.getElem?_append_left (by rw [tab_length]; exact hk)]
    exact tab_get hk⟩
end Go.Proofs.YtbdkbmhejoakiaaDoor
