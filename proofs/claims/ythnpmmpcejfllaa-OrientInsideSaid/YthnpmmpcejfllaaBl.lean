/-
  Slices of no element; appending what is part of a block, or nil.
  Package ninepinref07: Rank, Spread (contracts).
-/
import Derived.Test.YthnpmmpcejfllaaHa
import Derived.Laws.AppendOwnNone
import Derived.Test.YthnpmmpcejfllaaBk
set_option linter.unusedSimpArgs false
set_option linter.unusedVariables false
namespace Go.Proofs.Ythnpmmpcejfllaa
open Go Go.RowKit

section
variable {P : Program} {X : List Nat} {w0 w : World} {H H1 : List Bk} {ops : Array Oper} {Q : Exit → Act → World → Prop} {a : Act} {rest : List Oper} {d : Tmp} {tp t : TypeId} {pos : String} {af : Array Edge}
theorem sx_slice0 {e : TypeId} {m : Nat} (hp : Hp X w0 H w) (ht : SliTy P t e) (hs : ∀ w, (sizeOf e).run P w = .ok m w)
    (hk : ∀ g w1, Hp X w0 (⟨g, e, pcs [] ++ []⟩ :: H) w1 → wpList P ops Q rest (a.put (some d) (.slice (some ⟨g, 0, none⟩) ([] : List P3).length 0)) w1) : wpList P ops Q (⟨some d, .buildSlice t 0 #[], tp, pos, af, none⟩ :: rest) a w := by
  refine wpList_plain rfl fun K hK => ?_
  unfold Oper.wp
  have hr : (Instr.buildSlice t 0 #[]).run P w = .ok (.slice (some ⟨w.heap.size, 0, none⟩) 0 0) (w.alloc (.cells ([] : List Value).toArray e)) := by
    simp only [Instr.buildSlice, Sem.run_bind, run_underlying ht.und, Result.andThen_ok, hs, Nat.zero_mul]
    have e0 : ∀ f : Nat → Value, Array.map f (Array.range 0) = #[] := fun f => by apply Array.ext'; simp
    simp [Instr.fill, newRow, e0]
  simp only [execOp, Sem.run_bind, List.map_toArray, List.map_nil, hr, Result.andThen_ok]
  exact hK _ _ (hk _ _ (hp.alloc e []))
theorem sx_append_none {s x : Operand} {e : TypeId} {z : Value} {size bytes n cap gv : Nat} {xs junk : List Value} (hp : Hp X w0 H w) (ht : SliTy P t e) (he : ElemTy P e z size bytes)
    (hs : a.eval s = .slice (some ⟨gv, 0, none⟩) n cap) (hh : Has H gv e (xs ++ junk)) (hxl : xs.length = n * size) (hjl : (xs ++ junk).length = cap * size) (hnc : n ≤ cap) (hcm : cap ≤ maxLen)
    (hx : a.eval x = .slice none 0 0)
    (hk : wpList P ops Q rest (a.put (some d) (.slice (some ⟨gv, 0, none⟩) n cap)) w) : wpList P ops Q (⟨some d, .call { callee := .builtin .append, args := #[s, x], argTypes := #[t, t] }, tp, pos, af, none⟩ :: rest) a w := by
  obtain ⟨i, hi, hi'⟩ : ∃ i, P.info? e = some i ∧ (i.zero, i.size, i.bytes) = (some z, size, bytes) := by
    have := he.info
    cases h : P.info? e with
    | none => rw [h] at this; cases this
    | some i => rw [h] at this; exact ⟨i, rfl, by simpa using this⟩
  exact wpList_append_own_none rfl s x t rfl 0 e i size ht.und hi (.slice (some ⟨gv, 0, none⟩) n cap) n xs hs ⟨hxl, .inr ⟨gv, cap, _, rfl, Nat.zero_le _, hp.blk, hnc, hcm, by simpa using hjl, by rw [List.toList_toArray, ← hxl, List.take_left']; rfl⟩⟩ hx hk
/-- Onto a slice of one's own: the first m elements of a block. -/
theorem sx_append_part {s x : Operand} {e : TypeId} {z : Value} {size bytes n m c gv cap gx : Nat} {ex : TypeId} {xs junk news more : List Value} (hp : Hp X w0 H w) (ht : SliTy P t e) (he : ElemTy P e z size bytes) (hzs : z.cells.size = size) (hsz : 0 < size)
    (hs : a.eval s = .slice (some ⟨gv, 0, none⟩) n cap) (hperm : H.Perm (⟨gv, e, xs ++ junk⟩ :: H1)) (hxl : xs.length = n * size) (hjl : (xs ++ junk).length = cap * size) (hnc : n ≤ cap) (hcm : cap ≤ maxLen)
    (hx : a.eval x = .slice (some ⟨gx, 0, none⟩) m c) (hh : Has H gx ex (news ++ more)) (hl : news.length = m * size) (h1 : (news).all (·.oneCell') = true) (hm : m ≠ 0) (hm1 : n + m ≤ maxLen) (hm2 : (n + m) * bytes ≤ 140737488355328)
    (hk : ∀ g cap' junk' w1, (xs ++ news ++ junk').length = cap' * size → n + m ≤ cap' → cap' ≤ maxLen → Hp X w0 (⟨g, e, xs ++ news ++ junk'⟩ :: H1) w1 → wpList P ops Q rest (a.put (some d) (.slice (some ⟨g, 0, none⟩) (n + m) cap')) w1) :
    wpList P ops Q (⟨some d, .call { callee := .builtin .append, args := #[s, x], argTypes := #[t, t] }, tp, pos, af, none⟩ :: rest) a w := by
  obtain ⟨i, hi, hi'⟩ : ∃ i, P.info? e = some i ∧ (i.zero, i.size, i.bytes) = (some z, size, bytes) := by
    have := he.info
    cases h : P.info? e with
    | none => rw [h] at this; cases this
    | some i => rw [h] at this; exact ⟨i, rfl, by simpa using this⟩
  simp only [Prod.mk.injEq] at hi'
  obtain ⟨hiz, his, hib⟩ := hi'
  have hbv := ((hp.perm hperm).own ⟨gv, e, xs ++ junk⟩ (by simp)).2
  have hnews : ∀ j u, news[j]? = some u → w.cell? ((⟨gx, 0, none⟩ : Addr).add j) = some u := fun j u hj => by
    refine cells_at hp j u ?_
    rw [List.getElem?_append_left]
    · exact hj
    · rcases Nat.lt_or_ge j news.length with h | h
      · exact h
      · rw [List.getElem?_eq_none h] at hj; cases hj
  refine wpList_append_own_at w rfl s x t rfl 0 e i z size bytes ht.und hi hiz his hib hzs hsz (.slice (some ⟨gv, 0, none⟩) n cap) n xs hs ⟨hxl, .inr ⟨gv, cap, _, rfl, Nat.zero_le _, hbv, hnc, hcm, by simpa using hjl, by rw [List.toList_toArray, ← hxl, List.take_left']; rfl⟩⟩ ⟨gx, 0, none⟩ m c news hx hl hnews (fun u hu => List.all_eq_true.1 h1 u hu) hm1 hm2 (Nat.zero_le _) ?_
  intro v' w' hr hg hnil hob
  obtain ⟨hlen, hr⟩ := hr
  rcases hr with ⟨rfl, h0⟩ | ⟨g, cap', cur, rfl, _, hb, hn, hc, hcs, htk⟩
  · exact absurd (hnil.1 rfl).2 hm
  · have hgs : g = gv ∨ g = w.heap.size := by
      rcases hob with h | h
      · left; simpa [Value.ownBlock] using h
      · right; simpa [Value.ownBlock] using h
    have e1 : cur.toList = xs ++ news ++ cur.toList.drop ((n + m) * size) := by rw [← htk, List.take_append_drop]
    refine hk g cap' (cur.toList.drop ((n + m) * size)) w' ?_ hn hc ?_
    · rw [← e1]; simpa using hcs
    · rw [← e1]
      exact hp.grew hperm hg hgs (by simpa using hb)
end
theorem pcs_one (ps : List P3) : (pcs ps).all (·.oneCell') = true := by
  induction ps with
  | nil => rfl
  | cons p ps ih => simpa [pcs, Value.oneCell'] using ih
theorem sx_append_tk {P : Program} {X : List Nat} {w0 w : World} {H H1 : List Bk} {ops : Array Oper} {Q : Exit → Act → World → Prop} {a : Act} {rest : List Oper} {d : Tmp} {tp t : TypeId} {pos : String} {af : Array Edge} {s x : Operand} {e : TypeId} {z : Value} {bytes c gv gx : Nat} {ex : TypeId} {tk : List P3} {more : List Value} (hp : Hp X w0 H w) (ht : SliTy P t e) (he : ElemTy P e z 3 bytes) (hzs : z.cells.size = 3)
    (hs : a.eval s = .slice (some ⟨gv, 0, none⟩) 0 0) (hperm : H.Perm (⟨gv, e, pcs [] ++ []⟩ :: H1))
    (hx : a.eval x = .slice (some ⟨gx, 0, none⟩) tk.length c) (hh : Has H gx ex (pcs tk ++ more)) (hm : tk.length ≠ 0) (hm1 : tk.length ≤ maxLen) (hm2 : tk.length * bytes ≤ 140737488355328)
    (hk : ∀ g cap' junk' w1, (pcs tk ++ junk').length = cap' * 3 → tk.length ≤ cap' → cap' ≤ maxLen → Hp X w0 (⟨g, e, pcs tk ++ junk'⟩ :: H1) w1 → wpList P ops Q rest (a.put (some d) (.slice (some ⟨g, 0, none⟩) tk.length cap')) w1) :
    wpList P ops Q (⟨some d, .call { callee := .builtin .append, args := #[s, x], argTypes := #[t, t] }, tp, pos, af, none⟩ :: rest) a w := by
  refine sx_append_part (n := 0) (xs := pcs []) (junk := []) hp ht he hzs (by omega) hs hperm rfl rfl (Nat.le_refl _) (Nat.zero_le _) hx hh (pcs_length tk) (pcs_one tk) hm (by rw [Nat.zero_add]; exact hm1) (by rw [Nat.zero_add]; exact hm2) ?_
  intro g cap' junk' w1 h1 h2 h3 hp
  have e0 : pcs [] ++ pcs tk = pcs tk := List.nil_append _
  rw [e0] at h1 hp
  rw [Nat.zero_add] at h2 ⊢
  exact hk g cap' junk' w1 h1 h2 h3 hp
theorem PSl.nil0 {w : World} : PSl w (.slice none 0 0) [] := .inl ⟨rfl, rfl⟩
end Go.Proofs.Ythnpmmpcejfllaa
set_option linter.unusedSimpArgs false
set_option linter.unusedVariables false
set_option maxRecDepth 100000
namespace Go.Proofs.Ythnpmmpcejfllaa
open Go Go.RowKit

theorem rankO_bad {ps : List P3} (hf : fineb ps = false) : rankO ps = (0, 7) := by
  have : spreadO ps = ([], 7) := if_pos hf
  unfold rankO; rw [this]; rfl
theorem rankO_long {ps : List P3} (hf : fineb ps = true) (hl : 256 < ps.length) : rankO ps = (0, 3) := by
  have : spreadO ps = ([], 3) := by unfold spreadO; rw [if_neg (by rw [hf]; simp), if_pos hl]
  unfold rankO; rw [this]; rfl
theorem rankO_ok {ps : List P3} (hf : fineb ps = true) (hl : ¬ 256 < ps.length) : rankO ps = (((spread ps).length : Int) - 1, 0) := by
  have : spreadO ps = (spread ps, 0) := by unfold spreadO; rw [if_neg (by rw [hf]; simp), if_neg hl]
  unfold rankO; rw [this]; rfl
set_option maxHeartbeats 2000000 in
theorem rrank_any {ps : List P3} {v : Value} (hlen : ps.length ≤ maxLen) (w : World) (h : PSl w v ps) : Calls Try.prog 13 #[v] w (Ret (.tuple #[.int .i64 (rankO ps).1, .int .i64 (rankO ps).2]) w) := by
  have Hfn := Lib.hid fun w1 (hk : Keep [] w w1) => rfine_any hlen w1 (h.keep hk)
  obtain ⟨base, cap, rfl⟩ : ∃ base cap, v = .slice base ps.length cap := by
    rcases h with ⟨rfl, rfl⟩ | ⟨g, off, cap, _, _, _, rfl, _⟩
    · exact ⟨none, 0, rfl⟩
    · exact ⟨_, cap, rfl⟩
  by_cases hf : fineb ps = true
  · rw [hf] at Hfn
    by_cases hl : 256 < ps.length
    · rw [rankO_long hf hl]
      have hl2 : (256 : Int) < ps.length := by omega
      dsimp only
      unfold maxLen at hlen
      clear h
      generalize ps.length = n at *
      go_enter Try.func13, Try.ntmps13
      have hp := Hp.start [] w
      go_wp2_with (first
          | ((with_reducible refine sx_call hp (Hfn.out _ hp.keep) ?_); clear hp; (try clear w1); intro w1 hp))
      exact bodyPost_ret (results_two rfl rfl rfl) rfl ⟨rfl, hp.keep⟩
    · rw [rankO_ok hf hl]
      have hl2 : ¬ (256 : Int) < ps.length := by omega
      dsimp only
      have Hof := Lib.hid fun w1 (hk : Keep [] w w1) => rOf_any ps (fun q hq => fineb_mem hf hq) hlen _ w1 (h.keep hk)
      unfold maxLen at hlen
      clear h
      generalize ((spread ps).length : Int) - 1 = r at *
      generalize ps.length = n at *
      go_enter Try.func13, Try.ntmps13
      have hp := Hp.start [] w
      go_wp2_with (first
          | ((with_reducible refine sx_call hp (Hfn.out _ hp.keep) ?_); clear hp; (try clear w1); intro w1 hp)
          | ((with_reducible refine sx_call hp (Hof.out _ hp.keep) ?_); clear hp; (try clear w1); intro w1 hp))
      exact bodyPost_ret (results_two rfl rfl rfl) rfl ⟨rfl, hp.keep⟩
  · have hf' : fineb ps = false := by simpa using hf
    rw [hf'] at Hfn
    rw [rankO_bad hf']
    dsimp only
    clear h hlen hf hf'
    generalize ps.length = n at *
    go_enter Try.func13, Try.ntmps13
    have hp := Hp.start [] w
    go_wp2_with (first
          | ((with_reducible refine sx_call hp (Hfn.out _ hp.keep) ?_); clear hp; (try clear w1); intro w1 hp))
    exact bodyPost_ret (results_two rfl rfl rfl) rfl ⟨rfl, hp.keep⟩

/-- Memory between two rounds. -/
def RpI (w : World) (tk : List P3) (out : List Int) (ov tv : Value) (wr : World) : Prop :=
  (tk = [] ∧ out = [] ∧ ov = .slice none 0 0 ∧ tv = .slice none 0 0 ∧ Hp [] w [] wr) ∨
  ∃ ga ca ja go co jo, ov = .slice (some ⟨go, 0, none⟩) out.length co ∧ tv = .slice (some ⟨ga, 0, none⟩) tk.length ca ∧ tk ≠ [] ∧ (pcs tk ++ ja).length = ca * 3 ∧ tk.length ≤ ca ∧ ca ≤ maxLen ∧ (out.map (Value.int .i64) ++ jo).length = co * 1 ∧ out.length ≤ co ∧ co ≤ maxLen ∧
    Hp [] w [⟨go, 3, out.map (Value.int .i64) ++ jo⟩, ⟨ga, 33, pcs tk ++ ja⟩] wr
theorem PSl.own {w : World} {g cap : Nat} {t : TypeId} {tk : List P3} {ja : List Value} (h : w.heap[g]? = some (.cells (pcs tk ++ ja).toArray t (0, 0))) : PSl w (.slice (some ⟨g, 0, none⟩) tk.length cap) tk :=
  .inr ⟨g, 0, cap, _, t, _, rfl, h, by rw [List.drop_zero, ← pcs_length, List.take_left']; rfl⟩
theorem PSl.own1 {w : World} {g cap n : Nat} {t : TypeId} {tk : List P3} {p : P3} {cs ja : List Value} (hn : n = tk.length + 1) (hc : cs = pcs tk ++ [.int .i64 p.x, .int .i64 p.y, .int .i64 p.z]) (h : w.heap[g]? = some (.cells (cs ++ ja).toArray t (0, 0))) : PSl w (.slice (some ⟨g, 0, none⟩) n cap) (tk ++ [p]) := by
  have e : pcs (tk ++ [p]) = cs := by rw [pcs_append, hc]; rfl
  rw [← e] at h
  have := PSl.own (cap := cap) h
  rw [List.length_append] at this
  subst hn
  exact this
theorem spreadO_bad {ps : List P3} (hf : fineb ps = false) : spreadO ps = ([], 7) := if_pos hf
theorem spreadO_long {ps : List P3} (hf : fineb ps = true) (hl : 256 < ps.length) : spreadO ps = ([], 3) := by unfold spreadO; rw [if_neg (by rw [hf]; simp), if_pos hl]
theorem spreadO_ok {ps : List P3} (hf : fineb ps = true) (hl : ¬ 256 < ps.length) : spreadO ps = (spread ps, 0) := by unfold spreadO; rw [if_neg (by rw [hf]; simp), if_neg hl]
set_option maxHeartbeats 2000000 in
theorem rspread_bad (ps : List P3) (x : Bool) (e : Int) (base : Option Addr) (cap n : Nat) (w : World) (Hfn : Hid (∀ w1, Keep [] w w1 → Calls Try.prog 26 #[.slice base n cap] w1 (Ret (.bool x) w1))) (he : (x = false ∧ e = 7) ∨ (x = true ∧ e = 3 ∧ (256 : Int) < n)) (hn : n ≤ maxLen) :
    Calls Try.prog 15 #[.slice base n cap] w (RetI [] (fun sv => .tuple #[sv, .int .i64 e]) w) := by
  unfold maxLen at hn
  rcases he with ⟨rfl, rfl⟩ | ⟨rfl, rfl, hl⟩
  · skip
    go_enter Try.func15, Try.ntmps15
    have hp := Hp.start [] w
    go_wp2_with (first
          | ((with_reducible apply sx_load_agg hp); exact zt rfl; infer_instance; infer_instance; (first | exact zl rfl | exact LB_le (by omega)); (first | (with_reducible exact LB_set (by omega)) | (simp only [n0, Nat.reduceAdd, n1, n2, n3, n4, n5, n6, n7, n8, n9]; try rfl)); simp only [zp, zq, z0, z1])
          | ((with_reducible apply sx_indexAddr); exact zx rfl; exact zk rfl; infer_instance; (first | exact AggTy.size | exact OneTy.size); omega; omega; ((try simp only [m0, Int.reduceToNat, m1, m2, Nat.reduceMul, Nat.reduceAdd, m3, m4, m5, n0]); exact rfl); simp only [zp, zq, z0, z1])
          | ((with_reducible apply sx_load_far hp); exact zt rfl; assumption; infer_instance; assumption; (first | exact zl rfl | omega); simp only [zp, zq, z0, z1])
          | ((with_reducible apply sx_buildSlice hp); infer_instance; (first | exact AggTy.size | exact OneTy.size); infer_instance; exact zl rfl; decide; (first | exact (rfl : _ = numbered 0 [_]) | exact (rfl : _ = numbered 0 [_, _]) | exact (rfl : _ = numbered 0 [_, _, _]) | exact (rfl : _ = numbered 0 [_, _, _, _])); exact rfl; (first | exact (rfl : _ = List.map (fun x : List Value => x.toArray) [_]) | exact (rfl : _ = List.map (fun x : List Value => x.toArray) [_, _]) | exact (rfl : _ = List.map (fun x : List Value => x.toArray) [_, _, _]) | exact (rfl : _ = List.map (fun x : List Value => x.toArray) [_, _, _, _])); (intro l hl <;> simp only [List.mem_cons, List.not_mem_nil, or_false] at hl <;> rcases hl with rfl | rfl | rfl | rfl <;> rfl); exact rfl; clear hp; (try clear w1); intro g w1 hp; simp only [zp, zq, z0, z1])
          | ((with_reducible apply sx_append_nil hp); infer_instance; infer_instance; exact rfl; decide; exact (rfl : _ = Value.slice none 0 0); exact zy rfl; infer_instance; exact rfl; exact rfl; decide; (unfold maxLen; decide); decide; clear hp; (try clear w1); intro g cap junk w1 hl1 hl2 hl3 hp; simp only [zp, zq, z0, z1])
          | ((with_reducible apply sx_append hp); infer_instance; infer_instance; exact rfl; decide; exact zy rfl; (first | exact List.Perm.refl _ | exact List.perm_middle (l₁ := [_]) | exact List.perm_middle (l₁ := [_, _]) | exact List.perm_middle (l₁ := [_, _, _]) | exact List.perm_middle (l₁ := [_, _, _, _]) | exact List.perm_middle (l₁ := [_, _, _, _, _])); (first | exact pcs_length _ | (simp only [List.length_map, Nat.mul_one])); assumption; assumption; assumption; exact zy rfl; infer_instance; exact rfl; exact rfl; decide; (unfold maxLen; omega); omega; clear hp; (try clear w1); intro g cap junk w1 hl1 hl2 hl3 hp; (try dsimp only [List.cons_append, List.nil_append] at hp); simp only [zp, zq, z0, z1])
          | ((with_reducible refine sx_call hp (Hfn.out _ hp.keep) ?_); clear hp; (try clear w1); intro w1 hp))
    exact bodyPost_ret (results_two rfl rfl rfl) rfl ⟨_, rfl, hp.keep, .inl ⟨rfl, rfl⟩⟩
  · skip
    go_enter Try.func15, Try.ntmps15
    have hp := Hp.start [] w
    go_wp2_with (first
          | ((with_reducible apply sx_load_agg hp); exact zt rfl; infer_instance; infer_instance; (first | exact zl rfl | exact LB_le (by omega)); (first | (with_reducible exact LB_set (by omega)) | (simp only [n0, Nat.reduceAdd, n1, n2, n3, n4, n5, n6, n7, n8, n9]; try rfl)); simp only [zp, zq, z0, z1])
          | ((with_reducible apply sx_indexAddr); exact zx rfl; exact zk rfl; infer_instance; (first | exact AggTy.size | exact OneTy.size); omega; omega; ((try simp only [m0, Int.reduceToNat, m1, m2, Nat.reduceMul, Nat.reduceAdd, m3, m4, m5, n0]); exact rfl); simp only [zp, zq, z0, z1])
          | ((with_reducible apply sx_load_far hp); exact zt rfl; assumption; infer_instance; assumption; (first | exact zl rfl | omega); simp only [zp, zq, z0, z1])
          | ((with_reducible apply sx_buildSlice hp); infer_instance; (first | exact AggTy.size | exact OneTy.size); infer_instance; exact zl rfl; decide; (first | exact (rfl : _ = numbered 0 [_]) | exact (rfl : _ = numbered 0 [_, _]) | exact (rfl : _ = numbered 0 [_, _, _]) | exact (rfl : _ = numbered 0 [_, _, _, _])); exact rfl; (first | exact (rfl : _ = List.map (fun x : List Value => x.toArray) [_]) | exact (rfl : _ = List.map (fun x : List Value => x.toArray) [_, _]) | exact (rfl : _ = List.map (fun x : List Value => x.toArray) [_, _, _]) | exact (rfl : _ = List.map (fun x : List Value => x.toArray) [_, _, _, _])); (intro l hl <;> simp only [List.mem_cons, List.not_mem_nil, or_false] at hl <;> rcases hl with rfl | rfl | rfl | rfl <;> rfl); exact rfl; clear hp; (try clear w1); intro g w1 hp; simp only [zp, zq, z0, z1])
          | ((with_reducible apply sx_append_nil hp); infer_instance; infer_instance; exact rfl; decide; exact (rfl : _ = Value.slice none 0 0); exact zy rfl; infer_instance; exact rfl; exact rfl; decide; (unfold maxLen; decide); decide; clear hp; (try clear w1); intro g cap junk w1 hl1 hl2 hl3 hp; simp only [zp, zq, z0, z1])
          | ((with_reducible apply sx_append hp); infer_instance; infer_instance; exact rfl; decide; exact zy rfl; (first | exact List.Perm.refl _ | exact List.perm_middle (l₁ := [_]) | exact List.perm_middle (l₁ := [_, _]) | exact List.perm_middle (l₁ := [_, _, _]) | exact List.perm_middle (l₁ := [_, _, _, _]) | exact List.perm_middle (l₁ := [_, _, _, _, _])); (first | exact pcs_length _ | (simp only [List.length_map, Nat.mul_one])); assumption; assumption; assumption; exact zy rfl; infer_instance; exact rfl; exact rfl; decide; (unfold maxLen; omega); omega; clear hp; (try clear w1); intro g cap junk w1 hl1 hl2 hl3 hp; (try dsimp only [List.cons_append, List.nil_append] at hp); simp only [zp, zq, z0, z1])
          | ((with_reducible refine sx_call hp (Hfn.out _ hp.keep) ?_); clear hp; (try clear w1); intro w1 hp))
    exact bodyPost_ret (results_two rfl rfl rfl) rfl ⟨_, rfl, hp.keep, .inl ⟨rfl, rfl⟩⟩
theorem rspread_nil (w : World) : Calls Try.prog 15 #[.slice none 0 0] w (RetI [] (fun sv => .tuple #[sv, .int .i64 0]) w) := by
  go_enter Try.func15, Try.ntmps15
  have hp := Hp.start [] w
  go_wp2_with (first
          | ((with_reducible apply sx_load_agg hp); exact zt rfl; infer_instance; infer_instance; (first | exact zl rfl | exact LB_le (by omega)); (first | (with_reducible exact LB_set (by omega)) | (simp only [n0, Nat.reduceAdd, n1, n2, n3, n4, n5, n6, n7, n8, n9]; try rfl)); simp only [zp, zq, z0, z1])
          | ((with_reducible apply sx_indexAddr); exact zx rfl; exact zk rfl; infer_instance; (first | exact AggTy.size | exact OneTy.size); omega; omega; ((try simp only [m0, Int.reduceToNat, m1, m2, Nat.reduceMul, Nat.reduceAdd, m3, m4, m5, n0]); exact rfl); simp only [zp, zq, z0, z1])
          | ((with_reducible apply sx_load_far hp); exact zt rfl; assumption; infer_instance; assumption; (first | exact zl rfl | omega); simp only [zp, zq, z0, z1])
          | ((with_reducible apply sx_buildSlice hp); infer_instance; (first | exact AggTy.size | exact OneTy.size); infer_instance; exact zl rfl; decide; (first | exact (rfl : _ = numbered 0 [_]) | exact (rfl : _ = numbered 0 [_, _]) | exact (rfl : _ = numbered 0 [_, _, _]) | exact (rfl : _ = numbered 0 [_, _, _, _])); exact rfl; (first | exact (rfl : _ = List.map (fun x : List Value => x.toArray) [_]) | exact (rfl : _ = List.map (fun x : List Value => x.toArray) [_, _]) | exact (rfl : _ = List.map (fun x : List Value => x.toArray) [_, _, _]) | exact (rfl : _ = List.map (fun x : List Value => x.toArray) [_, _, _, _])); (intro l hl <;> simp only [List.mem_cons, List.not_mem_nil, or_false] at hl <;> rcases hl with rfl | rfl | rfl | rfl <;> rfl); exact rfl; clear hp; (try clear w1); intro g w1 hp; simp only [zp, zq, z0, z1])
          | ((with_reducible apply sx_append_nil hp); infer_instance; infer_instance; exact rfl; decide; exact (rfl : _ = Value.slice none 0 0); exact zy rfl; infer_instance; exact rfl; exact rfl; decide; (unfold maxLen; decide); decide; clear hp; (try clear w1); intro g cap junk w1 hl1 hl2 hl3 hp; simp only [zp, zq, z0, z1])
          | ((with_reducible apply sx_append hp); infer_instance; infer_instance; exact rfl; decide; exact zy rfl; (first | exact List.Perm.refl _ | exact List.perm_middle (l₁ := [_]) | exact List.perm_middle (l₁ := [_, _]) | exact List.perm_middle (l₁ := [_, _, _]) | exact List.perm_middle (l₁ := [_, _, _, _]) | exact List.perm_middle (l₁ := [_, _, _, _, _])); (first | exact pcs_length _ | (simp only [List.length_map, Nat.mul_one])); assumption; assumption; assumption; exact zy rfl; infer_instance; exact rfl; exact rfl; decide; (unfold maxLen; omega); omega; clear hp; (try clear w1); intro g cap junk w1 hl1 hl2 hl3 hp; (try dsimp only [List.cons_append, List.nil_append] at hp); simp only [zp, zq, z0, z1])
          | ((with_reducible refine sx_call hp (rfine_nil _) ?_); clear hp; (try clear w1); intro w1 hp))
  apply wp_loop_once
  go_wp2_with (first
          | ((with_reducible apply sx_load_agg hp); exact zt rfl; infer_instance; infer_instance; (first | exact zl rfl | exact LB_le (by omega)); (first | (with_reducible exact LB_set (by omega)) | (simp only [n0, Nat.reduceAdd, n1, n2, n3, n4, n5, n6, n7, n8, n9]; try rfl)); simp only [zp, zq, z0, z1])
          | ((with_reducible apply sx_indexAddr); exact zx rfl; exact zk rfl; infer_instance; (first | exact AggTy.size | exact OneTy.size); omega; omega; ((try simp only [m0, Int.reduceToNat, m1, m2, Nat.reduceMul, Nat.reduceAdd, m3, m4, m5, n0]); exact rfl); simp only [zp, zq, z0, z1])
          | ((with_reducible apply sx_load_far hp); exact zt rfl; assumption; infer_instance; assumption; (first | exact zl rfl | omega); simp only [zp, zq, z0, z1])
          | ((with_reducible apply sx_buildSlice hp); infer_instance; (first | exact AggTy.size | exact OneTy.size); infer_instance; exact zl rfl; decide; (first | exact (rfl : _ = numbered 0 [_]) | exact (rfl : _ = numbered 0 [_, _]) | exact (rfl : _ = numbered 0 [_, _, _]) | exact (rfl : _ = numbered 0 [_, _, _, _])); exact rfl; (first | exact (rfl : _ = List.map (fun x : List Value => x.toArray) [_]) | exact (rfl : _ = List.map (fun x : List Value => x.toArray) [_, _]) | exact (rfl : _ = List.map (fun x : List Value => x.toArray) [_, _, _]) | exact (rfl : _ = List.map (fun x : List Value => x.toArray) [_, _, _, _])); (intro l hl <;> simp only [List.mem_cons, List.not_mem_nil, or_false] at hl <;> rcases hl with rfl | rfl | rfl | rfl <;> rfl); exact rfl; clear hp; (try clear w1); intro g w1 hp; simp only [zp, zq, z0, z1])
          | ((with_reducible apply sx_append_nil hp); infer_instance; infer_instance; exact rfl; decide; exact (rfl : _ = Value.slice none 0 0); exact zy rfl; infer_instance; exact rfl; exact rfl; decide; (unfold maxLen; decide); decide; clear hp; (try clear w1); intro g cap junk w1 hl1 hl2 hl3 hp; simp only [zp, zq, z0, z1])
          | ((with_reducible apply sx_append hp); infer_instance; infer_instance; exact rfl; decide; exact zy rfl; (first | exact List.Perm.refl _ | exact List.perm_middle (l₁ := [_]) | exact List.perm_middle (l₁ := [_, _]) | exact List.perm_middle (l₁ := [_, _, _]) | exact List.perm_middle (l₁ := [_, _, _, _]) | exact List.perm_middle (l₁ := [_, _, _, _, _])); (first | exact pcs_length _ | (simp only [List.length_map, Nat.mul_one])); assumption; assumption; assumption; exact zy rfl; infer_instance; exact rfl; exact rfl; decide; (unfold maxLen; omega); omega; clear hp; (try clear w1); intro g cap junk w1 hl1 hl2 hl3 hp; (try dsimp only [List.cons_append, List.nil_append] at hp); simp only [zp, zq, z0, z1]))
  exact bodyPost_ret (results_two rfl rfl rfl) rfl ⟨_, rfl, hp.keep, .inl ⟨rfl, rfl⟩⟩
set_option maxHeartbeats 8000000 in
theorem rspread_far (ps : List P3) (sp : List Int) (Hsp : Hid (sp = spread ps)) (hfine : fineb ps = true) (h256 : ps.length ≤ 256) (w : World) (g0 off cap : Nat) (bc : List Value) (t : TypeId) {z : Nat × Nat} (hb : w.heap[g0]? = some (.cells bc.toArray t z)) (hv : (bc.drop off).take (ps.length * 3) = pcs ps) :
    Calls Try.prog 15 #[.slice (some ⟨g0, off, none⟩) ps.length cap] w (RetI sp (fun sv => .tuple #[sv, .int .i64 0]) w) := by
  have hps : PSl w (.slice (some ⟨g0, off, none⟩) ps.length cap) ps := .inr ⟨g0, off, cap, bc, t, z, rfl, hb, hv⟩
  have Hfn := Lib.hid fun w1 (hk : Keep [] w w1) => by
    have := rfine_any (by unfold maxLen; omega) w1 (hps.keep hk)
    rwa [hfine] at this
  have Hv := Lib.hid hv
  clear hv hps
  have Hfine := Lib.hid hfine
  clear hfine
  go_enter Try.func15, Try.ntmps15
  have hp := Hp.start [] w
  go_wp2_with (first
          | ((with_reducible apply sx_load_agg hp); exact zt rfl; infer_instance; infer_instance; (first | exact zl rfl | exact LB_le (by omega)); (first | (with_reducible exact LB_set (by omega)) | (simp only [n0, Nat.reduceAdd, n1, n2, n3, n4, n5, n6, n7, n8, n9]; try rfl)); simp only [zp, zq, z0, z1])
          | ((with_reducible apply sx_indexAddr); exact zx rfl; exact zk rfl; infer_instance; (first | exact AggTy.size | exact OneTy.size); omega; omega; ((try simp only [m0, Int.reduceToNat, m1, m2, Nat.reduceMul, Nat.reduceAdd, m3, m4, m5, n0]); exact rfl); simp only [zp, zq, z0, z1])
          | ((with_reducible apply sx_load_far hp); exact zt rfl; assumption; infer_instance; assumption; (first | exact zl rfl | omega); simp only [zp, zq, z0, z1])
          | ((with_reducible apply sx_buildSlice hp); infer_instance; (first | exact AggTy.size | exact OneTy.size); infer_instance; exact zl rfl; decide; (first | exact (rfl : _ = numbered 0 [_]) | exact (rfl : _ = numbered 0 [_, _]) | exact (rfl : _ = numbered 0 [_, _, _]) | exact (rfl : _ = numbered 0 [_, _, _, _])); exact rfl; (first | exact (rfl : _ = List.map (fun x : List Value => x.toArray) [_]) | exact (rfl : _ = List.map (fun x : List Value => x.toArray) [_, _]) | exact (rfl : _ = List.map (fun x : List Value => x.toArray) [_, _, _]) | exact (rfl : _ = List.map (fun x : List Value => x.toArray) [_, _, _, _])); (intro l hl <;> simp only [List.mem_cons, List.not_mem_nil, or_false] at hl <;> rcases hl with rfl | rfl | rfl | rfl <;> rfl); exact rfl; clear hp; (try clear w1); intro g w1 hp; simp only [zp, zq, z0, z1])
          | ((with_reducible apply sx_append_nil hp); infer_instance; infer_instance; exact rfl; decide; exact (rfl : _ = Value.slice none 0 0); exact zy rfl; infer_instance; exact rfl; exact rfl; decide; (unfold maxLen; decide); decide; clear hp; (try clear w1); intro g cap junk w1 hl1 hl2 hl3 hp; simp only [zp, zq, z0, z1])
          | ((with_reducible apply sx_append hp); infer_instance; infer_instance; exact rfl; decide; exact zy rfl; (first | exact List.Perm.refl _ | exact List.perm_middle (l₁ := [_]) | exact List.perm_middle (l₁ := [_, _]) | exact List.perm_middle (l₁ := [_, _, _]) | exact List.perm_middle (l₁ := [_, _, _, _]) | exact List.perm_middle (l₁ := [_, _, _, _, _])); (first | exact pcs_length _ | (simp only [List.length_map, Nat.mul_one])); assumption; assumption; assumption; exact zy rfl; infer_instance; exact rfl; exact rfl; decide; (unfold maxLen; omega); omega; clear hp; (try clear w1); intro g cap junk w1 hl1 hl2 hl3 hp; (try dsimp only [List.cons_append, List.nil_append] at hp); simp only [zp, zq, z0, z1])
          | ((with_reducible refine sx_call hp (Hfn.out _ hp.keep) ?_); clear hp; (try clear w1); intro w1 hp))
  go_loopw [4, 5, 6] (fun ov tv i wr => ∃ k : Nat, k ≤ ps.length ∧ i = .int .i64 k ∧ RpI w (spst ps k).1 (spst ps k).2 ov tv wr) (fun _ _ i _ => ps.length - (intOf i).toNat)
  case atStart => exact ⟨0, by omega, rfl, .inl ⟨rfl, rfl, rfl, rfl, hp⟩⟩
  case round =>
    clear hp
    obtain ⟨k, hk, rfl, hI⟩ := hrel
    by_cases hk1 : k < ps.length
    · have hk2 : (k : Int) < ps.length := by omega
      obtain ⟨p, hpk⟩ : ∃ p, ps[k]? = some p := ⟨_, List.getElem?_eq_getElem hk1⟩
      have hat := pcs_at Hv.out hpk
      have hroom : off + k * 3 + 3 ≤ bc.length := by
        rcases pcs_room Hv.out with h | h
        · subst h; simp at hk1
        · omega
      have hstep : spst ps (k + 1) = if raisesb (spst ps k).1 p then ((spst ps k).1 ++ [p], (spst ps k).2 ++ [(k : Int)]) else spst ps k := by
        rw [spst, hpk]
      obtain ⟨h4, hlen, hsub⟩ := spst_ok ps k
      have hrd := spst_raised ps k
      have hpm := fineb_mem Hfine.out (List.mem_of_getElem? hpk)
      have hmay : ∀ q ∈ (spst ps k).1, q.may := fun q hq => fineb_mem Hfine.out (hsub q hq)
      clear hsub
      generalize spst ps k = s at *
      obtain ⟨tk, out⟩ := s
      dsimp only at *
      have Hstep := Lib.hid hstep
      have hmay2 : ∀ q ∈ tk ++ [p], q.may := fun q hq => by
        rcases List.mem_append.1 hq with h | h
        · exact hmay q h
        · simp at h; subst h; exact hpm
      have Hmore := Lib.hid (rOf_any (tk ++ [p]) hmay2 (by unfold maxLen; simp; omega))
      have Hsome := Lib.hid (rOf_any tk hmay (by unfold maxLen; omega))
      have hA := spread_more hrd p
      have hB := spread_all hrd
      have hAB : if raisesb tk p then ((spread tk).length : Int) - 1 < ((spread (tk ++ [p])).length : Int) - 1 else ¬ ((spread tk).length : Int) - 1 < ((spread (tk ++ [p])).length : Int) - 1 := by
        cases hr : raisesb tk p
        · simp [hr] at hA ⊢; omega
        · simp [hr] at hA ⊢; omega
      clear hA hB
      generalize ((spread (tk ++ [p])).length : Int) - 1 = A at *
      generalize ((spread tk).length : Int) - 1 = B at *
      have Hpk := Lib.hid hpk
      have Hlen := Lib.hid hlen
      have h4' : tk.length ≤ 4 := h4
      have h4o : out.length ≤ 4 := by rw [← hlen]; exact h4
      clear hstep hmay hpk hpm hrd hmay2 hlen
      have hz0 : (pcs [] ++ []).length = 0 * 3 := rfl
      have hz1 : ([] : List P3).length ≤ 0 := Nat.le_refl _
      have hz2 : 0 ≤ maxLen := Nat.zero_le _
      rcases hI with ⟨rfl, rfl, rfl, rfl, hp⟩ | ⟨ga, ca, ja, go, co, jo, rfl, rfl, hne0, hja, hca, hcam, hjo, hco, hcom, hp⟩
      · rw [if_pos (show raisesb [] p = true from rfl)] at hAB
        go_wp2_with (first
          | ((with_reducible apply sx_load_agg hp); exact zt rfl; infer_instance; infer_instance; (first | exact zl rfl | exact LB_le (by omega)); (first | (with_reducible exact LB_set (by omega)) | (simp only [n0, Nat.reduceAdd, n1, n2, n3, n4, n5, n6, n7, n8, n9]; try rfl)); simp only [zp, zq, z0, z1])
          | ((with_reducible apply sx_indexAddr); exact zx rfl; exact zk rfl; infer_instance; (first | exact AggTy.size | exact OneTy.size); omega; omega; ((try simp only [m0, Int.reduceToNat, m1, m2, Nat.reduceMul, Nat.reduceAdd, m3, m4, m5, n0]); exact rfl); simp only [zp, zq, z0, z1])
          | ((with_reducible apply sx_load_far hp); exact zt rfl; assumption; infer_instance; assumption; (first | exact zl rfl | omega); simp only [zp, zq, z0, z1])
          | ((with_reducible apply sx_buildSlice hp); infer_instance; (first | exact AggTy.size | exact OneTy.size); infer_instance; exact zl rfl; decide; (first | exact (rfl : _ = numbered 0 [_]) | exact (rfl : _ = numbered 0 [_, _]) | exact (rfl : _ = numbered 0 [_, _, _]) | exact (rfl : _ = numbered 0 [_, _, _, _])); exact rfl; (first | exact (rfl : _ = List.map (fun x : List Value => x.toArray) [_]) | exact (rfl : _ = List.map (fun x : List Value => x.toArray) [_, _]) | exact (rfl : _ = List.map (fun x : List Value => x.toArray) [_, _, _]) | exact (rfl : _ = List.map (fun x : List Value => x.toArray) [_, _, _, _])); (intro l hl <;> simp only [List.mem_cons, List.not_mem_nil, or_false] at hl <;> rcases hl with rfl | rfl | rfl | rfl <;> rfl); exact rfl; clear hp; (try clear w1); intro g w1 hp; simp only [zp, zq, z0, z1])
          | ((with_reducible apply sx_append_nil hp); infer_instance; infer_instance; exact rfl; decide; exact (rfl : _ = Value.slice none 0 0); exact zy rfl; infer_instance; exact rfl; exact rfl; decide; (unfold maxLen; decide); decide; clear hp; (try clear w1); intro g cap junk w1 hl1 hl2 hl3 hp; simp only [zp, zq, z0, z1])
          | ((with_reducible apply sx_append hp); infer_instance; infer_instance; exact rfl; decide; exact zy rfl; (first | exact List.Perm.refl _ | exact List.perm_middle (l₁ := [_]) | exact List.perm_middle (l₁ := [_, _]) | exact List.perm_middle (l₁ := [_, _, _]) | exact List.perm_middle (l₁ := [_, _, _, _]) | exact List.perm_middle (l₁ := [_, _, _, _, _])); (first | exact pcs_length _ | (simp only [List.length_map, Nat.mul_one])); assumption; assumption; assumption; exact zy rfl; infer_instance; exact rfl; exact rfl; decide; (unfold maxLen; omega); omega; clear hp; (try clear w1); intro g cap junk w1 hl1 hl2 hl3 hp; (try dsimp only [List.cons_append, List.nil_append] at hp); simp only [zp, zq, z0, z1])
          | ((with_reducible apply sx_slice0 hp); infer_instance; (first | exact AggTy.size | exact OneTy.size); clear hp; (try clear w1); intro g w1 hp; simp only [zp, zq, z0, z1])
          | ((with_reducible apply sx_append_none hp); infer_instance; infer_instance; exact zy rfl; infer_instance; exact pcs_length _; assumption; assumption; assumption; exact (rfl : _ = Value.slice none 0 0); simp only [zp, zq, z0, z1])
          | ((with_reducible refine sx_call hp (Hmore.out _ _ (PSl.own1 ?_ ?_ hp.blk)) ?_); rfl; rfl; clear hp; (try clear w1); intro w1 hp)
          | ((with_reducible refine sx_call hp (Hsome.out _ _ PSl.nil0) ?_); clear hp; (try clear w1); intro w1 hp))
        go_roundw
        case rel =>
          have e1 : pcs (([] : List P3) ++ [p]) = pcs ([] : List P3) ++ [.int .i64 p.x, .int .i64 p.y, .int .i64 p.z] := by rw [pcs_append]; rfl
          have e2 : (([] : List Int) ++ [(k : Int)]).map (Value.int .i64) = ([] : List Int).map (Value.int .i64) ++ [.int .i64 k] := by simp
          have e3 : (([] : List P3) ++ [p]).length = ([] : List P3).length + 1 := by simp
          have e4 : (([] : List Int) ++ [(k : Int)]).length = ([] : List Int).length + 1 := by simp
          refine ⟨k + 1, by omega, by go_num, ?_⟩
          rw [Hstep.out, if_pos (show raisesb [] p = true from rfl)]
          unfold RpI
          dsimp only
          rw [e1, e2, e3, e4]
          refine .inr ⟨_, _, _, _, _, _, rfl, rfl, by simp, ?_, ?_, ?_, ?_, ?_, ?_, hp.sub (by repeat (first | exact List.nil_sublist _ | exact List.Sublist.refl _ | apply List.Sublist.cons_cons | apply List.Sublist.cons))⟩ <;> assumption
        case measure => simp [intOf]; omega
      · have hmne : tk.length ≠ 0 := fun h => hne0 (List.eq_nil_of_length_eq_zero h)
        cases hr : raisesb tk p
        · rw [hr, if_neg (by simp)] at hAB
          have Hr := Lib.hid hr
          clear hr
          go_wp2_with (first
          | ((with_reducible apply sx_load_agg hp); exact zt rfl; infer_instance; infer_instance; (first | exact zl rfl | exact LB_le (by omega)); (first | (with_reducible exact LB_set (by omega)) | (simp only [n0, Nat.reduceAdd, n1, n2, n3, n4, n5, n6, n7, n8, n9]; try rfl)); simp only [zp, zq, z0, z1])
          | ((with_reducible apply sx_indexAddr); exact zx rfl; exact zk rfl; infer_instance; (first | exact AggTy.size | exact OneTy.size); omega; omega; ((try simp only [m0, Int.reduceToNat, m1, m2, Nat.reduceMul, Nat.reduceAdd, m3, m4, m5, n0]); exact rfl); simp only [zp, zq, z0, z1])
          | ((with_reducible apply sx_load_far hp); exact zt rfl; assumption; infer_instance; assumption; (first | exact zl rfl | omega); simp only [zp, zq, z0, z1])
          | ((with_reducible apply sx_buildSlice hp); infer_instance; (first | exact AggTy.size | exact OneTy.size); infer_instance; exact zl rfl; decide; (first | exact (rfl : _ = numbered 0 [_]) | exact (rfl : _ = numbered 0 [_, _]) | exact (rfl : _ = numbered 0 [_, _, _]) | exact (rfl : _ = numbered 0 [_, _, _, _])); exact rfl; (first | exact (rfl : _ = List.map (fun x : List Value => x.toArray) [_]) | exact (rfl : _ = List.map (fun x : List Value => x.toArray) [_, _]) | exact (rfl : _ = List.map (fun x : List Value => x.toArray) [_, _, _]) | exact (rfl : _ = List.map (fun x : List Value => x.toArray) [_, _, _, _])); (intro l hl <;> simp only [List.mem_cons, List.not_mem_nil, or_false] at hl <;> rcases hl with rfl | rfl | rfl | rfl <;> rfl); exact rfl; clear hp; (try clear w1); intro g w1 hp; simp only [zp, zq, z0, z1])
          | ((with_reducible apply sx_append_nil hp); infer_instance; infer_instance; exact rfl; decide; exact (rfl : _ = Value.slice none 0 0); exact zy rfl; infer_instance; exact rfl; exact rfl; decide; (unfold maxLen; decide); decide; clear hp; (try clear w1); intro g cap junk w1 hl1 hl2 hl3 hp; simp only [zp, zq, z0, z1])
          | ((with_reducible apply sx_append hp); infer_instance; infer_instance; exact rfl; decide; exact zy rfl; (first | exact List.Perm.refl _ | exact List.perm_middle (l₁ := [_]) | exact List.perm_middle (l₁ := [_, _]) | exact List.perm_middle (l₁ := [_, _, _]) | exact List.perm_middle (l₁ := [_, _, _, _]) | exact List.perm_middle (l₁ := [_, _, _, _, _])); (first | exact pcs_length _ | (simp only [List.length_map, Nat.mul_one])); assumption; assumption; assumption; exact zy rfl; infer_instance; exact rfl; exact rfl; decide; (unfold maxLen; omega); omega; clear hp; (try clear w1); intro g cap junk w1 hl1 hl2 hl3 hp; (try dsimp only [List.cons_append, List.nil_append] at hp); simp only [zp, zq, z0, z1])
          | ((with_reducible apply sx_slice0 hp); infer_instance; (first | exact AggTy.size | exact OneTy.size); clear hp; (try clear w1); intro g w1 hp; simp only [zp, zq, z0, z1])
          | ((with_reducible apply sx_append_tk hp); infer_instance; infer_instance; exact rfl; exact zy rfl; exact List.Perm.refl _; exact zy rfl; infer_instance; assumption; (unfold maxLen; omega); omega; clear hp; (try clear w1); intro g cap junk w1 hl1 hl2 hl3 hp; simp only [zp, zq, z0, z1])
          | ((with_reducible refine sx_call hp (Hmore.out _ _ (PSl.own1 ?_ ?_ hp.blk)) ?_); rfl; rfl; clear hp; (try clear w1); intro w1 hp)
          | ((with_reducible refine sx_call hp (Hsome.out _ _ (PSl.own hp.blk)) ?_); clear hp; (try clear w1); intro w1 hp))
          go_roundw
          case rel =>
            refine ⟨k + 1, by omega, by go_num, ?_⟩
            rw [Hstep.out, if_neg (by rw [Hr.out]; simp)]
            exact .inr ⟨ga, ca, ja, go, co, jo, rfl, rfl, hne0, hja, hca, hcam, hjo, hco, hcom, hp.sub (by repeat (first | exact List.nil_sublist _ | exact List.Sublist.refl _ | apply List.Sublist.cons_cons | apply List.Sublist.cons))⟩
          case measure => simp [intOf]; omega
        · rw [hr, if_pos rfl] at hAB
          have Hr := Lib.hid hr
          clear hr
          go_wp2_with (first
          | ((with_reducible apply sx_load_agg hp); exact zt rfl; infer_instance; infer_instance; (first | exact zl rfl | exact LB_le (by omega)); (first | (with_reducible exact LB_set (by omega)) | (simp only [n0, Nat.reduceAdd, n1, n2, n3, n4, n5, n6, n7, n8, n9]; try rfl)); simp only [zp, zq, z0, z1])
          | ((with_reducible apply sx_indexAddr); exact zx rfl; exact zk rfl; infer_instance; (first | exact AggTy.size | exact OneTy.size); omega; omega; ((try simp only [m0, Int.reduceToNat, m1, m2, Nat.reduceMul, Nat.reduceAdd, m3, m4, m5, n0]); exact rfl); simp only [zp, zq, z0, z1])
          | ((with_reducible apply sx_load_far hp); exact zt rfl; assumption; infer_instance; assumption; (first | exact zl rfl | omega); simp only [zp, zq, z0, z1])
          | ((with_reducible apply sx_buildSlice hp); infer_instance; (first | exact AggTy.size | exact OneTy.size); infer_instance; exact zl rfl; decide; (first | exact (rfl : _ = numbered 0 [_]) | exact (rfl : _ = numbered 0 [_, _]) | exact (rfl : _ = numbered 0 [_, _, _]) | exact (rfl : _ = numbered 0 [_, _, _, _])); exact rfl; (first | exact (rfl : _ = List.map (fun x : List Value => x.toArray) [_]) | exact (rfl : _ = List.map (fun x : List Value => x.toArray) [_, _]) | exact (rfl : _ = List.map (fun x : List Value => x.toArray) [_, _, _]) | exact (rfl : _ = List.map (fun x : List Value => x.toArray) [_, _, _, _])); (intro l hl <;> simp only [List.mem_cons, List.not_mem_nil, or_false] at hl <;> rcases hl with rfl | rfl | rfl | rfl <;> rfl); exact rfl; clear hp; (try clear w1); intro g w1 hp; simp only [zp, zq, z0, z1])
          | ((with_reducible apply sx_append_nil hp); infer_instance; infer_instance; exact rfl; decide; exact (rfl : _ = Value.slice none 0 0); exact zy rfl; infer_instance; exact rfl; exact rfl; decide; (unfold maxLen; decide); decide; clear hp; (try clear w1); intro g cap junk w1 hl1 hl2 hl3 hp; simp only [zp, zq, z0, z1])
          | ((with_reducible apply sx_append hp); infer_instance; infer_instance; exact rfl; decide; exact zy rfl; (first | exact List.Perm.refl _ | exact List.perm_middle (l₁ := [_]) | exact List.perm_middle (l₁ := [_, _]) | exact List.perm_middle (l₁ := [_, _, _]) | exact List.perm_middle (l₁ := [_, _, _, _]) | exact List.perm_middle (l₁ := [_, _, _, _, _])); (first | exact pcs_length _ | (simp only [List.length_map, Nat.mul_one])); assumption; assumption; assumption; exact zy rfl; infer_instance; exact rfl; exact rfl; decide; (unfold maxLen; omega); omega; clear hp; (try clear w1); intro g cap junk w1 hl1 hl2 hl3 hp; (try dsimp only [List.cons_append, List.nil_append] at hp); simp only [zp, zq, z0, z1])
          | ((with_reducible apply sx_slice0 hp); infer_instance; (first | exact AggTy.size | exact OneTy.size); clear hp; (try clear w1); intro g w1 hp; simp only [zp, zq, z0, z1])
          | ((with_reducible apply sx_append_tk hp); infer_instance; infer_instance; exact rfl; exact zy rfl; exact List.Perm.refl _; exact zy rfl; infer_instance; assumption; (unfold maxLen; omega); omega; clear hp; (try clear w1); intro g cap junk w1 hl1 hl2 hl3 hp; simp only [zp, zq, z0, z1])
          | ((with_reducible refine sx_call hp (Hmore.out _ _ (PSl.own1 ?_ ?_ hp.blk)) ?_); rfl; rfl; clear hp; (try clear w1); intro w1 hp)
          | ((with_reducible refine sx_call hp (Hsome.out _ _ (PSl.own hp.blk)) ?_); clear hp; (try clear w1); intro w1 hp))
          go_roundw
          case rel =>
            have e1 : pcs (tk ++ [p]) = pcs tk ++ [.int .i64 p.x, .int .i64 p.y, .int .i64 p.z] := by rw [pcs_append]; rfl
            have e2 : (out ++ [(k : Int)]).map (Value.int .i64) = out.map (Value.int .i64) ++ [.int .i64 k] := by simp
            have e3 : (tk ++ [p]).length = tk.length + 1 := by simp
            have e4 : (out ++ [(k : Int)]).length = out.length + 1 := by simp
            refine ⟨k + 1, by omega, by go_num, ?_⟩
            rw [Hstep.out, if_pos Hr.out]
            unfold RpI
            dsimp only
            rw [e1, e2, e3, e4]
            refine .inr ⟨_, _, _, _, _, _, rfl, rfl, by simp, ?_, ?_, ?_, ?_, ?_, ?_, hp.sub (by repeat (first | exact List.nil_sublist _ | exact List.Sublist.refl _ | apply List.Sublist.cons_cons | apply List.Sublist.cons))⟩ <;> assumption
          case measure => simp [intOf]; omega
    · obtain rfl : k = ps.length := by omega
      have hsp : sp = (spst ps ps.length).2 := Hsp.out
      clear Hsp
      generalize spst ps ps.length = s at *
      obtain ⟨tk, out⟩ := s
      dsimp only at hsp hI
      subst hsp
      rcases hI with ⟨rfl, rfl, rfl, rfl, hp⟩ | ⟨ga, ca, ja, go, co, jo, rfl, rfl, hne0, hja, hca, hcam, hjo, hco, hcom, hp⟩
      · go_wp2_with (first
          | ((with_reducible apply sx_load_agg hp); exact zt rfl; infer_instance; infer_instance; (first | exact zl rfl | exact LB_le (by omega)); (first | (with_reducible exact LB_set (by omega)) | (simp only [n0, Nat.reduceAdd, n1, n2, n3, n4, n5, n6, n7, n8, n9]; try rfl)); simp only [zp, zq, z0, z1])
          | ((with_reducible apply sx_indexAddr); exact zx rfl; exact zk rfl; infer_instance; (first | exact AggTy.size | exact OneTy.size); omega; omega; ((try simp only [m0, Int.reduceToNat, m1, m2, Nat.reduceMul, Nat.reduceAdd, m3, m4, m5, n0]); exact rfl); simp only [zp, zq, z0, z1])
          | ((with_reducible apply sx_load_far hp); exact zt rfl; assumption; infer_instance; assumption; (first | exact zl rfl | omega); simp only [zp, zq, z0, z1])
          | ((with_reducible apply sx_buildSlice hp); infer_instance; (first | exact AggTy.size | exact OneTy.size); infer_instance; exact zl rfl; decide; (first | exact (rfl : _ = numbered 0 [_]) | exact (rfl : _ = numbered 0 [_, _]) | exact (rfl : _ = numbered 0 [_, _, _]) | exact (rfl : _ = numbered 0 [_, _, _, _])); exact rfl; (first | exact (rfl : _ = List.map (fun x : List Value => x.toArray) [_]) | exact (rfl : _ = List.map (fun x : List Value => x.toArray) [_, _]) | exact (rfl : _ = List.map (fun x : List Value => x.toArray) [_, _, _]) | exact (rfl : _ = List.map (fun x : List Value => x.toArray) [_, _, _, _])); (intro l hl <;> simp only [List.mem_cons, List.not_mem_nil, or_false] at hl <;> rcases hl with rfl | rfl | rfl | rfl <;> rfl); exact rfl; clear hp; (try clear w1); intro g w1 hp; simp only [zp, zq, z0, z1])
          | ((with_reducible apply sx_append_nil hp); infer_instance; infer_instance; exact rfl; decide; exact (rfl : _ = Value.slice none 0 0); exact zy rfl; infer_instance; exact rfl; exact rfl; decide; (unfold maxLen; decide); decide; clear hp; (try clear w1); intro g cap junk w1 hl1 hl2 hl3 hp; simp only [zp, zq, z0, z1])
          | ((with_reducible apply sx_append hp); infer_instance; infer_instance; exact rfl; decide; exact zy rfl; (first | exact List.Perm.refl _ | exact List.perm_middle (l₁ := [_]) | exact List.perm_middle (l₁ := [_, _]) | exact List.perm_middle (l₁ := [_, _, _]) | exact List.perm_middle (l₁ := [_, _, _, _]) | exact List.perm_middle (l₁ := [_, _, _, _, _])); (first | exact pcs_length _ | (simp only [List.length_map, Nat.mul_one])); assumption; assumption; assumption; exact zy rfl; infer_instance; exact rfl; exact rfl; decide; (unfold maxLen; omega); omega; clear hp; (try clear w1); intro g cap junk w1 hl1 hl2 hl3 hp; (try dsimp only [List.cons_append, List.nil_append] at hp); simp only [zp, zq, z0, z1]))
        exact bodyPost_ret (results_two rfl rfl rfl) rfl ⟨_, rfl, hp.keep, .inl ⟨rfl, rfl⟩⟩
      · go_wp2_with (first
          | ((with_reducible apply sx_load_agg hp); exact zt rfl; infer_instance; infer_instance; (first | exact zl rfl | exact LB_le (by omega)); (first | (with_reducible exact LB_set (by omega)) | (simp only [n0, Nat.reduceAdd, n1, n2, n3, n4, n5, n6, n7, n8, n9]; try rfl)); simp only [zp, zq, z0, z1])
          | ((with_reducible apply sx_indexAddr); exact zx rfl; exact zk rfl; infer_instance; (first | exact AggTy.size | exact OneTy.size); omega; omega; ((try simp only [m0, Int.reduceToNat, m1, m2, Nat.reduceMul, Nat.reduceAdd, m3, m4, m5, n0]); exact rfl); simp only [zp, zq, z0, z1])
          | ((with_reducible apply sx_load_far hp); exact zt rfl; assumption; infer_instance; assumption; (first | exact zl rfl | omega); simp only [zp, zq, z0, z1])
          | ((with_reducible apply sx_buildSlice hp); infer_instance; (first | exact AggTy.size | exact OneTy.size); infer_instance; exact zl rfl; decide; (first | exact (rfl : _ = numbered 0 [_]) | exact (rfl : _ = numbered 0 [_, _]) | exact (rfl : _ = numbered 0 [_, _, _]) | exact (rfl : _ = numbered 0 [_, _, _, _])); exact rfl; (first | exact (rfl : _ = List.map (fun x : List Value => x.toArray) [_]) | exact (rfl : _ = List.map (fun x : List Value => x.toArray) [_, _]) | exact (rfl : _ = List.map (fun x : List Value => x.toArray) [_, _, _]) | exact (rfl : _ = List.map (fun x : List Value => x.toArray) [_, _, _, _])); (intro l hl <;> simp only [List.mem_cons, List.not_mem_nil, or_false] at hl <;> rcases hl with rfl | rfl | rfl | rfl <;> rfl); exact rfl; clear hp; (try clear w1); intro g w1 hp; simp only [zp, zq, z0, z1])
          | ((with_reducible apply sx_append_nil hp); infer_instance; infer_instance; exact rfl; decide; exact (rfl : _ = Value.slice none 0 0); exact zy rfl; infer_instance; exact rfl; exact rfl; decide; (unfold maxLen; decide); decide; clear hp; (try clear w1); intro g cap junk w1 hl1 hl2 hl3 hp; simp only [zp, zq, z0, z1])
          | ((with_reducible apply sx_append hp); infer_instance; infer_instance; exact rfl; decide; exact zy rfl; (first | exact List.Perm.refl _ | exact List.perm_middle (l₁ := [_]) | exact List.perm_middle (l₁ := [_, _]) | exact List.perm_middle (l₁ := [_, _, _]) | exact List.perm_middle (l₁ := [_, _, _, _]) | exact List.perm_middle (l₁ := [_, _, _, _, _])); (first | exact pcs_length _ | (simp only [List.length_map, Nat.mul_one])); assumption; assumption; assumption; exact zy rfl; infer_instance; exact rfl; exact rfl; decide; (unfold maxLen; omega); omega; clear hp; (try clear w1); intro g cap junk w1 hl1 hl2 hl3 hp; (try dsimp only [List.cons_append, List.nil_append] at hp); simp only [zp, zq, z0, z1]))
        exact bodyPost_ret (results_two rfl rfl rfl) rfl ⟨_, rfl, hp.keep, .inr ⟨go, co, jo, hp.fresh, rfl, hp.blk⟩⟩
theorem rspread_any {ps : List P3} {v : Value} (hlen : ps.length ≤ maxLen) (w : World) (h : PSl w v ps) : Calls Try.prog 15 #[v] w (RetI (spreadO ps).1 (fun sv => .tuple #[sv, .int .i64 (spreadO ps).2]) w) := by
  have Hfn := Lib.hid fun w1 (hk : Keep [] w w1) => rfine_any hlen w1 (h.keep hk)
  by_cases hf : fineb ps = true
  · by_cases hl : 256 < ps.length
    · rw [spreadO_long hf hl]
      rw [hf] at Hfn
      rcases h with ⟨rfl, rfl⟩ | ⟨g, off, cap, bc, t, z, rfl, hb, hv⟩
      · simp at hl
      · exact rspread_bad ps true 3 _ _ _ w Hfn (.inr ⟨rfl, rfl, by omega⟩) hlen
    · rw [spreadO_ok hf hl]
      rcases h with ⟨rfl, rfl⟩ | ⟨g, off, cap, bc, t, z, rfl, hb, hv⟩
      · exact rspread_nil w
      · exact rspread_far ps _ (Lib.hid rfl) hf (by omega) w g off cap bc t hb hv
  · have hf' : fineb ps = false := by simpa using hf
    rw [spreadO_bad hf']
    rw [hf'] at Hfn
    rcases h with ⟨rfl, rfl⟩ | ⟨g, off, cap, bc, t, z, rfl, hb, hv⟩
    · cases hf'
    · exact rspread_bad ps false 7 _ _ _ w Hfn (.inl ⟨rfl, rfl⟩) hlen
end Go.Proofs.Ythnpmmpcejfllaa
