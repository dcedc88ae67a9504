/-
  strconv.ParseUint, strings.CutPrefix, strings.Cut: every text.
-/
import Derived.Test.YtbdkbmhejoakiaaDoorTu
import Derived.Laws.Closers25
import Derived.Lib.Bytealg
set_option linter.unusedSimpArgs false
set_option linter.unusedVariables false
set_option maxRecDepth 100000
namespace Go.Proofs.YtbdkbmhejoakiaaDoor
open Go Go.RowKit Go.Shelf
open Go.Lib (NumEnd)
attribute [local irreducible] wpList

theorem keep_bytes (w : World) (e : TypeId) (s : ByteArray) : Keep [] w (Lib.bytesWorld w e s) := by
  refine ⟨rfl, rfl, rfl, ?_, fun i hi _ => Lib.bytesWorld_at_old w e s i hi⟩
  rw [Lib.bytesWorld_size]
  omega
theorem fpin_empty (b : Int) (w : World) : Calls Tryd.prog 57 #[.string { data := #[] }, .int .i64 b, .int .i64 32] w (Ret (Lib.uintTupleM 85 4294967295 .syntax) w) := by
  go_enter Tryd.func57, Tryd.ntmps57
  have hp := Hp.start [] w
  go_wp2_with (first
          | ((with_reducible apply sx_load_one hp); exact zt rfl; infer_instance; infer_instance; (first | exact zio rfl | exact LB_get (by omega)); simp only [zp, zq, z0, z1])
          | ((with_reducible apply sx_index_one); exact za rfl; exact zk rfl; infer_instance; infer_instance; omega; omega; (first | exact rfl | (go_simp; done)); simp only [zp, zq, z0, z1])
          | ((with_reducible apply sx_index_agg); exact za rfl; exact zk rfl; infer_instance; infer_instance; omega; omega; ((try simp only [m0, Int.reduceToNat, m1, m2, Nat.reduceMul, m3, m4, n5, n1, n2, n3, n4, n6]); exact rfl); simp only [zp, zq, z0, z1])
          | ((with_reducible apply sx_indexAddr); exact zx rfl; exact zk rfl; infer_instance; (first | exact AggTy.size | exact OneTy.size); omega; omega; ((try simp only [m0, Int.reduceToNat, m1, m2, Nat.reduceMul, Nat.reduceAdd, m3, m4, m5, n0]); exact rfl); simp only [zp, zq, z0, z1])
          | ((with_reducible apply sx_load_far1 hp); exact zt rfl; assumption; infer_instance; (first | assumption | (first | exact zio rfl | exact LB_get (by omega))); simp only [zp, zq, z0, z1]))
  exact bodyPost_ret (results_two rfl rfl rfl) rfl ⟨rfl, hp.keep⟩
theorem ba_nil {t : ByteArray} (h : t.size = 0) : t = { data := #[] } := by
  obtain ⟨⟨l⟩⟩ := t
  cases l with
  | nil => rfl
  | cons _ _ => simp [ByteArray.size] at h
theorem ba_ne {t : ByteArray} (h : ¬ t.size = 0) : t.data.toList ≠ [] := by
  intro e
  apply h
  have : t.data.toList.length = 0 := by rw [e]; rfl
  rwa [Array.length_toList] at this
theorem fpin10 (t : ByteArray) (hmax : t.size ≤ 4611686018427387904) (w : World) : Calls Tryd.prog 57 #[.string t, .int .i64 10, .int .i64 32] w (Ret (Lib.uintTupleM 85 4294967295 (pu10 t.data.toList)) w) := by
  by_cases h : t.size = 0
  · obtain rfl := ba_nil h
    exact fpin_empty 10 w
  · unfold pu10
    rw [if_neg (ba_ne h)]
    exact (Any.internal_strconv_ParseUint_10_b32 lays287 t h (by omega) w).mono fun e w' h => ⟨h.1, by rw [h.2]; exact keep_bytes _ _ _⟩
theorem fpin16 (t : ByteArray) (hmax : t.size ≤ 4611686018427387904) (w : World) : Calls Tryd.prog 57 #[.string t, .int .i64 16, .int .i64 32] w (Ret (Lib.uintTupleM 85 4294967295 (pu16 t.data.toList)) w) := by
  by_cases h : t.size = 0
  · obtain rfl := ba_nil h
    exact fpin_empty 16 w
  · unfold pu16
    rw [if_neg (ba_ne h)]
    refine fpin16_any t ?_ hmax w
    rw [← decide_eq_emptyBytes]
    exact decide_eq_false (fun h2 => h (by rw [h2]; rfl))
/-- What package-level variables hold. -/
structure Env (w : World) : Prop where
  e1 : ∃ ev t z, w.heap[1]? = some (.cells #[ev] t z) ∧ (ev = .nilIface ∨ ∃ te pe, ev = .iface te pe)
  e2 : ∃ ev t z, w.heap[2]? = some (.cells #[ev] t z) ∧ (ev = .nilIface ∨ ∃ te pe, ev = .iface te pe)
  tab : Lib.TabIs Tryd.prog w "internal/strconv.uint64pow10" .u64 Lib.pow10Tab
theorem heap_keep {w w1 : World} (hk : Keep [] w w1) {g : Nat} {o : Obj} (h : w.heap[g]? = some o) : w1.heap[g]? = some o := by
  have hl : g < w.heap.size := by
    rcases Nat.lt_or_ge g w.heap.size with h' | h'
    · exact h'
    · simp [Array.getElem?_eq_none h'] at h
  rw [hk.block g hl (by simp)]
  exact h
theorem Env.keep {w w1 : World} (h : Env w) (hk : Keep [] w w1) : Env w1 := by
  refine ⟨?_, ?_, ?_⟩
  · obtain ⟨ev, t, z, h1, h2⟩ := h.e1
    exact ⟨ev, t, z, heap_keep hk h1, h2⟩
  · obtain ⟨ev, t, z, h1, h2⟩ := h.e2
    exact ⟨ev, t, z, heap_keep hk h1, h2⟩
  · have h3 := h.tab
    unfold Lib.TabIs World.var? at *
    cases hg : Tryd.prog.globalNamed "internal/strconv.uint64pow10" with
    | none => simp [hg] at h3
    | some g =>
      simp only [hg, Option.bind_some] at h3 ⊢
      have hlt : g < w.heap.size := by
        rcases Nat.lt_or_ge g w.heap.size with h' | h'
        · exact h'
        · simp [Array.getElem?_eq_none h'] at h3
      rw [hk.block g hlt (by simp)]
      exact h3
/-- An error that is none. -/
def isErr (v : Value) : Prop := ∃ te pe, v = .iface te pe
theorem below_keep {w w1 : World} (h : Below w.heap.size w w1) : Keep [] w w1 := ⟨h.os, h.tape, h.output, h.size, fun i hi _ => h.block i hi⟩
theorem fto_syn (fn s : ByteArray) (hs : s.size ≤ 281474976710656) (b : Int) (w : World) (hE : Env w) : Calls Tryd.prog 58 #[.string fn, .string s, .int .i64 b, .int .i64 32, .iface 85 (.int .i64 2)] w (fun e w1 => Keep [] w w1 ∧ ∃ v, e = .returned v ∧ isErr v) := by
  obtain ⟨ev, t, z, h1, h2⟩ := hE.e1
  have hv : w.cell? ⟨1, 0, none⟩ = some ev := by
    unfold World.cell?
    rw [h1]
    rfl
  exact (Any.strconv_toError_syntax lays245 fn s b 32 ev w hs hv h2).mono fun e w1 ⟨N, h3, _, _, h4⟩ => ⟨below_keep h4, _, h3, _, _, rfl⟩
theorem fto_ran (fn s : ByteArray) (hs : s.size ≤ 281474976710656) (b : Int) (w : World) (hE : Env w) : Calls Tryd.prog 58 #[.string fn, .string s, .int .i64 b, .int .i64 32, .iface 85 (.int .i64 1)] w (fun e w1 => Keep [] w w1 ∧ ∃ v, e = .returned v ∧ isErr v) := by
  obtain ⟨ev, t, z, h1, h2⟩ := hE.e2
  have hv : w.cell? ⟨2, 0, none⟩ = some ev := by
    unfold World.cell?
    rw [h1]
    rfl
  exact (Any.strconv_toError_range lays245 fn s b 32 ev w hs hv h2).mono fun e w1 ⟨N, h3, _, _, h4⟩ => ⟨below_keep h4, _, h3, _, _, rfl⟩
/-- What ParseUint hands back. -/
def PuR (r : NumEnd Nat) (w : World) (e : Ending) (w1 : World) : Prop := Keep [] w w1 ∧ ∃ (k : Int) (v : Value), e = .returned (.tuple #[.int .u64 k, v]) ∧ match r with
  | .ok n => k = n ∧ v = .nilIface
  | _ => isErr v
set_option maxHeartbeats 4000000 in
theorem fpub (t : ByteArray) (b : Int) (ht : t.size ≤ 281474976710656) (r : NumEnd Nat) (w : World) (hE : Env w) (IN : Hid (∀ w, Calls Tryd.prog 57 #[.string t, .int .i64 b, .int .i64 32] w (Ret (Lib.uintTupleM 85 4294967295 r) w))) :
    Calls Tryd.prog 32 #[.string t, .int .i64 b, .int .i64 32] w (PuR r w) := by
  have HE := Lib.hid hE
  have HT := Lib.hid ht
  clear hE ht
  cases r with
  | ok n =>
    rw [tup_ok] at IN
    go_enter Tryd.func32, Tryd.ntmps32
    have hp := Hp.start [] w
    go_wp2_with (first
          | ((with_reducible refine sx_call hp (IN.out _) ?_); clear hp; (try clear w1); intro w1 hp))
    exact bodyPost_ret (results_two rfl rfl rfl) rfl ⟨hp.keep, _, _, rfl, rfl, rfl⟩
  | «syntax» =>
    rw [tup_syn] at IN
    go_enter Tryd.func32, Tryd.ntmps32
    have hp := Hp.start [] w
    go_wp2_with (first
          | ((with_reducible refine sx_call hp (IN.out _) ?_); clear hp; (try clear w1); intro w1 hp)
          | ((refine Calls.mono (fto_syn _ _ HT.out _ _ (HE.out.keep hp.keep)) ?_); (rintro _ w2 ⟨hk, v, rfl, hv⟩); (have hp := hp.call hk); clear hk))
    exact bodyPost_ret (results_two rfl rfl rfl) rfl ⟨hp.keep, _, _, rfl, hv⟩
  | range =>
    rw [tup_ran] at IN
    go_enter Tryd.func32, Tryd.ntmps32
    have hp := Hp.start [] w
    go_wp2_with (first
          | ((with_reducible refine sx_call hp (IN.out _) ?_); clear hp; (try clear w1); intro w1 hp)
          | ((refine Calls.mono (fto_ran _ _ HT.out _ _ (HE.out.keep hp.keep)) ?_); (rintro _ w2 ⟨hk, v, rfl, hv⟩); (have hp := hp.call hk); clear hk))
    exact bodyPost_ret (results_two rfl rfl rfl) rfl ⟨hp.keep, _, _, rfl, hv⟩
theorem idx_cut : ∀ (l : List UInt8), (Lib.indexByte l 46 = -1 ∧ cutA l = l ∧ cutB l = []) ∨ ∃ k : Nat, Lib.indexByte l 46 = k ∧ k < l.length ∧ cutA l = l.take k ∧ cutB l = l.drop (k + 1)
  | [] => .inl ⟨rfl, rfl, rfl⟩
  | b :: l => by
    unfold Lib.indexByte
    by_cases h : (b == 46) = true
    · rw [if_pos h]
      have hb : b = 46 := by simpa using h
      subst hb
      exact .inr ⟨0, rfl, by simp, by unfold cutA; simp, by unfold cutB; simp⟩
    · rw [if_neg h]
      have h1 : (b != 46) = true := by simpa using h
      have ea : cutA (b :: l) = b :: cutA l := by unfold cutA; exact List.takeWhile_cons_of_pos (p := fun c => c != 46) h1
      have eb : cutB (b :: l) = cutB l := by unfold cutB; exact congrArg (List.drop 1) (List.dropWhile_cons_of_pos (p := fun c => c != 46) h1)
      rcases idx_cut l with ⟨i1, i2, i3⟩ | ⟨k, i1, i2, i3, i4⟩
      · exact .inl ⟨by rw [i1]; rfl, by rw [ea, i2], by rw [eb, i3]⟩
      · refine .inr ⟨k + 1, ?_, by rw [List.length_cons]; omega, by rw [ea, i3]; rfl, by rw [eb, i4]; rfl⟩
        rw [i1, if_neg (by first | (simp; done) | (simp; omega))]
        try rfl
theorem ext_list (s : ByteArray) (a b : Nat) : (s.extract a b).data.toList = (s.data.toList.drop a).take (b - a) := by
  rw [ByteArray.data_extract, Array.toList_extract, List.extract_eq_take_drop]
theorem findexB_all (s : ByteArray) (w : World) : (callFunc 103 #[.string s, .int .u8 46]).run Tryd.prog w = .ok (.value (.int .i64 (Lib.indexByte s.data.toList 46))) w := by
  rw [run_callFunc_extern Tryd.func103 (by kernel_rfl) (by kernel_rfl) (by kernel_rfl) (e := Extern.BytealgIndexByte.indexByte) (by kernel_rfl), Lib.run_indexByteString]
  rfl
theorem findexB_any (s : ByteArray) (w : World) : Calls Tryd.prog 88 #[.string s, .int .u8 46] w (Ret (.int .i64 (Lib.indexByte s.data.toList 46)) w) := by
  have hd := findexB_all s
  generalize Lib.indexByte s.data.toList 46 = i at *
  go_enter Tryd.func88, Tryd.ntmps88
  have hp := Hp.start [] w
  go_wp2_with (first
          | fail)
  exact bodyPost_ret (results_one rfl rfl) rfl ⟨rfl, hp.keep⟩
theorem findexB2_any (s : ByteArray) (w : World) : Calls Tryd.prog 88 #[.string s, .int .u8 ((({ data := #[46] } : ByteArray)[0]'(by decide)).toNat : Int)] w (Ret (.int .i64 (Lib.indexByte s.data.toList 46)) w) := findexB_any s w
theorem findex_any (s : ByteArray) (w : World) : Calls Tryd.prog 72 #[.string s, .string { data := #[46] }] w (Ret (.int .i64 (Lib.indexByte s.data.toList 46)) w) := by
  have I2 := Lib.hid (findexB2_any s)
  cases hd : ([46] == s.toList) with
  | true =>
    have h0 : Lib.indexByte s.data.toList 46 = 0 := by
      have h1 : s.toList = [46] := (by simpa using hd : [46] = s.toList).symm
      rw [← Lib.toList_data, h1]
      rfl
    rw [h0]
    clear I2 h0
    go_enter Tryd.func72, Tryd.ntmps72
    have hp := Hp.start [] w
    go_wp2_with (first
          | ((with_reducible apply sx_guard); (conv => whnf); refine Bx.mk ?_; (try simp only [zp, zq, z0, z1]))
          | ((with_reducible apply sx_load_one hp); exact zt rfl; infer_instance; infer_instance; (first | exact zio rfl | exact LB_get (by omega)); simp only [zp, zq, z0, z1])
          | ((with_reducible apply sx_index_one); exact za rfl; exact zk rfl; infer_instance; infer_instance; omega; omega; (first | exact rfl | (go_simp; done)); simp only [zp, zq, z0, z1])
          | ((with_reducible apply sx_index_agg); exact za rfl; exact zk rfl; infer_instance; infer_instance; omega; omega; ((try simp only [m0, Int.reduceToNat, m1, m2, Nat.reduceMul, m3, m4, n5, n1, n2, n3, n4, n6]); exact rfl); simp only [zp, zq, z0, z1]))
    all_goals first | exact bodyPost_ret (results_one rfl rfl) rfl ⟨rfl, hp.keep⟩ | (exfalso; simp_all; done)
  | false =>
    generalize Lib.indexByte s.data.toList 46 = i at *
    go_enter Tryd.func72, Tryd.ntmps72
    have hp := Hp.start [] w
    go_wp2_with (first
          | ((with_reducible apply sx_guard); (conv => whnf); refine Bx.mk ?_; (try simp only [zp, zq, z0, z1]))
          | ((with_reducible apply sx_load_one hp); exact zt rfl; infer_instance; infer_instance; (first | exact zio rfl | exact LB_get (by omega)); simp only [zp, zq, z0, z1])
          | ((with_reducible apply sx_index_one); exact za rfl; exact zk rfl; infer_instance; infer_instance; omega; omega; (first | exact rfl | (go_simp; done)); simp only [zp, zq, z0, z1])
          | ((with_reducible apply sx_index_agg); exact za rfl; exact zk rfl; infer_instance; infer_instance; omega; omega; ((try simp only [m0, Int.reduceToNat, m1, m2, Nat.reduceMul, m3, m4, n5, n1, n2, n3, n4, n6]); exact rfl); simp only [zp, zq, z0, z1])
          | ((with_reducible refine sx_call hp (I2.out _) ?_); clear hp; (try clear w1); intro w1 hp))
    all_goals first | exact bodyPost_ret (results_one rfl rfl) rfl ⟨rfl, hp.keep⟩ | (exfalso; simp_all; done)
theorem sl_to (s : ByteArray) (k : Nat) (h : k ≤ s.size) (W : World) : (Instr.sliceAt 9 (.string s) none (some (.int .i64 (k : Int))) none).run Tryd.prog W = .ok (.string (s.extract 0 k)) W := by
  have h1 : (k : Int) ≤ s.size := by omega
  have h2 : 0 ≤ (k : Int) := by omega
  rw [run_sliceAt_string (h := Tryd.underlying9)]
  go_simp
theorem sl_from (s : ByteArray) (k : Nat) (h : k ≤ s.size) (W : World) : (Instr.sliceAt 9 (.string s) (some (.int .i64 (k : Int))) none none).run Tryd.prog W = .ok (.string (s.extract k s.size)) W := by
  have h1 : (k : Int) ≤ s.size := by omega
  have h2 : 0 ≤ (k : Int) := by omega
  rw [run_sliceAt_string (h := Tryd.underlying9)]
  go_simp
theorem fcut_no (s : ByteArray) (I1 : Hid (∀ w, Calls Tryd.prog 72 #[.string s, .string { data := #[46] }] w (Ret (.int .i64 (-1)) w))) (w : World) : Calls Tryd.prog 56 #[.string s, .string { data := #[46] }] w (Ret (.tuple #[.string s, .string { data := #[] }, .bool false]) w) := by
  go_enter Tryd.func56, Tryd.ntmps56
  have hp := Hp.start [] w
  go_wp2_with (first
          | ((with_reducible refine sx_call hp (I1.out _) ?_); clear hp; (try clear w1); intro w1 hp))
  exact bodyPost_ret (results_three rfl rfl rfl rfl) rfl ⟨rfl, hp.keep⟩
theorem fcut_at (s : ByteArray) (k : Nat) (hk : k < s.size) (hm : s.size ≤ 4611686018427387904) (I1 : Hid (∀ w, Calls Tryd.prog 72 #[.string s, .string { data := #[46] }] w (Ret (.int .i64 (k : Int)) w))) (w : World) : Calls Tryd.prog 56 #[.string s, .string { data := #[46] }] w (Ret (.tuple #[.string (s.extract 0 k), .string (s.extract (k + 1) s.size), .bool true]) w) := by
  have hk2 : (k : Int) < s.size := by omega
  have hs1 := sl_to s k (by omega)
  have hs2 := sl_from s (k + 1) (by omega)
  rw [show (((k + 1 : Nat)) : Int) = (k : Int) + 1 by omega] at hs2
  go_enter Tryd.func56, Tryd.ntmps56
  have hp := Hp.start [] w
  go_upto_region 3 with (first
          | ((with_reducible refine sx_call hp (I1.out _) ?_); clear hp; (try clear w1); intro w1 hp))
  have hq := hp
  refine wp_drawn_hp hp hq [] (.q 0 (.q 1 (.q 2 (.q 3 (.q 4 (.q 5 (.q 6 (.q 7 (.q 8 (.q 9 (.q 10 (.q 11 .nil)))))))))))) (by kernel_rfl) (by kernel_rfl) ?_
  clear hp hq; (try clear w1); intro w1 hp hq
  repeat' (first
    | (((with_reducible apply sd_q); exact zo rfl); (first
        | ((with_reducible apply sd_move hp); (first | exact zi rfl | exact zg rfl); simp only [zp, zq, z0, z1])
        | ((with_reducible apply sd_assign hp); (first | exact zb rfl | exact zg rfl); simp only [zp, zq, z0, z1])
        | ((with_reducible apply sd_pure hp); exact rfl; (focus (intro _; go_simp; (try go_ints); try with_reducible rfl)); simp only [zp, zq, z0, z1])))
    | ((with_reducible apply sd_nil); clear hp; have hp := hq; clear hq))
  go_wp2
  exact bodyPost_ret (results_three rfl rfl rfl rfl) rfl ⟨rfl, hp.keep⟩
theorem fcut_in_any (s : ByteArray) (hm : s.size ≤ 4611686018427387904) : ∃ x y : ByteArray, ∃ b : Bool, (∀ w, Calls Tryd.prog 56 #[.string s, .string { data := #[46] }] w (Ret (.tuple #[.string x, .string y, .bool b]) w)) ∧ x.data.toList = cutA s.data.toList ∧ y.data.toList = cutB s.data.toList ∧ x.size ≤ s.size ∧ y.size ≤ s.size := by
  have I1 := Lib.hid (findex_any s)
  have hl : s.data.toList.length = s.size := by rw [Array.length_toList]; rfl
  rcases idx_cut s.data.toList with ⟨i1, i2, i3⟩ | ⟨k, i1, i2, i3, i4⟩
  · rw [i1] at I1
    exact ⟨s, { data := #[] }, false, fcut_no s I1, i2.symm, i3.symm, Nat.le_refl _, Nat.zero_le _⟩
  · rw [i1] at I1
    refine ⟨s.extract 0 k, s.extract (k + 1) s.size, true, fcut_at s k (by omega) hm I1, ?_, ?_, ?_, ?_⟩
    · rw [ext_list, i3, List.drop_zero, Nat.sub_zero]
    · rw [ext_list, i4, List.take_of_length_le]
      rw [List.length_drop, hl]
      exact Nat.le_refl _
    · rw [ByteArray.size_extract]; omega
    · rw [ByteArray.size_extract]; omega
theorem fcut_any (s : ByteArray) (hm : s.size ≤ 4611686018427387904) : ∃ x y : ByteArray, ∃ b : Bool, (∀ w, Calls Tryd.prog 31 #[.string s, .string { data := #[46] }] w (Ret (.tuple #[.string x, .string y, .bool b]) w)) ∧ x.data.toList = cutA s.data.toList ∧ y.data.toList = cutB s.data.toList ∧ x.size ≤ s.size ∧ y.size ≤ s.size := by
  obtain ⟨x, y, b, h, h2⟩ := fcut_in_any s hm
  refine ⟨x, y, b, fun w => ?_, h2⟩
  clear h2 hm
  have C1 := Lib.hid h
  clear h
  go_enter Tryd.func31, Tryd.ntmps31
  have hp := Hp.start [] w
  go_wp2_with (first
          | ((with_reducible refine sx_call hp (C1.out _) ?_); clear hp; (try clear w1); intro w1 hp))
  exact bodyPost_ret (results_three rfl rfl rfl rfl) rfl ⟨rfl, hp.keep⟩
/-! ### CutPrefix -/
def pre45 (s : ByteArray) : Bool := s.data.toList.head? == some 45
theorem ext_head (s : ByteArray) (h : 1 ≤ s.size) : ((s.extract 0 1).toList == [45]) = pre45 s := by
  have hl : s.data.toList.length = s.size := by rw [Array.length_toList]; rfl
  rw [Lib.toList_data, ext_list, List.drop_zero]
  unfold pre45
  cases e : s.data.toList with
  | nil => rw [e] at hl; simp at hl; omega
  | cons c l =>
    simp
theorem fhas_any (s : ByteArray) (hm : s.size ≤ 4611686018427387904) (w : World) : Calls Tryd.prog 71 #[.string s, .string { data := #[45] }] w (Ret (.bool (pre45 s)) w) := by
  by_cases h : 1 ≤ s.size
  · have hx := ext_head s h
    have h2 : decide (1 ≤ (s.size : Int)) = true := decide_eq_true (by omega)
    have hs1 := sl_to s 1 h
    rw [show (((1 : Nat)) : Int) = 1 from rfl] at hs1
    generalize pre45 s = b at *
    go_enter Tryd.func71, Tryd.ntmps71
    have hp := Hp.start [] w
    go_wp2_with (first
          | ((with_reducible apply sx_guard); (conv => whnf); refine Bx.mk ?_; (try simp only [zp, zq, z0, z1])))
    exact bodyPost_ret (results_one rfl rfl) rfl ⟨by rw [← hx]; rfl, hp.keep⟩
  · have h2 : decide (1 ≤ (s.size : Int)) = false := decide_eq_false (by omega)
    have hx : pre45 s = false := by
      obtain rfl := ba_nil (t := s) (by omega)
      rfl
    rw [hx]
    go_enter Tryd.func71, Tryd.ntmps71
    have hp := Hp.start [] w
    go_wp2_with (first
          | ((with_reducible apply sx_guard); (conv => whnf); refine Bx.mk ?_; (try simp only [zp, zq, z0, z1])))
    exact bodyPost_ret (results_one rfl rfl) rfl ⟨rfl, hp.keep⟩
theorem fcutpre_all (s : ByteArray) (hm : s.size ≤ 4611686018427387904) : ∃ x : ByteArray, (∀ w, Calls Tryd.prog 30 #[.string s, .string { data := #[45] }] w (Ret (.tuple #[.string x, .bool (pre45 s)]) w)) ∧ x.data.toList = lessSign s.data.toList ∧ x.size ≤ s.size := by
  have H1 := Lib.hid (fhas_any s hm)
  have hl : s.data.toList.length = s.size := by rw [Array.length_toList]; rfl
  cases hb : pre45 s with
  | false =>
    rw [hb] at H1
    have C1 : Hid (∀ w, Calls Tryd.prog 55 #[.string s, .string { data := #[45] }] w (Ret (.tuple #[.string s, .bool false]) w)) := Lib.hid fun w => by
      clear hl hb
      go_enter Tryd.func55, Tryd.ntmps55
      have hp := Hp.start [] w
      go_wp2_with (first
          | ((with_reducible refine sx_call hp (H1.out _) ?_); clear hp; (try clear w1); intro w1 hp))
      exact bodyPost_ret (results_two rfl rfl rfl) rfl ⟨rfl, hp.keep⟩
    refine ⟨s, fun w => ?_, ?_, Nat.le_refl _⟩
    · clear hl hb H1
      go_enter Tryd.func30, Tryd.ntmps30
      have hp := Hp.start [] w
      go_wp2_with (first
          | ((with_reducible refine sx_call hp (C1.out _) ?_); clear hp; (try clear w1); intro w1 hp))
      exact bodyPost_ret (results_two rfl rfl rfl) rfl ⟨rfl, hp.keep⟩
    · unfold lessSign
      unfold pre45 at hb
      rw [if_neg (by simpa using hb)]
  | true =>
    rw [hb] at H1
    have hne : 1 ≤ s.size := by
      rcases Nat.eq_zero_or_pos s.size with h | h
      · obtain rfl := ba_nil h
        cases hb
      · exact h
    have hs1 := sl_from s 1 hne
    rw [show (((1 : Nat)) : Int) = 1 from rfl] at hs1
    have C1 : Hid (∀ w, Calls Tryd.prog 55 #[.string s, .string { data := #[45] }] w (Ret (.tuple #[.string (s.extract 1 s.size), .bool true]) w)) := Lib.hid fun w => by
      clear hl hb hne
      go_enter Tryd.func55, Tryd.ntmps55
      have hp := Hp.start [] w
      go_wp2_with (first
          | ((with_reducible refine sx_call hp (H1.out _) ?_); clear hp; (try clear w1); intro w1 hp))
      exact bodyPost_ret (results_two rfl rfl rfl) rfl ⟨rfl, hp.keep⟩
    refine ⟨s.extract 1 s.size, fun w => ?_, ?_, ?_⟩
    · clear hl hb H1 hne hs1
      go_enter Tryd.func30, Tryd.ntmps30
      have hp := Hp.start [] w
      go_wp2_with (first
          | ((with_reducible refine sx_call hp (C1.out _) ?_); clear hp; (try clear w1); intro w1 hp))
      exact bodyPost_ret (results_two rfl rfl rfl) rfl ⟨rfl, hp.keep⟩
    · unfold lessSign
      unfold pre45 at hb
      rw [if_pos (by simpa using hb), ext_list, List.take_of_length_le]
      rw [List.length_drop, hl]
      exact Nat.le_refl _
    · rw [ByteArray.size_extract]; omega
end Go.Proofs.YtbdkbmhejoakiaaDoor
