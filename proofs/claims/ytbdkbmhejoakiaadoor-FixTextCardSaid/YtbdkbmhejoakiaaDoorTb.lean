/-
  Package fix: Text (contracts), at two numbers; strconv.FormatUint, ParseUint, strings.Cut, CutPrefix at single texts; fix.Parse at one text; ninepinlaw02.awake.
-/
import Derived.Test.YtbdkbmhejoakiaaDoorTa
import Derived.Lib.Bytealg
import Derived.Lib.ConvBytes
import Derived.Laws.IdiomStrings
set_option linter.unusedSimpArgs false
set_option linter.unusedVariables false
set_option maxRecDepth 100000
namespace Go.Proofs.YtbdkbmhejoakiaaDoor
open Go Go.RowKit
attribute [local irreducible] wpList
section
variable {X : List Nat} {w0 : World}
set_option maxHeartbeats 4000000 in
theorem text1_0 (gl : Nat) (R : List Bk) (k : Int) (c : Int) (hb1 : 0 ≤ bits BinOp.and IntKind.u64 k 15) (hb2 : bits BinOp.and IntKind.u64 k 15 < 16) (hc : ∀ h, ((({ data := #[48, 49, 50, 51, 52, 53, 54, 55, 56, 57, 97, 98, 99, 100, 101, 102] } : ByteArray)[(bits BinOp.and IntKind.u64 k 15).toNat]'h).toNat : Int) = c) (w : World) (hst : Hp X w0 (⟨gl, 57, [.slice none 0 0]⟩ :: R) w) :
    Calls Tryd.prog 33 #[.int .u64 k, .pointer (some ⟨gl, 0, none⟩)] w (fun e w1 => e = .returned (.tuple #[]) ∧ ∃ g cap j, (([.int .u8 c] : List Value) ++ j).length = cap * 1 ∧ 1 ≤ cap ∧ cap ≤ maxLen ∧ Hp X w0 (⟨gl, 57, [.slice (some ⟨g, 0, none⟩) 1 cap]⟩ :: ⟨g, 5, ([.int .u8 c] : List Value) ++ j⟩ :: R) w1) := by
  have hst' := Lib.hid hst
  have HC := Lib.hid hc
  clear hst hc
  go_enter Tryd.func33, Tryd.ntmps33
  have hp := Hp.start [] w
  clear hp
  have hp := hst'.out
  clear hst'
  have hq := hp
  clear hp
  have hp := hq.sub (.cons_cons _ (List.nil_sublist _))
  refine wp_drawn_hp hp hq [6] (.q 0 (.q 1 (.q 2 (.q 3 (.l 4 (.l 5 (.l 6 .nil))))))) (by kernel_rfl) (by kernel_rfl) ?_
  clear hp hq; (try clear w1); intro w1 hp hq
  repeat' (first
    | (((with_reducible apply sd_q); exact zo rfl); (first
        | ((with_reducible apply sd_load_one hp); exact rfl; exact zt rfl; infer_instance; infer_instance; (first | exact zso rfl | exact LB_get (by omega)); simp only [zp, zq, z0, z1])
        | ((with_reducible apply sd_move hp); exact zi rfl; simp only [zp, zq, z0, z1])
        | ((with_reducible apply sd_pure hp); exact rfl; (focus (intro _; go_simp; (try go_ints); try with_reducible rfl)); simp only [zp, zq, z0, z1])))
    | (((with_reducible apply sd_l); exact zo rfl); (first
        | ((with_reducible apply sd_store_far hq); exact rfl; exact zt rfl; (first | exact za rfl | exact zu rfl | exact zi rfl | exact zb rfl | exact zr rfl | exact zs rfl | exact zf rfl | exact zg rfl | exact zn rfl | exact zv rfl | exact zw rfl); exact rfl; (first | exact AggTy.size | exact OneTy.size); exact rfl; infer_instance; (first | (with_reducible exact LB_set (by omega)) | (simp only [n0, Nat.reduceAdd, n1, n2, n3, n4, n5, n6, n7, n8, n9]; try rfl)); (first | exact zl rfl | exact LB_le (by omega)); exact rfl; infer_instance; (repeat (first | exact List.Sublist.refl _ | exact List.nil_sublist _ | apply List.Sublist.cons_cons | apply List.Sublist.cons)); clear hp hq; (try clear w1); intro w1 hp hq)
        | ((with_reducible apply sd_store hq); exact rfl; exact zt rfl; (first | exact za rfl | exact zu rfl | exact zi rfl | exact zb rfl | exact zr rfl | exact zs rfl | exact zf rfl | exact zg rfl | exact zn rfl | exact zv rfl | exact zw rfl); exact rfl; (first | exact AggTy.size | exact OneTy.size); exact rfl; infer_instance; (first | (with_reducible exact LB_set (by omega)) | (simp only [n0, Nat.reduceAdd, n1, n2, n3, n4, n5, n6, n7, n8, n9]; try rfl)); (first | exact zl rfl | exact LB_le (by omega)); exact rfl; infer_instance; exact rfl; clear hp hq; (try clear w1); intro w1 hq; have hp := True.intro)
        | ((with_reducible apply sd_buildSlice hq); (repeat (first | exact List.Sublist.refl _ | exact List.nil_sublist _ | apply List.Sublist.cons_cons | apply List.Sublist.cons)); exact rfl; infer_instance; (first | exact AggTy.size | exact OneTy.size); infer_instance; exact zl rfl; decide; (first | exact (rfl : _ = numbered 0 [_]) | exact (rfl : _ = numbered 0 [_, _]) | exact (rfl : _ = numbered 0 [_, _, _]) | exact (rfl : _ = numbered 0 [_, _, _, _])); exact rfl; (first | exact (rfl : _ = List.map (fun x : List Value => x.toArray) [_]) | exact (rfl : _ = List.map (fun x : List Value => x.toArray) [_, _]) | exact (rfl : _ = List.map (fun x : List Value => x.toArray) [_, _, _]) | exact (rfl : _ = List.map (fun x : List Value => x.toArray) [_, _, _, _])); (intro l hl <;> simp only [List.mem_cons, List.not_mem_nil, or_false] at hl <;> rcases hl with rfl | rfl | rfl | rfl <;> rfl); exact rfl; clear hp hq; (try clear w1); intro g w1 hp hq; simp only [zp, zq, z0, z1])
        | ((with_reducible apply sd_append_nil (m := 1) (size := 1) hq); (repeat (first | exact List.Sublist.refl _ | exact List.nil_sublist _ | apply List.Sublist.cons_cons | apply List.Sublist.cons)); exact rfl; infer_instance; infer_instance; exact rfl; decide; exact (rfl : _ = Value.slice none 0 0); exact zy rfl; infer_instance; exact rfl; exact rfl; decide; (unfold maxLen; decide); decide; clear hp hq; (try clear w1); intro g cap j w1 hl1 hl2 hl3 hp hq; (simp only [List.flatten_cons, List.flatten_nil, List.cons_append, List.nil_append, List.append_nil] at hq hl1); simp only [zp, zq, z0, z1])))
    | ((with_reducible apply sd_nil); clear hp; have hp := hq; clear hq))
  go_wp2
  rw [← HC.out (show _ < 16 by omega)]
  exact bodyPost_end (results_none rfl _ _ _) rfl ⟨rfl, g, cap, j, hl1, hl2, hl3, (hp.sub (.cons_cons _ (.cons _ (.cons_cons _ (List.Sublist.refl _))))).perm (.swap _ _ _)⟩
set_option maxHeartbeats 4000000 in
theorem text1_1 (gl : Nat) (R : List Bk) (k : Int) (c : Int) (hb1 : 0 ≤ bits BinOp.and IntKind.u64 k 15) (hb2 : bits BinOp.and IntKind.u64 k 15 < 16) (hc : ∀ h, ((({ data := #[48, 49, 50, 51, 52, 53, 54, 55, 56, 57, 97, 98, 99, 100, 101, 102] } : ByteArray)[(bits BinOp.and IntKind.u64 k 15).toNat]'h).toNat : Int) = c) (l : List Value) (n : Nat) (hln : l.length = n * 1) (hn1 : 1 ≤ n) (hn9 : n ≤ 16) (w : World) (gb cp : Nat) (jk : List Value) (hjl : (l ++ jk).length = cp * 1) (hnc : n ≤ cp) (hcm : cp ≤ maxLen) (hst : Hp X w0 (⟨gl, 57, [.slice (some ⟨gb, 0, none⟩) n cp]⟩ :: ⟨gb, 5, l ++ jk⟩ :: R) w) :
    Calls Tryd.prog 33 #[.int .u64 k, .pointer (some ⟨gl, 0, none⟩)] w (fun e w1 => e = .returned (.tuple #[]) ∧ ∃ g cap j, ((l ++ ([.int .u8 c] : List Value)) ++ j).length = cap * 1 ∧ (n + 1) ≤ cap ∧ cap ≤ maxLen ∧ Hp X w0 (⟨gl, 57, [.slice (some ⟨g, 0, none⟩) (n + 1) cap]⟩ :: ⟨g, 5, (l ++ ([.int .u8 c] : List Value)) ++ j⟩ :: R) w1) := by
  have hst' := Lib.hid hst
  have HC := Lib.hid hc
  clear hst hc
  go_enter Tryd.func33, Tryd.ntmps33
  have hp := Hp.start [] w
  clear hp
  have hp := hst'.out
  clear hst'
  have hq := hp
  clear hp
  have hp := hq.sub (.cons_cons _ (List.nil_sublist _))
  refine wp_drawn_hp hp hq [6] (.q 0 (.q 1 (.q 2 (.q 3 (.l 4 (.l 5 (.l 6 .nil))))))) (by kernel_rfl) (by kernel_rfl) ?_
  clear hp hq; (try clear w1); intro w1 hp hq
  repeat' (first
    | (((with_reducible apply sd_q); exact zo rfl); (first
        | ((with_reducible apply sd_load_one hp); exact rfl; exact zt rfl; infer_instance; infer_instance; (first | exact zso rfl | exact LB_get (by omega)); simp only [zp, zq, z0, z1])
        | ((with_reducible apply sd_move hp); exact zi rfl; simp only [zp, zq, z0, z1])
        | ((with_reducible apply sd_pure hp); exact rfl; (focus (intro _; go_simp; (try go_ints); try with_reducible rfl)); simp only [zp, zq, z0, z1])))
    | (((with_reducible apply sd_l); exact zo rfl); (first
        | ((with_reducible apply sd_store_far hq); exact rfl; exact zt rfl; (first | exact za rfl | exact zu rfl | exact zi rfl | exact zb rfl | exact zr rfl | exact zs rfl | exact zf rfl | exact zg rfl | exact zn rfl | exact zv rfl | exact zw rfl); exact rfl; (first | exact AggTy.size | exact OneTy.size); exact rfl; infer_instance; (first | (with_reducible exact LB_set (by omega)) | (simp only [n0, Nat.reduceAdd, n1, n2, n3, n4, n5, n6, n7, n8, n9]; try rfl)); (first | exact zl rfl | exact LB_le (by omega)); exact rfl; infer_instance; (repeat (first | exact List.Sublist.refl _ | exact List.nil_sublist _ | apply List.Sublist.cons_cons | apply List.Sublist.cons)); clear hp hq; (try clear w1); intro w1 hp hq)
        | ((with_reducible apply sd_store hq); exact rfl; exact zt rfl; (first | exact za rfl | exact zu rfl | exact zi rfl | exact zb rfl | exact zr rfl | exact zs rfl | exact zf rfl | exact zg rfl | exact zn rfl | exact zv rfl | exact zw rfl); exact rfl; (first | exact AggTy.size | exact OneTy.size); exact rfl; infer_instance; (first | (with_reducible exact LB_set (by omega)) | (simp only [n0, Nat.reduceAdd, n1, n2, n3, n4, n5, n6, n7, n8, n9]; try rfl)); (first | exact zl rfl | exact LB_le (by omega)); exact rfl; infer_instance; exact rfl; clear hp hq; (try clear w1); intro w1 hq; have hp := True.intro)
        | ((with_reducible apply sd_buildSlice hq); (repeat (first | exact List.Sublist.refl _ | exact List.nil_sublist _ | apply List.Sublist.cons_cons | apply List.Sublist.cons)); exact rfl; infer_instance; (first | exact AggTy.size | exact OneTy.size); infer_instance; exact zl rfl; decide; (first | exact (rfl : _ = numbered 0 [_]) | exact (rfl : _ = numbered 0 [_, _]) | exact (rfl : _ = numbered 0 [_, _, _]) | exact (rfl : _ = numbered 0 [_, _, _, _])); exact rfl; (first | exact (rfl : _ = List.map (fun x : List Value => x.toArray) [_]) | exact (rfl : _ = List.map (fun x : List Value => x.toArray) [_, _]) | exact (rfl : _ = List.map (fun x : List Value => x.toArray) [_, _, _]) | exact (rfl : _ = List.map (fun x : List Value => x.toArray) [_, _, _, _])); (intro l hl <;> simp only [List.mem_cons, List.not_mem_nil, or_false] at hl <;> rcases hl with rfl | rfl | rfl | rfl <;> rfl); exact rfl; clear hp hq; (try clear w1); intro g w1 hp hq; simp only [zp, zq, z0, z1])
        | ((with_reducible apply sd_append (n := n) (m := 1) (size := 1) (cap := cp) (xs := l) (junk := jk) hq); exact rfl; infer_instance; infer_instance; exact rfl; decide; exact zy rfl; exact List.perm_middle (l₁ := [_, _]); (repeat (first | exact List.Sublist.refl _ | exact List.nil_sublist _ | apply List.Sublist.cons_cons | apply List.Sublist.cons)); exact hln; exact hjl; exact hnc; exact hcm; exact zy rfl; infer_instance; exact rfl; exact rfl; decide; (unfold maxLen; omega); omega; clear hp hq; (try clear w1); intro g cap j w1 hl1 hl2 hl3 hp hq; (simp only [List.flatten_cons, List.flatten_nil, List.cons_append, List.nil_append, List.append_nil] at hq hl1); simp only [zp, zq, z0, z1])))
    | ((with_reducible apply sd_nil); clear hp; have hp := hq; clear hq))
  go_wp2
  rw [← HC.out (show _ < 16 by omega)]
  exact bodyPost_end (results_none rfl _ _ _) rfl ⟨rfl, g, cap, j, hl1, hl2, hl3, (hp.sub (.cons_cons _ (.cons _ (.cons_cons _ (List.Sublist.refl _))))).perm (.swap _ _ _)⟩
/-- The bytes that Text has laid, behind the cell of their slice. -/
def Tail (X : List Nat) (w0 : World) (gl : Nat) (R : List Bk) (l : List Value) (w : World) : Prop :=
  (l = [] ∧ Hp X w0 (⟨gl, 57, [.slice none 0 0]⟩ :: R) w) ∨ ∃ g cap j, 1 ≤ l.length ∧ (l ++ j).length = cap * 1 ∧ l.length ≤ cap ∧ cap ≤ maxLen ∧ Hp X w0 (⟨gl, 57, [.slice (some ⟨g, 0, none⟩) l.length cap]⟩ :: ⟨g, 5, l ++ j⟩ :: R) w
theorem text1_any (gl : Nat) (R : List Bk) (k : Int) (c : Int) (hb1 : 0 ≤ bits BinOp.and IntKind.u64 k 15) (hb2 : bits BinOp.and IntKind.u64 k 15 < 16) (hc : ∀ h, ((({ data := #[48, 49, 50, 51, 52, 53, 54, 55, 56, 57, 97, 98, 99, 100, 101, 102] } : ByteArray)[(bits BinOp.and IntKind.u64 k 15).toNat]'h).toNat : Int) = c) (l : List Value) (hl : l.length ≤ 16) (w : World) (h : Tail X w0 gl R l w) :
    Calls Tryd.prog 33 #[.int .u64 k, .pointer (some ⟨gl, 0, none⟩)] w (fun e w1 => e = .returned (.tuple #[]) ∧ Tail X w0 gl R (l ++ ([.int .u8 c] : List Value)) w1) := by
  rcases h with ⟨rfl, h⟩ | ⟨g, cap, j, h1, h2, h3, h4, h⟩
  · refine (text1_0 gl R k c hb1 hb2 hc w h).mono ?_
    rintro e w1 ⟨he, g, cap, j, k1, k2, k3, k4⟩
    exact ⟨he, .inr ⟨g, cap, j, by simp, k1, k2, k3, k4⟩⟩
  · refine (text1_1 gl R k c hb1 hb2 hc l l.length (by omega) h1 hl w g cap j h2 h3 h4 h).mono ?_
    rintro e w1 ⟨he, g, cap, j, k1, k2, k3, k4⟩
    refine ⟨he, .inr ⟨g, cap, j, by simp, k1, ?_, k3, ?_⟩⟩
    · simpa using k2
    · rw [List.length_append]; exact k4
end
set_option maxHeartbeats 1000000 in
theorem fsmall_0 (w : World) : Calls Tryd.prog 79 #[.int .i64 0] w (Ret (.string { data := #[48] }) w) := by
  go_enter Tryd.func79, Tryd.ntmps79
  have hp := Hp.start [] w
  go_wp2_with (first
          | fail)
  exact bodyPost_ret (results_one rfl rfl) rfl ⟨rfl, hp.keep⟩
theorem fifmt_0 (w : World) : Calls Tryd.prog 59 #[.int .u64 0, .int .i64 10] w (Ret (.string { data := #[48] }) w) := by
  go_enter Tryd.func59, Tryd.ntmps59
  have hp := Hp.start [] w
  go_wp2_with (first
          | ((with_reducible apply sx_alloc hp); infer_instance; exact rfl; clear hp; (try clear w1); intro g w1 hp; simp only [zp, zq, z0, z1])
          | ((with_reducible refine sx_call hp (fsmall_0 _) ?_); clear hp; (try clear w1); intro w1 hp))
  exact bodyPost_ret (results_one rfl rfl) rfl ⟨rfl, hp.keep⟩
theorem ffmt_0 (w : World) : Calls Tryd.prog 34 #[.int .u64 0, .int .i64 10] w (Ret (.string { data := #[48] }) w) := by
  go_enter Tryd.func34, Tryd.ntmps34
  have hp := Hp.start [] w
  go_wp2_with (first
          | ((with_reducible refine sx_call hp (fifmt_0 _) ?_); clear hp; (try clear w1); intro w1 hp))
  exact bodyPost_ret (results_one rfl rfl) rfl ⟨rfl, hp.keep⟩
set_option maxHeartbeats 1000000 in
theorem fsmall_1 (w : World) : Calls Tryd.prog 79 #[.int .i64 1] w (Ret (.string { data := #[49] }) w) := by
  go_enter Tryd.func79, Tryd.ntmps79
  have hp := Hp.start [] w
  go_wp2_with (first
          | fail)
  exact bodyPost_ret (results_one rfl rfl) rfl ⟨rfl, hp.keep⟩
theorem fifmt_1 (w : World) : Calls Tryd.prog 59 #[.int .u64 1, .int .i64 10] w (Ret (.string { data := #[49] }) w) := by
  go_enter Tryd.func59, Tryd.ntmps59
  have hp := Hp.start [] w
  go_wp2_with (first
          | ((with_reducible apply sx_alloc hp); infer_instance; exact rfl; clear hp; (try clear w1); intro g w1 hp; simp only [zp, zq, z0, z1])
          | ((with_reducible refine sx_call hp (fsmall_1 _) ?_); clear hp; (try clear w1); intro w1 hp))
  exact bodyPost_ret (results_one rfl rfl) rfl ⟨rfl, hp.keep⟩
theorem ffmt_1 (w : World) : Calls Tryd.prog 34 #[.int .u64 1, .int .i64 10] w (Ret (.string { data := #[49] }) w) := by
  go_enter Tryd.func34, Tryd.ntmps34
  have hp := Hp.start [] w
  go_wp2_with (first
          | ((with_reducible refine sx_call hp (fifmt_1 _) ?_); clear hp; (try clear w1); intro w1 hp))
  exact bodyPost_ret (results_one rfl rfl) rfl ⟨rfl, hp.keep⟩
theorem ext_pre : ((({ data := #[49, 46, 56] } : ByteArray).extract 0 1).toList == [45]) = false := by kernel_rfl
theorem fhas_pre (w : World) : Calls Tryd.prog 71 #[.string { data := #[49, 46, 56] }, .string { data := #[45] }] w (Ret (.bool false) w) := by
  go_enter Tryd.func71, Tryd.ntmps71
  have hp := Hp.start [] w
  go_wp2_with (first
          | fail)
  exact bodyPost_ret (results_one rfl rfl) rfl ⟨by rw [← ext_pre]; rfl, hp.keep⟩
theorem fcutpre_in (w : World) : Calls Tryd.prog 55 #[.string { data := #[49, 46, 56] }, .string { data := #[45] }] w (Ret (.tuple #[.string { data := #[49, 46, 56] }, .bool false]) w) := by
  go_enter Tryd.func55, Tryd.ntmps55
  have hp := Hp.start [] w
  go_wp2_with (first
          | ((with_reducible refine sx_call hp (fhas_pre _) ?_); clear hp; (try clear w1); intro w1 hp))
  exact bodyPost_ret (results_two rfl rfl rfl) rfl ⟨rfl, hp.keep⟩
theorem fcutpre (w : World) : Calls Tryd.prog 30 #[.string { data := #[49, 46, 56] }, .string { data := #[45] }] w (Ret (.tuple #[.string { data := #[49, 46, 56] }, .bool false]) w) := by
  go_enter Tryd.func30, Tryd.ntmps30
  have hp := Hp.start [] w
  go_wp2_with (first
          | ((with_reducible refine sx_call hp (fcutpre_in _) ?_); clear hp; (try clear w1); intro w1 hp))
  exact bodyPost_ret (results_two rfl rfl rfl) rfl ⟨rfl, hp.keep⟩
theorem findexB_at (w : World) : (callFunc 103 #[.string { data := #[49, 46, 56] }, .int .u8 46]).run Tryd.prog w = .ok (.value (.int .i64 1)) w := by
  rw [run_callFunc_extern Tryd.func103 (by kernel_rfl) (by kernel_rfl) (by kernel_rfl) (e := Extern.BytealgIndexByte.indexByte) (by kernel_rfl), Lib.run_indexByteString]
  rfl
theorem findexB (w : World) : Calls Tryd.prog 88 #[.string { data := #[49, 46, 56] }, .int .u8 46] w (Ret (.int .i64 1) w) := by
  have hd := findexB_at
  go_enter Tryd.func88, Tryd.ntmps88
  have hp := Hp.start [] w
  go_wp2_with (first
          | fail)
  exact bodyPost_ret (results_one rfl rfl) rfl ⟨rfl, hp.keep⟩
theorem findexB2 (w : World) : Calls Tryd.prog 88 #[.string { data := #[49, 46, 56] }, .int .u8 ((({ data := #[46] } : ByteArray)[0]'(by decide)).toNat : Int)] w (Ret (.int .i64 1) w) := findexB w
theorem findex (w : World) : Calls Tryd.prog 72 #[.string { data := #[49, 46, 56] }, .string { data := #[46] }] w (Ret (.int .i64 1) w) := by
  go_enter Tryd.func72, Tryd.ntmps72
  have hp := Hp.start [] w
  go_wp2_with (first
          | ((with_reducible apply sx_guard); (conv => whnf); refine Bx.mk ?_; (try simp only [zp, zq, z0, z1]))
          | ((with_reducible apply sx_load_one hp); exact zt rfl; infer_instance; infer_instance; (first | exact zio rfl | exact LB_get (by omega)); simp only [zp, zq, z0, z1])
          | ((with_reducible apply sx_index_one); exact za rfl; exact zk rfl; infer_instance; infer_instance; omega; omega; (first | exact rfl | (go_simp; done)); simp only [zp, zq, z0, z1])
          | ((with_reducible apply sx_index_agg); exact za rfl; exact zk rfl; infer_instance; infer_instance; omega; omega; ((try simp only [m0, Int.reduceToNat, m1, m2, Nat.reduceMul, m3, m4, n5, n1, n2, n3, n4, n6]); exact rfl); simp only [zp, zq, z0, z1])
          | ((with_reducible refine sx_call hp (findexB2 _) ?_); clear hp; (try clear w1); intro w1 hp))
  exact bodyPost_ret (results_one rfl rfl) rfl ⟨rfl, hp.keep⟩
theorem fcut_in (w : World) : Calls Tryd.prog 56 #[.string { data := #[49, 46, 56] }, .string { data := #[46] }] w (Ret (.tuple #[.string { data := #[49] }, .string { data := #[56] }, .bool true]) w) := by
  go_enter Tryd.func56, Tryd.ntmps56
  have hp := Hp.start [] w
  go_upto_region 3 with (first
          | ((with_reducible refine sx_call hp (findex _) ?_); clear hp; (try clear w1); intro w1 hp))
  have hq := hp
  refine wp_drawn_hp hp hq [] (.q 0 (.q 1 (.q 2 (.q 3 (.q 4 (.q 5 (.q 6 (.q 7 (.q 8 (.q 9 (.q 10 (.q 11 .nil)))))))))))) (by kernel_rfl) (by kernel_rfl) ?_
  clear hp hq; (try clear w1); intro w1 hp hq
  repeat' (first
    | (((with_reducible apply sd_q); exact zo rfl); (first
        | ((with_reducible apply sd_move hp); (first | exact zi rfl | exact zg rfl); simp only [zp, zq, z0, z1])
        | ((with_reducible apply sd_assign hp); (first | exact zb rfl | exact zg rfl); simp only [zp, zq, z0, z1])
        | ((with_reducible apply sd_pure hp); exact rfl; (focus (intro _; go_simp; (try go_ints); try with_reducible rfl)); simp only [zp, zq, z0, z1])))
    | ((with_reducible apply sd_nil); clear hp; have hp := hq; clear hq))
  go_wp2
  exact bodyPost_ret (results_three rfl rfl rfl rfl) rfl ⟨rfl, hp.keep⟩
theorem fcut (w : World) : Calls Tryd.prog 31 #[.string { data := #[49, 46, 56] }, .string { data := #[46] }] w (Ret (.tuple #[.string { data := #[49] }, .string { data := #[56] }, .bool true]) w) := by
  go_enter Tryd.func31, Tryd.ntmps31
  have hp := Hp.start [] w
  go_wp2_with (first
          | ((with_reducible refine sx_call hp (fcut_in _) ?_); clear hp; (try clear w1); intro w1 hp))
  exact bodyPost_ret (results_three rfl rfl rfl rfl) rfl ⟨rfl, hp.keep⟩
section
variable {P : Program} {ops : Array Oper} {Q : Exit → Act → World → Prop} {rest : List Oper} {a : Act} {w0 w : World} {d : Tmp} {tp : TypeId} {pos : String} {af : Array Edge}
/-- A string that is made bytes. -/
theorem sx_convSB {src dst e : TypeId} {x : Operand} {s : ByteArray} {H : List Bk} {n : Nat} (hp : Hp [] w0 H w) (hx : a.eval x = .string s) (hn : s.size = n) (hs : P.underlying src = some .string) (hd : P.underlying dst = some (.slice e)) (he : P.underlying e = some (.int .u8))
    (hk : ∀ (g cap : Nat) (cs : List Value) (z : Nat × Nat) (w1 : World), Hp [] w0 H w1 → w1.heap[g]? = some (.cells cs.toArray e z) → (∀ i (h : i < s.data.size), cs[i]? = some (.int .u8 (s.data[i].toNat : Int))) → wpList P ops Q rest (a.put (some d) (.slice (some ⟨g, 0, none⟩) n cap)) w1) :
    wpList P ops Q (⟨some d, .convert src dst x, tp, pos, af, none⟩ :: rest) a w := by
  subst hn
  refine wpList_plain rfl fun K hK => ?_
  unfold Oper.wp
  have hr := run_bytes_of_string (P := P) w src dst e s hs hd he
  simp only [execOp, hx, Sem.run_bind, Result.andThen_ok, hr]
  refine hK _ _ (hk _ _ (bytesRow s (grownCap w s.size 0 e)).toList ((bytesRow s (grownCap w s.size 0 e)).size, (bytesRow s (grownCap w s.size 0 e)).size + 1) _ (hp.call ?_) ?_ ?_)
  · refine ⟨rfl, rfl, rfl, ?_, fun b hb _ => ?_⟩
    · show w.heap.size ≤ (w.heap.push _).size
      simp
    · show (w.heap.push _)[b]? = w.heap[b]?
      rw [Array.getElem?_push, if_neg (by omega)]
  · show (w.heap.push _)[w.heap.size]? = _
    simp
  · intro i h
    unfold bytesRow
    rw [Array.getElem?_toList, Array.getElem?_append_left (by simpa using h), Array.getElem?_map, Array.getElem?_eq_getElem h]
    rfl
end
set_option maxHeartbeats 4000000 in
theorem fparse_in_1 (w : World) : Calls Tryd.prog 57 #[.string { data := #[49] }, .int .i64 10, .int .i64 32] w (Ret (.tuple #[.int .u64 1, .nilIface]) w) := by
  go_enter Tryd.func57, Tryd.ntmps57
  have hp := Hp.start [] w
  go_wp2_with (first
          | ((with_reducible apply sx_guard); (conv => whnf); refine Bx.mk ?_; (try simp only [zp, zq, z0, z1]))
          | ((with_reducible apply sx_load_one hp); exact zt rfl; infer_instance; infer_instance; (first | exact zio rfl | exact LB_get (by omega)); simp only [zp, zq, z0, z1])
          | ((with_reducible apply sx_index_one); exact za rfl; exact zk rfl; infer_instance; infer_instance; omega; omega; (first | exact rfl | (go_simp; done)); simp only [zp, zq, z0, z1])
          | ((with_reducible apply sx_index_agg); exact za rfl; exact zk rfl; infer_instance; infer_instance; omega; omega; ((try simp only [m0, Int.reduceToNat, m1, m2, Nat.reduceMul, m3, m4, n5, n1, n2, n3, n4, n6]); exact rfl); simp only [zp, zq, z0, z1])
          | ((with_reducible apply sx_indexAddr); exact zx rfl; exact zk rfl; infer_instance; (first | exact AggTy.size | exact OneTy.size); omega; omega; ((try simp only [m0, Int.reduceToNat, m1, m2, Nat.reduceMul, Nat.reduceAdd, m3, m4, m5, n0]); exact rfl); simp only [zp, zq, z0, z1])
          | ((with_reducible apply sx_load_far1 hp); exact zt rfl; assumption; infer_instance; (first | assumption | (first | exact zio rfl | exact LB_get (by omega))); simp only [zp, zq, z0, z1])
          | ((with_reducible apply sx_convSB hp); exact zg rfl; exact (rfl : _ = 1); exact Tryd.underlying9; exact Tryd.underlying57; exact Tryd.underlying5; intro g cap cs z w9 hk9 hb hcs; simp only [zp, zq, z0, z1]))
  have hk1 := hk9.keep
  have hcs0 : cs[0]? = some (Value.int .u8 49) := hcs 0 (by decide)
  clear hp hk9 hcs
  have hp := Hp.start [] w9
  go_loopw [12, 13, 101] (fun u n i wr => u = .bool false ∧ ((i = .int .i64 0 ∧ n = .int .u64 0) ∨ (i = .int .i64 1 ∧ n = .int .u64 1)) ∧ Hp [] w9 [] wr) (fun _ _ i _ => 1 - (intOf i).toNat)
  case atStart => exact ⟨rfl, .inl ⟨rfl, rfl⟩, hp⟩
  case round =>
    clear hp
    obtain ⟨rfl, ⟨rfl, rfl⟩ | ⟨rfl, rfl⟩, hp⟩ := hrel
    · go_wp2_with (first
          | ((with_reducible apply sx_guard); (conv => whnf); refine Bx.mk ?_; (try simp only [zp, zq, z0, z1]))
          | ((with_reducible apply sx_load_one hp); exact zt rfl; infer_instance; infer_instance; (first | exact zio rfl | exact LB_get (by omega) | assumption); simp only [zp, zq, z0, z1])
          | ((with_reducible apply sx_index_one); exact za rfl; exact zk rfl; infer_instance; infer_instance; omega; omega; (first | exact rfl | (go_simp; done)); simp only [zp, zq, z0, z1])
          | ((with_reducible apply sx_index_agg); exact za rfl; exact zk rfl; infer_instance; infer_instance; omega; omega; ((try simp only [m0, Int.reduceToNat, m1, m2, Nat.reduceMul, m3, m4, n5, n1, n2, n3, n4, n6]); exact rfl); simp only [zp, zq, z0, z1])
          | ((with_reducible apply sx_indexAddr); exact zx rfl; exact zk rfl; infer_instance; (first | exact AggTy.size | exact OneTy.size); omega; omega; ((try simp only [m0, Int.reduceToNat, m1, m2, Nat.reduceMul, Nat.reduceAdd, m3, m4, m5, n0]); exact rfl); simp only [zp, zq, z0, z1])
          | ((with_reducible apply sx_load_far1 hp); exact zt rfl; assumption; infer_instance; (first | assumption | (first | exact zio rfl | exact LB_get (by omega) | assumption)); simp only [zp, zq, z0, z1])
          | ((with_reducible apply sx_load_far1 hp); exact zt rfl; exact hb; infer_instance; exact hcs0; simp only [zp, zq, z0, z1]))
      go_roundw
      case rel => exact ⟨rfl, .inr ⟨rfl, rfl⟩, hp⟩
      case measure => simp [intOf]
    · go_wp2_with (first
          | ((with_reducible apply sx_guard); (conv => whnf); refine Bx.mk ?_; (try simp only [zp, zq, z0, z1]))
          | ((with_reducible apply sx_load_one hp); exact zt rfl; infer_instance; infer_instance; (first | exact zio rfl | exact LB_get (by omega)); simp only [zp, zq, z0, z1])
          | ((with_reducible apply sx_index_one); exact za rfl; exact zk rfl; infer_instance; infer_instance; omega; omega; (first | exact rfl | (go_simp; done)); simp only [zp, zq, z0, z1])
          | ((with_reducible apply sx_index_agg); exact za rfl; exact zk rfl; infer_instance; infer_instance; omega; omega; ((try simp only [m0, Int.reduceToNat, m1, m2, Nat.reduceMul, m3, m4, n5, n1, n2, n3, n4, n6]); exact rfl); simp only [zp, zq, z0, z1])
          | ((with_reducible apply sx_indexAddr); exact zx rfl; exact zk rfl; infer_instance; (first | exact AggTy.size | exact OneTy.size); omega; omega; ((try simp only [m0, Int.reduceToNat, m1, m2, Nat.reduceMul, Nat.reduceAdd, m3, m4, m5, n0]); exact rfl); simp only [zp, zq, z0, z1])
          | ((with_reducible apply sx_load_far1 hp); exact zt rfl; assumption; infer_instance; (first | assumption | (first | exact zio rfl | exact LB_get (by omega))); simp only [zp, zq, z0, z1]))
      exact bodyPost_ret (results_two rfl rfl rfl) rfl ⟨rfl, hk1.trans hp.keep⟩
set_option maxHeartbeats 4000000 in
theorem fparse_in_8 (w : World) : Calls Tryd.prog 57 #[.string { data := #[56] }, .int .i64 16, .int .i64 32] w (Ret (.tuple #[.int .u64 8, .nilIface]) w) := by
  go_enter Tryd.func57, Tryd.ntmps57
  have hp := Hp.start [] w
  go_wp2_with (first
          | ((with_reducible apply sx_guard); (conv => whnf); refine Bx.mk ?_; (try simp only [zp, zq, z0, z1]))
          | ((with_reducible apply sx_load_one hp); exact zt rfl; infer_instance; infer_instance; (first | exact zio rfl | exact LB_get (by omega)); simp only [zp, zq, z0, z1])
          | ((with_reducible apply sx_index_one); exact za rfl; exact zk rfl; infer_instance; infer_instance; omega; omega; (first | exact rfl | (go_simp; done)); simp only [zp, zq, z0, z1])
          | ((with_reducible apply sx_index_agg); exact za rfl; exact zk rfl; infer_instance; infer_instance; omega; omega; ((try simp only [m0, Int.reduceToNat, m1, m2, Nat.reduceMul, m3, m4, n5, n1, n2, n3, n4, n6]); exact rfl); simp only [zp, zq, z0, z1])
          | ((with_reducible apply sx_indexAddr); exact zx rfl; exact zk rfl; infer_instance; (first | exact AggTy.size | exact OneTy.size); omega; omega; ((try simp only [m0, Int.reduceToNat, m1, m2, Nat.reduceMul, Nat.reduceAdd, m3, m4, m5, n0]); exact rfl); simp only [zp, zq, z0, z1])
          | ((with_reducible apply sx_load_far1 hp); exact zt rfl; assumption; infer_instance; (first | assumption | (first | exact zio rfl | exact LB_get (by omega))); simp only [zp, zq, z0, z1])
          | ((with_reducible apply sx_convSB hp); exact zg rfl; exact (rfl : _ = 1); exact Tryd.underlying9; exact Tryd.underlying57; exact Tryd.underlying5; intro g cap cs z w9 hk9 hb hcs; simp only [zp, zq, z0, z1]))
  have hk1 := hk9.keep
  have hcs0 : cs[0]? = some (Value.int .u8 56) := hcs 0 (by decide)
  clear hp hk9 hcs
  have hp := Hp.start [] w9
  go_loopw [12, 13, 101] (fun u n i wr => u = .bool false ∧ ((i = .int .i64 0 ∧ n = .int .u64 0) ∨ (i = .int .i64 1 ∧ n = .int .u64 8)) ∧ Hp [] w9 [] wr) (fun _ _ i _ => 1 - (intOf i).toNat)
  case atStart => exact ⟨rfl, .inl ⟨rfl, rfl⟩, hp⟩
  case round =>
    clear hp
    obtain ⟨rfl, ⟨rfl, rfl⟩ | ⟨rfl, rfl⟩, hp⟩ := hrel
    · go_wp2_with (first
          | ((with_reducible apply sx_guard); (conv => whnf); refine Bx.mk ?_; (try simp only [zp, zq, z0, z1]))
          | ((with_reducible apply sx_load_one hp); exact zt rfl; infer_instance; infer_instance; (first | exact zio rfl | exact LB_get (by omega) | assumption); simp only [zp, zq, z0, z1])
          | ((with_reducible apply sx_index_one); exact za rfl; exact zk rfl; infer_instance; infer_instance; omega; omega; (first | exact rfl | (go_simp; done)); simp only [zp, zq, z0, z1])
          | ((with_reducible apply sx_index_agg); exact za rfl; exact zk rfl; infer_instance; infer_instance; omega; omega; ((try simp only [m0, Int.reduceToNat, m1, m2, Nat.reduceMul, m3, m4, n5, n1, n2, n3, n4, n6]); exact rfl); simp only [zp, zq, z0, z1])
          | ((with_reducible apply sx_indexAddr); exact zx rfl; exact zk rfl; infer_instance; (first | exact AggTy.size | exact OneTy.size); omega; omega; ((try simp only [m0, Int.reduceToNat, m1, m2, Nat.reduceMul, Nat.reduceAdd, m3, m4, m5, n0]); exact rfl); simp only [zp, zq, z0, z1])
          | ((with_reducible apply sx_load_far1 hp); exact zt rfl; assumption; infer_instance; (first | assumption | (first | exact zio rfl | exact LB_get (by omega) | assumption)); simp only [zp, zq, z0, z1])
          | ((with_reducible apply sx_load_far1 hp); exact zt rfl; exact hb; infer_instance; exact hcs0; simp only [zp, zq, z0, z1]))
      go_roundw
      case rel => exact ⟨rfl, .inr ⟨rfl, rfl⟩, hp⟩
      case measure => simp [intOf]
    · go_wp2_with (first
          | ((with_reducible apply sx_guard); (conv => whnf); refine Bx.mk ?_; (try simp only [zp, zq, z0, z1]))
          | ((with_reducible apply sx_load_one hp); exact zt rfl; infer_instance; infer_instance; (first | exact zio rfl | exact LB_get (by omega)); simp only [zp, zq, z0, z1])
          | ((with_reducible apply sx_index_one); exact za rfl; exact zk rfl; infer_instance; infer_instance; omega; omega; (first | exact rfl | (go_simp; done)); simp only [zp, zq, z0, z1])
          | ((with_reducible apply sx_index_agg); exact za rfl; exact zk rfl; infer_instance; infer_instance; omega; omega; ((try simp only [m0, Int.reduceToNat, m1, m2, Nat.reduceMul, m3, m4, n5, n1, n2, n3, n4, n6]); exact rfl); simp only [zp, zq, z0, z1])
          | ((with_reducible apply sx_indexAddr); exact zx rfl; exact zk rfl; infer_instance; (first | exact AggTy.size | exact OneTy.size); omega; omega; ((try simp only [m0, Int.reduceToNat, m1, m2, Nat.reduceMul, Nat.reduceAdd, m3, m4, m5, n0]); exact rfl); simp only [zp, zq, z0, z1])
          | ((with_reducible apply sx_load_far1 hp); exact zt rfl; assumption; infer_instance; (first | assumption | (first | exact zio rfl | exact LB_get (by omega))); simp only [zp, zq, z0, z1]))
      exact bodyPost_ret (results_two rfl rfl rfl) rfl ⟨rfl, hk1.trans hp.keep⟩
theorem fparse_1 (w : World) : Calls Tryd.prog 32 #[.string { data := #[49] }, .int .i64 10, .int .i64 32] w (Ret (.tuple #[.int .u64 1, .nilIface]) w) := by
  go_enter Tryd.func32, Tryd.ntmps32
  have hp := Hp.start [] w
  go_wp2_with (first
          | ((with_reducible refine sx_call hp (fparse_in_1 _) ?_); clear hp; (try clear w1); intro w1 hp))
  exact bodyPost_ret (results_two rfl rfl rfl) rfl ⟨rfl, hp.keep⟩
theorem fparse_8 (w : World) : Calls Tryd.prog 32 #[.string { data := #[56] }, .int .i64 16, .int .i64 32] w (Ret (.tuple #[.int .u64 8, .nilIface]) w) := by
  go_enter Tryd.func32, Tryd.ntmps32
  have hp := Hp.start [] w
  go_wp2_with (first
          | ((with_reducible refine sx_call hp (fparse_in_8 _) ?_); clear hp; (try clear w1); intro w1 hp))
  exact bodyPost_ret (results_two rfl rfl rfl) rfl ⟨rfl, hp.keep⟩
section
variable {P : Program} {ops : Array Oper} {Q : Exit → Act → World → Prop} {N : List Nat} {X : List Nat} {w0 w : World} {H Hq : List Bk} {a : Act} {i : Nat} {rest : Sc} {d : Tmp} {tp : TypeId} {pos : String} {af : Array Edge} {gd : Option (Nat × Bool)}
/-- Bytes that are made a string. -/
theorem sd_convBS {src dst e t : TypeId} {x : Operand} {g n cap : Nat} {cs : List Value} (l : List UInt8) (hp : Hp X w0 H w) (hw : Region.wanted ⟨some d, .convert src dst x, tp, pos, af, gd⟩ (yielded ops a.tmps) = true)
    (hx : a.eval x = .slice (some ⟨g, 0, none⟩) n cap) (h : Has H g t cs) (hn : n = l.length) (hs : P.underlying src = some (.slice e)) (he : P.underlying e = some (.int .u8)) (hd : P.underlying dst = some .string)
    (hc : ∀ j (hj : j < l.length), cs[j]? = some (.int .u8 (l[j].toNat : Int)))
    (hk : wpSched P ops Q (Hp X w0 H) N rest (a.put (some d) (.string ⟨l.toArray⟩)) w) : wpL P ops Q (Hp X w0 H) N i rest ⟨some d, .convert src dst x, tp, pos, af, gd⟩ a w := by
  subst hn
  refine sd_loud hw ?_
  unfold Oper.wp
  have hr := run_convert_bytes_back (P := P) w src dst e ⟨g, 0, none⟩ cap l hs he hd (fun j hj => by
    have := hp.cell (h := h) j
    rw [hc j hj] at this
    by_cases hj0 : j = 0
    · subst hj0; simpa [Addr.add] using this
    · simpa [Addr.add, hj0] using this)
  simp only [execOp, hx, Sem.run_bind, Result.andThen_ok, hr, Oper.upon]
  exact ⟨fun _ => hp, hk⟩
end
theorem sx_callS {P : Program} {w : World} {f : FuncId} {args : Array Value} {v : Value} {T : World → Prop} {R : Ending → World → Prop} (hc : Calls P f args w (fun e w1 => e = .returned v ∧ T w1)) (hk : ∀ w1, T w1 → R (.returned v) w1) : Calls P f args w R :=
  hc.mono fun e w1 ⟨he, hw1⟩ => by subst he; exact hk _ hw1
theorem cat_a : ({ data := #[] } : ByteArray) ++ ({ data := #[49] } : ByteArray) ++ ({ data := #[46] } : ByteArray) ++ ({ data := #[48, 48, 48, 48, 48, 48, 48, 56] } : ByteArray) = ({ data := #[49, 46, 48, 48, 48, 48, 48, 48, 48, 56] } : ByteArray) := by kernel_rfl
theorem bytes_a (j : List Value) : ∀ k (hk : k < ([48, 48, 48, 48, 48, 48, 48, 56] : List UInt8).length), (([.int .u8 48, .int .u8 48, .int .u8 48, .int .u8 48, .int .u8 48, .int .u8 48, .int .u8 48, .int .u8 56] : List Value) ++ j)[k]? = some (.int .u8 ((([48, 48, 48, 48, 48, 48, 48, 56] : List UInt8)[k]'hk).toNat : Int)) := by
  intro k hk
  match k, hk with
  | 0, _ | 1, _ | 2, _ | 3, _ | 4, _ | 5, _ | 6, _ | 7, _ => rfl
set_option maxHeartbeats 8000000 in
theorem text_a (w : World) : Calls Tryd.prog 12 #[.int .i64 4294967304] w (Ret (.string { data := #[49, 46, 48, 48, 48, 48, 48, 48, 48, 56] }) w) := by
  have K0 := Lib.hid (fun gl wr (h : Tail [] w gl [] (([.int .u8 48, .int .u8 48, .int .u8 48, .int .u8 48, .int .u8 48, .int .u8 48, .int .u8 48, .int .u8 56] : List Value).take 0) wr) => text1_any (X := []) (w0 := w) gl [] 16 48 (by decide) (by decide) (by decide) (([.int .u8 48, .int .u8 48, .int .u8 48, .int .u8 48, .int .u8 48, .int .u8 48, .int .u8 48, .int .u8 56] : List Value).take 0) (by decide) wr h)
  have K1 := Lib.hid (fun gl wr (h : Tail [] w gl [] (([.int .u8 48, .int .u8 48, .int .u8 48, .int .u8 48, .int .u8 48, .int .u8 48, .int .u8 48, .int .u8 56] : List Value).take 1) wr) => text1_any (X := []) (w0 := w) gl [] 256 48 (by decide) (by decide) (by decide) (([.int .u8 48, .int .u8 48, .int .u8 48, .int .u8 48, .int .u8 48, .int .u8 48, .int .u8 48, .int .u8 56] : List Value).take 1) (by decide) wr h)
  have K2 := Lib.hid (fun gl wr (h : Tail [] w gl [] (([.int .u8 48, .int .u8 48, .int .u8 48, .int .u8 48, .int .u8 48, .int .u8 48, .int .u8 48, .int .u8 56] : List Value).take 2) wr) => text1_any (X := []) (w0 := w) gl [] 4096 48 (by decide) (by decide) (by decide) (([.int .u8 48, .int .u8 48, .int .u8 48, .int .u8 48, .int .u8 48, .int .u8 48, .int .u8 48, .int .u8 56] : List Value).take 2) (by decide) wr h)
  have K3 := Lib.hid (fun gl wr (h : Tail [] w gl [] (([.int .u8 48, .int .u8 48, .int .u8 48, .int .u8 48, .int .u8 48, .int .u8 48, .int .u8 48, .int .u8 56] : List Value).take 3) wr) => text1_any (X := []) (w0 := w) gl [] 65536 48 (by decide) (by decide) (by decide) (([.int .u8 48, .int .u8 48, .int .u8 48, .int .u8 48, .int .u8 48, .int .u8 48, .int .u8 48, .int .u8 56] : List Value).take 3) (by decide) wr h)
  have K4 := Lib.hid (fun gl wr (h : Tail [] w gl [] (([.int .u8 48, .int .u8 48, .int .u8 48, .int .u8 48, .int .u8 48, .int .u8 48, .int .u8 48, .int .u8 56] : List Value).take 4) wr) => text1_any (X := []) (w0 := w) gl [] 1048576 48 (by decide) (by decide) (by decide) (([.int .u8 48, .int .u8 48, .int .u8 48, .int .u8 48, .int .u8 48, .int .u8 48, .int .u8 48, .int .u8 56] : List Value).take 4) (by decide) wr h)
  have K5 := Lib.hid (fun gl wr (h : Tail [] w gl [] (([.int .u8 48, .int .u8 48, .int .u8 48, .int .u8 48, .int .u8 48, .int .u8 48, .int .u8 48, .int .u8 56] : List Value).take 5) wr) => text1_any (X := []) (w0 := w) gl [] 16777216 48 (by decide) (by decide) (by decide) (([.int .u8 48, .int .u8 48, .int .u8 48, .int .u8 48, .int .u8 48, .int .u8 48, .int .u8 48, .int .u8 56] : List Value).take 5) (by decide) wr h)
  have K6 := Lib.hid (fun gl wr (h : Tail [] w gl [] (([.int .u8 48, .int .u8 48, .int .u8 48, .int .u8 48, .int .u8 48, .int .u8 48, .int .u8 48, .int .u8 56] : List Value).take 6) wr) => text1_any (X := []) (w0 := w) gl [] 268435456 48 (by decide) (by decide) (by decide) (([.int .u8 48, .int .u8 48, .int .u8 48, .int .u8 48, .int .u8 48, .int .u8 48, .int .u8 48, .int .u8 56] : List Value).take 6) (by decide) wr h)
  have K7 := Lib.hid (fun gl wr (h : Tail [] w gl [] (([.int .u8 48, .int .u8 48, .int .u8 48, .int .u8 48, .int .u8 48, .int .u8 48, .int .u8 48, .int .u8 56] : List Value).take 7) wr) => text1_any (X := []) (w0 := w) gl [] 4294967304 56 (by decide) (by decide) (by decide) (([.int .u8 48, .int .u8 48, .int .u8 48, .int .u8 48, .int .u8 48, .int .u8 48, .int .u8 48, .int .u8 56] : List Value).take 7) (by decide) wr h)
  go_enter Tryd.func12, Tryd.ntmps12
  have hp := Hp.start [] w
  go_wp2_with (first
          | ((with_reducible apply sx_alloc hp); infer_instance; exact rfl; clear hp; (try clear w1); intro g w1 hp; simp only [zp, zq, z0, z1])
          | ((with_reducible apply sx_load_one hp); exact zt rfl; infer_instance; infer_instance; (first | exact zso rfl | exact LB_get (by omega)); simp only [zp, zq, z0, z1]))
  rename_i K9 hK9
  have hT : Tail [] w g [] (([.int .u8 48, .int .u8 48, .int .u8 48, .int .u8 48, .int .u8 48, .int .u8 48, .int .u8 48, .int .u8 56] : List Value).take 0) w1 := .inl ⟨rfl, hp⟩
  clear hp
  go_loopw [15] (fun i wr => ∃ k : Nat, k ≤ 8 ∧ i = .int .i64 k ∧ Tail [] w g [] (([.int .u8 48, .int .u8 48, .int .u8 48, .int .u8 48, .int .u8 48, .int .u8 48, .int .u8 48, .int .u8 56] : List Value).take k) wr) (fun i _ => 8 - (intOf i).toNat)
  case atStart => exact ⟨0, by omega, rfl, hT⟩
  case round =>
    clear hT
    obtain ⟨k, hk, rfl, hT⟩ := hrel
    by_cases hk8 : k < 8
    · rcases (by omega : k = 0 ∨ k = 1 ∨ k = 2 ∨ k = 3 ∨ k = 4 ∨ k = 5 ∨ k = 6 ∨ k = 7) with rfl | rfl | rfl | rfl | rfl | rfl | rfl | rfl
      · rw [show (((0 : Nat)) : Int) = 0 from rfl]
        go_wp2_with (first
          | ((with_reducible apply sx_alloc hp); infer_instance; exact rfl; clear hp; (try clear w1); intro g w1 hp; simp only [zp, zq, z0, z1])
          | ((with_reducible apply sx_load_one hp); exact zt rfl; infer_instance; infer_instance; (first | exact zso rfl | exact LB_get (by omega)); simp only [zp, zq, z0, z1])
          | ((with_reducible refine sx_callS (K0.out _ _ hT) ?_); clear hT; rintro w1 hT))
        go_roundw
        case rel => exact ⟨1, by omega, rfl, hT⟩
        case measure => simp [intOf]
      · rw [show (((1 : Nat)) : Int) = 1 from rfl]
        go_wp2_with (first
          | ((with_reducible apply sx_alloc hp); infer_instance; exact rfl; clear hp; (try clear w1); intro g w1 hp; simp only [zp, zq, z0, z1])
          | ((with_reducible apply sx_load_one hp); exact zt rfl; infer_instance; infer_instance; (first | exact zso rfl | exact LB_get (by omega)); simp only [zp, zq, z0, z1])
          | ((with_reducible refine sx_callS (K1.out _ _ hT) ?_); clear hT; rintro w1 hT))
        go_roundw
        case rel => exact ⟨2, by omega, rfl, hT⟩
        case measure => simp [intOf]
      · rw [show (((2 : Nat)) : Int) = 2 from rfl]
        go_wp2_with (first
          | ((with_reducible apply sx_alloc hp); infer_instance; exact rfl; clear hp; (try clear w1); intro g w1 hp; simp only [zp, zq, z0, z1])
          | ((with_reducible apply sx_load_one hp); exact zt rfl; infer_instance; infer_instance; (first | exact zso rfl | exact LB_get (by omega)); simp only [zp, zq, z0, z1])
          | ((with_reducible refine sx_callS (K2.out _ _ hT) ?_); clear hT; rintro w1 hT))
        go_roundw
        case rel => exact ⟨3, by omega, rfl, hT⟩
        case measure => simp [intOf]
      · rw [show (((3 : Nat)) : Int) = 3 from rfl]
        go_wp2_with (first
          | ((with_reducible apply sx_alloc hp); infer_instance; exact rfl; clear hp; (try clear w1); intro g w1 hp; simp only [zp, zq, z0, z1])
          | ((with_reducible apply sx_load_one hp); exact zt rfl; infer_instance; infer_instance; (first | exact zso rfl | exact LB_get (by omega)); simp only [zp, zq, z0, z1])
          | ((with_reducible refine sx_callS (K3.out _ _ hT) ?_); clear hT; rintro w1 hT))
        go_roundw
        case rel => exact ⟨4, by omega, rfl, hT⟩
        case measure => simp [intOf]
      · rw [show (((4 : Nat)) : Int) = 4 from rfl]
        go_wp2_with (first
          | ((with_reducible apply sx_alloc hp); infer_instance; exact rfl; clear hp; (try clear w1); intro g w1 hp; simp only [zp, zq, z0, z1])
          | ((with_reducible apply sx_load_one hp); exact zt rfl; infer_instance; infer_instance; (first | exact zso rfl | exact LB_get (by omega)); simp only [zp, zq, z0, z1])
          | ((with_reducible refine sx_callS (K4.out _ _ hT) ?_); clear hT; rintro w1 hT))
        go_roundw
        case rel => exact ⟨5, by omega, rfl, hT⟩
        case measure => simp [intOf]
      · rw [show (((5 : Nat)) : Int) = 5 from rfl]
        go_wp2_with (first
          | ((with_reducible apply sx_alloc hp); infer_instance; exact rfl; clear hp; (try clear w1); intro g w1 hp; simp only [zp, zq, z0, z1])
          | ((with_reducible apply sx_load_one hp); exact zt rfl; infer_instance; infer_instance; (first | exact zso rfl | exact LB_get (by omega)); simp only [zp, zq, z0, z1])
          | ((with_reducible refine sx_callS (K5.out _ _ hT) ?_); clear hT; rintro w1 hT))
        go_roundw
        case rel => exact ⟨6, by omega, rfl, hT⟩
        case measure => simp [intOf]
      · rw [show (((6 : Nat)) : Int) = 6 from rfl]
        go_wp2_with (first
          | ((with_reducible apply sx_alloc hp); infer_instance; exact rfl; clear hp; (try clear w1); intro g w1 hp; simp only [zp, zq, z0, z1])
          | ((with_reducible apply sx_load_one hp); exact zt rfl; infer_instance; infer_instance; (first | exact zso rfl | exact LB_get (by omega)); simp only [zp, zq, z0, z1])
          | ((with_reducible refine sx_callS (K6.out _ _ hT) ?_); clear hT; rintro w1 hT))
        go_roundw
        case rel => exact ⟨7, by omega, rfl, hT⟩
        case measure => simp [intOf]
      · rw [show (((7 : Nat)) : Int) = 7 from rfl]
        go_wp2_with (first
          | ((with_reducible apply sx_alloc hp); infer_instance; exact rfl; clear hp; (try clear w1); intro g w1 hp; simp only [zp, zq, z0, z1])
          | ((with_reducible apply sx_load_one hp); exact zt rfl; infer_instance; infer_instance; (first | exact zso rfl | exact LB_get (by omega)); simp only [zp, zq, z0, z1])
          | ((with_reducible refine sx_callS (K7.out _ _ hT) ?_); clear hT; rintro w1 hT))
        go_roundw
        case rel => exact ⟨8, by omega, rfl, hT⟩
        case measure => simp [intOf]
    · obtain rfl : k = 8 := by omega
      rcases hT with ⟨h, _⟩ | ⟨g2, cap, jj, hl0, hl1, hl2, hl3, hp1⟩
      · cases h
      · rw [show (((8 : Nat)) : Int) = 8 from rfl]
        have hp : Hp [] w [⟨g, 57, [.slice (some ⟨g2, 0, none⟩) 8 cap]⟩, ⟨g2, 5, ([.int .u8 48, .int .u8 48, .int .u8 48, .int .u8 48, .int .u8 48, .int .u8 48, .int .u8 48, .int .u8 56] : List Value) ++ jj⟩] wr := hp1
        have hcs := bytes_a jj
        clear hp1 hl0 hl1 hl2 hl3 hk8 hk
        go_upto_region 11 with (first
          | ((with_reducible apply sx_alloc hp); infer_instance; exact rfl; clear hp; (try clear w1); intro g w1 hp; simp only [zp, zq, z0, z1])
          | ((with_reducible apply sx_load_one hp); exact zt rfl; infer_instance; infer_instance; (first | exact zso rfl | exact LB_get (by omega)); simp only [zp, zq, z0, z1]))
        have hq := hp
        refine wp_drawn_hp hp hq [] (.q 0 (.q 1 (.q 2 (.q 6 (.b2 3 (.q 4 (.q 5 (.l 7 (.q 8 (.q 9 .nil))))) 7 (.l 3 (.q 4 (.q 5 (.q 8 (.q 9 .nil)))))))))) (by kernel_rfl) (by kernel_rfl) ?_
        clear hp hq; (try clear w1); intro w1 hp hq
        repeat' (first
          | (((with_reducible apply sd_q); exact zo rfl); (first
              | ((with_reducible apply sd_load_one hp); exact rfl; exact zt rfl; infer_instance; infer_instance; (first | exact zso rfl | exact LB_get (by omega)); simp only [zp, zq, z0, z1])
              | ((with_reducible apply sd_move hp); (first | exact zi rfl | exact zg rfl); simp only [zp, zq, z0, z1])
              | ((with_reducible apply sd_assign hp); exact zg rfl; simp only [zp, zq, z0, z1])
              | ((with_reducible apply sd_pure hp); exact rfl; (focus (intro _; go_simp; (try go_ints); try with_reducible rfl)); simp only [zp, zq, z0, z1])))
          | (((with_reducible apply sd_l); exact zo rfl); (first
              | ((with_reducible apply sd_call hp); exact rfl; (focus (intro _; go_simp; try first | with_reducible rfl | exact ⟨rfl, rfl⟩)); (with_reducible exact fun w => ffmt_1 w); exact hq; clear hp hq; (try clear w1); intro w1 hp hq; simp only [zp, zq, z0, z1])
              | ((with_reducible apply sd_convBS [48, 48, 48, 48, 48, 48, 48, 56] hp); exact rfl; exact zy rfl; infer_instance; exact rfl; exact Tryd.underlying57; exact Tryd.underlying5; exact Tryd.underlying9; exact hcs; simp only [zp, zq, z0, z1])))
          | (with_reducible apply sd_b2)
          | ((with_reducible apply sd_nil); clear hp; have hp := hq; clear hq))
        all_goals
          go_wp2
          exact bodyPost_ret (results_one rfl rfl) rfl ⟨congrArg (fun s => Ending.returned (Value.string s)) cat_a, hp.keep⟩
theorem cat_b : ({ data := #[45] } : ByteArray) ++ ({ data := #[48] } : ByteArray) ++ ({ data := #[46] } : ByteArray) ++ ({ data := #[48, 48, 48, 48, 48, 48, 48, 49] } : ByteArray) = ({ data := #[45, 48, 46, 48, 48, 48, 48, 48, 48, 48, 49] } : ByteArray) := by kernel_rfl
theorem bytes_b (j : List Value) : ∀ k (hk : k < ([48, 48, 48, 48, 48, 48, 48, 49] : List UInt8).length), (([.int .u8 48, .int .u8 48, .int .u8 48, .int .u8 48, .int .u8 48, .int .u8 48, .int .u8 48, .int .u8 49] : List Value) ++ j)[k]? = some (.int .u8 ((([48, 48, 48, 48, 48, 48, 48, 49] : List UInt8)[k]'hk).toNat : Int)) := by
  intro k hk
  match k, hk with
  | 0, _ | 1, _ | 2, _ | 3, _ | 4, _ | 5, _ | 6, _ | 7, _ => rfl
set_option maxHeartbeats 8000000 in
theorem text_b (w : World) : Calls Tryd.prog 12 #[.int .i64 (-1)] w (Ret (.string { data := #[45, 48, 46, 48, 48, 48, 48, 48, 48, 48, 49] }) w) := by
  have K0 := Lib.hid (fun gl wr (h : Tail [] w gl [] (([.int .u8 48, .int .u8 48, .int .u8 48, .int .u8 48, .int .u8 48, .int .u8 48, .int .u8 48, .int .u8 49] : List Value).take 0) wr) => text1_any (X := []) (w0 := w) gl [] 0 48 (by decide) (by decide) (by decide) (([.int .u8 48, .int .u8 48, .int .u8 48, .int .u8 48, .int .u8 48, .int .u8 48, .int .u8 48, .int .u8 49] : List Value).take 0) (by decide) wr h)
  have K1 := Lib.hid (fun gl wr (h : Tail [] w gl [] (([.int .u8 48, .int .u8 48, .int .u8 48, .int .u8 48, .int .u8 48, .int .u8 48, .int .u8 48, .int .u8 49] : List Value).take 1) wr) => text1_any (X := []) (w0 := w) gl [] 0 48 (by decide) (by decide) (by decide) (([.int .u8 48, .int .u8 48, .int .u8 48, .int .u8 48, .int .u8 48, .int .u8 48, .int .u8 48, .int .u8 49] : List Value).take 1) (by decide) wr h)
  have K2 := Lib.hid (fun gl wr (h : Tail [] w gl [] (([.int .u8 48, .int .u8 48, .int .u8 48, .int .u8 48, .int .u8 48, .int .u8 48, .int .u8 48, .int .u8 49] : List Value).take 2) wr) => text1_any (X := []) (w0 := w) gl [] 0 48 (by decide) (by decide) (by decide) (([.int .u8 48, .int .u8 48, .int .u8 48, .int .u8 48, .int .u8 48, .int .u8 48, .int .u8 48, .int .u8 49] : List Value).take 2) (by decide) wr h)
  have K3 := Lib.hid (fun gl wr (h : Tail [] w gl [] (([.int .u8 48, .int .u8 48, .int .u8 48, .int .u8 48, .int .u8 48, .int .u8 48, .int .u8 48, .int .u8 49] : List Value).take 3) wr) => text1_any (X := []) (w0 := w) gl [] 0 48 (by decide) (by decide) (by decide) (([.int .u8 48, .int .u8 48, .int .u8 48, .int .u8 48, .int .u8 48, .int .u8 48, .int .u8 48, .int .u8 49] : List Value).take 3) (by decide) wr h)
  have K4 := Lib.hid (fun gl wr (h : Tail [] w gl [] (([.int .u8 48, .int .u8 48, .int .u8 48, .int .u8 48, .int .u8 48, .int .u8 48, .int .u8 48, .int .u8 49] : List Value).take 4) wr) => text1_any (X := []) (w0 := w) gl [] 0 48 (by decide) (by decide) (by decide) (([.int .u8 48, .int .u8 48, .int .u8 48, .int .u8 48, .int .u8 48, .int .u8 48, .int .u8 48, .int .u8 49] : List Value).take 4) (by decide) wr h)
  have K5 := Lib.hid (fun gl wr (h : Tail [] w gl [] (([.int .u8 48, .int .u8 48, .int .u8 48, .int .u8 48, .int .u8 48, .int .u8 48, .int .u8 48, .int .u8 49] : List Value).take 5) wr) => text1_any (X := []) (w0 := w) gl [] 0 48 (by decide) (by decide) (by decide) (([.int .u8 48, .int .u8 48, .int .u8 48, .int .u8 48, .int .u8 48, .int .u8 48, .int .u8 48, .int .u8 49] : List Value).take 5) (by decide) wr h)
  have K6 := Lib.hid (fun gl wr (h : Tail [] w gl [] (([.int .u8 48, .int .u8 48, .int .u8 48, .int .u8 48, .int .u8 48, .int .u8 48, .int .u8 48, .int .u8 49] : List Value).take 6) wr) => text1_any (X := []) (w0 := w) gl [] 0 48 (by decide) (by decide) (by decide) (([.int .u8 48, .int .u8 48, .int .u8 48, .int .u8 48, .int .u8 48, .int .u8 48, .int .u8 48, .int .u8 49] : List Value).take 6) (by decide) wr h)
  have K7 := Lib.hid (fun gl wr (h : Tail [] w gl [] (([.int .u8 48, .int .u8 48, .int .u8 48, .int .u8 48, .int .u8 48, .int .u8 48, .int .u8 48, .int .u8 49] : List Value).take 7) wr) => text1_any (X := []) (w0 := w) gl [] 1 49 (by decide) (by decide) (by decide) (([.int .u8 48, .int .u8 48, .int .u8 48, .int .u8 48, .int .u8 48, .int .u8 48, .int .u8 48, .int .u8 49] : List Value).take 7) (by decide) wr h)
  go_enter Tryd.func12, Tryd.ntmps12
  have hp := Hp.start [] w
  go_wp2_with (first
          | ((with_reducible apply sx_alloc hp); infer_instance; exact rfl; clear hp; (try clear w1); intro g w1 hp; simp only [zp, zq, z0, z1])
          | ((with_reducible apply sx_load_one hp); exact zt rfl; infer_instance; infer_instance; (first | exact zso rfl | exact LB_get (by omega)); simp only [zp, zq, z0, z1]))
  rename_i K9 hK9
  rw [show IntKind.u64.wrap (-IntKind.u64.wrap (-1)) = 1 by decide]
  have hT : Tail [] w g [] (([.int .u8 48, .int .u8 48, .int .u8 48, .int .u8 48, .int .u8 48, .int .u8 48, .int .u8 48, .int .u8 49] : List Value).take 0) w1 := .inl ⟨rfl, hp⟩
  clear hp
  go_loopw [15] (fun i wr => ∃ k : Nat, k ≤ 8 ∧ i = .int .i64 k ∧ Tail [] w g [] (([.int .u8 48, .int .u8 48, .int .u8 48, .int .u8 48, .int .u8 48, .int .u8 48, .int .u8 48, .int .u8 49] : List Value).take k) wr) (fun i _ => 8 - (intOf i).toNat)
  case atStart => exact ⟨0, by omega, rfl, hT⟩
  case round =>
    clear hT
    obtain ⟨k, hk, rfl, hT⟩ := hrel
    by_cases hk8 : k < 8
    · rcases (by omega : k = 0 ∨ k = 1 ∨ k = 2 ∨ k = 3 ∨ k = 4 ∨ k = 5 ∨ k = 6 ∨ k = 7) with rfl | rfl | rfl | rfl | rfl | rfl | rfl | rfl
      · rw [show (((0 : Nat)) : Int) = 0 from rfl]
        go_wp2_with (first
          | ((with_reducible apply sx_alloc hp); infer_instance; exact rfl; clear hp; (try clear w1); intro g w1 hp; simp only [zp, zq, z0, z1])
          | ((with_reducible apply sx_load_one hp); exact zt rfl; infer_instance; infer_instance; (first | exact zso rfl | exact LB_get (by omega)); simp only [zp, zq, z0, z1])
          | ((with_reducible refine sx_callS (K0.out _ _ hT) ?_); clear hT; rintro w1 hT))
        go_roundw
        case rel => exact ⟨1, by omega, rfl, hT⟩
        case measure => simp [intOf]
      · rw [show (((1 : Nat)) : Int) = 1 from rfl]
        go_wp2_with (first
          | ((with_reducible apply sx_alloc hp); infer_instance; exact rfl; clear hp; (try clear w1); intro g w1 hp; simp only [zp, zq, z0, z1])
          | ((with_reducible apply sx_load_one hp); exact zt rfl; infer_instance; infer_instance; (first | exact zso rfl | exact LB_get (by omega)); simp only [zp, zq, z0, z1])
          | ((with_reducible refine sx_callS (K1.out _ _ hT) ?_); clear hT; rintro w1 hT))
        go_roundw
        case rel => exact ⟨2, by omega, rfl, hT⟩
        case measure => simp [intOf]
      · rw [show (((2 : Nat)) : Int) = 2 from rfl]
        go_wp2_with (first
          | ((with_reducible apply sx_alloc hp); infer_instance; exact rfl; clear hp; (try clear w1); intro g w1 hp; simp only [zp, zq, z0, z1])
          | ((with_reducible apply sx_load_one hp); exact zt rfl; infer_instance; infer_instance; (first | exact zso rfl | exact LB_get (by omega)); simp only [zp, zq, z0, z1])
          | ((with_reducible refine sx_callS (K2.out _ _ hT) ?_); clear hT; rintro w1 hT))
        go_roundw
        case rel => exact ⟨3, by omega, rfl, hT⟩
        case measure => simp [intOf]
      · rw [show (((3 : Nat)) : Int) = 3 from rfl]
        go_wp2_with (first
          | ((with_reducible apply sx_alloc hp); infer_instance; exact rfl; clear hp; (try clear w1); intro g w1 hp; simp only [zp, zq, z0, z1])
          | ((with_reducible apply sx_load_one hp); exact zt rfl; infer_instance; infer_instance; (first | exact zso rfl | exact LB_get (by omega)); simp only [zp, zq, z0, z1])
          | ((with_reducible refine sx_callS (K3.out _ _ hT) ?_); clear hT; rintro w1 hT))
        go_roundw
        case rel => exact ⟨4, by omega, rfl, hT⟩
        case measure => simp [intOf]
      · rw [show (((4 : Nat)) : Int) = 4 from rfl]
        go_wp2_with (first
          | ((with_reducible apply sx_alloc hp); infer_instance; exact rfl; clear hp; (try clear w1); intro g w1 hp; simp only [zp, zq, z0, z1])
          | ((with_reducible apply sx_load_one hp); exact zt rfl; infer_instance; infer_instance; (first | exact zso rfl | exact LB_get (by omega)); simp only [zp, zq, z0, z1])
          | ((with_reducible refine sx_callS (K4.out _ _ hT) ?_); clear hT; rintro w1 hT))
        go_roundw
        case rel => exact ⟨5, by omega, rfl, hT⟩
        case measure => simp [intOf]
      · rw [show (((5 : Nat)) : Int) = 5 from rfl]
        go_wp2_with (first
          | ((with_reducible apply sx_alloc hp); infer_instance; exact rfl; clear hp; (try clear w1); intro g w1 hp; simp only [zp, zq, z0, z1])
          | ((with_reducible apply sx_load_one hp); exact zt rfl; infer_instance; infer_instance; (first | exact zso rfl | exact LB_get (by omega)); simp only [zp, zq, z0, z1])
          | ((with_reducible refine sx_callS (K5.out _ _ hT) ?_); clear hT; rintro w1 hT))
        go_roundw
        case rel => exact ⟨6, by omega, rfl, hT⟩
        case measure => simp [intOf]
      · rw [show (((6 : Nat)) : Int) = 6 from rfl]
        go_wp2_with (first
          | ((with_reducible apply sx_alloc hp); infer_instance; exact rfl; clear hp; (try clear w1); intro g w1 hp; simp only [zp, zq, z0, z1])
          | ((with_reducible apply sx_load_one hp); exact zt rfl; infer_instance; infer_instance; (first | exact zso rfl | exact LB_get (by omega)); simp only [zp, zq, z0, z1])
          | ((with_reducible refine sx_callS (K6.out _ _ hT) ?_); clear hT; rintro w1 hT))
        go_roundw
        case rel => exact ⟨7, by omega, rfl, hT⟩
        case measure => simp [intOf]
      · rw [show (((7 : Nat)) : Int) = 7 from rfl]
        go_wp2_with (first
          | ((with_reducible apply sx_alloc hp); infer_instance; exact rfl; clear hp; (try clear w1); intro g w1 hp; simp only [zp, zq, z0, z1])
          | ((with_reducible apply sx_load_one hp); exact zt rfl; infer_instance; infer_instance; (first | exact zso rfl | exact LB_get (by omega)); simp only [zp, zq, z0, z1])
          | ((with_reducible refine sx_callS (K7.out _ _ hT) ?_); clear hT; rintro w1 hT))
        go_roundw
        case rel => exact ⟨8, by omega, rfl, hT⟩
        case measure => simp [intOf]
    · obtain rfl : k = 8 := by omega
      rcases hT with ⟨h, _⟩ | ⟨g2, cap, jj, hl0, hl1, hl2, hl3, hp1⟩
      · cases h
      · rw [show (((8 : Nat)) : Int) = 8 from rfl]
        have hp : Hp [] w [⟨g, 57, [.slice (some ⟨g2, 0, none⟩) 8 cap]⟩, ⟨g2, 5, ([.int .u8 48, .int .u8 48, .int .u8 48, .int .u8 48, .int .u8 48, .int .u8 48, .int .u8 48, .int .u8 49] : List Value) ++ jj⟩] wr := hp1
        have hcs := bytes_b jj
        clear hp1 hl0 hl1 hl2 hl3 hk8 hk
        go_upto_region 11 with (first
          | ((with_reducible apply sx_alloc hp); infer_instance; exact rfl; clear hp; (try clear w1); intro g w1 hp; simp only [zp, zq, z0, z1])
          | ((with_reducible apply sx_load_one hp); exact zt rfl; infer_instance; infer_instance; (first | exact zso rfl | exact LB_get (by omega)); simp only [zp, zq, z0, z1]))
        have hq := hp
        refine wp_drawn_hp hp hq [] (.q 0 (.q 1 (.q 2 (.q 6 (.b2 3 (.q 4 (.q 5 (.l 7 (.q 8 (.q 9 .nil))))) 7 (.l 3 (.q 4 (.q 5 (.q 8 (.q 9 .nil)))))))))) (by kernel_rfl) (by kernel_rfl) ?_
        clear hp hq; (try clear w1); intro w1 hp hq
        repeat' (first
          | (((with_reducible apply sd_q); exact zo rfl); (first
              | ((with_reducible apply sd_load_one hp); exact rfl; exact zt rfl; infer_instance; infer_instance; (first | exact zso rfl | exact LB_get (by omega)); simp only [zp, zq, z0, z1])
              | ((with_reducible apply sd_move hp); (first | exact zi rfl | exact zg rfl); simp only [zp, zq, z0, z1])
              | ((with_reducible apply sd_assign hp); exact zg rfl; simp only [zp, zq, z0, z1])
              | ((with_reducible apply sd_pure hp); exact rfl; (focus (intro _; go_simp; (try go_ints); try with_reducible rfl)); simp only [zp, zq, z0, z1])))
          | (((with_reducible apply sd_l); exact zo rfl); (first
              | ((with_reducible apply sd_call hp); exact rfl; (focus (intro _; go_simp; try first | with_reducible rfl | exact ⟨rfl, rfl⟩)); (with_reducible exact fun w => ffmt_0 w); exact hq; clear hp hq; (try clear w1); intro w1 hp hq; simp only [zp, zq, z0, z1])
              | ((with_reducible apply sd_convBS [48, 48, 48, 48, 48, 48, 48, 49] hp); exact rfl; exact zy rfl; infer_instance; exact rfl; exact Tryd.underlying57; exact Tryd.underlying5; exact Tryd.underlying9; exact hcs; simp only [zp, zq, z0, z1])))
          | (with_reducible apply sd_b2)
          | ((with_reducible apply sd_nil); clear hp; have hp := hq; clear hq))
        all_goals
          go_wp2
          exact bodyPost_ret (results_one rfl rfl) rfl ⟨congrArg (fun s => Ending.returned (Value.string s)) cat_b, hp.keep⟩
end Go.Proofs.YtbdkbmhejoakiaaDoor
