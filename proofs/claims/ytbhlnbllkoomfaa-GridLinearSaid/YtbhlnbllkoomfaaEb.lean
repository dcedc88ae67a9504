/-
  Package grid: Prime (contract).
-/
import Derived.Test.YtbhlnbllkoomfaaEa
import Derived.Test.YtbhlnbllkoomfaaGd
import Derived.Test.YtbhlnbllkoomfaaEc
set_option linter.unusedSimpArgs false
set_option linter.unusedVariables false
set_option maxRecDepth 100000
namespace Go.Proofs.Ytbhlnbllkoomfaa
open Go Go.RowKit

def az (n : Int) : Int := if n < 0 then -n else n
theorem az_nonneg (n : Int) : 0 ≤ az n := by unfold az; split <;> omega
/-- The divisor so far, as long as each has an absolute value that fits. -/
def gstep (a : Fin 3 → Int) (s : Option Int) (i : Fin 3) : Option Int := s.bind fun s => if Fit (az (a i)) then some (cg s (az (a i))) else none
def gacc (a : Fin 3 → Int) (l : List (Fin 3)) : Option Int := l.foldl (gstep a) (some 0)
theorem gacc_snoc (a : Fin 3 → Int) (l : List (Fin 3)) (i : Fin 3) : gacc a (l ++ [i]) = gstep a (gacc a l) i := by simp [gacc, List.foldl_append]
theorem gacc_none {a : Fin 3 → Int} {l : List (Fin 3)} (hl : Went l) (h : gacc a l = none) : gacc a [0, 1, 2] = none := by
  have hs : ∀ i, gstep a none i = none := fun _ => rfl
  rcases hl with rfl | rfl | rfl
  · rw [show ([0, 1, 2] : List (Fin 3)) = ([0] ++ [1]) ++ [2] from rfl, gacc_snoc, gacc_snoc, h, hs, hs]
  · rw [show ([0, 1, 2] : List (Fin 3)) = [0, 1] ++ [2] from rfl, gacc_snoc, h, hs]
  · exact h
theorem cg_nonneg (x y : Int) : 0 ≤ cg x y := by unfold cg; omega
theorem cg_fit {x y : Int} (hx : Fit x) (hy : Fit y) (hx0 : 0 ≤ x) (hy0 : 0 ≤ y) : Fit (cg x y) := by
  have h0 := cg_nonneg x y
  have h1 : cg x y ≤ x ∨ cg x y ≤ y := by
    unfold cg
    by_cases h : x = 0
    · right
      subst h
      simp
      omega
    · left
      have := Nat.gcd_le_left y.toNat (show 0 < x.toNat by omega)
      omega
  unfold Fit at *
  omega
theorem sx_callN2 {P : Program} {X : List Nat} {w0 w : World} {H : List Bk} {f : FuncId} {args : Array Value} {v : Nat → Nat → Value} {t u : TypeId} {cs ds : List Value} {R : Ending → World → Prop} (hp : Hp X w0 H w) (hc : Calls P f args w (RetN2 v t cs u ds w)) (hk : ∀ g h w1, Hp X w0 (⟨g, t, cs⟩ :: ⟨h, u, ds⟩ :: H) w1 → R (.returned (v g h)) w1) : Calls P f args w R :=
  hc.mono fun e w1 ⟨g, h, he, hne, hw, hg, hh, hb, hb'⟩ => by subst he; exact hk g h w1 (hp.add2 hw hne hg hh hb hb')
set_option maxHeartbeats 2000000 in
theorem prime1_any (a g : Int) (ha : Fit a) (hg : Fit g) (gs : Nat) (w : World) (hb : w.heap[gs]? = some (.cells [.int .u64 (lb (g) 0), .int .u64 (lb (g) 1), .int .u64 (lb (g) 2), .int .u64 (lb (g) 3), .int .u64 (lb (g) 4), .int .u64 (lb (g) 5), .int .u64 (lb (g) 6), .int .u64 (lb (g) 7)].toArray 25 (0, 0))) : Calls Try.prog 54 #[W a, .pointer (some ⟨gs, 0, none⟩)] w (Ret (W (dvq a g)) w) := by
  have HD := Lib.hid (div_any a g ha hg)
  have hp := Hp.startX (cs := [.int .u64 (lb (g) 0), .int .u64 (lb (g) 1), .int .u64 (lb (g) 2), .int .u64 (lb (g) 3), .int .u64 (lb (g) 4), .int .u64 (lb (g) 5), .int .u64 (lb (g) 6), .int .u64 (lb (g) 7)]) hb
  have HB := Lib.hid hb
  clear ha hg hb
  go_enter Try.func54, Try.ntmps54
  go_wp2_with (first
          | ((with_reducible apply sx_box hp); (first | exact za rfl | exact zu rfl | exact zi rfl | exact zb rfl | exact zr rfl | exact zs rfl | exact zf rfl | exact zg rfl | exact zn rfl | exact zv rfl | exact zw rfl); exact rfl; clear hp; (try clear w1); intro g w1 hp; simp only [zp, zq, z0, z1])
          | ((with_reducible apply sx_alloc hp); infer_instance; exact rfl; clear hp; (try clear w1); intro g w1 hp; simp only [zp, zq, z0, z1])
          | ((with_reducible apply sx_load_agg hp); exact zt rfl; infer_instance; infer_instance; (first | exact zl rfl | exact LB_le (by omega)); (first | (with_reducible exact LB_set (by omega)) | (simp only [n0, Nat.reduceAdd, n1, n2, n3, n4, n5, n6, n7, n8, n9]; try rfl)); simp only [zp, zq, z0, z1])
          | ((with_reducible apply sx_load_one hp); exact zt rfl; infer_instance; infer_instance; (first | exact zio rfl | exact zbo rfl | exact zro rfl | exact zso rfl | exact zfo rfl | exact zgo rfl | exact zno rfl | exact zvo rfl | exact zwo rfl | exact LB_get (by omega)); simp only [zp, zq, z0, z1])
          | ((with_reducible apply sx_store hp); exact zt rfl; (first | exact za rfl | exact zu rfl | exact zi rfl | exact zb rfl | exact zr rfl | exact zs rfl | exact zf rfl | exact zg rfl | exact zn rfl | exact zv rfl | exact zw rfl); exact rfl; (first | exact AggTy.size | exact OneTy.size); exact rfl; infer_instance; (first | (with_reducible exact LB_set (by omega)) | (simp only [n0, Nat.reduceAdd, n1, n2, n3, n4, n5, n6, n7, n8, n9]; try rfl)); (first | exact zl rfl | exact LB_le (by omega)); exact rfl; infer_instance; clear hp; (try clear w1); intro w1 hp)
          | ((with_reducible apply sx_index_one); exact za rfl; exact zk rfl; infer_instance; infer_instance; omega; omega; (first | exact rfl | (go_simp; done)); simp only [zp, zq, z0, z1])
          | ((with_reducible apply sx_index_agg); exact za rfl; exact zk rfl; infer_instance; infer_instance; omega; omega; ((try simp only [m0, Int.reduceToNat, m1, m2, Nat.reduceMul, m3, m4, n5, n1, n2, n3, n4, n6]); exact rfl); simp only [zp, zq, z0, z1])
          | ((with_reducible apply sx_indexAddr); exact zx rfl; exact zk rfl; infer_instance; (first | exact AggTy.size | exact OneTy.size); omega; omega; ((try simp only [m0, Int.reduceToNat, m1, m2, Nat.reduceMul, Nat.reduceAdd, m3, m4, m5, n0]); exact rfl); simp only [zp, zq, z0, z1])
          | ((with_reducible apply sx_load_far hp); exact zt rfl; assumption; infer_instance; assumption; (first | exact zl rfl | omega); simp only [zp, zq, z0, z1])
          | ((with_reducible apply sx_load_far1 hp); exact zt rfl; assumption; infer_instance; (first | assumption | (first | exact zio rfl | exact zbo rfl | exact zro rfl | exact zso rfl | exact zfo rfl | exact zgo rfl | exact zno rfl | exact zvo rfl | exact zwo rfl | exact LB_get (by omega))); simp only [zp, zq, z0, z1])
          | ((with_reducible apply sx_buildSlice hp); infer_instance; (first | exact AggTy.size | exact OneTy.size); infer_instance; exact zl rfl; decide; (first | exact (rfl : _ = numbered 0 [_]) | exact (rfl : _ = numbered 0 [_, _]) | exact (rfl : _ = numbered 0 [_, _, _]) | exact (rfl : _ = numbered 0 [_, _, _, _])); exact rfl; (first | exact (rfl : _ = List.map (fun x : List Value => x.toArray) [_]) | exact (rfl : _ = List.map (fun x : List Value => x.toArray) [_, _]) | exact (rfl : _ = List.map (fun x : List Value => x.toArray) [_, _, _]) | exact (rfl : _ = List.map (fun x : List Value => x.toArray) [_, _, _, _])); (intro l hl <;> simp only [List.mem_cons, List.not_mem_nil, or_false] at hl <;> rcases hl with rfl | rfl | rfl | rfl <;> rfl); exact rfl; clear hp; (try clear w1); intro g w1 hp; simp only [zp, zq, z0, z1])
          | ((with_reducible apply sx_append_nil hp); infer_instance; infer_instance; exact rfl; decide; exact (rfl : _ = Value.slice none 0 0); exact zy rfl; infer_instance; exact rfl; exact rfl; decide; (unfold maxLen; decide); decide; clear hp; (try clear w1); intro g cap junk w1 hl1 hl2 hl3 hp; simp only [zp, zq, z0, z1])
          | ((with_reducible apply sx_append hp); infer_instance; infer_instance; exact rfl; decide; exact zy rfl; (first | exact List.Perm.refl _ | exact List.perm_middle (l₁ := [_]) | exact List.perm_middle (l₁ := [_, _]) | exact List.perm_middle (l₁ := [_, _, _]) | exact List.perm_middle (l₁ := [_, _, _, _]) | exact List.perm_middle (l₁ := [_, _, _, _, _])); (first | exact pcs_length _ | (simp only [List.length_map, Nat.mul_one])); assumption; assumption; assumption; exact zy rfl; infer_instance; exact rfl; exact rfl; decide; (unfold maxLen; omega); omega; clear hp; (try clear w1); intro g cap junk w1 hl1 hl2 hl3 hp; (try dsimp only [List.cons_append, List.nil_append] at hp); simp only [zp, zq, z0, z1])
          | ((with_reducible refine sx_call hp (HD.out _) ?_); clear hp; (try clear w1); intro w1 hp))
  exact bodyPost_ret (results_one rfl ⟨_, rfl, run_load_agg hp (Nat.le_of_ble_eq_true rfl)⟩) rfl ⟨rfl, hp.stays fun k hk => by
    obtain rfl : k = gs := by simpa using hk
    exact ⟨⟨k, _, _⟩, Has.mem, rfl, HB.out⟩⟩
section
variable (w : World) (gs gk gp gn ga gb : Nat) (x y z : Int)
def BI (pre : List (Fin 3)) (W' : World) : Prop := ∃ s, Fit s ∧ 0 ≤ s ∧ gacc (nth x y z) pre = some s ∧ Hp [] w [⟨gb, 27, Sl x y z⟩, ⟨ga, 27, Sl x y z⟩, ⟨gs, 25, [.int .u64 (lb (s) 0), .int .u64 (lb (s) 1), .int .u64 (lb (s) 2), .int .u64 (lb (s) 3), .int .u64 (lb (s) 4), .int .u64 (lb (s) 5), .int .u64 (lb (s) 6), .int .u64 (lb (s) 7)]⟩, ⟨gk, 4, [.bool false]⟩, ⟨gp, 27, [.int .u64 0, .int .u64 0, .int .u64 0, .int .u64 0, .int .u64 0, .int .u64 0, .int .u64 0, .int .u64 0, .int .u64 0, .int .u64 0, .int .u64 0, .int .u64 0, .int .u64 0, .int .u64 0, .int .u64 0, .int .u64 0, .int .u64 0, .int .u64 0, .int .u64 0, .int .u64 0, .int .u64 0, .int .u64 0, .int .u64 0, .int .u64 0]⟩, ⟨gn, 27, Sl x y z⟩] W'
def BX (c : Code) (pre : List (Fin 3)) (W' : World) : Prop := c = .ret ∧ gacc (nth x y z) pre = none ∧ ∃ s : List Value, Hp [] w [⟨gb, 27, Sl x y z⟩, ⟨ga, 27, Sl x y z⟩, ⟨gs, 25, s⟩, ⟨gk, 4, [.bool false]⟩, ⟨gp, 27, [.int .u64 0, .int .u64 0, .int .u64 0, .int .u64 0, .int .u64 0, .int .u64 0, .int .u64 0, .int .u64 0, .int .u64 0, .int .u64 0, .int .u64 0, .int .u64 0, .int .u64 0, .int .u64 0, .int .u64 0, .int .u64 0, .int .u64 0, .int .u64 0, .int .u64 0, .int .u64 0, .int .u64 0, .int .u64 0, .int .u64 0, .int .u64 0]⟩, ⟨gn, 27, Sl x y z⟩] W'
def BA (i : Fin 3) (a' : Act) (W' : World) : Prop := ∃ g5 u0 u6 u7 u8 u9 u10 u11 u12 u13 u14 u15 u16 u17 u18 u19 u20 u21 u22 u23 u24 u25 u26 u27 u28 u29 u30 u31 u32 u33 u34 u35 u36 u37 u38 u39 u40 u41 u42 u43 u44 u45 u46, [g5, gb, ga, gs, gk, gp, gn].Nodup ∧ w.heap.size ≤ g5 ∧ W'.heap[g5]? = some (.cells [.int .u64 (lb (nth x y z i) 0), .int .u64 (lb (nth x y z i) 1), .int .u64 (lb (nth x y z i) 2), .int .u64 (lb (nth x y z i) 3), .int .u64 (lb (nth x y z i) 4), .int .u64 (lb (nth x y z i) 5), .int .u64 (lb (nth x y z i) 6), .int .u64 (lb (nth x y z i) 7)].toArray 25 (0, 0)) ∧
  a' = { tmps := #[u0, .pointer (some ⟨gn, 0, none⟩), .pointer (some ⟨gp, 0, none⟩), .pointer (some ⟨gk, 0, none⟩), .pointer (some ⟨gs, 0, none⟩), .pointer (some ⟨g5, 0, none⟩), u6, u7, u8, u9, u10, u11, u12, u13, u14, u15, u16, u17, u18, u19, u20, u21, u22, u23, u24, u25, u26, u27, u28, u29, u30, u31, u32, u33, u34, u35, u36, u37, u38, u39, u40, u41, u42, u43, u44, u45, u46], defers := [] }
end
theorem Sv_zero : Sv 0 0 0 = .agg #[.int .u64 0, .int .u64 0, .int .u64 0, .int .u64 0, .int .u64 0, .int .u64 0, .int .u64 0, .int .u64 0, .int .u64 0, .int .u64 0, .int .u64 0, .int .u64 0, .int .u64 0, .int .u64 0, .int .u64 0, .int .u64 0, .int .u64 0, .int .u64 0, .int .u64 0, .int .u64 0, .int .u64 0, .int .u64 0, .int .u64 0, .int .u64 0] := by unfold Sv; simp only [lb_zero]
/-- What Prime hands back. -/
def prv (x y z : Int) : Value := match gacc (nth x y z) [0, 1, 2] with
  | none => .tuple #[Sv 0 0 0, .bool false]
  | some g => if g = 0 then .tuple #[Sv 0 0 0, .bool false] else .tuple #[Sv (dvq x g) (dvq y g) (dvq z g), .bool true]
set_option maxHeartbeats 8000000 in
theorem prime_any (x y z : Int) (hx : Fit x) (hy : Fit y) (hz0 : Fit z) (w : World) : Calls Try.prog 17 #[Sv x y z] w (Ret (prv x y z) w) := by
  have hmf : ∀ (fn : Fn) (first cap : Array Value) (w : World), (Instr.makeFunc fn first cap).run Try.prog w = .ok (.func fn first cap) w := fun _ _ _ _ => rfl
  refine (callsIn_wide (n := 8)).1 (callsIn_of_wp_marks Try.func17 rfl trivial (wpIn_wide.2 ?_) rfl)
  simp only [Try.ntmps17, List.size_toArray, List.length_cons, List.length_nil, Nat.reduceAdd, Nat.reduceSub, Array.replicate_succ, Array.replicate_zero, List.push_toArray, List.append_toArray, List.nil_append, List.cons_append]
  have hp := Hp.start [] w
  go_wp2_with (first
          | ((with_reducible apply sx_box hp); exact za rfl; exact rfl; clear hp; (try clear w1); intro g w1 hp; simp only [zp, zq, z0, z1])
          | ((with_reducible apply sx_alloc hp); infer_instance; exact rfl; clear hp; (try clear w1); intro g w1 hp; simp only [zp, zq, z0, z1])
          | ((with_reducible apply sx_load_agg hp); exact zt rfl; infer_instance; infer_instance; (first | exact zl rfl | exact LB_le (by omega)); (first | (with_reducible exact LB_set (by omega)) | (simp only [n0, Nat.reduceAdd, n1, n2, n3, n4, n5, n6, n7, n8, n9]; try rfl)); simp only [zp, zq, z0, z1])
          | ((with_reducible apply sx_store hp); exact zt rfl; (first | exact za rfl | exact zb rfl); exact rfl; (first | exact AggTy.size | exact OneTy.size); exact rfl; infer_instance; (first | (with_reducible exact LB_set (by omega)) | (simp only [n0, Nat.reduceAdd, n1, n2, n3, n4, n5, n6, n7, n8, n9]; try rfl)); (first | exact zl rfl | exact LB_le (by omega)); exact rfl; infer_instance; clear hp; (try clear w1); intro w1 hp)
          | ((with_reducible refine sx_callN2 hp (numbers_any _ _ _ _ _ _ _) ?_); clear hp; (try clear w1); intro gA gB w1 hp))
  rename_i gn gp gk K hK
  obtain ⟨gs, rfl⟩ : ∃ z : Nat, z = g := ⟨_, rfl⟩
  have hne : gB ≠ gA := by
    have := hp.nd
    simp at this
    exact fun e => this.1.1 e.symm
  have hwl := hp.keep.size
  refine wpIn_wide.1 (wpIn_rangeFunc_ownH (α := Fin 3) rfl (show 1 ≤ 8 by omega) (gf := 81) (lb := #[.pointer (some ⟨gB, 0, none⟩), .pointer (some ⟨gA, 0, none⟩)]) rfl trivial (Go.Proofs.enters_of Try.func81 (by kernel_rfl) rfl)
    (numbers_stops _ x y z x y z gB gA hne _ hp.blk hp.blk) (fun h k => ⟨k.1.trans h.1, k.2.trans h.2⟩) ?keep (Below.refl _ _) (fun _ => rfl)
    (BI w gs gk gp gn gB gA x y z) (BX w gs gk gp gn gB gA x y z) ?ownI ?ownX ?start (BA w gs gk gp gn gB gA x y z) ?ownA ?assign ?body ?done ?stop)
  case keep =>
    intro W l o o' hl ho hc _
    have h1 := hp.lt (b := ⟨gA, _, _⟩) (by simp; left; exact ⟨rfl, rfl⟩)
    have h2 := hp.lt (b := ⟨gB, _, _⟩) (by simp; right; left; exact ⟨rfl, rfl⟩)
    exact ⟨World.putObj_heap_other (fun e => by subst e; simp at h2; omega), World.putObj_heap_other (fun e => by subst e; simp at h1; omega)⟩
  case ownI => exact fun pre W W' row ⟨s, hs, h0, ha, h⟩ hg hr => ⟨s, hs, h0, ha, h.grown hp.keep.size hg hr⟩
  case ownX => exact fun c pre W W' row ⟨hc, ha, s, h⟩ hg hr => ⟨hc, ha, s, h.grown hp.keep.size hg hr⟩
  case start => exact ⟨0, fit_zero, Int.le_refl _, rfl, by
    have e : ([.int .u64 0, .int .u64 0, .int .u64 0, .int .u64 0, .int .u64 0, .int .u64 0, .int .u64 0, .int .u64 0] : List Value) = [.int .u64 (lb (0) 0), .int .u64 (lb (0) 1), .int .u64 (lb (0) 2), .int .u64 (lb (0) 3), .int .u64 (lb (0) 4), .int .u64 (lb (0) 5), .int .u64 (lb (0) 6), .int .u64 (lb (0) 7)] := by simp only [lb_zero]
    have h := hp.sub (H' := [⟨gA, 27, Sl x y z⟩, ⟨gB, 27, Sl x y z⟩, ⟨gs, 25, [.int .u64 (lb (0) 0), .int .u64 (lb (0) 1), .int .u64 (lb (0) 2), .int .u64 (lb (0) 3), .int .u64 (lb (0) 4), .int .u64 (lb (0) 5), .int .u64 (lb (0) 6), .int .u64 (lb (0) 7)]⟩, ⟨gk, 4, [.bool false]⟩, ⟨gp, 27, [.int .u64 0, .int .u64 0, .int .u64 0, .int .u64 0, .int .u64 0, .int .u64 0, .int .u64 0, .int .u64 0, .int .u64 0, .int .u64 0, .int .u64 0, .int .u64 0, .int .u64 0, .int .u64 0, .int .u64 0, .int .u64 0, .int .u64 0, .int .u64 0, .int .u64 0, .int .u64 0, .int .u64 0, .int .u64 0, .int .u64 0, .int .u64 0]⟩, ⟨gn, 27, Sl x y z⟩]) (by rw [← e]; repeat (first | with_reducible exact List.nil_sublist _ | with_reducible exact List.Sublist.refl _ | with_reducible apply List.Sublist.cons_cons | with_reducible apply List.Sublist.cons))
    exact h⟩
  case ownA =>
    rintro i a' _ W W' row ⟨g5, u0, u6, u7, u8, u9, u10, u11, u12, u13, u14, u15, u16, u17, u18, u19, u20, u21, u22, u23, u24, u25, u26, u27, u28, u29, u30, u31, u32, u33, u34, u35, u36, u37, u38, u39, u40, u41, u42, u43, u44, u45, u46, hn, h5, hb5, e⟩ hg hr
    exact ⟨g5, u0, u6, u7, u8, u9, u10, u11, u12, u13, u14, u15, u16, u17, u18, u19, u20, u21, u22, u23, u24, u25, u26, u27, u28, u29, u30, u31, u32, u33, u34, u35, u36, u37, u38, u39, u40, u41, u42, u43, u44, u45, u46, hn, h5, own_cells rfl hb5 hg hr, e⟩
  case assign =>
    clear hK
    rintro l pre i Wr K ⟨s, hs, hs0, ha, hI⟩ hK
    have hp := hI.self
    have hc := hI.selfCells
    try dsimp only [List.map_cons, List.map_nil] at hp
    try dsimp only [List.map_cons, List.map_nil] at hc
    rw [round_slots2]
    simp only [List.setIfInBounds_toArray, List.set_cons_zero, List.set_cons_succ]
    gi_wp2_with (first
          | ((with_reducible apply si_box hp); exact za rfl; exact rfl; clear hp; (try clear w1); intro g w1 hp; simp only [zp, zq, z0, z1])
          | ((with_reducible apply si_alloc hp); infer_instance; exact rfl; clear hp; (try clear w1); intro g w1 hp; simp only [zp, zq, z0, z1])
          | ((with_reducible apply si_load_agg hp); exact zt rfl; infer_instance; infer_instance; (first | exact zl rfl | exact LB_le (by omega)); (first | (with_reducible exact LB_set (by omega)) | (simp only [n0, Nat.reduceAdd, n1, n2, n3, n4, n5, n6, n7, n8, n9]; try rfl)); simp only [zp, zq, z0, z1])
          | ((with_reducible apply si_store hp); exact zt rfl; (first | exact za rfl | exact zb rfl); exact rfl; (first | exact AggTy.size | exact OneTy.size); exact rfl; infer_instance; (first | (with_reducible exact LB_set (by omega)) | (simp only [n0, Nat.reduceAdd, n1, n2, n3, n4, n5, n6, n7, n8, n9]; try rfl)); (first | exact zl rfl | exact LB_le (by omega)); exact rfl; infer_instance; clear hp; (try clear w1); intro w1 hp)
          | ((with_reducible apply si_strip); exact rfl)
          | ((with_reducible apply si_unwanted); exact rfl; simp only [zp, zq, z0, z1]))
    obtain ⟨g1, rfl⟩ : ∃ z : Nat, z = g := ⟨_, rfl⟩
    have hn := hp.nd
    try dsimp only [List.map_cons, List.map_nil] at hn
    have hn5 : g1 ∉ [gA, gB, gs, gk, gp, gn] := (List.nodup_cons.1 hn).1
    exact hK _ _ (hp.others hc) ⟨hp.blk.trans (hI.blk).symm, hp.blk.trans (hI.blk).symm⟩ ⟨s, hs, hs0, ha, (hI.within' hp hI.selfSizes).sub ((List.Sublist.refl _).cons _)⟩
      ⟨g1, _, _, _, _, _, _, _, _, _, _, _, _, _, _, _, _, _, _, _, _, _, _, _, _, _, _, _, _, _, _, _, _, _, _, _, _, _, _, _, _, _, _, hn, Nat.le_trans hI.keep.size (hp.newX hn5), hp.blk, rfl⟩
  case body =>
    clear hK
    rintro l pre i a' Wr - - ⟨s, hs, hs0, ha, hI⟩ ⟨g5, u0, u6, u7, u8, u9, u10, u11, u12, u13, u14, u15, u16, u17, u18, u19, u20, u21, u22, u23, u24, u25, u26, u27, u28, u29, u30, u31, u32, u33, u34, u35, u36, u37, u38, u39, u40, u41, u42, u43, u44, u45, u46, hn, h5, hb5, rfl⟩ -
    have hall : ∀ b ∈ ([⟨g5, 25, [.int .u64 (lb (nth x y z i) 0), .int .u64 (lb (nth x y z i) 1), .int .u64 (lb (nth x y z i) 2), .int .u64 (lb (nth x y z i) 3), .int .u64 (lb (nth x y z i) 4), .int .u64 (lb (nth x y z i) 5), .int .u64 (lb (nth x y z i) 6), .int .u64 (lb (nth x y z i) 7)]⟩, ⟨gA, 27, Sl x y z⟩, ⟨gB, 27, Sl x y z⟩, ⟨gs, 25, [.int .u64 (lb (s) 0), .int .u64 (lb (s) 1), .int .u64 (lb (s) 2), .int .u64 (lb (s) 3), .int .u64 (lb (s) 4), .int .u64 (lb (s) 5), .int .u64 (lb (s) 6), .int .u64 (lb (s) 7)]⟩, ⟨gk, 4, [.bool false]⟩, ⟨gp, 27, [.int .u64 0, .int .u64 0, .int .u64 0, .int .u64 0, .int .u64 0, .int .u64 0, .int .u64 0, .int .u64 0, .int .u64 0, .int .u64 0, .int .u64 0, .int .u64 0, .int .u64 0, .int .u64 0, .int .u64 0, .int .u64 0, .int .u64 0, .int .u64 0, .int .u64 0, .int .u64 0, .int .u64 0, .int .u64 0, .int .u64 0, .int .u64 0]⟩, ⟨gn, 27, Sl x y z⟩] : List Bk), Wr.heap[b.g]? = some (.cells b.cs.toArray b.t (0, 0)) := by
      intro b hb
      rcases List.mem_cons.1 hb with rfl | hb
      · exact hb5
      · exact (hI.own b hb).2
    have hc := Hp.hereCells hall
    have hp := Hp.here hall hn
    try dsimp only [List.map_cons, List.map_nil] at hp
    try dsimp only [List.map_cons, List.map_nil] at hc
    have hv := nth_fit hx hy hz0 i
    have HSG := Lib.hid (sign_any _ hv)
    have hX : ∀ e ∈ [g5, gA, gB, gs, gk, gp, gn], w.heap.size ≤ e := by
      intro e he
      rcases List.mem_cons.1 he with rfl | he
      · exact h5
      · exact hI.selfSizes e he
    have hst : gacc (nth x y z) (pre ++ [i]) = gstep (nth x y z) (some s) i := by rw [gacc_snoc, ha]
    by_cases hneg : nth x y z i < 0
    · have hsg : sgn (nth x y z i) = -1 := if_pos hneg
      rw [hsg] at HSG
      have haz : az (nth x y z i) = -nth x y z i := if_pos hneg
      have hng := neg_any (nth x y z i) hv
      by_cases hf : Fit (-nth x y z i)
      · rw [decide_eq_true hf, show fz (-nth x y z i) = -nth x y z i from if_pos hf] at hng
        have HNG := Lib.hid hng
        have HCM := Lib.hid (common_any s (-nth x y z i) hs hf hs0 (by omega))
        have hcf := cg_fit hs hf hs0 (by omega)
        clear hng
        gi_wp2_with (first
          | ((with_reducible apply si_box hp); exact za rfl; exact rfl; clear hp; (try clear w1); intro g w1 hp; simp only [zp, zq, z0, z1])
          | ((with_reducible apply si_alloc hp); infer_instance; exact rfl; clear hp; (try clear w1); intro g w1 hp; simp only [zp, zq, z0, z1])
          | ((with_reducible apply si_load_agg hp); exact zt rfl; infer_instance; infer_instance; (first | exact zl rfl | exact LB_le (by omega)); (first | (with_reducible exact LB_set (by omega)) | (simp only [n0, Nat.reduceAdd, n1, n2, n3, n4, n5, n6, n7, n8, n9]; try rfl)); simp only [zp, zq, z0, z1])
          | ((with_reducible apply si_store hp); exact zt rfl; (first | exact za rfl | exact zb rfl); exact rfl; (first | exact AggTy.size | exact OneTy.size); exact rfl; infer_instance; (first | (with_reducible exact LB_set (by omega)) | (simp only [n0, Nat.reduceAdd, n1, n2, n3, n4, n5, n6, n7, n8, n9]; try rfl)); (first | exact zl rfl | exact LB_le (by omega)); exact rfl; infer_instance; clear hp; (try clear w1); intro w1 hp)
          | ((with_reducible apply si_strip); exact rfl)
          | ((with_reducible apply si_unwanted); exact rfl; simp only [zp, zq, z0, z1])
          | ((with_reducible refine si_call hp (HSG.out _) ?_); clear hp; (try clear w1); intro w1 hp)
          | ((with_reducible refine si_call hp (HNG.out _) ?_); clear hp; (try clear w1); intro w1 hp)
          | ((with_reducible refine si_call hp (HCM.out _) ?_); clear hp; (try clear w1); intro w1 hp))
        exact ⟨hp.others hc, ⟨hp.blk.trans (hI.blk).symm, hp.blk.trans (hI.blk).symm⟩, cg s (-nth x y z i), hcf, cg_nonneg _ _, by rw [hst]; simp only [gstep, Option.bind_some, haz, hf, if_true], (hI.within' hp hX).sub (by repeat (first | with_reducible exact List.nil_sublist _ | with_reducible exact List.Sublist.refl _ | with_reducible apply List.Sublist.cons_cons | with_reducible apply List.Sublist.cons))⟩
      · rw [decide_eq_false hf, show fz (-nth x y z i) = 0 from if_neg hf] at hng
        have HNG := Lib.hid hng
        clear hng
        gi_wp2_with (first
          | ((with_reducible apply si_box hp); exact za rfl; exact rfl; clear hp; (try clear w1); intro g w1 hp; simp only [zp, zq, z0, z1])
          | ((with_reducible apply si_alloc hp); infer_instance; exact rfl; clear hp; (try clear w1); intro g w1 hp; simp only [zp, zq, z0, z1])
          | ((with_reducible apply si_load_agg hp); exact zt rfl; infer_instance; infer_instance; (first | exact zl rfl | exact LB_le (by omega)); (first | (with_reducible exact LB_set (by omega)) | (simp only [n0, Nat.reduceAdd, n1, n2, n3, n4, n5, n6, n7, n8, n9]; try rfl)); simp only [zp, zq, z0, z1])
          | ((with_reducible apply si_store hp); exact zt rfl; (first | exact za rfl | exact zb rfl); exact rfl; (first | exact AggTy.size | exact OneTy.size); exact rfl; infer_instance; (first | (with_reducible exact LB_set (by omega)) | (simp only [n0, Nat.reduceAdd, n1, n2, n3, n4, n5, n6, n7, n8, n9]; try rfl)); (first | exact zl rfl | exact LB_le (by omega)); exact rfl; infer_instance; clear hp; (try clear w1); intro w1 hp)
          | ((with_reducible apply si_strip); exact rfl)
          | ((with_reducible apply si_unwanted); exact rfl; simp only [zp, zq, z0, z1])
          | ((with_reducible refine si_call hp (HSG.out _) ?_); clear hp; (try clear w1); intro w1 hp)
          | ((with_reducible refine si_call hp (HNG.out _) ?_); clear hp; (try clear w1); intro w1 hp))
        exact ⟨hp.others hc, rfl, by rw [hst]; simp only [gstep, Option.bind_some, haz, hf, if_false], _, (hI.within' hp hX).sub (by repeat (first | with_reducible exact List.nil_sublist _ | with_reducible exact List.Sublist.refl _ | with_reducible apply List.Sublist.cons_cons | with_reducible apply List.Sublist.cons))⟩
    · have hsg : ¬ sgn (nth x y z i) < 0 := by
        unfold sgn
        rw [if_neg hneg]
        split <;> omega
      have haz : az (nth x y z i) = nth x y z i := if_neg hneg
      have HCM := Lib.hid (common_any s (nth x y z i) hs hv hs0 (by omega))
      have hcf := cg_fit hs hv hs0 (by omega)
      gi_wp2_with (first
          | ((with_reducible apply si_box hp); exact za rfl; exact rfl; clear hp; (try clear w1); intro g w1 hp; simp only [zp, zq, z0, z1])
          | ((with_reducible apply si_alloc hp); infer_instance; exact rfl; clear hp; (try clear w1); intro g w1 hp; simp only [zp, zq, z0, z1])
          | ((with_reducible apply si_load_agg hp); exact zt rfl; infer_instance; infer_instance; (first | exact zl rfl | exact LB_le (by omega)); (first | (with_reducible exact LB_set (by omega)) | (simp only [n0, Nat.reduceAdd, n1, n2, n3, n4, n5, n6, n7, n8, n9]; try rfl)); simp only [zp, zq, z0, z1])
          | ((with_reducible apply si_store hp); exact zt rfl; (first | exact za rfl | exact zb rfl); exact rfl; (first | exact AggTy.size | exact OneTy.size); exact rfl; infer_instance; (first | (with_reducible exact LB_set (by omega)) | (simp only [n0, Nat.reduceAdd, n1, n2, n3, n4, n5, n6, n7, n8, n9]; try rfl)); (first | exact zl rfl | exact LB_le (by omega)); exact rfl; infer_instance; clear hp; (try clear w1); intro w1 hp)
          | ((with_reducible apply si_strip); exact rfl)
          | ((with_reducible apply si_unwanted); exact rfl; simp only [zp, zq, z0, z1])
          | ((with_reducible refine si_call hp (HSG.out _) ?_); clear hp; (try clear w1); intro w1 hp)
          | ((with_reducible refine si_call hp (HCM.out _) ?_); clear hp; (try clear w1); intro w1 hp))
      exact ⟨hp.others hc, ⟨hp.blk.trans (hI.blk).symm, hp.blk.trans (hI.blk).symm⟩, cg s (nth x y z i), hcf, cg_nonneg _ _, by rw [hst]; simp only [gstep, Option.bind_some, haz, hv, if_true], (hI.within' hp hX).sub (by repeat (first | with_reducible exact List.nil_sublist _ | with_reducible exact List.Sublist.refl _ | with_reducible apply List.Sublist.cons_cons | with_reducible apply List.Sublist.cons))⟩
  case done =>
    rintro D xs Wr hD rfl ⟨s, hs, hs0, ha, hI⟩ hdef
    have hp := hI.self
    try dsimp only [List.map_cons, List.map_nil] at hp
    have hz := eqb_fit hs fit_zero
    rw [eqb_zero] at hz
    by_cases h0 : s = 0
    · rw [decide_eq_true h0] at hz
      have H0 := Lib.hid h0
      clear h0
      go_wp2_with (first
          | ((with_reducible apply sx_box hp); exact za rfl; exact rfl; clear hp; (try clear w1); intro g w1 hp; simp only [zp, zq, z0, z1])
          | ((with_reducible apply sx_alloc hp); infer_instance; exact rfl; clear hp; (try clear w1); intro g w1 hp; simp only [zp, zq, z0, z1])
          | ((with_reducible apply sx_load_agg hp); exact zt rfl; infer_instance; infer_instance; (first | exact zl rfl | exact LB_le (by omega)); (first | (with_reducible exact LB_set (by omega)) | (simp only [n0, Nat.reduceAdd, n1, n2, n3, n4, n5, n6, n7, n8, n9]; try rfl)); simp only [zp, zq, z0, z1])
          | ((with_reducible apply sx_store hp); exact zt rfl; (first | exact za rfl | exact zb rfl); exact rfl; (first | exact AggTy.size | exact OneTy.size); exact rfl; infer_instance; (first | (with_reducible exact LB_set (by omega)) | (simp only [n0, Nat.reduceAdd, n1, n2, n3, n4, n5, n6, n7, n8, n9]; try rfl)); (first | exact zl rfl | exact LB_le (by omega)); exact rfl; infer_instance; clear hp; (try clear w1); intro w1 hp))
      obtain ⟨hd1, hp1⟩ := Hp.shut hwl hD hI rfl hp hdef
      refine ⟨by simp, .inl ⟨_, _, rfl, run_takeDeferred hd1, ?_⟩⟩
      have e : prv x y z = .tuple #[.agg #[.int .u64 0, .int .u64 0, .int .u64 0, .int .u64 0, .int .u64 0, .int .u64 0, .int .u64 0, .int .u64 0, .int .u64 0, .int .u64 0, .int .u64 0, .int .u64 0, .int .u64 0, .int .u64 0, .int .u64 0, .int .u64 0, .int .u64 0, .int .u64 0, .int .u64 0, .int .u64 0, .int .u64 0, .int .u64 0, .int .u64 0, .int .u64 0], .bool false] := by
        unfold prv
        rw [ha]
        dsimp only
        rw [if_pos H0.out, Sv_zero]
      rw [e]
      exact ⟨_, results_two rfl ⟨_, rfl, run_load_agg hp1 (Nat.le_of_ble_eq_true rfl)⟩ ⟨_, rfl, run_load_one hp1 rfl⟩, rfl, hp1.keep⟩
    · rw [decide_eq_false h0] at hz
      go_wp2_with (first
          | ((with_reducible apply sx_box hp); exact za rfl; exact rfl; clear hp; (try clear w1); intro g w1 hp; simp only [zp, zq, z0, z1])
          | ((with_reducible apply sx_alloc hp); infer_instance; exact rfl; clear hp; (try clear w1); intro g w1 hp; simp only [zp, zq, z0, z1])
          | ((with_reducible apply sx_load_agg hp); exact zt rfl; infer_instance; infer_instance; (first | exact zl rfl | exact LB_le (by omega)); (first | (with_reducible exact LB_set (by omega)) | (simp only [n0, Nat.reduceAdd, n1, n2, n3, n4, n5, n6, n7, n8, n9]; try rfl)); simp only [zp, zq, z0, z1])
          | ((with_reducible apply sx_store hp); exact zt rfl; (first | exact za rfl | exact zb rfl); exact rfl; (first | exact AggTy.size | exact OneTy.size); exact rfl; infer_instance; (first | (with_reducible exact LB_set (by omega)) | (simp only [n0, Nat.reduceAdd, n1, n2, n3, n4, n5, n6, n7, n8, n9]; try rfl)); (first | exact zl rfl | exact LB_le (by omega)); exact rfl; infer_instance; clear hp; (try clear w1); intro w1 hp))
      have hq := hp
      clear hp
      have hp := hq.sub (.cons_cons _ (.cons_cons _ (.cons_cons _ (.cons_cons _ (.cons _ (List.Sublist.refl _))))))
      refine wp_drawn_hp hp hq [13, 14] (.q 0 (.q 1 (.q 2 (.q 4 (.q 5 (.q 6 (.q 8 (.q 9 (.q 10 (.l 3 (.l 7 (.l 11 (.q 12 (.l 13 (.l 14 .nil))))))))))))))) (by kernel_rfl) (by kernel_rfl) ?_
      clear hp hq; (try clear w1); intro w1 hp hq
      ((with_reducible apply sd_q); exact zo rfl)
      ((with_reducible apply sd_move hp); (first | exact zf rfl | exact zn rfl); simp only [zp, zq, z0, z1])
      ((with_reducible apply sd_q); exact zo rfl)
      ((with_reducible apply sd_pure hp); exact rfl; (focus (intro _; go_simp; (try go_ints); try with_reducible rfl)); simp only [zp, zq, z0, z1])
      ((with_reducible apply sd_q); exact zo rfl)
      ((with_reducible apply sd_load_agg hp); exact rfl; exact zt rfl; infer_instance; infer_instance; (first | exact zl rfl | exact LB_le (by omega)); (first | (with_reducible exact LB_set (by omega)) | (simp only [n0, Nat.reduceAdd, n1, n2, n3, n4, n5, n6, n7, n8, n9]; try rfl)); simp only [zp, zq, z0, z1])
      ((with_reducible apply sd_q); exact zo rfl)
      ((with_reducible apply sd_move hp); (first | exact zf rfl | exact zn rfl); simp only [zp, zq, z0, z1])
      ((with_reducible apply sd_q); exact zo rfl)
      ((with_reducible apply sd_pure hp); exact rfl; (focus (intro _; go_simp; (try go_ints); try with_reducible rfl)); simp only [zp, zq, z0, z1])
      ((with_reducible apply sd_q); exact zo rfl)
      ((with_reducible apply sd_load_agg hp); exact rfl; exact zt rfl; infer_instance; infer_instance; (first | exact zl rfl | exact LB_le (by omega)); (first | (with_reducible exact LB_set (by omega)) | (simp only [n0, Nat.reduceAdd, n1, n2, n3, n4, n5, n6, n7, n8, n9]; try rfl)); simp only [zp, zq, z0, z1])
      ((with_reducible apply sd_q); exact zo rfl)
      ((with_reducible apply sd_move hp); (first | exact zf rfl | exact zn rfl); simp only [zp, zq, z0, z1])
      ((with_reducible apply sd_q); exact zo rfl)
      ((with_reducible apply sd_pure hp); exact rfl; (focus (intro _; go_simp; (try go_ints); try with_reducible rfl)); simp only [zp, zq, z0, z1])
      ((with_reducible apply sd_q); exact zo rfl)
      ((with_reducible apply sd_load_agg hp); exact rfl; exact zt rfl; infer_instance; infer_instance; (first | exact zl rfl | exact LB_le (by omega)); (first | (with_reducible exact LB_set (by omega)) | (simp only [n0, Nat.reduceAdd, n1, n2, n3, n4, n5, n6, n7, n8, n9]; try rfl)); simp only [zp, zq, z0, z1])
      ((with_reducible apply sd_l); exact zo rfl)
      (first
      | ((with_reducible apply sd_callQ hp); exact rfl; (focus (intro _; go_simp; try first | with_reducible rfl | exact ⟨rfl, rfl⟩)); (with_reducible exact prime1_any x s hx hs gs _ hq.blk); exact hq; clear hp hq; (try clear w1); intro w1 hp hq; simp only [zp, zq, z0, z1])
      | ((with_reducible apply sd_callQ hp); exact rfl; (focus (intro _; go_simp; try first | with_reducible rfl | exact ⟨rfl, rfl⟩)); (with_reducible exact prime1_any y s hy hs gs _ hq.blk); exact hq; clear hp hq; (try clear w1); intro w1 hp hq; simp only [zp, zq, z0, z1])
      | ((with_reducible apply sd_callQ hp); exact rfl; (focus (intro _; go_simp; try first | with_reducible rfl | exact ⟨rfl, rfl⟩)); (with_reducible exact prime1_any z s hz0 hs gs _ hq.blk); exact hq; clear hp hq; (try clear w1); intro w1 hp hq; simp only [zp, zq, z0, z1]))
      ((with_reducible apply sd_l); exact zo rfl)
      (first
      | ((with_reducible apply sd_callQ hp); exact rfl; (focus (intro _; go_simp; try first | with_reducible rfl | exact ⟨rfl, rfl⟩)); (with_reducible exact prime1_any x s hx hs gs _ hq.blk); exact hq; clear hp hq; (try clear w1); intro w1 hp hq; simp only [zp, zq, z0, z1])
      | ((with_reducible apply sd_callQ hp); exact rfl; (focus (intro _; go_simp; try first | with_reducible rfl | exact ⟨rfl, rfl⟩)); (with_reducible exact prime1_any y s hy hs gs _ hq.blk); exact hq; clear hp hq; (try clear w1); intro w1 hp hq; simp only [zp, zq, z0, z1])
      | ((with_reducible apply sd_callQ hp); exact rfl; (focus (intro _; go_simp; try first | with_reducible rfl | exact ⟨rfl, rfl⟩)); (with_reducible exact prime1_any z s hz0 hs gs _ hq.blk); exact hq; clear hp hq; (try clear w1); intro w1 hp hq; simp only [zp, zq, z0, z1]))
      ((with_reducible apply sd_l); exact zo rfl)
      (first
      | ((with_reducible apply sd_callQ hp); exact rfl; (focus (intro _; go_simp; try first | with_reducible rfl | exact ⟨rfl, rfl⟩)); (with_reducible exact prime1_any x s hx hs gs _ hq.blk); exact hq; clear hp hq; (try clear w1); intro w1 hp hq; simp only [zp, zq, z0, z1])
      | ((with_reducible apply sd_callQ hp); exact rfl; (focus (intro _; go_simp; try first | with_reducible rfl | exact ⟨rfl, rfl⟩)); (with_reducible exact prime1_any y s hy hs gs _ hq.blk); exact hq; clear hp hq; (try clear w1); intro w1 hp hq; simp only [zp, zq, z0, z1])
      | ((with_reducible apply sd_callQ hp); exact rfl; (focus (intro _; go_simp; try first | with_reducible rfl | exact ⟨rfl, rfl⟩)); (with_reducible exact prime1_any z s hz0 hs gs _ hq.blk); exact hq; clear hp hq; (try clear w1); intro w1 hp hq; simp only [zp, zq, z0, z1]))
      ((with_reducible apply sd_q); exact zo rfl)
      ((with_reducible apply sd_pure hp); exact rfl; (focus (intro _; go_simp; (try go_ints); try with_reducible rfl)); simp only [zp, zq, z0, z1])
      ((with_reducible apply sd_l); exact zo rfl)
      (first
      | ((with_reducible apply sd_store_far hq); exact rfl; exact zt rfl; exact za rfl; exact rfl; (first | exact AggTy.size | exact OneTy.size); exact rfl; infer_instance; (first | (with_reducible exact LB_set (by omega)) | (simp only [n0, Nat.reduceAdd, n1, n2, n3, n4, n5, n6, n7, n8, n9]; try rfl)); (first | exact zl rfl | exact LB_le (by omega)); exact rfl; infer_instance; (repeat (first | exact List.Sublist.refl _ | apply List.Sublist.cons_cons | apply List.Sublist.cons)); clear hp hq; (try clear w1); intro w1 hp hq)
      | ((with_reducible apply sd_store hq); exact rfl; exact zt rfl; exact za rfl; exact rfl; (first | exact AggTy.size | exact OneTy.size); exact rfl; infer_instance; (first | (with_reducible exact LB_set (by omega)) | (simp only [n0, Nat.reduceAdd, n1, n2, n3, n4, n5, n6, n7, n8, n9]; try rfl)); (first | exact zl rfl | exact LB_le (by omega)); exact rfl; infer_instance; exact rfl; clear hp hq; (try clear w1); intro w1 hq; have hp := True.intro))
      ((with_reducible apply sd_l); exact zo rfl)
      (first
      | ((with_reducible apply sd_store_far hq); exact rfl; exact zt rfl; exact zb rfl; exact rfl; (first | exact AggTy.size | exact OneTy.size); exact rfl; infer_instance; (first | (with_reducible exact LB_set (by omega)) | (simp only [n0, Nat.reduceAdd, n1, n2, n3, n4, n5, n6, n7, n8, n9]; try rfl)); (first | exact zl rfl | exact LB_le (by omega)); exact rfl; infer_instance; (repeat (first | exact List.Sublist.refl _ | apply List.Sublist.cons_cons | apply List.Sublist.cons)); clear hp hq; (try clear w1); intro w1 hp hq)
      | ((with_reducible apply sd_store hq); exact rfl; exact zt rfl; exact zb rfl; exact rfl; (first | exact AggTy.size | exact OneTy.size); exact rfl; infer_instance; (first | (with_reducible exact LB_set (by omega)) | (simp only [n0, Nat.reduceAdd, n1, n2, n3, n4, n5, n6, n7, n8, n9]; try rfl)); (first | exact zl rfl | exact LB_le (by omega)); exact rfl; infer_instance; exact rfl; clear hp hq; (try clear w1); intro w1 hq; have hp := True.intro))
      (with_reducible apply sd_nil)
      clear hp; have hp := hq; clear hq
      go_wp2
      obtain ⟨hd1, hp1⟩ := Hp.shut hwl hD hI rfl hp hdef
      refine ⟨by simp, .inl ⟨_, _, rfl, run_takeDeferred hd1, ?_⟩⟩
      have e : prv x y z = .tuple #[Sv (dvq x s) (dvq y s) (dvq z s), .bool true] := by
        unfold prv
        rw [ha]
        dsimp only
        rw [if_neg h0]
      rw [e]
      exact ⟨_, results_two rfl ⟨_, rfl, run_load_agg hp1 (Nat.le_of_ble_eq_true rfl)⟩ ⟨_, rfl, run_load_one hp1 rfl⟩, rfl, hp1.keep⟩
  case stop =>
    rintro D c pre Wr hD hw ⟨rfl, ha, s, hI⟩ hdef
    refine wpIn_wide.2 ?_
    have hp := hI.self
    try dsimp only [List.map_cons, List.map_nil] at hp
    go_wp2_with (first
          | ((with_reducible apply sx_box hp); exact za rfl; exact rfl; clear hp; (try clear w1); intro g w1 hp; simp only [zp, zq, z0, z1])
          | ((with_reducible apply sx_alloc hp); infer_instance; exact rfl; clear hp; (try clear w1); intro g w1 hp; simp only [zp, zq, z0, z1])
          | ((with_reducible apply sx_load_agg hp); exact zt rfl; infer_instance; infer_instance; (first | exact zl rfl | exact LB_le (by omega)); (first | (with_reducible exact LB_set (by omega)) | (simp only [n0, Nat.reduceAdd, n1, n2, n3, n4, n5, n6, n7, n8, n9]; try rfl)); simp only [zp, zq, z0, z1])
          | ((with_reducible apply sx_store hp); exact zt rfl; (first | exact za rfl | exact zb rfl); exact rfl; (first | exact AggTy.size | exact OneTy.size); exact rfl; infer_instance; (first | (with_reducible exact LB_set (by omega)) | (simp only [n0, Nat.reduceAdd, n1, n2, n3, n4, n5, n6, n7, n8, n9]; try rfl)); (first | exact zl rfl | exact LB_le (by omega)); exact rfl; infer_instance; clear hp; (try clear w1); intro w1 hp))
    obtain ⟨hd1, hp1⟩ := Hp.shut hwl hD hI rfl hp hdef
    refine ⟨by simp, .inl ⟨_, _, rfl, run_takeDeferred hd1, ?_⟩⟩
    have e : prv x y z = .tuple #[.agg #[.int .u64 0, .int .u64 0, .int .u64 0, .int .u64 0, .int .u64 0, .int .u64 0, .int .u64 0, .int .u64 0, .int .u64 0, .int .u64 0, .int .u64 0, .int .u64 0, .int .u64 0, .int .u64 0, .int .u64 0, .int .u64 0, .int .u64 0, .int .u64 0, .int .u64 0, .int .u64 0, .int .u64 0, .int .u64 0, .int .u64 0, .int .u64 0], .bool false] := by
      unfold prv
      rw [gacc_none hw ha]
      dsimp only
      rw [Sv_zero]
    rw [e]
    exact ⟨_, results_two rfl ⟨_, rfl, run_load_agg hp1 (Nat.le_of_ble_eq_true rfl)⟩ ⟨_, rfl, run_load_one hp1 rfl⟩, rfl, hp1.keep⟩
end Go.Proofs.Ytbhlnbllkoomfaa
