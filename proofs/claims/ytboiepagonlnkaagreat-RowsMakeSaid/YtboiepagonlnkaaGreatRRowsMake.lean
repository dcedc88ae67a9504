/-
  Rows.RowsMakeSaid: any row is made whole as the document says, or refused.
  The arguments of a law: what is made of 64-bit integers alone: what is Inert, a Row.
  Package rows: Make (contract).
  ninepinref22.Make (contract); RowsMake.
-/
import Derived.Test.YtboiepagonlnkaaGreatLo
import Derived.Test.YtboiepagonlnkaaGreatRows
import Derived.Test.YtboiepagonlnkaaGreatLc
import Derived.Test.YtboiepagonlnkaaGreatYd
import Derived.Deep.Strs
import Derived.Test.YtboiepagonlnkaaGreatYe
import Derived.Test.YtboiepagonlnkaaGreatEr
import Derived.Test.YtboiepagonlnkaaGreatYi
import Derived.Test.YtboiepagonlnkaaGreatYj
set_option linter.unusedVariables false
set_option maxRecDepth 100000
namespace Go.Proofs.YtboiepagonlnkaaGreat
open Go Go.ChangeShapes Go.WideShapes Go.ChangeAt Go.RowKit Go.Joins

section
variable {H : Type} (enc : TypeId × Value → H) (W : World) (base : Nat) (spare : Nat → Bool) (held : Bool)
/-- All cells of a type are 64-bit integers. -/
def Flat (t : TypeId) : Prop := ∀ fuel (cs : List Value) x, DataW.trod enc Tryz.prog W base spare held fuel t cs = some x → ∀ j, j < Tryz.prog.cellsOf t → ∃ n : Int, cs[j]? = some (.int .i64 n) ∧ I64 n
theorem flat_int {t : TypeId} (ht : Tryz.prog.underlying t = some (.int .i64)) (hc : Tryz.prog.cellsOf t = 1) : Flat enc W base spare held t := by
  intro fuel cs x h j hj
  obtain ⟨n, rfl, _, hw⟩ := DataW.trod_int ht h
  have e : j = 0 := by omega
  subst e
  exact ⟨n, rfl, i64_wf hw⟩
theorem flat_array {t e : TypeId} {n : Nat} (ht : Tryz.prog.underlying t = some (.array n e)) (c : Nat) (hc : Tryz.prog.cellsOf e = c) (h0 : 0 < c) (hn : Tryz.prog.cellsOf t = n * c) (he : Flat enc W base spare held e) : Flat enc W base spare held t := by
  intro fuel cs x h j hj
  obtain ⟨xs, m, _, _, hl, hxl, hf⟩ := DataW.trod_array ht h
  rw [hn] at hj
  have hi : j / c < n := Nat.div_lt_of_lt_mul (by rw [Nat.mul_comm]; exact hj)
  have hg := hf (j / c) hi
  obtain ⟨z, hz⟩ : ∃ z, xs[j / c]? = some z := ⟨xs[j / c]'(by omega), List.getElem?_eq_getElem _⟩
  rw [hz] at hg
  obtain ⟨k, hk, hw⟩ := he _ _ _ hg (j % c) (by rw [hc]; exact Nat.mod_lt _ h0)
  refine ⟨k, ?_, hw⟩
  rw [List.getElem?_take, hc, if_pos (Nat.mod_lt _ h0), List.getElem?_drop] at hk
  rw [show j = j / c * c + j % c from by rw [Nat.mul_comm]; exact (Nat.div_add_mod j c).symm]
  exact hk
theorem flat_struct {t : TypeId} {fs : Array Field} (ht : Tryz.prog.underlying t = some (.struct fs))
    (hc : ∀ j, j < Tryz.prog.cellsOf t → ∃ (i : Nat) (f : Field), fs[i]? = some f ∧ f.offset ≤ j ∧ j < f.offset + Tryz.prog.cellsOf f.type)
    (he : ∀ f ∈ fs, Flat enc W base spare held f.type) : Flat enc W base spare held t := by
  intro fuel cs x h j hj
  obtain ⟨xs, m, _, _, hl, hxl, hf⟩ := DataW.trod_struct ht h
  obtain ⟨i, f, hi, h1, h2⟩ := hc j hj
  have hg := hf i f hi
  have hlt : i < fs.size := by
    by_cases hs : i < fs.size
    · exact hs
    · rw [Array.getElem?_eq_none (by omega)] at hi; cases hi
  obtain ⟨z, hz⟩ : ∃ z, xs[i]? = some z := ⟨xs[i]'(by omega), List.getElem?_eq_getElem _⟩
  rw [hz] at hg
  obtain ⟨k, hk, hw⟩ := he f (Array.mem_of_getElem? hi) _ _ _ hg (j - f.offset) (by omega)
  refine ⟨k, ?_, hw⟩
  rw [List.getElem?_take, if_pos (by omega), List.getElem?_drop] at hk
  rw [show j = f.offset + (j - f.offset) from by omega]
  exact hk
/-- The cover of a struct's cells by its fields, by reckoning. -/
theorem cover {t : TypeId} {fs : Array Field} (h : ((List.range (Tryz.prog.cellsOf t)).all fun j => (List.range fs.size).any fun i => match fs[i]? with | some f => decide (f.offset ≤ j) && decide (j < f.offset + Tryz.prog.cellsOf f.type) | none => false) = true) :
    ∀ j, j < Tryz.prog.cellsOf t → ∃ (i : Nat) (f : Field), fs[i]? = some f ∧ f.offset ≤ j ∧ j < f.offset + Tryz.prog.cellsOf f.type := by
  intro j hj
  rw [List.all_eq_true] at h
  have := h j (List.mem_range.2 hj)
  rw [List.any_eq_true] at this
  obtain ⟨i, _, hi⟩ := this
  split at hi
  · rename_i f hf
    rw [Bool.and_eq_true, decide_eq_true_eq, decide_eq_true_eq] at hi
    exact ⟨i, f, hf, hi.1, hi.2⟩
  · cases hi
end
section
variable {H : Type} {enc : TypeId × Value → H} {W : World} {base : Nat} {spare : Nat → Bool} {held : Bool}
theorem flat_fix : Flat enc W base spare held 22 := flat_int enc W base spare held Tryz.underlying22 (by kernel_rfl)
theorem flat_idx : Flat enc W base spare held 3 := flat_int enc W base spare held Tryz.underlying3 (by kernel_rfl)
theorem flat_vec : Flat enc W base spare held 24 := by
  refine flat_struct enc W base spare held Tryz.underlying24 (cover (by kernel_rfl)) fun f hf => ?_
  simp only [List.mem_toArray, List.mem_cons, List.not_mem_nil, or_false] at hf
  rcases hf with rfl | rfl | rfl <;> exact flat_fix
theorem flat_vec3 : Flat enc W base spare held 32 := flat_array enc W base spare held Tryz.underlying32 3 (by kernel_rfl) (by omega) (by kernel_rfl) flat_vec
theorem flat_mat : Flat enc W base spare held 34 := by
  refine flat_struct enc W base spare held Tryz.underlying34 (cover (by kernel_rfl)) fun f hf => ?_
  simp only [List.mem_toArray, List.mem_cons, List.not_mem_nil, or_false] at hf
  rcases hf with rfl
  exact flat_vec3
theorem flat_inert : Flat enc W base spare held 36 := by
  refine flat_struct enc W base spare held Tryz.underlying36 (cover (by kernel_rfl)) fun f hf => ?_
  simp only [List.mem_toArray, List.mem_cons, List.not_mem_nil, or_false] at hf
  rcases hf with rfl | rfl | rfl | rfl
  · exact flat_fix
  · exact flat_mat
  · exact flat_vec
  · exact flat_vec
end
/-- The cells of what came in, named. -/
theorem flat_open {H : Type} {enc : TypeId × Value → H} {W' : World} {base : Nat} {spare : Nat → Bool} {held : Bool} {t : TypeId} {k : Nat} {cs : Array Value} {d : DataW H} {p : List MemPlace}
    (hf : Flat enc W' base spare held t) (hk : Tryz.prog.cellsOf t = k) (hs : cs.size = Tryz.prog.cellsOf t) (h : DataW.Trod enc Tryz.prog W' base spare held t (.agg cs) d p) :
    ∃ f : Nat → Int, (∀ i, i < k → I64 (f i)) ∧ cs = ((List.range k).map fun i => Value.int .i64 (f i)).toArray := by
  obtain ⟨fuel, h⟩ := h
  have one : ∀ i, i < k → ∃ n : Int, cs.toList[i]? = some (.int .i64 n) ∧ I64 n := fun i hi => hf fuel cs.toList _ h i (by omega)
  obtain ⟨f, hf⟩ := Deep.choose_lt one
  refine ⟨f, fun i hi => (hf i hi).2, ?_⟩
  cases cs with
  | mk l =>
    congr 1
    apply List.ext_getElem?
    intro i
    by_cases hi : i < k
    · rw [(hf i hi).1, List.getElem?_map, List.getElem?_range hi]; rfl
    · have hs' : l.length = k := by simpa [hk] using hs
      rw [List.getElem?_eq_none (by omega), List.getElem?_eq_none (by simp; omega)]
/-- What is Inert, that came in. -/
theorem open_inert {H : Type} {enc : TypeId × Value → H} {W' : World} {r : Reach} {b0 base : Nat} {spare : Nat → Bool} {held : Bool} {v : Value} {d : DataW H} {p : List MemPlace}
    (hv : Value.okWide Tryz.prog W' r b0 36 v) (h : DataW.Trod enc Tryz.prog W' base spare held 36 v d p) : ∃ b : Inr, v = NV b ∧ b.i64 := by
  obtain ⟨cs, rfl, hsz⟩ := okWide_struct Tryz.underlying36 hv
  obtain ⟨f, hf, rfl⟩ := flat_open flat_inert (k := 16) (by kernel_rfl) hsz h
  exact ⟨⟨f 0, ⟨f 1, f 2, f 3⟩, ⟨f 4, f 5, f 6⟩, ⟨f 7, f 8, f 9⟩, ⟨f 10, f 11, f 12⟩, ⟨f 13, f 14, f 15⟩⟩, rfl, hf 0 (by omega), ⟨hf 1 (by omega), hf 2 (by omega), hf 3 (by omega)⟩, ⟨hf 4 (by omega), hf 5 (by omega), hf 6 (by omega)⟩, ⟨hf 7 (by omega), hf 8 (by omega), hf 9 (by omega)⟩, ⟨hf 10 (by omega), hf 11 (by omega), hf 12 (by omega)⟩, ⟨hf 13 (by omega), hf 14 (by omega), hf 15 (by omega)⟩⟩
end Go.Proofs.YtboiepagonlnkaaGreat
set_option linter.unusedSimpArgs false
set_option linter.unusedVariables false
set_option maxRecDepth 100000
namespace Go.Proofs.YtboiepagonlnkaaGreat
open Go Go.RowKit
attribute [local irreducible] wpList

/-- A row. -/
structure Rw where
  a : Int
  b : Int
  n : P3
  t : P3
  u : P3
  ra : P3
  rb : P3
  mn : Int
  mt : Int
  mu : Int
  aim : Int
  rub : Int
  pn : Int
  pt : Int
  pu : Int
abbrev RoV (r : Rw) : Value := .agg #[.int .i64 r.a, .int .i64 r.b, .int .i64 r.n.x, .int .i64 r.n.y, .int .i64 r.n.z, .int .i64 r.t.x, .int .i64 r.t.y, .int .i64 r.t.z, .int .i64 r.u.x, .int .i64 r.u.y, .int .i64 r.u.z, .int .i64 r.ra.x, .int .i64 r.ra.y, .int .i64 r.ra.z, .int .i64 r.rb.x, .int .i64 r.rb.y, .int .i64 r.rb.z, .int .i64 r.mn, .int .i64 r.mt, .int .i64 r.mu, .int .i64 r.aim, .int .i64 r.rub, .int .i64 r.pn, .int .i64 r.pt, .int .i64 r.pu]
def Rw.i64 (r : Rw) : Prop := r.n.i64 ∧ r.ra.i64 ∧ r.rb.i64
def P3.zero : P3 := ⟨0, 0, 0⟩
def Rw.zero : Rw := ⟨0, 0, .zero, .zero, .zero, .zero, .zero, 0, 0, 0, 0, 0, 0, 0, 0⟩
/-- A row, whole. -/
def rowM (a b : Inr) (r : Rw) (gap t : Int) : Rw := ⟨r.a, r.b, r.n, (frO r.n).1, (frO r.n).2.1, r.ra, r.rb, btw a b r.ra r.rb r.n, btw a b r.ra r.rb (frO r.n).1, btw a b r.ra r.rb (frO r.n).2.1, aimv gap t, r.rub, r.pn, r.pt, r.pu⟩
def makeO (a b : Inr) (r : Rw) (gap t : Int) : Rw × Int := if (frO r.n).2.2 = 0 then (if (aimO gap t).2 = 0 then (rowM a b r gap t, 0) else (.zero, (aimO gap t).2)) else (.zero, (frO r.n).2.2)
set_option maxHeartbeats 2000000 in
@[go_sem high] theorem eq_row (w : World) (d : Nat) (x0 x1 x2 x3 x4 x5 x6 x7 x8 x9 x10 x11 x12 x13 x14 x15 x16 x17 x18 x19 x20 x21 x22 x23 x24 : Int) : (Op.equalIn (d + 3) 41 (.agg #[.int .i64 x0, .int .i64 x1, .int .i64 x2, .int .i64 x3, .int .i64 x4, .int .i64 x5, .int .i64 x6, .int .i64 x7, .int .i64 x8, .int .i64 x9, .int .i64 x10, .int .i64 x11, .int .i64 x12, .int .i64 x13, .int .i64 x14, .int .i64 x15, .int .i64 x16, .int .i64 x17, .int .i64 x18, .int .i64 x19, .int .i64 x20, .int .i64 x21, .int .i64 x22, .int .i64 x23, .int .i64 x24]) (.agg #[.int .i64 x0, .int .i64 x1, .int .i64 x2, .int .i64 x3, .int .i64 x4, .int .i64 x5, .int .i64 x6, .int .i64 x7, .int .i64 x8, .int .i64 x9, .int .i64 x10, .int .i64 x11, .int .i64 x12, .int .i64 x13, .int .i64 x14, .int .i64 x15, .int .i64 x16, .int .i64 x17, .int .i64 x18, .int .i64 x19, .int .i64 x20, .int .i64 x21, .int .i64 x22, .int .i64 x23, .int .i64 x24])).run Tryz.prog w = .ok true w := by
  go_simp
  try simp
set_option maxHeartbeats 2000000 in
theorem mk1_core (a b : Inr) (ra rb d : P3) (f : Int) (B1 : Hid (∀ w, Calls Tryz.prog 13 #[NV a, NV b, PV ra, PV rb, PV d] w (Ret (.int .i64 f) w))) :
    ∀ (w : World) (ga gb gr : Nat) (t1 t2 t3 : TypeId) (y1 y2 y3 : Nat × Nat) (p0 p1 p2 p3 p4 p5 p6 p7 p8 p9 p10 p17 p18 p19 p20 p21 p22 p23 p24 : Value), w.heap[ga]? = some (.cells ([.int .i64 a.m, .int .i64 a.p.x, .int .i64 a.p.y, .int .i64 a.p.z, .int .i64 a.q.x, .int .i64 a.q.y, .int .i64 a.q.z, .int .i64 a.r.x, .int .i64 a.r.y, .int .i64 a.r.z, .int .i64 a.v.x, .int .i64 a.v.y, .int .i64 a.v.z, .int .i64 a.s.x, .int .i64 a.s.y, .int .i64 a.s.z] : List Value).toArray t1 y1) → w.heap[gb]? = some (.cells ([.int .i64 b.m, .int .i64 b.p.x, .int .i64 b.p.y, .int .i64 b.p.z, .int .i64 b.q.x, .int .i64 b.q.y, .int .i64 b.q.z, .int .i64 b.r.x, .int .i64 b.r.y, .int .i64 b.r.z, .int .i64 b.v.x, .int .i64 b.v.y, .int .i64 b.v.z, .int .i64 b.s.x, .int .i64 b.s.y, .int .i64 b.s.z] : List Value).toArray t2 y2) → w.heap[gr]? = some (.cells ([p0, p1, p2, p3, p4, p5, p6, p7, p8, p9, p10, .int .i64 ra.x, .int .i64 ra.y, .int .i64 ra.z, .int .i64 rb.x, .int .i64 rb.y, .int .i64 rb.z, p17, p18, p19, p20, p21, p22, p23, p24] : List Value).toArray t3 y3) → Calls Tryz.prog 37 #[PV d, .pointer (some ⟨ga, 0, none⟩), .pointer (some ⟨gb, 0, none⟩), .pointer (some ⟨gr, 0, none⟩)] w (Ret (.int .i64 f) w) := by
  intro w ga gb gr t1 t2 t3 y1 y2 y3 p0 p1 p2 p3 p4 p5 p6 p7 p8 p9 p10 p17 p18 p19 p20 p21 p22 p23 p24 h1 h2 h3
  go_enter Tryz.func37, Tryz.ntmps37
  have hp := Hp.start [] w
  go_wp2_with (first
          | ((with_reducible apply sx_box hp); exact za rfl; exact rfl; clear hp; (try clear w1); intro g w1 hp; simp only [zp, zq, z0, z1])
          | ((with_reducible apply sx_load_agg hp); exact zt rfl; infer_instance; infer_instance; (first | exact zl rfl | exact LB_le (by omega)); (first | (with_reducible exact LB_set (by omega)) | (simp only [n0, Nat.reduceAdd, n1, n2, n3, n4, n5, n6, n7, n8, n9]; try rfl)); simp only [zp, zq, z0, z1])
          | ((with_reducible refine sx_call hp (B1.out _) ?_); clear hp; (try clear w1); intro w1 hp)
          | ((with_reducible apply sx_load_far hp); exact zt rfl; assumption; infer_instance; exact rfl; exact zl rfl; simp only [zp, zq, z0, z1]))
  exact bodyPost_ret (results_one rfl rfl) rfl ⟨rfl, hp.keep⟩
set_option maxHeartbeats 4000000 in
theorem make_no (a b : Inr) (r : Rw) (gap t : Int) (x y : P3) (e : Int) (F1 : Hid (∀ w, Calls Tryz.prog 6 #[PV r.n] w (Ret (.tuple #[.agg #[.int .i64 x.x, .int .i64 x.y, .int .i64 x.z], .agg #[.int .i64 y.x, .int .i64 y.y, .int .i64 y.z], .int .i64 e]) w))) (he : (e == 0) = false) (w : World) : Calls Tryz.prog 15 #[NV a, NV b, RoV r, .int .i64 gap, .int .i64 t] w (Ret (.tuple #[.agg #[.int .i64 0, .int .i64 0, .int .i64 0, .int .i64 0, .int .i64 0, .int .i64 0, .int .i64 0, .int .i64 0, .int .i64 0, .int .i64 0, .int .i64 0, .int .i64 0, .int .i64 0, .int .i64 0, .int .i64 0, .int .i64 0, .int .i64 0, .int .i64 0, .int .i64 0, .int .i64 0, .int .i64 0, .int .i64 0, .int .i64 0, .int .i64 0, .int .i64 0], .int .i64 e]) w) := by
  go_enter Tryz.func15, Tryz.ntmps15
  have hp := Hp.start [] w
  go_wp2_with (first
          | ((with_reducible apply sx_box hp); exact za rfl; exact rfl; clear hp; (try clear w1); intro g w1 hp; simp only [zp, zq, z0, z1])
          | ((with_reducible apply sx_alloc hp); infer_instance; exact rfl; clear hp; (try clear w1); intro g w1 hp; simp only [zp, zq, z0, z1])
          | ((with_reducible apply sx_load_agg hp); exact zt rfl; infer_instance; infer_instance; (first | exact zl rfl | exact LB_le (by omega)); (first | (with_reducible exact LB_set (by omega)) | (simp only [n0, Nat.reduceAdd, n1, n2, n3, n4, n5, n6, n7, n8, n9]; try rfl)); simp only [zp, zq, z0, z1])
          | ((with_reducible apply sx_store hp); exact zt rfl; (first | exact za rfl | exact zi rfl); exact rfl; (first | exact AggTy.size | exact OneTy.size); exact rfl; infer_instance; (first | (with_reducible exact LB_set (by omega)) | (simp only [n0, Nat.reduceAdd, n1, n2, n3, n4, n5, n6, n7, n8, n9]; try rfl)); (first | exact zl rfl | exact LB_le (by omega)); exact rfl; infer_instance; clear hp; (try clear w1); intro w1 hp)
          | ((with_reducible refine sx_call hp (F1.out _) ?_); clear hp; (try clear w1); intro w1 hp))
  exact bodyPost_ret (results_two rfl ⟨_, rfl, run_load_agg hp (Nat.le_of_ble_eq_true rfl)⟩ rfl) rfl ⟨rfl, hp.keep⟩
set_option maxHeartbeats 4000000 in
theorem make_not (a b : Inr) (r : Rw) (gap t : Int) (x y : P3) (e : Int) (F1 : Hid (∀ w, Calls Tryz.prog 6 #[PV r.n] w (Ret (.tuple #[.agg #[.int .i64 x.x, .int .i64 x.y, .int .i64 x.z], .agg #[.int .i64 y.x, .int .i64 y.y, .int .i64 y.z], .int .i64 0]) w))) (q : Int) (A1 : Hid (∀ w, Calls Tryz.prog 8 #[.int .i64 gap, .int .i64 t] w (Ret (.tuple #[.int .i64 q, .int .i64 e]) w))) (he : (e == 0) = false) (w : World) : Calls Tryz.prog 15 #[NV a, NV b, RoV r, .int .i64 gap, .int .i64 t] w (Ret (.tuple #[.agg #[.int .i64 0, .int .i64 0, .int .i64 0, .int .i64 0, .int .i64 0, .int .i64 0, .int .i64 0, .int .i64 0, .int .i64 0, .int .i64 0, .int .i64 0, .int .i64 0, .int .i64 0, .int .i64 0, .int .i64 0, .int .i64 0, .int .i64 0, .int .i64 0, .int .i64 0, .int .i64 0, .int .i64 0, .int .i64 0, .int .i64 0, .int .i64 0, .int .i64 0], .int .i64 e]) w) := by
  go_enter Tryz.func15, Tryz.ntmps15
  have hp := Hp.start [] w
  go_wp2_with (first
          | ((with_reducible apply sx_box hp); exact za rfl; exact rfl; clear hp; (try clear w1); intro g w1 hp; simp only [zp, zq, z0, z1])
          | ((with_reducible apply sx_alloc hp); infer_instance; exact rfl; clear hp; (try clear w1); intro g w1 hp; simp only [zp, zq, z0, z1])
          | ((with_reducible apply sx_load_agg hp); exact zt rfl; infer_instance; infer_instance; (first | exact zl rfl | exact LB_le (by omega)); (first | (with_reducible exact LB_set (by omega)) | (simp only [n0, Nat.reduceAdd, n1, n2, n3, n4, n5, n6, n7, n8, n9]; try rfl)); simp only [zp, zq, z0, z1])
          | ((with_reducible apply sx_store hp); exact zt rfl; (first | exact za rfl | exact zi rfl); exact rfl; (first | exact AggTy.size | exact OneTy.size); exact rfl; infer_instance; (first | (with_reducible exact LB_set (by omega)) | (simp only [n0, Nat.reduceAdd, n1, n2, n3, n4, n5, n6, n7, n8, n9]; try rfl)); (first | exact zl rfl | exact LB_le (by omega)); exact rfl; infer_instance; clear hp; (try clear w1); intro w1 hp)
          | ((with_reducible first | refine sx_call hp (F1.out _) ?_ | refine sx_call hp (A1.out _) ?_); clear hp; (try clear w1); intro w1 hp))
  exact bodyPost_ret (results_two rfl ⟨_, rfl, run_load_agg hp (Nat.le_of_ble_eq_true rfl)⟩ rfl) rfl ⟨rfl, hp.keep⟩
set_option maxHeartbeats 8000000 in
theorem make_yes (a b : Inr) (r : Rw) (gap t : Int) (x y : P3) (e : Int) (F1 : Hid (∀ w, Calls Tryz.prog 6 #[PV r.n] w (Ret (.tuple #[.agg #[.int .i64 x.x, .int .i64 x.y, .int .i64 x.z], .agg #[.int .i64 y.x, .int .i64 y.y, .int .i64 y.z], .int .i64 0]) w))) (q m1 m2 m3 : Int) (A1 : Hid (∀ w, Calls Tryz.prog 8 #[.int .i64 gap, .int .i64 t] w (Ret (.tuple #[.int .i64 q, .int .i64 0]) w)))
    (ra rb : P3) (era : r.ra = ra) (erb : r.rb = rb)
    (B1 : Hid (∀ (w : World) (ga gb gr : Nat) (t1 t2 t3 : TypeId) (y1 y2 y3 : Nat × Nat) (p0 p1 p2 p3 p4 p5 p6 p7 p8 p9 p10 p17 p18 p19 p20 p21 p22 p23 p24 : Value), w.heap[ga]? = some (.cells ([.int .i64 a.m, .int .i64 a.p.x, .int .i64 a.p.y, .int .i64 a.p.z, .int .i64 a.q.x, .int .i64 a.q.y, .int .i64 a.q.z, .int .i64 a.r.x, .int .i64 a.r.y, .int .i64 a.r.z, .int .i64 a.v.x, .int .i64 a.v.y, .int .i64 a.v.z, .int .i64 a.s.x, .int .i64 a.s.y, .int .i64 a.s.z] : List Value).toArray t1 y1) → w.heap[gb]? = some (.cells ([.int .i64 b.m, .int .i64 b.p.x, .int .i64 b.p.y, .int .i64 b.p.z, .int .i64 b.q.x, .int .i64 b.q.y, .int .i64 b.q.z, .int .i64 b.r.x, .int .i64 b.r.y, .int .i64 b.r.z, .int .i64 b.v.x, .int .i64 b.v.y, .int .i64 b.v.z, .int .i64 b.s.x, .int .i64 b.s.y, .int .i64 b.s.z] : List Value).toArray t2 y2) → w.heap[gr]? = some (.cells ([p0, p1, p2, p3, p4, p5, p6, p7, p8, p9, p10, .int .i64 ra.x, .int .i64 ra.y, .int .i64 ra.z, .int .i64 rb.x, .int .i64 rb.y, .int .i64 rb.z, p17, p18, p19, p20, p21, p22, p23, p24] : List Value).toArray t3 y3) → Calls Tryz.prog 37 #[.agg #[.int .i64 r.n.x, .int .i64 r.n.y, .int .i64 r.n.z], .pointer (some ⟨ga, 0, none⟩), .pointer (some ⟨gb, 0, none⟩), .pointer (some ⟨gr, 0, none⟩)] w (Ret (.int .i64 m1) w)))
    (B2 : Hid (∀ (w : World) (ga gb gr : Nat) (t1 t2 t3 : TypeId) (y1 y2 y3 : Nat × Nat) (p0 p1 p2 p3 p4 p5 p6 p7 p8 p9 p10 p17 p18 p19 p20 p21 p22 p23 p24 : Value), w.heap[ga]? = some (.cells ([.int .i64 a.m, .int .i64 a.p.x, .int .i64 a.p.y, .int .i64 a.p.z, .int .i64 a.q.x, .int .i64 a.q.y, .int .i64 a.q.z, .int .i64 a.r.x, .int .i64 a.r.y, .int .i64 a.r.z, .int .i64 a.v.x, .int .i64 a.v.y, .int .i64 a.v.z, .int .i64 a.s.x, .int .i64 a.s.y, .int .i64 a.s.z] : List Value).toArray t1 y1) → w.heap[gb]? = some (.cells ([.int .i64 b.m, .int .i64 b.p.x, .int .i64 b.p.y, .int .i64 b.p.z, .int .i64 b.q.x, .int .i64 b.q.y, .int .i64 b.q.z, .int .i64 b.r.x, .int .i64 b.r.y, .int .i64 b.r.z, .int .i64 b.v.x, .int .i64 b.v.y, .int .i64 b.v.z, .int .i64 b.s.x, .int .i64 b.s.y, .int .i64 b.s.z] : List Value).toArray t2 y2) → w.heap[gr]? = some (.cells ([p0, p1, p2, p3, p4, p5, p6, p7, p8, p9, p10, .int .i64 ra.x, .int .i64 ra.y, .int .i64 ra.z, .int .i64 rb.x, .int .i64 rb.y, .int .i64 rb.z, p17, p18, p19, p20, p21, p22, p23, p24] : List Value).toArray t3 y3) → Calls Tryz.prog 37 #[.agg #[.int .i64 x.x, .int .i64 x.y, .int .i64 x.z], .pointer (some ⟨ga, 0, none⟩), .pointer (some ⟨gb, 0, none⟩), .pointer (some ⟨gr, 0, none⟩)] w (Ret (.int .i64 m2) w)))
    (B3 : Hid (∀ (w : World) (ga gb gr : Nat) (t1 t2 t3 : TypeId) (y1 y2 y3 : Nat × Nat) (p0 p1 p2 p3 p4 p5 p6 p7 p8 p9 p10 p17 p18 p19 p20 p21 p22 p23 p24 : Value), w.heap[ga]? = some (.cells ([.int .i64 a.m, .int .i64 a.p.x, .int .i64 a.p.y, .int .i64 a.p.z, .int .i64 a.q.x, .int .i64 a.q.y, .int .i64 a.q.z, .int .i64 a.r.x, .int .i64 a.r.y, .int .i64 a.r.z, .int .i64 a.v.x, .int .i64 a.v.y, .int .i64 a.v.z, .int .i64 a.s.x, .int .i64 a.s.y, .int .i64 a.s.z] : List Value).toArray t1 y1) → w.heap[gb]? = some (.cells ([.int .i64 b.m, .int .i64 b.p.x, .int .i64 b.p.y, .int .i64 b.p.z, .int .i64 b.q.x, .int .i64 b.q.y, .int .i64 b.q.z, .int .i64 b.r.x, .int .i64 b.r.y, .int .i64 b.r.z, .int .i64 b.v.x, .int .i64 b.v.y, .int .i64 b.v.z, .int .i64 b.s.x, .int .i64 b.s.y, .int .i64 b.s.z] : List Value).toArray t2 y2) → w.heap[gr]? = some (.cells ([p0, p1, p2, p3, p4, p5, p6, p7, p8, p9, p10, .int .i64 ra.x, .int .i64 ra.y, .int .i64 ra.z, .int .i64 rb.x, .int .i64 rb.y, .int .i64 rb.z, p17, p18, p19, p20, p21, p22, p23, p24] : List Value).toArray t3 y3) → Calls Tryz.prog 37 #[.agg #[.int .i64 y.x, .int .i64 y.y, .int .i64 y.z], .pointer (some ⟨ga, 0, none⟩), .pointer (some ⟨gb, 0, none⟩), .pointer (some ⟨gr, 0, none⟩)] w (Ret (.int .i64 m3) w))) (w : World) : Calls Tryz.prog 15 #[NV a, NV b, RoV r, .int .i64 gap, .int .i64 t] w (Ret (.tuple #[.agg #[.int .i64 r.a, .int .i64 r.b, .int .i64 r.n.x, .int .i64 r.n.y, .int .i64 r.n.z, .int .i64 x.x, .int .i64 x.y, .int .i64 x.z, .int .i64 y.x, .int .i64 y.y, .int .i64 y.z, .int .i64 r.ra.x, .int .i64 r.ra.y, .int .i64 r.ra.z, .int .i64 r.rb.x, .int .i64 r.rb.y, .int .i64 r.rb.z, .int .i64 m1, .int .i64 m2, .int .i64 m3, .int .i64 q, .int .i64 r.rub, .int .i64 r.pn, .int .i64 r.pt, .int .i64 r.pu], .int .i64 0]) w) := by
  subst era erb
  go_enter Tryz.func15, Tryz.ntmps15
  have hp := Hp.start [] w
  go_upto_region 8 with (first
          | ((with_reducible apply sx_box hp); exact za rfl; exact rfl; clear hp; (try clear w1); intro g w1 hp; simp only [zp, zq, z0, z1])
          | ((with_reducible apply sx_alloc hp); infer_instance; exact rfl; clear hp; (try clear w1); intro g w1 hp; simp only [zp, zq, z0, z1])
          | ((with_reducible apply sx_load_agg hp); exact zt rfl; infer_instance; infer_instance; (first | exact zl rfl | exact LB_le (by omega)); (first | (with_reducible exact LB_set (by omega)) | (simp only [n0, Nat.reduceAdd, n1, n2, n3, n4, n5, n6, n7, n8, n9]; try rfl)); simp only [zp, zq, z0, z1])
          | ((with_reducible apply sx_store hp); exact zt rfl; (first | exact za rfl | exact zi rfl); exact rfl; (first | exact AggTy.size | exact OneTy.size); exact rfl; infer_instance; (first | (with_reducible exact LB_set (by omega)) | (simp only [n0, Nat.reduceAdd, n1, n2, n3, n4, n5, n6, n7, n8, n9]; try rfl)); (first | exact zl rfl | exact LB_le (by omega)); exact rfl; infer_instance; clear hp; (try clear w1); intro w1 hp)
          | ((with_reducible first | refine sx_call hp (F1.out _) ?_ | refine sx_call hp (A1.out _) ?_); clear hp; (try clear w1); intro w1 hp))
  have hq := hp
  replace hp := hq.sub (.cons_cons _ (.cons_cons _ (.cons_cons _ (.cons _ (List.Sublist.refl _)))))
  refine wp_drawn_hp hp hq [8] (.q 0 (.q 1 (.q 2 (.q 3 (.l 4 (.q 5 (.l 6 (.q 7 (.l 8 .nil))))))))) (by kernel_rfl) (by kernel_rfl) ?_
  clear hp hq; (try clear w1); intro w1 hp hq
  repeat' (first
    | (((with_reducible apply sd_q); exact zo rfl); (first
        | ((with_reducible apply sd_load_agg hp); exact rfl; exact zt rfl; infer_instance; infer_instance; (first | exact zl rfl | exact LB_le (by omega)); (first | (with_reducible exact LB_set (by omega)) | (simp only [n0, Nat.reduceAdd, n1, n2, n3, n4, n5, n6, n7, n8, n9]; try rfl)); simp only [zp, zq, z0, z1])
        | ((with_reducible apply sd_move hp); exact zi rfl; simp only [zp, zq, z0, z1])
        | ((with_reducible apply sd_pure hp); exact rfl; (focus (intro _; go_simp; (try go_ints); try with_reducible rfl)); simp only [zp, zq, z0, z1])))
    | (((with_reducible apply sd_l); exact zo rfl); (first
        | ((with_reducible apply sd_store_far hq); exact rfl; exact zt rfl; (first | exact za rfl | exact zu rfl | exact zi rfl | exact zb rfl | exact zr rfl | exact zs rfl | exact zf rfl | exact zg rfl | exact zn rfl | exact zv rfl | exact zw rfl); exact rfl; (first | exact AggTy.size | exact OneTy.size); exact rfl; infer_instance; (first | (with_reducible exact LB_set (by omega)) | (simp only [n0, Nat.reduceAdd, n1, n2, n3, n4, n5, n6, n7, n8, n9]; try rfl)); (first | exact zl rfl | exact LB_le (by omega)); exact rfl; infer_instance; (repeat (first | exact List.Sublist.refl _ | exact List.nil_sublist _ | apply List.Sublist.cons_cons | apply List.Sublist.cons)); clear hp hq; (try clear w1); intro w1 hp hq)
        | ((with_reducible apply sd_store hq); exact rfl; exact zt rfl; (first | exact za rfl | exact zu rfl | exact zi rfl | exact zb rfl | exact zr rfl | exact zs rfl | exact zf rfl | exact zg rfl | exact zn rfl | exact zv rfl | exact zw rfl); exact rfl; (first | exact AggTy.size | exact OneTy.size); exact rfl; infer_instance; (first | (with_reducible exact LB_set (by omega)) | (simp only [n0, Nat.reduceAdd, n1, n2, n3, n4, n5, n6, n7, n8, n9]; try rfl)); (first | exact zl rfl | exact LB_le (by omega)); exact rfl; infer_instance; exact rfl; clear hp hq; (try clear w1); intro w1 hq; have hp := True.intro)))
    | ((with_reducible apply sd_nil); clear hp; have hp := hq; clear hq))
  go_upto_region 9 with fail
  have hq := hp
  replace hp := hq.sub (.cons_cons _ (.cons_cons _ (.cons_cons _ (.cons _ (List.Sublist.refl _)))))
  refine wp_drawn_hp hp hq [15] (.q 0 (.q 1 (.q 4 (.q 5 (.q 7 (.q 8 (.l 2 (.l 3 (.q 10 (.l 6 (.l 9 (.l 11 (.q 12 (.l 13 (.q 14 (.l 15 .nil)))))))))))))))) (by kernel_rfl) (by kernel_rfl) ?_
  clear hp hq; (try clear w1); intro w1 hp hq
  repeat' (first
    | (((with_reducible apply sd_q); exact zo rfl); (first
        | ((with_reducible apply sd_load_agg hp); exact rfl; exact zt rfl; infer_instance; infer_instance; (first | exact zl rfl | exact LB_le (by omega)); (first | (with_reducible exact LB_set (by omega)) | (simp only [n0, Nat.reduceAdd, n1, n2, n3, n4, n5, n6, n7, n8, n9]; try rfl)); simp only [zp, zq, z0, z1])
        | ((with_reducible apply sd_move hp); (first | exact zf rfl | exact zn rfl); simp only [zp, zq, z0, z1])
        | ((with_reducible apply sd_pure hp); exact rfl; (focus (intro _; go_simp; (try go_ints); try with_reducible rfl)); simp only [zp, zq, z0, z1])))
    | (((with_reducible apply sd_l); exact zo rfl); (first
        | ((with_reducible apply sd_callM hp); exact rfl; (focus (intro _; go_simp; try first | with_reducible rfl | exact ⟨rfl, rfl⟩)); (with_reducible exact B1.out _ _ _ _ _ _ _ _ _ _ _ _ _ _ _ _ _ _ _ _ _ _ _ _ _ _ _ _ _ hq.blk hq.blk hq.blk); exact hq; clear hp hq; (try clear w1); intro w1 hp hq; simp only [zp, zq, z0, z1])
        | ((with_reducible apply sd_callM hp); exact rfl; (focus (intro _; go_simp; try first | with_reducible rfl | exact ⟨rfl, rfl⟩)); (with_reducible exact B2.out _ _ _ _ _ _ _ _ _ _ _ _ _ _ _ _ _ _ _ _ _ _ _ _ _ _ _ _ _ hq.blk hq.blk hq.blk); exact hq; clear hp hq; (try clear w1); intro w1 hp hq; simp only [zp, zq, z0, z1])
        | ((with_reducible apply sd_callM hp); exact rfl; (focus (intro _; go_simp; try first | with_reducible rfl | exact ⟨rfl, rfl⟩)); (with_reducible exact B3.out _ _ _ _ _ _ _ _ _ _ _ _ _ _ _ _ _ _ _ _ _ _ _ _ _ _ _ _ _ hq.blk hq.blk hq.blk); exact hq; clear hp hq; (try clear w1); intro w1 hp hq; simp only [zp, zq, z0, z1])
        | ((with_reducible apply sd_store_far hq); exact rfl; exact zt rfl; (first | exact za rfl | exact zu rfl | exact zi rfl | exact zb rfl | exact zr rfl | exact zs rfl | exact zf rfl | exact zg rfl | exact zn rfl | exact zv rfl | exact zw rfl); exact rfl; (first | exact AggTy.size | exact OneTy.size); exact rfl; infer_instance; (first | (with_reducible exact LB_set (by omega)) | (simp only [n0, Nat.reduceAdd, n1, n2, n3, n4, n5, n6, n7, n8, n9]; try rfl)); (first | exact zl rfl | exact LB_le (by omega)); exact rfl; infer_instance; (repeat (first | exact List.Sublist.refl _ | exact List.nil_sublist _ | apply List.Sublist.cons_cons | apply List.Sublist.cons)); clear hp hq; (try clear w1); intro w1 hp hq)
        | ((with_reducible apply sd_store hq); exact rfl; exact zt rfl; (first | exact za rfl | exact zu rfl | exact zi rfl | exact zb rfl | exact zr rfl | exact zs rfl | exact zf rfl | exact zg rfl | exact zn rfl | exact zv rfl | exact zw rfl); exact rfl; (first | exact AggTy.size | exact OneTy.size); exact rfl; infer_instance; (first | (with_reducible exact LB_set (by omega)) | (simp only [n0, Nat.reduceAdd, n1, n2, n3, n4, n5, n6, n7, n8, n9]; try rfl)); (first | exact zl rfl | exact LB_le (by omega)); exact rfl; infer_instance; exact rfl; clear hp hq; (try clear w1); intro w1 hq; have hp := True.intro)
        | ((with_reducible apply sd_lload_agg hp hq); exact rfl; exact zt rfl; infer_instance; infer_instance; (first | exact zl rfl | exact LB_le (by omega)); (first | (with_reducible exact LB_set (by omega)) | (simp only [n0, Nat.reduceAdd, n1, n2, n3, n4, n5, n6, n7, n8, n9]; try rfl)); simp only [zp, zq, z0, z1])
        | ((with_reducible apply sd_lload_one hp hq); exact rfl; exact zt rfl; infer_instance; infer_instance; (first | exact zio rfl | exact zbo rfl | exact zro rfl | exact zso rfl | exact zfo rfl | exact zgo rfl | exact zno rfl | exact zvo rfl | exact zwo rfl | exact LB_get (by omega)); simp only [zp, zq, z0, z1])))
    | ((with_reducible apply sd_nil); clear hp; have hp := hq; clear hq))
  go_wp2_with (first
          | ((with_reducible apply sx_box hp); exact za rfl; exact rfl; clear hp; (try clear w1); intro g w1 hp; simp only [zp, zq, z0, z1])
          | ((with_reducible apply sx_alloc hp); infer_instance; exact rfl; clear hp; (try clear w1); intro g w1 hp; simp only [zp, zq, z0, z1])
          | ((with_reducible apply sx_load_agg hp); exact zt rfl; infer_instance; infer_instance; (first | exact zl rfl | exact LB_le (by omega)); (first | (with_reducible exact LB_set (by omega)) | (simp only [n0, Nat.reduceAdd, n1, n2, n3, n4, n5, n6, n7, n8, n9]; try rfl)); simp only [zp, zq, z0, z1])
          | ((with_reducible apply sx_store hp); exact zt rfl; (first | exact za rfl | exact zi rfl); exact rfl; (first | exact AggTy.size | exact OneTy.size); exact rfl; infer_instance; (first | (with_reducible exact LB_set (by omega)) | (simp only [n0, Nat.reduceAdd, n1, n2, n3, n4, n5, n6, n7, n8, n9]; try rfl)); (first | exact zl rfl | exact LB_le (by omega)); exact rfl; infer_instance; clear hp; (try clear w1); intro w1 hp))
  exact bodyPost_ret (results_two rfl ⟨_, rfl, run_load_agg hp (Nat.le_of_ble_eq_true rfl)⟩ rfl) rfl ⟨rfl, hp.keep⟩
theorem frO_i64 (n : P3) (hn : n.i64) : (frO n).1.i64 ∧ (frO n).2.1.i64 := by
  have z : P3.i64 ⟨0, 0, 0⟩ := p3i4 (by omega)
  unfold frO
  split
  · exact ⟨z, z⟩
  · exact ⟨cun_i64 _, ccr_i64 _ _⟩
theorem make_any (a b : Inr) (r : Rw) (gap t : Int) (ha : a.i64) (hb : b.i64) (hr : r.i64) (hg : I64 gap) (ht : I64 t) (w : World) :
    Calls Tryz.prog 15 #[NV a, NV b, RoV r, .int .i64 gap, .int .i64 t] w (Ret (.tuple #[RoV (makeO a b r gap t).1, .int .i64 (makeO a b r gap t).2]) w) := by
  obtain ⟨hn, hra, hrb⟩ := hr
  have F1 := frame_any r.n hn
  have A1 := aim_any gap t hg ht
  have fi := frO_i64 r.n hn
  unfold makeO
  by_cases h0 : (frO r.n).2.2 = 0
  · rw [if_pos h0]
    rw [h0] at F1
    by_cases h1 : (aimO gap t).2 = 0
    · rw [if_pos h1]
      rw [h1] at A1
      have ea : (aimO gap t).1 = aimv gap t := by
        unfold aimO at *
        split at h1
        · cases h1
        · rename_i h2; rw [if_neg h2]
      rw [ea] at A1
      exact make_yes a b r gap t _ _ 0 (Lib.hid F1) _ _ _ _ (Lib.hid A1) _ _ rfl rfl (Lib.hid (mk1_core a b r.ra r.rb r.n _ (Lib.hid (between_row a b r.ra r.rb r.n ha hb hra hrb hn))))
        (Lib.hid (mk1_core a b r.ra r.rb (frO r.n).1 _ (Lib.hid (between_row a b r.ra r.rb (frO r.n).1 ha hb hra hrb fi.1)))) (Lib.hid (mk1_core a b r.ra r.rb (frO r.n).2.1 _ (Lib.hid (between_row a b r.ra r.rb (frO r.n).2.1 ha hb hra hrb fi.2)))) w
    · rw [if_neg h1]
      exact make_not a b r gap t _ _ _ (Lib.hid F1) _ (Lib.hid A1) (by simpa using h1) w
  · rw [if_neg h0]
    exact make_no a b r gap t _ _ _ (Lib.hid F1) (by simpa using h0) w
section
open Go.ChangeShapes Go.WideShapes Go.ChangeAt Go.Joins
theorem flat_row {H : Type} {enc : TypeId × Value → H} {W : World} {base : Nat} {spare : Nat → Bool} {held : Bool} : Flat enc W base spare held 41 := by
  refine flat_struct enc W base spare held Tryz.underlying41 (cover (by kernel_rfl)) fun f hf => ?_
  simp only [List.mem_toArray, List.mem_cons, List.not_mem_nil, or_false] at hf
  rcases hf with rfl | rfl | rfl | rfl | rfl | rfl | rfl | rfl | rfl | rfl | rfl | rfl | rfl | rfl | rfl
  · exact flat_idx
  · exact flat_idx
  all_goals first | exact flat_vec | exact flat_fix
/-- A row that came in. -/
theorem open_row {H : Type} {enc : TypeId × Value → H} {W' : World} {r : Reach} {b0 base : Nat} {spare : Nat → Bool} {held : Bool} {v : Value} {d : DataW H} {p : List MemPlace}
    (hv : Value.okWide Tryz.prog W' r b0 41 v) (h : DataW.Trod enc Tryz.prog W' base spare held 41 v d p) : ∃ b : Rw, v = RoV b ∧ b.i64 := by
  obtain ⟨cs, rfl, hsz⟩ := okWide_struct Tryz.underlying41 hv
  obtain ⟨f, hf, rfl⟩ := flat_open flat_row (k := 25) (by kernel_rfl) hsz h
  exact ⟨⟨f 0, f 1, ⟨f 2, f 3, f 4⟩, ⟨f 5, f 6, f 7⟩, ⟨f 8, f 9, f 10⟩, ⟨f 11, f 12, f 13⟩, ⟨f 14, f 15, f 16⟩, f 17, f 18, f 19, f 20, f 21, f 22, f 23, f 24⟩, rfl, ⟨hf 2 (by omega), hf 3 (by omega), hf 4 (by omega)⟩, ⟨hf 11 (by omega), hf 12 (by omega), hf 13 (by omega)⟩, ⟨hf 14 (by omega), hf 15 (by omega), hf 16 (by omega)⟩⟩
end
end Go.Proofs.YtboiepagonlnkaaGreat
set_option linter.unusedSimpArgs false
set_option linter.unusedVariables false
set_option maxRecDepth 100000
namespace Go.Proofs.YtboiepagonlnkaaGreat
open Go Go.RowKit
attribute [local irreducible] wpList

set_option maxHeartbeats 4000000 in
theorem rmake_no (a b : Inr) (r : Rw) (gap t : Int) (x y : P3) (e : Int) (F1 : Hid (∀ w, Calls Tryz.prog 7 #[PV r.n] w (Ret (.tuple #[.agg #[.int .i64 x.x, .int .i64 x.y, .int .i64 x.z], .agg #[.int .i64 y.x, .int .i64 y.y, .int .i64 y.z], .int .i64 e]) w))) (he : (e == 0) = false) (w : World) : Calls Tryz.prog 16 #[NV a, NV b, RoV r, .int .i64 gap, .int .i64 t] w (Ret (.tuple #[.agg #[.int .i64 0, .int .i64 0, .int .i64 0, .int .i64 0, .int .i64 0, .int .i64 0, .int .i64 0, .int .i64 0, .int .i64 0, .int .i64 0, .int .i64 0, .int .i64 0, .int .i64 0, .int .i64 0, .int .i64 0, .int .i64 0, .int .i64 0, .int .i64 0, .int .i64 0, .int .i64 0, .int .i64 0, .int .i64 0, .int .i64 0, .int .i64 0, .int .i64 0], .int .i64 e]) w) := by
  go_enter Tryz.func16, Tryz.ntmps16
  have hp := Hp.start [] w
  go_wp2_with (first
          | ((with_reducible apply sx_box hp); exact za rfl; exact rfl; clear hp; (try clear w1); intro g w1 hp; simp only [zp, zq, z0, z1])
          | ((with_reducible apply sx_alloc hp); infer_instance; exact rfl; clear hp; (try clear w1); intro g w1 hp; simp only [zp, zq, z0, z1])
          | ((with_reducible apply sx_load_agg hp); exact zt rfl; infer_instance; infer_instance; (first | exact zl rfl | exact LB_le (by omega)); (first | (with_reducible exact LB_set (by omega)) | (simp only [n0, Nat.reduceAdd, n1, n2, n3, n4, n5, n6, n7, n8, n9]; try rfl)); simp only [zp, zq, z0, z1])
          | ((with_reducible apply sx_store hp); exact zt rfl; (first | exact za rfl | exact zi rfl); exact rfl; (first | exact AggTy.size | exact OneTy.size); exact rfl; infer_instance; (first | (with_reducible exact LB_set (by omega)) | (simp only [n0, Nat.reduceAdd, n1, n2, n3, n4, n5, n6, n7, n8, n9]; try rfl)); (first | exact zl rfl | exact LB_le (by omega)); exact rfl; infer_instance; clear hp; (try clear w1); intro w1 hp)
          | ((with_reducible refine sx_call hp (F1.out _) ?_); clear hp; (try clear w1); intro w1 hp))
  exact bodyPost_ret (results_two rfl ⟨_, rfl, run_load_agg hp (Nat.le_of_ble_eq_true rfl)⟩ rfl) rfl ⟨rfl, hp.keep⟩
set_option maxHeartbeats 4000000 in
theorem rmake_not (a b : Inr) (r : Rw) (gap t : Int) (x y : P3) (e : Int) (F1 : Hid (∀ w, Calls Tryz.prog 7 #[PV r.n] w (Ret (.tuple #[.agg #[.int .i64 x.x, .int .i64 x.y, .int .i64 x.z], .agg #[.int .i64 y.x, .int .i64 y.y, .int .i64 y.z], .int .i64 0]) w))) (q : Int) (A1 : Hid (∀ w, Calls Tryz.prog 9 #[.int .i64 gap, .int .i64 t] w (Ret (.tuple #[.int .i64 q, .int .i64 e]) w))) (he : (e == 0) = false) (w : World) : Calls Tryz.prog 16 #[NV a, NV b, RoV r, .int .i64 gap, .int .i64 t] w (Ret (.tuple #[.agg #[.int .i64 0, .int .i64 0, .int .i64 0, .int .i64 0, .int .i64 0, .int .i64 0, .int .i64 0, .int .i64 0, .int .i64 0, .int .i64 0, .int .i64 0, .int .i64 0, .int .i64 0, .int .i64 0, .int .i64 0, .int .i64 0, .int .i64 0, .int .i64 0, .int .i64 0, .int .i64 0, .int .i64 0, .int .i64 0, .int .i64 0, .int .i64 0, .int .i64 0], .int .i64 e]) w) := by
  go_enter Tryz.func16, Tryz.ntmps16
  have hp := Hp.start [] w
  go_wp2_with (first
          | ((with_reducible apply sx_box hp); exact za rfl; exact rfl; clear hp; (try clear w1); intro g w1 hp; simp only [zp, zq, z0, z1])
          | ((with_reducible apply sx_alloc hp); infer_instance; exact rfl; clear hp; (try clear w1); intro g w1 hp; simp only [zp, zq, z0, z1])
          | ((with_reducible apply sx_load_agg hp); exact zt rfl; infer_instance; infer_instance; (first | exact zl rfl | exact LB_le (by omega)); (first | (with_reducible exact LB_set (by omega)) | (simp only [n0, Nat.reduceAdd, n1, n2, n3, n4, n5, n6, n7, n8, n9]; try rfl)); simp only [zp, zq, z0, z1])
          | ((with_reducible apply sx_store hp); exact zt rfl; (first | exact za rfl | exact zi rfl); exact rfl; (first | exact AggTy.size | exact OneTy.size); exact rfl; infer_instance; (first | (with_reducible exact LB_set (by omega)) | (simp only [n0, Nat.reduceAdd, n1, n2, n3, n4, n5, n6, n7, n8, n9]; try rfl)); (first | exact zl rfl | exact LB_le (by omega)); exact rfl; infer_instance; clear hp; (try clear w1); intro w1 hp)
          | ((with_reducible first | refine sx_call hp (F1.out _) ?_ | refine sx_call hp (A1.out _) ?_); clear hp; (try clear w1); intro w1 hp))
  exact bodyPost_ret (results_two rfl ⟨_, rfl, run_load_agg hp (Nat.le_of_ble_eq_true rfl)⟩ rfl) rfl ⟨rfl, hp.keep⟩
set_option maxHeartbeats 8000000 in
theorem rmake_yes (a b : Inr) (r : Rw) (gap t : Int) (x y : P3) (e : Int) (F1 : Hid (∀ w, Calls Tryz.prog 7 #[PV r.n] w (Ret (.tuple #[.agg #[.int .i64 x.x, .int .i64 x.y, .int .i64 x.z], .agg #[.int .i64 y.x, .int .i64 y.y, .int .i64 y.z], .int .i64 0]) w))) (q m1 m2 m3 : Int) (A1 : Hid (∀ w, Calls Tryz.prog 9 #[.int .i64 gap, .int .i64 t] w (Ret (.tuple #[.int .i64 q, .int .i64 0]) w)))
    (B1 : Hid (∀ w, Calls Tryz.prog 14 #[NV a, NV b, PV r.ra, PV r.rb, .agg #[.int .i64 r.n.x, .int .i64 r.n.y, .int .i64 r.n.z]] w (Ret (.int .i64 m1) w)))
    (B2 : Hid (∀ w, Calls Tryz.prog 14 #[NV a, NV b, PV r.ra, PV r.rb, .agg #[.int .i64 x.x, .int .i64 x.y, .int .i64 x.z]] w (Ret (.int .i64 m2) w)))
    (B3 : Hid (∀ w, Calls Tryz.prog 14 #[NV a, NV b, PV r.ra, PV r.rb, .agg #[.int .i64 y.x, .int .i64 y.y, .int .i64 y.z]] w (Ret (.int .i64 m3) w))) (w : World) : Calls Tryz.prog 16 #[NV a, NV b, RoV r, .int .i64 gap, .int .i64 t] w (Ret (.tuple #[.agg #[.int .i64 r.a, .int .i64 r.b, .int .i64 r.n.x, .int .i64 r.n.y, .int .i64 r.n.z, .int .i64 x.x, .int .i64 x.y, .int .i64 x.z, .int .i64 y.x, .int .i64 y.y, .int .i64 y.z, .int .i64 r.ra.x, .int .i64 r.ra.y, .int .i64 r.ra.z, .int .i64 r.rb.x, .int .i64 r.rb.y, .int .i64 r.rb.z, .int .i64 m1, .int .i64 m2, .int .i64 m3, .int .i64 q, .int .i64 r.rub, .int .i64 r.pn, .int .i64 r.pt, .int .i64 r.pu], .int .i64 0]) w) := by
  go_enter Tryz.func16, Tryz.ntmps16
  have hp := Hp.start [] w
  go_wp2_with (first
          | ((with_reducible apply sx_box hp); exact za rfl; exact rfl; clear hp; (try clear w1); intro g w1 hp; simp only [zp, zq, z0, z1])
          | ((with_reducible apply sx_alloc hp); infer_instance; exact rfl; clear hp; (try clear w1); intro g w1 hp; simp only [zp, zq, z0, z1])
          | ((with_reducible apply sx_load_agg hp); exact zt rfl; infer_instance; infer_instance; (first | exact zl rfl | exact LB_le (by omega)); (first | (with_reducible exact LB_set (by omega)) | (simp only [n0, Nat.reduceAdd, n1, n2, n3, n4, n5, n6, n7, n8, n9]; try rfl)); simp only [zp, zq, z0, z1])
          | ((with_reducible apply sx_store hp); exact zt rfl; (first | exact za rfl | exact zi rfl); exact rfl; (first | exact AggTy.size | exact OneTy.size); exact rfl; infer_instance; (first | (with_reducible exact LB_set (by omega)) | (simp only [n0, Nat.reduceAdd, n1, n2, n3, n4, n5, n6, n7, n8, n9]; try rfl)); (first | exact zl rfl | exact LB_le (by omega)); exact rfl; infer_instance; clear hp; (try clear w1); intro w1 hp)
          | ((with_reducible first | refine sx_call hp (F1.out _) ?_ | refine sx_call hp (A1.out _) ?_ | refine sx_call hp (B1.out _) ?_ | refine sx_call hp (B2.out _) ?_ | refine sx_call hp (B3.out _) ?_); clear hp; (try clear w1); intro w1 hp))
  exact bodyPost_ret (results_two rfl ⟨_, rfl, run_load_agg hp (Nat.le_of_ble_eq_true rfl)⟩ rfl) rfl ⟨rfl, hp.keep⟩
theorem rmake_any (a b : Inr) (r : Rw) (gap t : Int) (ha : a.i64) (hb : b.i64) (hr : r.i64) (hg : I64 gap) (ht : I64 t) (w : World) :
    Calls Tryz.prog 16 #[NV a, NV b, RoV r, .int .i64 gap, .int .i64 t] w (Ret (.tuple #[RoV (makeO a b r gap t).1, .int .i64 (makeO a b r gap t).2]) w) := by
  obtain ⟨hn, hra, hrb⟩ := hr
  have F1 := rframe_any r.n hn
  have A1 := raim_any gap t hg ht
  have fi := frO_i64 r.n hn
  unfold makeO
  by_cases h0 : (frO r.n).2.2 = 0
  · rw [if_pos h0]
    rw [h0] at F1
    by_cases h1 : (aimO gap t).2 = 0
    · rw [if_pos h1]
      rw [h1] at A1
      have ea : (aimO gap t).1 = aimv gap t := by
        unfold aimO at *
        split at h1
        · cases h1
        · rename_i h2; rw [if_neg h2]
      rw [ea] at A1
      exact rmake_yes a b r gap t _ _ 0 (Lib.hid F1) _ _ _ _ (Lib.hid A1) (Lib.hid (rbetween_row a b r.ra r.rb r.n ha hb hra hrb hn))
        (Lib.hid (rbetween_row a b r.ra r.rb (frO r.n).1 ha hb hra hrb fi.1)) (Lib.hid (rbetween_row a b r.ra r.rb (frO r.n).2.1 ha hb hra hrb fi.2)) w
    · rw [if_neg h1]
      exact rmake_not a b r gap t _ _ _ (Lib.hid F1) _ (Lib.hid A1) (by simpa using h1) w
  · rw [if_neg h0]
    exact rmake_no a b r gap t _ _ _ (Lib.hid F1) (by simpa using h0) w
set_option maxHeartbeats 8000000 in
theorem make_law_core (a b : Inr) (r x : Rw) (gap t e : Int) (M1 : Hid (∀ w, Calls Tryz.prog 15 #[NV a, NV b, RoV r, .int .i64 gap, .int .i64 t] w (Ret (.tuple #[.agg #[.int .i64 x.a, .int .i64 x.b, .int .i64 x.n.x, .int .i64 x.n.y, .int .i64 x.n.z, .int .i64 x.t.x, .int .i64 x.t.y, .int .i64 x.t.z, .int .i64 x.u.x, .int .i64 x.u.y, .int .i64 x.u.z, .int .i64 x.ra.x, .int .i64 x.ra.y, .int .i64 x.ra.z, .int .i64 x.rb.x, .int .i64 x.rb.y, .int .i64 x.rb.z, .int .i64 x.mn, .int .i64 x.mt, .int .i64 x.mu, .int .i64 x.aim, .int .i64 x.rub, .int .i64 x.pn, .int .i64 x.pt, .int .i64 x.pu], .int .i64 e]) w))) (M2 : Hid (∀ w, Calls Tryz.prog 16 #[NV a, NV b, RoV r, .int .i64 gap, .int .i64 t] w (Ret (.tuple #[.agg #[.int .i64 x.a, .int .i64 x.b, .int .i64 x.n.x, .int .i64 x.n.y, .int .i64 x.n.z, .int .i64 x.t.x, .int .i64 x.t.y, .int .i64 x.t.z, .int .i64 x.u.x, .int .i64 x.u.y, .int .i64 x.u.z, .int .i64 x.ra.x, .int .i64 x.ra.y, .int .i64 x.ra.z, .int .i64 x.rb.x, .int .i64 x.rb.y, .int .i64 x.rb.z, .int .i64 x.mn, .int .i64 x.mt, .int .i64 x.mu, .int .i64 x.aim, .int .i64 x.rub, .int .i64 x.pn, .int .i64 x.pt, .int .i64 x.pu], .int .i64 e]) w))) (w : World) : Calls Tryz.prog 5 #[NV a, NV b, RoV r, .int .i64 gap, .int .i64 t] w (Ret (.bool true) w) := by
  go_enter Tryz.func5, Tryz.ntmps5
  have hp := Hp.start [] w
  go_wp2_with (first
          | ((with_reducible apply sx_guard); (conv => whnf); refine Bx.mk ?_; (try simp only [zp, zq, z0, z1]))
          | ((with_reducible apply sx_box hp); exact za rfl; exact rfl; clear hp; (try clear w1); intro g w1 hp; simp only [zp, zq, z0, z1])
          | ((with_reducible apply sx_alloc hp); infer_instance; exact rfl; clear hp; (try clear w1); intro g w1 hp; simp only [zp, zq, z0, z1])
          | ((with_reducible apply sx_load_agg hp); exact zt rfl; infer_instance; infer_instance; (first | exact zl rfl | exact LB_le (by omega)); (first | (with_reducible exact LB_set (by omega)) | (simp only [n0, Nat.reduceAdd, n1, n2, n3, n4, n5, n6, n7, n8, n9]; try rfl)); simp only [zp, zq, z0, z1])
          | ((with_reducible apply sx_store hp); exact zt rfl; exact za rfl; exact rfl; (first | exact AggTy.size | exact OneTy.size); exact rfl; infer_instance; (first | (with_reducible exact LB_set (by omega)) | (simp only [n0, Nat.reduceAdd, n1, n2, n3, n4, n5, n6, n7, n8, n9]; try rfl)); (first | exact zl rfl | exact LB_le (by omega)); exact rfl; infer_instance; clear hp; (try clear w1); intro w1 hp)
          | ((with_reducible first | refine sx_call hp (M1.out _) ?_ | refine sx_call hp (M2.out _) ?_ | refine sx_call hp (awake22 _) ?_); clear hp; (try clear w1); intro w1 hp))
  exact bodyPost_ret (results_one rfl rfl) rfl ⟨rfl, hp.keep⟩
theorem make_law (a : Inr) (ha : a.i64) (b : Inr) (hb : b.i64) (r : Rw) (hr : r.i64) (gap : Int) (hg : I64 gap) (t : Int) (ht : I64 t) (w : World) :
    Calls Tryz.prog 5 #[NV a, NV b, RoV r, .int .i64 gap, .int .i64 t] w (Ret (.bool true) w) :=
  make_law_core a b r (makeO a b r gap t).1 gap t (makeO a b r gap t).2 (Lib.hid (make_any a b r gap t ha hb hr hg ht)) (Lib.hid (rmake_any a b r gap t ha hb hr hg ht)) w
end Go.Proofs.YtboiepagonlnkaaGreat
set_option linter.unusedVariables false
namespace Go.Proofs.YtboiepagonlnkaaGreat
open Go Go.ChangeShapes Go.WideShapes Go.ChangeAt Go.RowKit

set_option maxRecDepth 100000
theorem rowsMake_c0 : (Rows.rowsMakeRow.wf (OpenSpec.ofChange Rows.rowsMakeSpec)) = true := by kernel_rfl
theorem rowsMake_c1 : (laidOutB Tryz.pinned.checked.prog) = true := by kernel_rfl
theorem rowsMake_c2 : (mapsRowed Tryz.pinned.checked.prog) = true := by kernel_rfl
theorem rowsMake_c3 : (Tryz.f5.params.all (Tryz.pinned.checked.prog.readableRec ·)) = true := by kernel_rfl
theorem rowsMake_c4 : (namedTie Tryz.pinned.checked.prog Rows.rowsMakeRow.named Rows.rowsMakeSpec.vars) = true := by kernel_rfl
theorem rowsMake_c5 : ((Rows.rowsMakeRow.stops == [])) = true := by kernel_rfl
theorem rowsMake_c6 : ((Tryz.pinned.checked.prog.stops == [])) = true := by kernel_rfl
theorem rowsMake_c7 : ((Rows.rowsMakeRow.knobs == [])) = true := by kernel_rfl
theorem rowsMake_c8 : ((Tryz.pinned.checked.prog.stopKnobs == [])) = true := by kernel_rfl
theorem rowsMake_c9 : ((Rows.rowsMakeRow.inPlace == Tryz.pinned.checked.prog.inPlace 5)) = true := by kernel_rfl
theorem rowsMake_c10 : ((Rows.rowsMakeRow.unfollowed == Tryz.pinned.checked.prog.unfollowed 5)) = true := by kernel_rfl
theorem rowsMake_c11 : ((Rows.rowsMakeRow.recurses == Tryz.pinned.checked.prog.recurses 5)) = true := by kernel_rfl
theorem rowsMake_c12 : ((Rows.rowsMakeRow.named == Tryz.pinned.checked.prog.varsNamed 5)) = true := by kernel_rfl
theorem rowsMake_c13 : ((Rows.rowsMakeRow.maps == (Tryz.f5.params.toList ++ Rows.rowsMakeSpec.plain.varTypes Tryz.pinned.checked.prog).any (Tryz.pinned.checked.prog.mapsRec ·))) = true := by kernel_rfl
theorem rowsMake_c14 : ((Rows.rowsMakeRow.ifaces == (Tryz.f5.params.toList ++ Rows.rowsMakeSpec.plain.varTypes Tryz.pinned.checked.prog).any (Tryz.pinned.checked.prog.ifacesRec ·))) = true := by kernel_rfl
theorem rowsMake_c15 : ((Rows.rowsMakeRow.mapsOut == Tryz.pinned.checked.prog.mapsAmong Tryz.f5.resultTypes.toList)) = true := by kernel_rfl
theorem rowsMake_c16 : ((Rows.rowsMakeRow.loops == (Tryz.f5.params.toList ++ Rows.rowsMakeSpec.plain.varTypes Tryz.pinned.checked.prog).any (Tryz.pinned.checked.prog.loopsFrom ·))) = true := by kernel_rfl
theorem rowsMake_c17 : ((Rows.rowsMakeRow.wideKeys == (Tryz.f5.params.toList ++ Rows.rowsMakeSpec.plain.varTypes Tryz.pinned.checked.prog ++ Tryz.f5.resultTypes.toList).any (Tryz.pinned.checked.prog.wideKeysFrom ·))) = true := by kernel_rfl
theorem rowsMake_c18 : (Rows.rowsMakeSpec.vars.all (Tryz.pinned.checked.prog.varReadable ·)) = true := by kernel_rfl
theorem rowsMake_c19 : (Tryz.f5.resultTypes.all (fun t => Tryz.pinned.checked.prog.readableRec t && decide (t < Tryz.pinned.checked.prog.types.size))) = true := by kernel_rfl
theorem rowsMake_c20 : ((Rows.rowsMakeRow.ifacesOut == Tryz.f5.resultTypes.toList.any (Tryz.pinned.checked.prog.ifacesRec ·))) = true := by kernel_rfl
theorem rowsMake_c21 : ((Rows.rowsMakeRow.loopsOut == Tryz.f5.resultTypes.toList.any (Tryz.pinned.checked.prog.loopsFrom ·))) = true := by kernel_rfl
theorem rowsMake_c22 : ((Rows.rowsMakeRow.plainKeys == Tryz.pinned.checked.prog.plainKeys)) = true := by kernel_rfl
theorem rowsMake_c23 : (Rows.rowsMakeRow.shortTexts.isNone) = true := by kernel_rfl
theorem rowsMake_c24 : (Tryz.pinned.checked.prog.stopsHeard) = true := by kernel_rfl
theorem rowsMake_c25 : (Tryz.pinned.checked.prog.mayEnter) = true := by kernel_rfl
theorem rowsMake_c26 : ((Rows.rowsMakeRow.lifted == Tryz.pinned.checked.prog.liftsFinal)) = true := by kernel_rfl
theorem rowsMake_c27 : ((Tryz.pinned.checked.prog.make == some Rows.rowsMakeRow.make)) = true := by kernel_rfl
theorem rowsMake_c28 : ((Rows.rowsMakeRow.kinds == (if Rows.rowsMakeRow.domain.isEmpty then [] else Tryz.f5.params.toList.map fun t => match Tryz.pinned.checked.prog.underlying t with | some (.int k) => some k | _ => none))) = true := by kernel_rfl
theorem rowsMake_c29 : ((Rows.rowsMakeRow.pinned == Rows.rowsMakeRow.pinnedBy)) = true := by kernel_rfl
theorem rowsMake_c30 : ((Rows.rowsMakeRow.veiled == (Tryz.f5.params.toList ++ Rows.rowsMakeSpec.plain.varTypes Tryz.pinned.checked.prog ++ Tryz.f5.resultTypes.toList).any (Tryz.pinned.checked.prog.veiledRec ·))) = true := by kernel_rfl
theorem rowsMake_c31 : (Rows.rowsMakeRow.veiledFits Tryz.pinned.checked.prog Tryz.f5.params.toList (Tryz.f5.params.toList ++ Rows.rowsMakeSpec.plain.varTypes Tryz.pinned.checked.prog ++ Tryz.f5.resultTypes.toList)) = true := by kernel_rfl
theorem rowsMake_closed : joinedFacts Tryz.pinned.checked.prog 5 Tryz.f5 Rows.rowsMakeSpec Rows.rowsMakeRow = true := by
  unfold joinedFacts
  simp only [Bool.and_eq_true]
  exact ⟨⟨⟨⟨⟨⟨⟨⟨⟨⟨⟨⟨⟨⟨⟨⟨⟨⟨⟨⟨⟨⟨⟨⟨⟨⟨⟨⟨⟨⟨⟨rowsMake_c0, rowsMake_c1⟩, rowsMake_c2⟩, rowsMake_c3⟩, rowsMake_c4⟩, rowsMake_c5⟩, rowsMake_c6⟩, rowsMake_c7⟩, rowsMake_c8⟩, rowsMake_c9⟩, rowsMake_c10⟩, rowsMake_c11⟩, rowsMake_c12⟩, rowsMake_c13⟩, rowsMake_c14⟩, rowsMake_c15⟩, rowsMake_c16⟩, rowsMake_c17⟩, rowsMake_c18⟩, rowsMake_c19⟩, rowsMake_c20⟩, rowsMake_c21⟩, rowsMake_c22⟩, rowsMake_c23⟩, rowsMake_c24⟩, rowsMake_c25⟩, rowsMake_c26⟩, rowsMake_c27⟩, rowsMake_c28⟩, rowsMake_c29⟩, rowsMake_c30⟩, rowsMake_c31⟩
theorem rowsMake_lifted (os : Os) (started : os.Started) (H : Type) (enc : TypeId × Value → H) :
    ReturnsInHanded {} Tryz.checked os 5 .any (Rows.rowsMakeSpec.pre6 enc Tryz.prog Tryz.f5 Rows.rowsMakeRow.domain false) (Rows.rowsMakeSpec.post enc Tryz.prog Tryz.f5 false true false false) := by
  refine returnsInHanded_of_change (C := Tryz.checked) own started (by kernel_rfl) Tryz.func5
    (ChangeSpec.witness6 (enc := enc) (C := Tryz.checked) false ⟨#[], #[.agg #[.int .i64 0, .int .i64 0, .int .i64 0, .int .i64 0, .int .i64 0, .int .i64 0, .int .i64 0, .int .i64 0, .int .i64 0, .int .i64 0, .int .i64 0, .int .i64 0, .int .i64 0, .int .i64 0, .int .i64 0, .int .i64 0], .agg #[.int .i64 0, .int .i64 0, .int .i64 0, .int .i64 0, .int .i64 0, .int .i64 0, .int .i64 0, .int .i64 0, .int .i64 0, .int .i64 0, .int .i64 0, .int .i64 0, .int .i64 0, .int .i64 0, .int .i64 0, .int .i64 0], .agg #[.int .i64 0, .int .i64 0, .int .i64 0, .int .i64 0, .int .i64 0, .int .i64 0, .int .i64 0, .int .i64 0, .int .i64 0, .int .i64 0, .int .i64 0, .int .i64 0, .int .i64 0, .int .i64 0, .int .i64 0, .int .i64 0, .int .i64 0, .int .i64 0, .int .i64 0, .int .i64 0, .int .i64 0, .int .i64 0, .int .i64 0, .int .i64 0, .int .i64 0], .int .i64 0, .int .i64 0], []⟩ 8 (by kernel_rfl) (by kernel_rfl) (by kernel_rfl) (by kernel_rfl)) ?_
  intro W base args ds gs before hval0 hW hcnd _
  have hval : ∀ (j : Nat) t v, Tryz.f5.params[j]? = some t → args[j]? = some v → Value.okWide Tryz.prog W .any base t v := hval0
  have hW' := hW
  obtain ⟨p, q, hA0, hV, rfl, hfz, hnd⟩ := hW
  have hA : DataW.TrodAll enc Tryz.prog W 0 (fun _ => true) true Tryz.f5.params.toList args.toList ds p := hA0
  rw [Tryz.params5] at hA hval
  obtain ⟨v0, vs0, d0, ds0, p0, q0, hargs, rfl, rfl, h0, r0⟩ := trodAll_cons hA
  obtain ⟨v1, vs1, d1, ds1, p1, q1, rfl, rfl, rfl, h1, r1⟩ := trodAll_cons r0
  obtain ⟨v2, vs2, d2, ds2, p2, q2, rfl, rfl, rfl, h2, r2⟩ := trodAll_cons r1
  obtain ⟨v3, vs3, d3, ds3, p3, q3, rfl, rfl, rfl, h3, r3⟩ := trodAll_cons r2
  obtain ⟨v4, vs4, d4, ds4, p4, q4, rfl, rfl, rfl, h4, r4⟩ := trodAll_cons r3
  obtain ⟨rfl, rfl, rfl⟩ := trodAll_nil r4
  obtain rfl : args = #[v0, v1, v2, v3, v4] := by cases args; simp_all
  obtain ⟨rfl, rfl⟩ := trodVars_none hV
  have k0 := h0
  have k1 := h1
  have k2 := h2
  have k3 := h3
  have k4 := h4
  have lt0 : ∀ x ∈ p0, x.block < W.heap.size := by obtain ⟨m, hm⟩ := k0; exact DataW.trod_lt m _ _ _ hm
  have lt1 : ∀ x ∈ p1, x.block < W.heap.size := by obtain ⟨m, hm⟩ := k1; exact DataW.trod_lt m _ _ _ hm
  have lt2 : ∀ x ∈ p2, x.block < W.heap.size := by obtain ⟨m, hm⟩ := k2; exact DataW.trod_lt m _ _ _ hm
  have lt3 : ∀ x ∈ p3, x.block < W.heap.size := by obtain ⟨m, hm⟩ := k3; exact DataW.trod_lt m _ _ _ hm
  have lt4 : ∀ x ∈ p4, x.block < W.heap.size := by obtain ⟨m, hm⟩ := k4; exact DataW.trod_lt m _ _ _ hm
  obtain ⟨a0, rfl, ha0⟩ := open_inert (hval 0 36 v0 rfl rfl) h0
  obtain ⟨a1, rfl, ha1⟩ := open_inert (hval 1 36 v1 rfl rfl) h1
  obtain ⟨a2, rfl, ha2⟩ := open_row (hval 2 41 v2 rfl rfl) h2
  obtain ⟨a3, rfl, ha3⟩ := open_fix (hval 3 22 v3 rfl rfl) h3
  obtain ⟨a4, rfl, ha4⟩ := open_fix (hval 4 22 v4 rfl rfl) h4
  clear hA0 hval0
  refine (make_law a0 ha0 a1 ha1 a2 ha2 a3 ha3 a4 ha4 W).mono fun e W' ⟨he, hk⟩ => ?_
  subst he
  have bel := hk.below
  exact ⟨_, rfl, _, _, _, [], _, [], hW', trodAll_mk1 (shut_bool Tryz.underlying4 _), (trodAll_cons_mk (Below.trod laidOut (by kernel_rfl) (of_decide_eq_true (by kernel_rfl)) k0 bel lt0) (trodAll_cons_mk (Below.trod laidOut (by kernel_rfl) (of_decide_eq_true (by kernel_rfl)) k1 bel lt1) (trodAll_cons_mk (Below.trod laidOut (by kernel_rfl) (of_decide_eq_true (by kernel_rfl)) k2 bel lt2) (trodAll_cons_mk (Below.trod laidOut (by kernel_rfl) (of_decide_eq_true (by kernel_rfl)) k3 bel lt3) (trodAll_cons_mk (Below.trod laidOut (by kernel_rfl) (of_decide_eq_true (by kernel_rfl)) k4 bel lt4) trodAll_mk0))))), rfl, bel.frame _, fun h => by cases h⟩
theorem rowsMake_named : Tryz.pinned.checked.prog.funcNamed Rows.rowsMakeRow.func = some 5 := by kernel_rfl
theorem rowsMake_inst : (Tryz.f5).isInstance Tryz.pinned.checked.prog Rows.rowsMakeRow.origin Rows.rowsMakeRow.targs := of_decide_eq_true (by kernel_rfl)
theorem rowsMake_wrap : (Tryz.f5).isWrapper Tryz.pinned.checked.prog Rows.rowsMakeRow.wrapper Rows.rowsMakeRow.mainSum := by unfold Func.isWrapper; rw [if_neg (of_decide_eq_false (by kernel_rfl))]; exact ⟨rfl, rfl⟩
theorem rowsMake_over : Rows.rowsMakeRow.holds Tryz.pinned (OpenSpec.ofChange Rows.rowsMakeSpec) :=
  OpenClaim.holds_of_wide 5 Tryz.f5 rfl rfl rfl rfl rfl rfl rfl ⟨rfl, rfl, rfl, rfl, rfl⟩ rfl rfl rfl rfl rfl rowsMake_named Tryz.func5 rowsMake_closed
    rowsMake_inst rowsMake_wrap
    (fun os started H enc _ => rowsMake_lifted os started H enc)
/-- The statement. -/
theorem rowsMake_proved : Rows.RowsMakeSaid := rowsMake_over
end Go.Proofs.YtboiepagonlnkaaGreat
