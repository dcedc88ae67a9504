/-
  Package rows: Make (contract).
-/
import Derived.Test.YtblffafmkpnjdaaYe
import Derived.Test.YtblffafmkpnjdaaEr
import Derived.Test.YtblffafmkpnjdaaLq
set_option linter.unusedSimpArgs false
set_option linter.unusedVariables false
set_option maxRecDepth 100000
namespace Go.Proofs.Ytblffafmkpnjdaa
open Go Go.RowKit
attribute [local irreducible] wpList

/-- A row. -/
structure Rw where
  a : Int
  b : Int
  n : P3
  t : P3
  u : P3
  ra : P3
  rb : P3
  mn : Int
  mt : Int
  mu : Int
  aim : Int
  rub : Int
  pn : Int
  pt : Int
  pu : Int
abbrev RoV (r : Rw) : Value := .agg #[.int .i64 r.a, .int .i64 r.b, .int .i64 r.n.x, .int .i64 r.n.y, .int .i64 r.n.z, .int .i64 r.t.x, .int .i64 r.t.y, .int .i64 r.t.z, .int .i64 r.u.x, .int .i64 r.u.y, .int .i64 r.u.z, .int .i64 r.ra.x, .int .i64 r.ra.y, .int .i64 r.ra.z, .int .i64 r.rb.x, .int .i64 r.rb.y, .int .i64 r.rb.z, .int .i64 r.mn, .int .i64 r.mt, .int .i64 r.mu, .int .i64 r.aim, .int .i64 r.rub, .int .i64 r.pn, .int .i64 r.pt, .int .i64 r.pu]
def Rw.i64 (r : Rw) : Prop := r.n.i64 ∧ r.ra.i64 ∧ r.rb.i64
def P3.zero : P3 := ⟨0, 0, 0⟩
def Rw.zero : Rw := ⟨0, 0, .zero, .zero, .zero, .zero, .zero, 0, 0, 0, 0, 0, 0, 0, 0⟩
/-- A row, whole. -/
def rowM (a b : Inr) (r : Rw) (gap t : Int) : Rw := ⟨r.a, r.b, r.n, (frO r.n).1, (frO r.n).2.1, r.ra, r.rb, btw a b r.ra r.rb r.n, btw a b r.ra r.rb (frO r.n).1, btw a b r.ra r.rb (frO r.n).2.1, aimv gap t, r.rub, r.pn, r.pt, r.pu⟩
def makeO (a b : Inr) (r : Rw) (gap t : Int) : Rw × Int := if (frO r.n).2.2 = 0 then (if (aimO gap t).2 = 0 then (rowM a b r gap t, 0) else (.zero, (aimO gap t).2)) else (.zero, (frO r.n).2.2)
set_option maxHeartbeats 2000000 in
@[go_sem high] theorem eq_row (w : World) (d : Nat) (x0 x1 x2 x3 x4 x5 x6 x7 x8 x9 x10 x11 x12 x13 x14 x15 x16 x17 x18 x19 x20 x21 x22 x23 x24 : Int) : (Op.equalIn (d + 3) 33 (.agg #[.int .i64 x0, .int .i64 x1, .int .i64 x2, .int .i64 x3, .int .i64 x4, .int .i64 x5, .int .i64 x6, .int .i64 x7, .int .i64 x8, .int .i64 x9, .int .i64 x10, .int .i64 x11, .int .i64 x12, .int .i64 x13, .int .i64 x14, .int .i64 x15, .int .i64 x16, .int .i64 x17, .int .i64 x18, .int .i64 x19, .int .i64 x20, .int .i64 x21, .int .i64 x22, .int .i64 x23, .int .i64 x24]) (.agg #[.int .i64 x0, .int .i64 x1, .int .i64 x2, .int .i64 x3, .int .i64 x4, .int .i64 x5, .int .i64 x6, .int .i64 x7, .int .i64 x8, .int .i64 x9, .int .i64 x10, .int .i64 x11, .int .i64 x12, .int .i64 x13, .int .i64 x14, .int .i64 x15, .int .i64 x16, .int .i64 x17, .int .i64 x18, .int .i64 x19, .int .i64 x20, .int .i64 x21, .int .i64 x22, .int .i64 x23, .int .i64 x24])).run Try.prog w = .ok true w := by
  go_simp
  try simp
theorem frO_i64 (n : P3) (hn : n.i64) : (frO n).1.i64 ∧ (frO n).2.1.i64 := by
  have z : P3.i64 ⟨0, 0, 0⟩ := p3i4 (by omega)
  unfold frO
  split
  · exact ⟨z, z⟩
  · exact ⟨cun_i64 _, ccr_i64 _ _⟩
section
open Go.ChangeShapes Go.WideShapes Go.ChangeAt Go.Joins
theorem flat_row {H : Type} {enc : TypeId × Value → H} {W : World} {base : Nat} {spare : Nat → Bool} {held : Bool} : Flat enc W base spare held 33 := by
  refine flat_struct enc W base spare held Try.underlying33 (cover (by kernel_rfl)) fun f hf => ?_
  simp only [List.mem_toArray, List.mem_cons, List.not_mem_nil, or_false] at hf
  rcases hf with rfl | rfl | rfl | rfl | rfl | rfl | rfl | rfl | rfl | rfl | rfl | rfl | rfl | rfl | rfl
  · exact flat_idx
  · exact flat_idx
  all_goals first | exact flat_vec | exact flat_fix
/-- A row that came in. -/
theorem open_row {H : Type} {enc : TypeId × Value → H} {W' : World} {r : Reach} {b0 base : Nat} {spare : Nat → Bool} {held : Bool} {v : Value} {d : DataW H} {p : List MemPlace}
    (hv : Value.okWide Try.prog W' r b0 33 v) (h : DataW.Trod enc Try.prog W' base spare held 33 v d p) : ∃ b : Rw, v = RoV b ∧ b.i64 := by
  obtain ⟨cs, rfl, hsz⟩ := okWide_struct Try.underlying33 hv
  obtain ⟨f, hf, rfl⟩ := flat_open flat_row (k := 25) (by kernel_rfl) hsz h
  exact ⟨⟨f 0, f 1, ⟨f 2, f 3, f 4⟩, ⟨f 5, f 6, f 7⟩, ⟨f 8, f 9, f 10⟩, ⟨f 11, f 12, f 13⟩, ⟨f 14, f 15, f 16⟩, f 17, f 18, f 19, f 20, f 21, f 22, f 23, f 24⟩, rfl, ⟨hf 2 (by omega), hf 3 (by omega), hf 4 (by omega)⟩, ⟨hf 11 (by omega), hf 12 (by omega), hf 13 (by omega)⟩, ⟨hf 14 (by omega), hf 15 (by omega), hf 16 (by omega)⟩⟩
end
end Go.Proofs.Ytblffafmkpnjdaa
