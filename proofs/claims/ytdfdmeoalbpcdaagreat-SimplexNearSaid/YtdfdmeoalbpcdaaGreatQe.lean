/-
  Package simplex: weights at every list of one to four points (contract; printed by gen_qe.py).
-/
import Derived.Test.YtdfdmeoalbpcdaaGreatQd
import Derived.Test.YtdfdmeoalbpcdaaGreatQp
set_option linter.unusedSimpArgs false
set_option linter.unusedVariables false
set_option maxRecDepth 100000
namespace Go.Proofs.YtdfdmeoalbpcdaaGreat
open Go Go.RowKit
abbrev Bd (B x : Int) : Prop := -B ≤ x ∧ x ≤ B
theorem bdm {A B a b : Int} (hA : 0 ≤ A) (ha : Bd A a) (hb : Bd B b) : Bd (A * B) (a * b) := by
  have hB : 0 ≤ B := by have := hb.1;have := hb.2;omega
  have h1 := Int.mul_nonneg (show 0 ≤ A - a by have := ha.2;omega) (show 0 ≤ B - b by have := hb.2;omega)
  have h2 := Int.mul_nonneg (show 0 ≤ A + a by have := ha.1;omega) (show 0 ≤ B + b by have := hb.1;omega)
  have h3 := Int.mul_nonneg (show 0 ≤ A - a by have := ha.2;omega) (show 0 ≤ B + b by have := hb.1;omega)
  have h4 := Int.mul_nonneg (show 0 ≤ A + a by have := ha.1;omega) (show 0 ≤ B - b by have := hb.2;omega)
  have e1 : (A - a) * (B - b) = A * B - A * b - a * B + a * b := by grind
  have e2 : (A + a) * (B + b) = A * B + A * b + a * B + a * b := by grind
  have e3 : (A - a) * (B + b) = A * B + A * b - a * B - a * b := by grind
  have e4 : (A + a) * (B - b) = A * B - A * b + a * B - a * b := by grind
  exact ⟨by omega,by omega⟩
theorem Qfc {B x : Int} (hB : B < M511) (h : Bd B x) : fz x = x := if_pos ⟨by have := h.1;omega,by have := h.2;omega⟩
theorem Qcz {B x : Int} (hB : B < M511) (h : Bd B x) : Fit x := ⟨by have := h.1;omega,by have := h.2;omega⟩
/-- 3 * 2^58; its powers. -/
def B1 : Int := 864691128455135232
def B2 : Int := B1 * B1
def B3 : Int := B1 * (2 * B2)
theorem Qhf : 0 ≤ B1 := by decide
theorem Qoh : 0 ≤ B2 := by decide
theorem Qoz : 64 * B3 < M511 := by unfold B3 B2 B1 M511;decide
theorem B2_lt : 2 * B2 < M511 := by unfold B2 B1 M511;decide
theorem B1_lt : 64 * B1 < M511 := by unfold B1 M511;decide
theorem B13 : 64 * B1 < B3 := by unfold B3 B2 B1;decide
theorem B23 : 64 * (2 * B2) < B3 := by unfold B3 B2 B1;decide
theorem Qec {a b c d : Int} (ha : Bd B1 a) (hb : Bd B1 b) (hc : Bd B1 c) (hd : Bd B1 d) : tw2 a b c d = dt2 a c d b ∧ Bd (2 * B2) (dt2 a c d b) := by
  have h1 : Bd B2 (a * b) := bdm Qhf ha hb
  have h2 : Bd B2 (c * d) := bdm Qhf hc hd
  have e : Bd (2 * B2) (a * b - c * d) := ⟨by have := h1.1;have := h2.2;omega,by have := h1.2;have := h2.1;omega⟩
  have hl := B2_lt
  have hn := Qoh
  unfold tw2 dt2
  rw [Qfc (B := B2) (by omega) h1,Qfc (B := B2) (by omega) h2,Qfc hl e]
  exact ⟨rfl,e⟩
theorem Qot {a t b u c v : Int} (ha : Bd B1 a) (hb : Bd B1 b) (hc : Bd B1 c) (ht : Bd (2 * B2) t) (hu : Bd (2 * B2) u) (hv : Bd (2 * B2) v) : m3F a t b u c v = a * t - b * u + c * v ∧ Bd (3 * B3) (a * t - b * u + c * v) := by
  have h1 : Bd B3 (a * t) := bdm Qhf ha ht
  have h2 : Bd B3 (b * u) := bdm Qhf hb hu
  have h3 : Bd B3 (c * v) := bdm Qhf hc hv
  have hl := Qoz
  have hn : 0 ≤ B3 := by have := B13;have := Qhf;omega
  have e1 : Bd (2 * B3) (a * t - b * u) := ⟨by have := h1.1;have := h2.2;omega,by have := h1.2;have := h2.1;omega⟩
  have e2 : Bd (3 * B3) (a * t - b * u + c * v) := ⟨by have := e1.1;have := h3.1;omega,by have := e1.2;have := h3.2;omega⟩
  unfold m3F
  rw [Qfc (B := B3) (by omega) h1,Qfc (B := B3) (by omega) h2,Qfc (B := B3) (by omega) h3,Qfc (B := 2 * B3) (by omega) e1,Qfc (B := 3 * B3) (by omega) e2]
  exact ⟨rfl,e2⟩
theorem Qay {p q : P3} (hp : Bd 536870912 p.x ∧ Bd 536870912 p.y ∧ Bd 536870912 p.z) (hq : Bd 536870912 q.x ∧ Bd 536870912 q.y ∧ Bd 536870912 q.z) : Bd B1 (p.dot q) := by
  have h1 := bdm (by omega) hp.1 hq.1
  have h2 := bdm (by omega) hp.2.1 hq.2.1
  have h3 := bdm (by omega) hp.2.2 hq.2.2
  unfold P3.dot B1
  exact ⟨by have := h1.1;have := h2.1;have := h3.1;omega,by have := h1.2;have := h2.2;have := h3.2;omega⟩
abbrev P3.bd (p : P3) : Prop := Bd 536870912 p.x ∧ Bd 536870912 p.y ∧ Bd 536870912 p.z
theorem Qew {p : P3} (h : p.may) : p.bd := by
  unfold P3.may may at h
  exact ⟨⟨by omega,by omega⟩,⟨by omega,by omega⟩,⟨by omega,by omega⟩⟩
theorem Qev {p q : P3} (hp : p.may) (hq : q.may) : (p.sub q).bd := by
  unfold P3.may may at hp hq
  exact ⟨⟨by simp only [P3.sub];omega,by simp only [P3.sub];omega⟩,⟨by simp only [P3.sub];omega,by simp only [P3.sub];omega⟩,⟨by simp only [P3.sub];omega,by simp only [P3.sub];omega⟩⟩
theorem Qaz {p : P3} (h : p.bd) : p.i64 := by
  obtain ⟨⟨a,b⟩,⟨c,d⟩,e,f⟩ := h
  exact ⟨⟨by omega,by omega⟩,⟨by omega,by omega⟩,⟨by omega,by omega⟩⟩
theorem Qcf {x : Int} (h : Bd B1 x) : fz (-x) = -x ∧ Bd B1 (-x) := by
  have e : Bd B1 (-x) := ⟨by have := h.2;omega,by have := h.1;omega⟩
  exact ⟨Qfc (by have := B1_lt;have := Qhf;omega) e,e⟩
/-- The products of edges, and, in the last column, those with the first point. -/
def gE (n : Int) (E : List P3) (a : P3) (i k : Int) : Int := if k = n then fz (-((E.getD i.toNat ⟨0,0,0⟩).dot a)) else (E.getD i.toNat ⟨0,0,0⟩).dot (E.getD k.toNat ⟨0,0,0⟩)
theorem Qoe (a : P3) (hm : a.may) (g0 off cap : Nat) (t0 : TypeId) (z0' : Nat × Nat) (bc : List Value) (w : World) (hb : w.heap[g0]? = some (.cells bc.toArray t0 z0')) (hl : off + 3 ≤ bc.length) (hb0 : (bc.drop (off)).take 3 = [.int .i64 a.x,.int .i64 a.y,.int .i64 a.z]) :
    Calls Tryz.prog 25 #[.slice (some ⟨g0,off,none⟩) 1 cap] w (RetW (cw [a]) (wd [a]) w) := by
  exact weights_1 a 1 g0 off cap t0 z0' bc w hb hl hb0 (Lib.hid fun gn ge gl w1 hk f1 f2 f3 => minor_0 w1 _ _ _ (-1))
theorem ggs_2 (a eb : P3) (ha : a.bd) (heb : eb.bd) (g0 off cap : Nat) (t0 : TypeId) (z0' : Nat × Nat) (bc : List Value) (gn ge gl : Nat) (w1 : World) (hb : w1.heap[g0]? = some (.cells bc.toArray t0 z0')) (hl : off + 3 ≤ bc.length) (hb0 : (bc.drop off).take 3 = [.int .i64 a.x,.int .i64 a.y,.int .i64 a.z])
    (f1 : w1.heap[gn]? = some (.cells #[.int .i64 1] 3 (0,0))) (f2 : w1.heap[ge]? = some (.cells [.int .i64 eb.x,.int .i64 eb.y,.int .i64 eb.z,.int .i64 0,.int .i64 0,.int .i64 0,.int .i64 0,.int .i64 0,.int .i64 0].toArray 93 (0,0))) (f3 : w1.heap[gl]? = some (.cells #[.slice (some ⟨g0,off,none⟩) 2 cap] 22 (0,0))) :
    GGs w1 (gE 1 [eb] a) 1 (.pointer (some ⟨gn,0,none⟩)) (.pointer (some ⟨ge,0,none⟩)) (.pointer (some ⟨gl,0,none⟩)) := by
  intro i k h0 h1 h2 h3
  have hi : i = 0 := by omega
  have hk : k = 0 ∨ k = 1 := by omega
  clear h0 h1 h2 h3
  rcases hi with rfl <;> rcases hk with rfl|rfl
  · exact ⟨fun w' hw => g_ne 1 0 0 eb eb (Qaz heb) (Qaz heb) rfl (by decide) (by decide) gn ge gl _ rfl w' (Qal hw f1) (Qal hw f2) rfl rfl,Qdl (Qaz heb) (Qaz heb)⟩
  · exact ⟨fun w' hw => g_eq 1 0 eb a (Qaz heb) (Qaz ha) (by decide) gn ge gl g0 off 2 cap t0 z0' _ bc rfl w' (Qal hw f1) (Qal hw f2) (Qal hw f3) (Qal hw hb) (by decide) rfl hb0 hl,Qbx _⟩
theorem mv_2_0 (a eb : P3) (ha : a.bd) (heb : eb.bd) : (aF (gE 1 [eb] a) 1 (-1) 0 0) = (eb.dot eb) ∧ Bd B1 (eb.dot eb) := by
  have q00 : aF (gE 1 [eb] a) 1 (-1) 0 0 = eb.dot eb := rfl
  have b00 : Bd B1 (eb.dot eb) := Qay heb heb
  rw [q00]
  exact ⟨rfl,b00⟩
theorem mv_2_1 (a eb : P3) (ha : a.bd) (heb : eb.bd) : (aF (gE 1 [eb] a) 1 (0) 0 0) = (-eb.dot a) ∧ Bd B1 (-eb.dot a) := by
  have q00 : aF (gE 1 [eb] a) 1 (0) 0 0 = -eb.dot a := (Qcf (Qay heb ha)).1
  have b00 : Bd B1 (-eb.dot a) := (Qcf (Qay heb ha)).2
  rw [q00]
  exact ⟨rfl,b00⟩
theorem Qnu (a b : P3) (hm : a.may ∧ b.may) (g0 off cap : Nat) (t0 : TypeId) (z0' : Nat × Nat) (bc : List Value) (w : World) (hb : w.heap[g0]? = some (.cells bc.toArray t0 z0')) (hl : off + 6 ≤ bc.length) (hb0 : (bc.drop (off)).take 3 = [.int .i64 a.x,.int .i64 a.y,.int .i64 a.z]) (hb1 : (bc.drop (off + 3)).take 3 = [.int .i64 b.x,.int .i64 b.y,.int .i64 b.z]) :
    Calls Tryz.prog 25 #[.slice (some ⟨g0,off,none⟩) 2 cap] w (RetW (cw [a,b]) (wd [a,b]) w) := by
  obtain ⟨ma,mb⟩ := hm
  have ha := Qew ma
  have heb := Qev mb ma
  have v0 := mv_2_0 a (b.sub a) ha heb
  have v1 := mv_2_1 a (b.sub a) ha heb
  have hL := Qoz
  have hL1 := B13
  have hL2 := B23
  have hL0 := Qhf
  have hL3 := Qoh
  obtain ⟨y0,c0⟩ := v0
  obtain ⟨y1,c1⟩ := v1
  have cc0 : Bd (2 * B1) (((b.sub a).dot (b.sub a)) - (-(b.sub a).dot a)) := ⟨by have := c0.1;have := c1.2;omega,by have := c0.2;have := c1.1;omega⟩
  have ff0 : fz (((b.sub a).dot (b.sub a)) - (-(b.sub a).dot a)) = (((b.sub a).dot (b.sub a)) - (-(b.sub a).dot a)) := Qfc (B := 2 * B1) (by omega) cc0
  have R := weights_2 a b (b.sub a) ((b.sub a).dot (b.sub a)) (((b.sub a).dot (b.sub a)) - (-(b.sub a).dot a)) (-(b.sub a).dot a) g0 off cap t0 z0' bc w hb hl hb0 hb1 (Lib.hid fun w1 => Qfu b a (Qaz heb) w1) (Lib.hid fun gn ge gl w1 hk f1 f2 f3 => by have := minor_1 w1 _ _ _ (gE 1 [b.sub a] a) (-1) (ggs_2 a (b.sub a) ha heb g0 off cap t0 z0' bc gn ge gl w1 (Qal hk hb) (by omega) hb0 f1 f2 f3);rw [y0] at this;exact this) (Lib.hid fun gn ge gl w1 hk f1 f2 f3 => by have := minor_1 w1 _ _ _ (gE 1 [b.sub a] a) (0) (ggs_2 a (b.sub a) ha heb g0 off cap t0 z0' bc gn ge gl w1 (Qal hk hb) (by omega) hb0 f1 f2 f3);rw [y1] at this;exact this) (Lib.hid fun w1 => by have := Qer ((b.sub a).dot (b.sub a)) (-(b.sub a).dot a) (Qcz (B := 1 * B1) (by omega) ⟨by have := c0.1;omega,by have := c0.2;omega⟩) (Qcz (B := B1) (by omega) c1) w1;rw [ff0] at this;exact this)
  have e : [(((b.sub a).dot (b.sub a)) - (-(b.sub a).dot a)),(-(b.sub a).dot a)] = cw [a,b] := by
    unfold cw wv
    simp only [tot,List.cons.injEq,and_true]
    omega
  rw [e] at R
  exact R
theorem ggs_3 (a eb ec : P3) (ha : a.bd) (heb : eb.bd) (hec : ec.bd) (g0 off cap : Nat) (t0 : TypeId) (z0' : Nat × Nat) (bc : List Value) (gn ge gl : Nat) (w1 : World) (hb : w1.heap[g0]? = some (.cells bc.toArray t0 z0')) (hl : off + 3 ≤ bc.length) (hb0 : (bc.drop off).take 3 = [.int .i64 a.x,.int .i64 a.y,.int .i64 a.z])
    (f1 : w1.heap[gn]? = some (.cells #[.int .i64 2] 3 (0,0))) (f2 : w1.heap[ge]? = some (.cells [.int .i64 eb.x,.int .i64 eb.y,.int .i64 eb.z,.int .i64 ec.x,.int .i64 ec.y,.int .i64 ec.z,.int .i64 0,.int .i64 0,.int .i64 0].toArray 93 (0,0))) (f3 : w1.heap[gl]? = some (.cells #[.slice (some ⟨g0,off,none⟩) 3 cap] 22 (0,0))) :
    GGs w1 (gE 2 [eb,ec] a) 2 (.pointer (some ⟨gn,0,none⟩)) (.pointer (some ⟨ge,0,none⟩)) (.pointer (some ⟨gl,0,none⟩)) := by
  intro i k h0 h1 h2 h3
  have hi : i = 0 ∨ i = 1 := by omega
  have hk : k = 0 ∨ k = 1 ∨ k = 2 := by omega
  clear h0 h1 h2 h3
  rcases hi with rfl|rfl <;> rcases hk with rfl|rfl|rfl
  · exact ⟨fun w' hw => g_ne 2 0 0 eb eb (Qaz heb) (Qaz heb) rfl (by decide) (by decide) gn ge gl _ rfl w' (Qal hw f1) (Qal hw f2) rfl rfl,Qdl (Qaz heb) (Qaz heb)⟩
  · exact ⟨fun w' hw => g_ne 2 0 1 eb ec (Qaz heb) (Qaz hec) rfl (by decide) (by decide) gn ge gl _ rfl w' (Qal hw f1) (Qal hw f2) rfl rfl,Qdl (Qaz heb) (Qaz hec)⟩
  · exact ⟨fun w' hw => g_eq 2 0 eb a (Qaz heb) (Qaz ha) (by decide) gn ge gl g0 off 3 cap t0 z0' _ bc rfl w' (Qal hw f1) (Qal hw f2) (Qal hw f3) (Qal hw hb) (by decide) rfl hb0 hl,Qbx _⟩
  · exact ⟨fun w' hw => g_ne 2 1 0 ec eb (Qaz hec) (Qaz heb) rfl (by decide) (by decide) gn ge gl _ rfl w' (Qal hw f1) (Qal hw f2) rfl rfl,Qdl (Qaz hec) (Qaz heb)⟩
  · exact ⟨fun w' hw => g_ne 2 1 1 ec ec (Qaz hec) (Qaz hec) rfl (by decide) (by decide) gn ge gl _ rfl w' (Qal hw f1) (Qal hw f2) rfl rfl,Qdl (Qaz hec) (Qaz hec)⟩
  · exact ⟨fun w' hw => g_eq 2 1 ec a (Qaz hec) (Qaz ha) (by decide) gn ge gl g0 off 3 cap t0 z0' _ bc rfl w' (Qal hw f1) (Qal hw f2) (Qal hw f3) (Qal hw hb) (by decide) rfl hb0 hl,Qbx _⟩
theorem mv_3_0 (a eb ec : P3) (ha : a.bd) (heb : eb.bd) (hec : ec.bd) : (tw2 (aF (gE 2 [eb,ec] a) 2 (-1) 0 0) (aF (gE 2 [eb,ec] a) 2 (-1) 1 1) (aF (gE 2 [eb,ec] a) 2 (-1) 0 1) (aF (gE 2 [eb,ec] a) 2 (-1) 1 0)) = (dt2 (eb.dot eb) (eb.dot ec) (ec.dot eb) (ec.dot ec)) ∧ Bd (2 * B2) (dt2 (eb.dot eb) (eb.dot ec) (ec.dot eb) (ec.dot ec)) := by
  have q00 : aF (gE 2 [eb,ec] a) 2 (-1) 0 0 = eb.dot eb := rfl
  have b00 : Bd B1 (eb.dot eb) := Qay heb heb
  have q01 : aF (gE 2 [eb,ec] a) 2 (-1) 0 1 = eb.dot ec := rfl
  have b01 : Bd B1 (eb.dot ec) := Qay heb hec
  have q10 : aF (gE 2 [eb,ec] a) 2 (-1) 1 0 = ec.dot eb := rfl
  have b10 : Bd B1 (ec.dot eb) := Qay hec heb
  have q11 : aF (gE 2 [eb,ec] a) 2 (-1) 1 1 = ec.dot ec := rfl
  have b11 : Bd B1 (ec.dot ec) := Qay hec hec
  rw [q00,q01,q10,q11]
  exact Qec b00 b11 b01 b10
theorem mv_3_1 (a eb ec : P3) (ha : a.bd) (heb : eb.bd) (hec : ec.bd) : (tw2 (aF (gE 2 [eb,ec] a) 2 (0) 0 0) (aF (gE 2 [eb,ec] a) 2 (0) 1 1) (aF (gE 2 [eb,ec] a) 2 (0) 0 1) (aF (gE 2 [eb,ec] a) 2 (0) 1 0)) = (dt2 (-eb.dot a) (eb.dot ec) (-ec.dot a) (ec.dot ec)) ∧ Bd (2 * B2) (dt2 (-eb.dot a) (eb.dot ec) (-ec.dot a) (ec.dot ec)) := by
  have q00 : aF (gE 2 [eb,ec] a) 2 (0) 0 0 = -eb.dot a := (Qcf (Qay heb ha)).1
  have b00 : Bd B1 (-eb.dot a) := (Qcf (Qay heb ha)).2
  have q01 : aF (gE 2 [eb,ec] a) 2 (0) 0 1 = eb.dot ec := rfl
  have b01 : Bd B1 (eb.dot ec) := Qay heb hec
  have q10 : aF (gE 2 [eb,ec] a) 2 (0) 1 0 = -ec.dot a := (Qcf (Qay hec ha)).1
  have b10 : Bd B1 (-ec.dot a) := (Qcf (Qay hec ha)).2
  have q11 : aF (gE 2 [eb,ec] a) 2 (0) 1 1 = ec.dot ec := rfl
  have b11 : Bd B1 (ec.dot ec) := Qay hec hec
  rw [q00,q01,q10,q11]
  exact Qec b00 b11 b01 b10
theorem mv_3_2 (a eb ec : P3) (ha : a.bd) (heb : eb.bd) (hec : ec.bd) : (tw2 (aF (gE 2 [eb,ec] a) 2 (1) 0 0) (aF (gE 2 [eb,ec] a) 2 (1) 1 1) (aF (gE 2 [eb,ec] a) 2 (1) 0 1) (aF (gE 2 [eb,ec] a) 2 (1) 1 0)) = (dt2 (eb.dot eb) (-eb.dot a) (ec.dot eb) (-ec.dot a)) ∧ Bd (2 * B2) (dt2 (eb.dot eb) (-eb.dot a) (ec.dot eb) (-ec.dot a)) := by
  have q00 : aF (gE 2 [eb,ec] a) 2 (1) 0 0 = eb.dot eb := rfl
  have b00 : Bd B1 (eb.dot eb) := Qay heb heb
  have q01 : aF (gE 2 [eb,ec] a) 2 (1) 0 1 = -eb.dot a := (Qcf (Qay heb ha)).1
  have b01 : Bd B1 (-eb.dot a) := (Qcf (Qay heb ha)).2
  have q10 : aF (gE 2 [eb,ec] a) 2 (1) 1 0 = ec.dot eb := rfl
  have b10 : Bd B1 (ec.dot eb) := Qay hec heb
  have q11 : aF (gE 2 [eb,ec] a) 2 (1) 1 1 = -ec.dot a := (Qcf (Qay hec ha)).1
  have b11 : Bd B1 (-ec.dot a) := (Qcf (Qay hec ha)).2
  rw [q00,q01,q10,q11]
  exact Qec b00 b11 b01 b10
theorem Qoq (a b c : P3) (hm : a.may ∧ b.may ∧ c.may) (g0 off cap : Nat) (t0 : TypeId) (z0' : Nat × Nat) (bc : List Value) (w : World) (hb : w.heap[g0]? = some (.cells bc.toArray t0 z0')) (hl : off + 9 ≤ bc.length) (hb0 : (bc.drop (off)).take 3 = [.int .i64 a.x,.int .i64 a.y,.int .i64 a.z]) (hb1 : (bc.drop (off + 3)).take 3 = [.int .i64 b.x,.int .i64 b.y,.int .i64 b.z]) (hb2 : (bc.drop (off + 6)).take 3 = [.int .i64 c.x,.int .i64 c.y,.int .i64 c.z]) :
    Calls Tryz.prog 25 #[.slice (some ⟨g0,off,none⟩) 3 cap] w (RetW (cw [a,b,c]) (wd [a,b,c]) w) := by
  obtain ⟨ma,mb,mc⟩ := hm
  have ha := Qew ma
  have heb := Qev mb ma
  have hec := Qev mc ma
  have v0 := mv_3_0 a (b.sub a) (c.sub a) ha heb hec
  have v1 := mv_3_1 a (b.sub a) (c.sub a) ha heb hec
  have v2 := mv_3_2 a (b.sub a) (c.sub a) ha heb hec
  have hL := Qoz
  have hL1 := B13
  have hL2 := B23
  have hL0 := Qhf
  have hL3 := Qoh
  obtain ⟨y0,c0⟩ := v0
  obtain ⟨y1,c1⟩ := v1
  obtain ⟨y2,c2⟩ := v2
  have cc0 : Bd (2 * (2 * B2)) ((dt2 ((b.sub a).dot (b.sub a)) ((b.sub a).dot (c.sub a)) ((c.sub a).dot (b.sub a)) ((c.sub a).dot (c.sub a))) - (dt2 (-(b.sub a).dot a) ((b.sub a).dot (c.sub a)) (-(c.sub a).dot a) ((c.sub a).dot (c.sub a)))) := ⟨by have := c0.1;have := c1.2;omega,by have := c0.2;have := c1.1;omega⟩
  have ff0 : fz ((dt2 ((b.sub a).dot (b.sub a)) ((b.sub a).dot (c.sub a)) ((c.sub a).dot (b.sub a)) ((c.sub a).dot (c.sub a))) - (dt2 (-(b.sub a).dot a) ((b.sub a).dot (c.sub a)) (-(c.sub a).dot a) ((c.sub a).dot (c.sub a)))) = ((dt2 ((b.sub a).dot (b.sub a)) ((b.sub a).dot (c.sub a)) ((c.sub a).dot (b.sub a)) ((c.sub a).dot (c.sub a))) - (dt2 (-(b.sub a).dot a) ((b.sub a).dot (c.sub a)) (-(c.sub a).dot a) ((c.sub a).dot (c.sub a)))) := Qfc (B := 2 * (2 * B2)) (by omega) cc0
  have cc1 : Bd (3 * (2 * B2)) (((dt2 ((b.sub a).dot (b.sub a)) ((b.sub a).dot (c.sub a)) ((c.sub a).dot (b.sub a)) ((c.sub a).dot (c.sub a))) - (dt2 (-(b.sub a).dot a) ((b.sub a).dot (c.sub a)) (-(c.sub a).dot a) ((c.sub a).dot (c.sub a)))) - (dt2 ((b.sub a).dot (b.sub a)) (-(b.sub a).dot a) ((c.sub a).dot (b.sub a)) (-(c.sub a).dot a))) := ⟨by have := cc0.1;have := c2.2;omega,by have := cc0.2;have := c2.1;omega⟩
  have ff1 : fz (((dt2 ((b.sub a).dot (b.sub a)) ((b.sub a).dot (c.sub a)) ((c.sub a).dot (b.sub a)) ((c.sub a).dot (c.sub a))) - (dt2 (-(b.sub a).dot a) ((b.sub a).dot (c.sub a)) (-(c.sub a).dot a) ((c.sub a).dot (c.sub a)))) - (dt2 ((b.sub a).dot (b.sub a)) (-(b.sub a).dot a) ((c.sub a).dot (b.sub a)) (-(c.sub a).dot a))) = (((dt2 ((b.sub a).dot (b.sub a)) ((b.sub a).dot (c.sub a)) ((c.sub a).dot (b.sub a)) ((c.sub a).dot (c.sub a))) - (dt2 (-(b.sub a).dot a) ((b.sub a).dot (c.sub a)) (-(c.sub a).dot a) ((c.sub a).dot (c.sub a)))) - (dt2 ((b.sub a).dot (b.sub a)) (-(b.sub a).dot a) ((c.sub a).dot (b.sub a)) (-(c.sub a).dot a))) := Qfc (B := 3 * (2 * B2)) (by omega) cc1
  have R := weights_3 a b c (b.sub a) (c.sub a) (dt2 ((b.sub a).dot (b.sub a)) ((b.sub a).dot (c.sub a)) ((c.sub a).dot (b.sub a)) ((c.sub a).dot (c.sub a))) ((dt2 ((b.sub a).dot (b.sub a)) ((b.sub a).dot (c.sub a)) ((c.sub a).dot (b.sub a)) ((c.sub a).dot (c.sub a))) - (dt2 (-(b.sub a).dot a) ((b.sub a).dot (c.sub a)) (-(c.sub a).dot a) ((c.sub a).dot (c.sub a)))) (((dt2 ((b.sub a).dot (b.sub a)) ((b.sub a).dot (c.sub a)) ((c.sub a).dot (b.sub a)) ((c.sub a).dot (c.sub a))) - (dt2 (-(b.sub a).dot a) ((b.sub a).dot (c.sub a)) (-(c.sub a).dot a) ((c.sub a).dot (c.sub a)))) - (dt2 ((b.sub a).dot (b.sub a)) (-(b.sub a).dot a) ((c.sub a).dot (b.sub a)) (-(c.sub a).dot a))) (dt2 (-(b.sub a).dot a) ((b.sub a).dot (c.sub a)) (-(c.sub a).dot a) ((c.sub a).dot (c.sub a))) (dt2 ((b.sub a).dot (b.sub a)) (-(b.sub a).dot a) ((c.sub a).dot (b.sub a)) (-(c.sub a).dot a)) g0 off cap t0 z0' bc w hb hl hb0 hb1 hb2 (Lib.hid fun w1 => Qfu b a (Qaz heb) w1) (Lib.hid fun w1 => Qfu c a (Qaz hec) w1) (Lib.hid fun gn ge gl w1 hk f1 f2 f3 => by have := minor_2 w1 _ _ _ (gE 2 [b.sub a,c.sub a] a) (-1) (ggs_3 a (b.sub a) (c.sub a) ha heb hec g0 off cap t0 z0' bc gn ge gl w1 (Qal hk hb) (by omega) hb0 f1 f2 f3);rw [y0] at this;exact this) (Lib.hid fun gn ge gl w1 hk f1 f2 f3 => by have := minor_2 w1 _ _ _ (gE 2 [b.sub a,c.sub a] a) (0) (ggs_3 a (b.sub a) (c.sub a) ha heb hec g0 off cap t0 z0' bc gn ge gl w1 (Qal hk hb) (by omega) hb0 f1 f2 f3);rw [y1] at this;exact this) (Lib.hid fun gn ge gl w1 hk f1 f2 f3 => by have := minor_2 w1 _ _ _ (gE 2 [b.sub a,c.sub a] a) (1) (ggs_3 a (b.sub a) (c.sub a) ha heb hec g0 off cap t0 z0' bc gn ge gl w1 (Qal hk hb) (by omega) hb0 f1 f2 f3);rw [y2] at this;exact this) (Lib.hid fun w1 => by have := Qer (dt2 ((b.sub a).dot (b.sub a)) ((b.sub a).dot (c.sub a)) ((c.sub a).dot (b.sub a)) ((c.sub a).dot (c.sub a))) (dt2 (-(b.sub a).dot a) ((b.sub a).dot (c.sub a)) (-(c.sub a).dot a) ((c.sub a).dot (c.sub a))) (Qcz (B := 1 * (2 * B2)) (by omega) ⟨by have := c0.1;omega,by have := c0.2;omega⟩) (Qcz (B := (2 * B2)) (by omega) c1) w1;rw [ff0] at this;exact this) (Lib.hid fun w1 => by have := Qer ((dt2 ((b.sub a).dot (b.sub a)) ((b.sub a).dot (c.sub a)) ((c.sub a).dot (b.sub a)) ((c.sub a).dot (c.sub a))) - (dt2 (-(b.sub a).dot a) ((b.sub a).dot (c.sub a)) (-(c.sub a).dot a) ((c.sub a).dot (c.sub a)))) (dt2 ((b.sub a).dot (b.sub a)) (-(b.sub a).dot a) ((c.sub a).dot (b.sub a)) (-(c.sub a).dot a)) (Qcz (B := 2 * (2 * B2)) (by omega) cc0) (Qcz (B := (2 * B2)) (by omega) c2) w1;rw [ff1] at this;exact this)
  have e : [(((dt2 ((b.sub a).dot (b.sub a)) ((b.sub a).dot (c.sub a)) ((c.sub a).dot (b.sub a)) ((c.sub a).dot (c.sub a))) - (dt2 (-(b.sub a).dot a) ((b.sub a).dot (c.sub a)) (-(c.sub a).dot a) ((c.sub a).dot (c.sub a)))) - (dt2 ((b.sub a).dot (b.sub a)) (-(b.sub a).dot a) ((c.sub a).dot (b.sub a)) (-(c.sub a).dot a))),(dt2 (-(b.sub a).dot a) ((b.sub a).dot (c.sub a)) (-(c.sub a).dot a) ((c.sub a).dot (c.sub a))),(dt2 ((b.sub a).dot (b.sub a)) (-(b.sub a).dot a) ((c.sub a).dot (b.sub a)) (-(c.sub a).dot a))] = cw [a,b,c] := by
    unfold cw wv
    simp only [tot,List.cons.injEq,and_true]
    omega
  rw [e] at R
  exact R
theorem ggs_4 (a eb ec eq : P3) (ha : a.bd) (heb : eb.bd) (hec : ec.bd) (heq : eq.bd) (g0 off cap : Nat) (t0 : TypeId) (z0' : Nat × Nat) (bc : List Value) (gn ge gl : Nat) (w1 : World) (hb : w1.heap[g0]? = some (.cells bc.toArray t0 z0')) (hl : off + 3 ≤ bc.length) (hb0 : (bc.drop off).take 3 = [.int .i64 a.x,.int .i64 a.y,.int .i64 a.z])
    (f1 : w1.heap[gn]? = some (.cells #[.int .i64 3] 3 (0,0))) (f2 : w1.heap[ge]? = some (.cells [.int .i64 eb.x,.int .i64 eb.y,.int .i64 eb.z,.int .i64 ec.x,.int .i64 ec.y,.int .i64 ec.z,.int .i64 eq.x,.int .i64 eq.y,.int .i64 eq.z].toArray 93 (0,0))) (f3 : w1.heap[gl]? = some (.cells #[.slice (some ⟨g0,off,none⟩) 4 cap] 22 (0,0))) :
    GGs w1 (gE 3 [eb,ec,eq] a) 3 (.pointer (some ⟨gn,0,none⟩)) (.pointer (some ⟨ge,0,none⟩)) (.pointer (some ⟨gl,0,none⟩)) := by
  intro i k h0 h1 h2 h3
  have hi : i = 0 ∨ i = 1 ∨ i = 2 := by omega
  have hk : k = 0 ∨ k = 1 ∨ k = 2 ∨ k = 3 := by omega
  clear h0 h1 h2 h3
  rcases hi with rfl|rfl|rfl <;> rcases hk with rfl|rfl|rfl|rfl
  · exact ⟨fun w' hw => g_ne 3 0 0 eb eb (Qaz heb) (Qaz heb) rfl (by decide) (by decide) gn ge gl _ rfl w' (Qal hw f1) (Qal hw f2) rfl rfl,Qdl (Qaz heb) (Qaz heb)⟩
  · exact ⟨fun w' hw => g_ne 3 0 1 eb ec (Qaz heb) (Qaz hec) rfl (by decide) (by decide) gn ge gl _ rfl w' (Qal hw f1) (Qal hw f2) rfl rfl,Qdl (Qaz heb) (Qaz hec)⟩
  · exact ⟨fun w' hw => g_ne 3 0 2 eb eq (Qaz heb) (Qaz heq) rfl (by decide) (by decide) gn ge gl _ rfl w' (Qal hw f1) (Qal hw f2) rfl rfl,Qdl (Qaz heb) (Qaz heq)⟩
  · exact ⟨fun w' hw => g_eq 3 0 eb a (Qaz heb) (Qaz ha) (by decide) gn ge gl g0 off 4 cap t0 z0' _ bc rfl w' (Qal hw f1) (Qal hw f2) (Qal hw f3) (Qal hw hb) (by decide) rfl hb0 hl,Qbx _⟩
  · exact ⟨fun w' hw => g_ne 3 1 0 ec eb (Qaz hec) (Qaz heb) rfl (by decide) (by decide) gn ge gl _ rfl w' (Qal hw f1) (Qal hw f2) rfl rfl,Qdl (Qaz hec) (Qaz heb)⟩
  · exact ⟨fun w' hw => g_ne 3 1 1 ec ec (Qaz hec) (Qaz hec) rfl (by decide) (by decide) gn ge gl _ rfl w' (Qal hw f1) (Qal hw f2) rfl rfl,Qdl (Qaz hec) (Qaz hec)⟩
  · exact ⟨fun w' hw => g_ne 3 1 2 ec eq (Qaz hec) (Qaz heq) rfl (by decide) (by decide) gn ge gl _ rfl w' (Qal hw f1) (Qal hw f2) rfl rfl,Qdl (Qaz hec) (Qaz heq)⟩
  · exact ⟨fun w' hw => g_eq 3 1 ec a (Qaz hec) (Qaz ha) (by decide) gn ge gl g0 off 4 cap t0 z0' _ bc rfl w' (Qal hw f1) (Qal hw f2) (Qal hw f3) (Qal hw hb) (by decide) rfl hb0 hl,Qbx _⟩
  · exact ⟨fun w' hw => g_ne 3 2 0 eq eb (Qaz heq) (Qaz heb) rfl (by decide) (by decide) gn ge gl _ rfl w' (Qal hw f1) (Qal hw f2) rfl rfl,Qdl (Qaz heq) (Qaz heb)⟩
  · exact ⟨fun w' hw => g_ne 3 2 1 eq ec (Qaz heq) (Qaz hec) rfl (by decide) (by decide) gn ge gl _ rfl w' (Qal hw f1) (Qal hw f2) rfl rfl,Qdl (Qaz heq) (Qaz hec)⟩
  · exact ⟨fun w' hw => g_ne 3 2 2 eq eq (Qaz heq) (Qaz heq) rfl (by decide) (by decide) gn ge gl _ rfl w' (Qal hw f1) (Qal hw f2) rfl rfl,Qdl (Qaz heq) (Qaz heq)⟩
  · exact ⟨fun w' hw => g_eq 3 2 eq a (Qaz heq) (Qaz ha) (by decide) gn ge gl g0 off 4 cap t0 z0' _ bc rfl w' (Qal hw f1) (Qal hw f2) (Qal hw f3) (Qal hw hb) (by decide) rfl hb0 hl,Qbx _⟩
theorem mv_4_0 (a eb ec eq : P3) (ha : a.bd) (heb : eb.bd) (hec : ec.bd) (heq : eq.bd) : (m3F (aF (gE 3 [eb,ec,eq] a) 3 (-1) 0 0) (tw2 (aF (gE 3 [eb,ec,eq] a) 3 (-1) 1 1) (aF (gE 3 [eb,ec,eq] a) 3 (-1) 2 2) (aF (gE 3 [eb,ec,eq] a) 3 (-1) 1 2) (aF (gE 3 [eb,ec,eq] a) 3 (-1) 2 1)) (aF (gE 3 [eb,ec,eq] a) 3 (-1) 0 1) (tw2 (aF (gE 3 [eb,ec,eq] a) 3 (-1) 1 0) (aF (gE 3 [eb,ec,eq] a) 3 (-1) 2 2) (aF (gE 3 [eb,ec,eq] a) 3 (-1) 1 2) (aF (gE 3 [eb,ec,eq] a) 3 (-1) 2 0)) (aF (gE 3 [eb,ec,eq] a) 3 (-1) 0 2) (tw2 (aF (gE 3 [eb,ec,eq] a) 3 (-1) 1 0) (aF (gE 3 [eb,ec,eq] a) 3 (-1) 2 1) (aF (gE 3 [eb,ec,eq] a) 3 (-1) 1 1) (aF (gE 3 [eb,ec,eq] a) 3 (-1) 2 0))) = (dt3 (eb.dot eb) (eb.dot ec) (eb.dot eq) (ec.dot eb) (ec.dot ec) (ec.dot eq) (eq.dot eb) (eq.dot ec) (eq.dot eq)) ∧ Bd (3 * B3) (dt3 (eb.dot eb) (eb.dot ec) (eb.dot eq) (ec.dot eb) (ec.dot ec) (ec.dot eq) (eq.dot eb) (eq.dot ec) (eq.dot eq)) := by
  have q00 : aF (gE 3 [eb,ec,eq] a) 3 (-1) 0 0 = eb.dot eb := rfl
  have b00 : Bd B1 (eb.dot eb) := Qay heb heb
  have q01 : aF (gE 3 [eb,ec,eq] a) 3 (-1) 0 1 = eb.dot ec := rfl
  have b01 : Bd B1 (eb.dot ec) := Qay heb hec
  have q02 : aF (gE 3 [eb,ec,eq] a) 3 (-1) 0 2 = eb.dot eq := rfl
  have b02 : Bd B1 (eb.dot eq) := Qay heb heq
  have q10 : aF (gE 3 [eb,ec,eq] a) 3 (-1) 1 0 = ec.dot eb := rfl
  have b10 : Bd B1 (ec.dot eb) := Qay hec heb
  have q11 : aF (gE 3 [eb,ec,eq] a) 3 (-1) 1 1 = ec.dot ec := rfl
  have b11 : Bd B1 (ec.dot ec) := Qay hec hec
  have q12 : aF (gE 3 [eb,ec,eq] a) 3 (-1) 1 2 = ec.dot eq := rfl
  have b12 : Bd B1 (ec.dot eq) := Qay hec heq
  have q20 : aF (gE 3 [eb,ec,eq] a) 3 (-1) 2 0 = eq.dot eb := rfl
  have b20 : Bd B1 (eq.dot eb) := Qay heq heb
  have q21 : aF (gE 3 [eb,ec,eq] a) 3 (-1) 2 1 = eq.dot ec := rfl
  have b21 : Bd B1 (eq.dot ec) := Qay heq hec
  have q22 : aF (gE 3 [eb,ec,eq] a) 3 (-1) 2 2 = eq.dot eq := rfl
  have b22 : Bd B1 (eq.dot eq) := Qay heq heq
  rw [q00,q01,q02,q10,q11,q12,q20,q21,q22]
  have t0 := Qec b11 b22 b12 b21
  have t1 := Qec b10 b22 b12 b20
  have t2 := Qec b10 b21 b11 b20
  rw [t0.1,t1.1,t2.1]
  exact Qot b00 b01 b02 t0.2 t1.2 t2.2
theorem mv_4_1 (a eb ec eq : P3) (ha : a.bd) (heb : eb.bd) (hec : ec.bd) (heq : eq.bd) : (m3F (aF (gE 3 [eb,ec,eq] a) 3 (0) 0 0) (tw2 (aF (gE 3 [eb,ec,eq] a) 3 (0) 1 1) (aF (gE 3 [eb,ec,eq] a) 3 (0) 2 2) (aF (gE 3 [eb,ec,eq] a) 3 (0) 1 2) (aF (gE 3 [eb,ec,eq] a) 3 (0) 2 1)) (aF (gE 3 [eb,ec,eq] a) 3 (0) 0 1) (tw2 (aF (gE 3 [eb,ec,eq] a) 3 (0) 1 0) (aF (gE 3 [eb,ec,eq] a) 3 (0) 2 2) (aF (gE 3 [eb,ec,eq] a) 3 (0) 1 2) (aF (gE 3 [eb,ec,eq] a) 3 (0) 2 0)) (aF (gE 3 [eb,ec,eq] a) 3 (0) 0 2) (tw2 (aF (gE 3 [eb,ec,eq] a) 3 (0) 1 0) (aF (gE 3 [eb,ec,eq] a) 3 (0) 2 1) (aF (gE 3 [eb,ec,eq] a) 3 (0) 1 1) (aF (gE 3 [eb,ec,eq] a) 3 (0) 2 0))) = (dt3 (-eb.dot a) (eb.dot ec) (eb.dot eq) (-ec.dot a) (ec.dot ec) (ec.dot eq) (-eq.dot a) (eq.dot ec) (eq.dot eq)) ∧ Bd (3 * B3) (dt3 (-eb.dot a) (eb.dot ec) (eb.dot eq) (-ec.dot a) (ec.dot ec) (ec.dot eq) (-eq.dot a) (eq.dot ec) (eq.dot eq)) := by
  have q00 : aF (gE 3 [eb,ec,eq] a) 3 (0) 0 0 = -eb.dot a := (Qcf (Qay heb ha)).1
  have b00 : Bd B1 (-eb.dot a) := (Qcf (Qay heb ha)).2
  have q01 : aF (gE 3 [eb,ec,eq] a) 3 (0) 0 1 = eb.dot ec := rfl
  have b01 : Bd B1 (eb.dot ec) := Qay heb hec
  have q02 : aF (gE 3 [eb,ec,eq] a) 3 (0) 0 2 = eb.dot eq := rfl
  have b02 : Bd B1 (eb.dot eq) := Qay heb heq
  have q10 : aF (gE 3 [eb,ec,eq] a) 3 (0) 1 0 = -ec.dot a := (Qcf (Qay hec ha)).1
  have b10 : Bd B1 (-ec.dot a) := (Qcf (Qay hec ha)).2
  have q11 : aF (gE 3 [eb,ec,eq] a) 3 (0) 1 1 = ec.dot ec := rfl
  have b11 : Bd B1 (ec.dot ec) := Qay hec hec
  have q12 : aF (gE 3 [eb,ec,eq] a) 3 (0) 1 2 = ec.dot eq := rfl
  have b12 : Bd B1 (ec.dot eq) := Qay hec heq
  have q20 : aF (gE 3 [eb,ec,eq] a) 3 (0) 2 0 = -eq.dot a := (Qcf (Qay heq ha)).1
  have b20 : Bd B1 (-eq.dot a) := (Qcf (Qay heq ha)).2
  have q21 : aF (gE 3 [eb,ec,eq] a) 3 (0) 2 1 = eq.dot ec := rfl
  have b21 : Bd B1 (eq.dot ec) := Qay heq hec
  have q22 : aF (gE 3 [eb,ec,eq] a) 3 (0) 2 2 = eq.dot eq := rfl
  have b22 : Bd B1 (eq.dot eq) := Qay heq heq
  rw [q00,q01,q02,q10,q11,q12,q20,q21,q22]
  have t0 := Qec b11 b22 b12 b21
  have t1 := Qec b10 b22 b12 b20
  have t2 := Qec b10 b21 b11 b20
  rw [t0.1,t1.1,t2.1]
  exact Qot b00 b01 b02 t0.2 t1.2 t2.2
theorem mv_4_2 (a eb ec eq : P3) (ha : a.bd) (heb : eb.bd) (hec : ec.bd) (heq : eq.bd) : (m3F (aF (gE 3 [eb,ec,eq] a) 3 (1) 0 0) (tw2 (aF (gE 3 [eb,ec,eq] a) 3 (1) 1 1) (aF (gE 3 [eb,ec,eq] a) 3 (1) 2 2) (aF (gE 3 [eb,ec,eq] a) 3 (1) 1 2) (aF (gE 3 [eb,ec,eq] a) 3 (1) 2 1)) (aF (gE 3 [eb,ec,eq] a) 3 (1) 0 1) (tw2 (aF (gE 3 [eb,ec,eq] a) 3 (1) 1 0) (aF (gE 3 [eb,ec,eq] a) 3 (1) 2 2) (aF (gE 3 [eb,ec,eq] a) 3 (1) 1 2) (aF (gE 3 [eb,ec,eq] a) 3 (1) 2 0)) (aF (gE 3 [eb,ec,eq] a) 3 (1) 0 2) (tw2 (aF (gE 3 [eb,ec,eq] a) 3 (1) 1 0) (aF (gE 3 [eb,ec,eq] a) 3 (1) 2 1) (aF (gE 3 [eb,ec,eq] a) 3 (1) 1 1) (aF (gE 3 [eb,ec,eq] a) 3 (1) 2 0))) = (dt3 (eb.dot eb) (-eb.dot a) (eb.dot eq) (ec.dot eb) (-ec.dot a) (ec.dot eq) (eq.dot eb) (-eq.dot a) (eq.dot eq)) ∧ Bd (3 * B3) (dt3 (eb.dot eb) (-eb.dot a) (eb.dot eq) (ec.dot eb) (-ec.dot a) (ec.dot eq) (eq.dot eb) (-eq.dot a) (eq.dot eq)) := by
  have q00 : aF (gE 3 [eb,ec,eq] a) 3 (1) 0 0 = eb.dot eb := rfl
  have b00 : Bd B1 (eb.dot eb) := Qay heb heb
  have q01 : aF (gE 3 [eb,ec,eq] a) 3 (1) 0 1 = -eb.dot a := (Qcf (Qay heb ha)).1
  have b01 : Bd B1 (-eb.dot a) := (Qcf (Qay heb ha)).2
  have q02 : aF (gE 3 [eb,ec,eq] a) 3 (1) 0 2 = eb.dot eq := rfl
  have b02 : Bd B1 (eb.dot eq) := Qay heb heq
  have q10 : aF (gE 3 [eb,ec,eq] a) 3 (1) 1 0 = ec.dot eb := rfl
  have b10 : Bd B1 (ec.dot eb) := Qay hec heb
  have q11 : aF (gE 3 [eb,ec,eq] a) 3 (1) 1 1 = -ec.dot a := (Qcf (Qay hec ha)).1
  have b11 : Bd B1 (-ec.dot a) := (Qcf (Qay hec ha)).2
  have q12 : aF (gE 3 [eb,ec,eq] a) 3 (1) 1 2 = ec.dot eq := rfl
  have b12 : Bd B1 (ec.dot eq) := Qay hec heq
  have q20 : aF (gE 3 [eb,ec,eq] a) 3 (1) 2 0 = eq.dot eb := rfl
  have b20 : Bd B1 (eq.dot eb) := Qay heq heb
  have q21 : aF (gE 3 [eb,ec,eq] a) 3 (1) 2 1 = -eq.dot a := (Qcf (Qay heq ha)).1
  have b21 : Bd B1 (-eq.dot a) := (Qcf (Qay heq ha)).2
  have q22 : aF (gE 3 [eb,ec,eq] a) 3 (1) 2 2 = eq.dot eq := rfl
  have b22 : Bd B1 (eq.dot eq) := Qay heq heq
  rw [q00,q01,q02,q10,q11,q12,q20,q21,q22]
  have t0 := Qec b11 b22 b12 b21
  have t1 := Qec b10 b22 b12 b20
  have t2 := Qec b10 b21 b11 b20
  rw [t0.1,t1.1,t2.1]
  exact Qot b00 b01 b02 t0.2 t1.2 t2.2
theorem mv_4_3 (a eb ec eq : P3) (ha : a.bd) (heb : eb.bd) (hec : ec.bd) (heq : eq.bd) : (m3F (aF (gE 3 [eb,ec,eq] a) 3 (2) 0 0) (tw2 (aF (gE 3 [eb,ec,eq] a) 3 (2) 1 1) (aF (gE 3 [eb,ec,eq] a) 3 (2) 2 2) (aF (gE 3 [eb,ec,eq] a) 3 (2) 1 2) (aF (gE 3 [eb,ec,eq] a) 3 (2) 2 1)) (aF (gE 3 [eb,ec,eq] a) 3 (2) 0 1) (tw2 (aF (gE 3 [eb,ec,eq] a) 3 (2) 1 0) (aF (gE 3 [eb,ec,eq] a) 3 (2) 2 2) (aF (gE 3 [eb,ec,eq] a) 3 (2) 1 2) (aF (gE 3 [eb,ec,eq] a) 3 (2) 2 0)) (aF (gE 3 [eb,ec,eq] a) 3 (2) 0 2) (tw2 (aF (gE 3 [eb,ec,eq] a) 3 (2) 1 0) (aF (gE 3 [eb,ec,eq] a) 3 (2) 2 1) (aF (gE 3 [eb,ec,eq] a) 3 (2) 1 1) (aF (gE 3 [eb,ec,eq] a) 3 (2) 2 0))) = (dt3 (eb.dot eb) (eb.dot ec) (-eb.dot a) (ec.dot eb) (ec.dot ec) (-ec.dot a) (eq.dot eb) (eq.dot ec) (-eq.dot a)) ∧ Bd (3 * B3) (dt3 (eb.dot eb) (eb.dot ec) (-eb.dot a) (ec.dot eb) (ec.dot ec) (-ec.dot a) (eq.dot eb) (eq.dot ec) (-eq.dot a)) := by
  have q00 : aF (gE 3 [eb,ec,eq] a) 3 (2) 0 0 = eb.dot eb := rfl
  have b00 : Bd B1 (eb.dot eb) := Qay heb heb
  have q01 : aF (gE 3 [eb,ec,eq] a) 3 (2) 0 1 = eb.dot ec := rfl
  have b01 : Bd B1 (eb.dot ec) := Qay heb hec
  have q02 : aF (gE 3 [eb,ec,eq] a) 3 (2) 0 2 = -eb.dot a := (Qcf (Qay heb ha)).1
  have b02 : Bd B1 (-eb.dot a) := (Qcf (Qay heb ha)).2
  have q10 : aF (gE 3 [eb,ec,eq] a) 3 (2) 1 0 = ec.dot eb := rfl
  have b10 : Bd B1 (ec.dot eb) := Qay hec heb
  have q11 : aF (gE 3 [eb,ec,eq] a) 3 (2) 1 1 = ec.dot ec := rfl
  have b11 : Bd B1 (ec.dot ec) := Qay hec hec
  have q12 : aF (gE 3 [eb,ec,eq] a) 3 (2) 1 2 = -ec.dot a := (Qcf (Qay hec ha)).1
  have b12 : Bd B1 (-ec.dot a) := (Qcf (Qay hec ha)).2
  have q20 : aF (gE 3 [eb,ec,eq] a) 3 (2) 2 0 = eq.dot eb := rfl
  have b20 : Bd B1 (eq.dot eb) := Qay heq heb
  have q21 : aF (gE 3 [eb,ec,eq] a) 3 (2) 2 1 = eq.dot ec := rfl
  have b21 : Bd B1 (eq.dot ec) := Qay heq hec
  have q22 : aF (gE 3 [eb,ec,eq] a) 3 (2) 2 2 = -eq.dot a := (Qcf (Qay heq ha)).1
  have b22 : Bd B1 (-eq.dot a) := (Qcf (Qay heq ha)).2
  rw [q00,q01,q02,q10,q11,q12,q20,q21,q22]
  have t0 := Qec b11 b22 b12 b21
  have t1 := Qec b10 b22 b12 b20
  have t2 := Qec b10 b21 b11 b20
  rw [t0.1,t1.1,t2.1]
  exact Qot b00 b01 b02 t0.2 t1.2 t2.2
theorem Qpi (a b c q : P3) (hm : a.may ∧ b.may ∧ c.may ∧ q.may) (g0 off cap : Nat) (t0 : TypeId) (z0' : Nat × Nat) (bc : List Value) (w : World) (hb : w.heap[g0]? = some (.cells bc.toArray t0 z0')) (hl : off + 12 ≤ bc.length) (hb0 : (bc.drop (off)).take 3 = [.int .i64 a.x,.int .i64 a.y,.int .i64 a.z]) (hb1 : (bc.drop (off + 3)).take 3 = [.int .i64 b.x,.int .i64 b.y,.int .i64 b.z]) (hb2 : (bc.drop (off + 6)).take 3 = [.int .i64 c.x,.int .i64 c.y,.int .i64 c.z]) (hb3 : (bc.drop (off + 9)).take 3 = [.int .i64 q.x,.int .i64 q.y,.int .i64 q.z]) :
    Calls Tryz.prog 25 #[.slice (some ⟨g0,off,none⟩) 4 cap] w (RetW (cw [a,b,c,q]) (wd [a,b,c,q]) w) := by
  obtain ⟨ma,mb,mc,mq⟩ := hm
  have ha := Qew ma
  have heb := Qev mb ma
  have hec := Qev mc ma
  have heq := Qev mq ma
  have v0 := mv_4_0 a (b.sub a) (c.sub a) (q.sub a) ha heb hec heq
  have v1 := mv_4_1 a (b.sub a) (c.sub a) (q.sub a) ha heb hec heq
  have v2 := mv_4_2 a (b.sub a) (c.sub a) (q.sub a) ha heb hec heq
  have v3 := mv_4_3 a (b.sub a) (c.sub a) (q.sub a) ha heb hec heq
  have hL := Qoz
  have hL1 := B13
  have hL2 := B23
  have hL0 := Qhf
  have hL3 := Qoh
  obtain ⟨y0,c0⟩ := v0
  obtain ⟨y1,c1⟩ := v1
  obtain ⟨y2,c2⟩ := v2
  obtain ⟨y3,c3⟩ := v3
  have cc0 : Bd (2 * (3 * B3)) ((dt3 ((b.sub a).dot (b.sub a)) ((b.sub a).dot (c.sub a)) ((b.sub a).dot (q.sub a)) ((c.sub a).dot (b.sub a)) ((c.sub a).dot (c.sub a)) ((c.sub a).dot (q.sub a)) ((q.sub a).dot (b.sub a)) ((q.sub a).dot (c.sub a)) ((q.sub a).dot (q.sub a))) - (dt3 (-(b.sub a).dot a) ((b.sub a).dot (c.sub a)) ((b.sub a).dot (q.sub a)) (-(c.sub a).dot a) ((c.sub a).dot (c.sub a)) ((c.sub a).dot (q.sub a)) (-(q.sub a).dot a) ((q.sub a).dot (c.sub a)) ((q.sub a).dot (q.sub a)))) := ⟨by have := c0.1;have := c1.2;omega,by have := c0.2;have := c1.1;omega⟩
  have ff0 : fz ((dt3 ((b.sub a).dot (b.sub a)) ((b.sub a).dot (c.sub a)) ((b.sub a).dot (q.sub a)) ((c.sub a).dot (b.sub a)) ((c.sub a).dot (c.sub a)) ((c.sub a).dot (q.sub a)) ((q.sub a).dot (b.sub a)) ((q.sub a).dot (c.sub a)) ((q.sub a).dot (q.sub a))) - (dt3 (-(b.sub a).dot a) ((b.sub a).dot (c.sub a)) ((b.sub a).dot (q.sub a)) (-(c.sub a).dot a) ((c.sub a).dot (c.sub a)) ((c.sub a).dot (q.sub a)) (-(q.sub a).dot a) ((q.sub a).dot (c.sub a)) ((q.sub a).dot (q.sub a)))) = ((dt3 ((b.sub a).dot (b.sub a)) ((b.sub a).dot (c.sub a)) ((b.sub a).dot (q.sub a)) ((c.sub a).dot (b.sub a)) ((c.sub a).dot (c.sub a)) ((c.sub a).dot (q.sub a)) ((q.sub a).dot (b.sub a)) ((q.sub a).dot (c.sub a)) ((q.sub a).dot (q.sub a))) - (dt3 (-(b.sub a).dot a) ((b.sub a).dot (c.sub a)) ((b.sub a).dot (q.sub a)) (-(c.sub a).dot a) ((c.sub a).dot (c.sub a)) ((c.sub a).dot (q.sub a)) (-(q.sub a).dot a) ((q.sub a).dot (c.sub a)) ((q.sub a).dot (q.sub a)))) := Qfc (B := 2 * (3 * B3)) (by omega) cc0
  have cc1 : Bd (3 * (3 * B3)) (((dt3 ((b.sub a).dot (b.sub a)) ((b.sub a).dot (c.sub a)) ((b.sub a).dot (q.sub a)) ((c.sub a).dot (b.sub a)) ((c.sub a).dot (c.sub a)) ((c.sub a).dot (q.sub a)) ((q.sub a).dot (b.sub a)) ((q.sub a).dot (c.sub a)) ((q.sub a).dot (q.sub a))) - (dt3 (-(b.sub a).dot a) ((b.sub a).dot (c.sub a)) ((b.sub a).dot (q.sub a)) (-(c.sub a).dot a) ((c.sub a).dot (c.sub a)) ((c.sub a).dot (q.sub a)) (-(q.sub a).dot a) ((q.sub a).dot (c.sub a)) ((q.sub a).dot (q.sub a)))) - (dt3 ((b.sub a).dot (b.sub a)) (-(b.sub a).dot a) ((b.sub a).dot (q.sub a)) ((c.sub a).dot (b.sub a)) (-(c.sub a).dot a) ((c.sub a).dot (q.sub a)) ((q.sub a).dot (b.sub a)) (-(q.sub a).dot a) ((q.sub a).dot (q.sub a)))) := ⟨by have := cc0.1;have := c2.2;omega,by have := cc0.2;have := c2.1;omega⟩
  have ff1 : fz (((dt3 ((b.sub a).dot (b.sub a)) ((b.sub a).dot (c.sub a)) ((b.sub a).dot (q.sub a)) ((c.sub a).dot (b.sub a)) ((c.sub a).dot (c.sub a)) ((c.sub a).dot (q.sub a)) ((q.sub a).dot (b.sub a)) ((q.sub a).dot (c.sub a)) ((q.sub a).dot (q.sub a))) - (dt3 (-(b.sub a).dot a) ((b.sub a).dot (c.sub a)) ((b.sub a).dot (q.sub a)) (-(c.sub a).dot a) ((c.sub a).dot (c.sub a)) ((c.sub a).dot (q.sub a)) (-(q.sub a).dot a) ((q.sub a).dot (c.sub a)) ((q.sub a).dot (q.sub a)))) - (dt3 ((b.sub a).dot (b.sub a)) (-(b.sub a).dot a) ((b.sub a).dot (q.sub a)) ((c.sub a).dot (b.sub a)) (-(c.sub a).dot a) ((c.sub a).dot (q.sub a)) ((q.sub a).dot (b.sub a)) (-(q.sub a).dot a) ((q.sub a).dot (q.sub a)))) = (((dt3 ((b.sub a).dot (b.sub a)) ((b.sub a).dot (c.sub a)) ((b.sub a).dot (q.sub a)) ((c.sub a).dot (b.sub a)) ((c.sub a).dot (c.sub a)) ((c.sub a).dot (q.sub a)) ((q.sub a).dot (b.sub a)) ((q.sub a).dot (c.sub a)) ((q.sub a).dot (q.sub a))) - (dt3 (-(b.sub a).dot a) ((b.sub a).dot (c.sub a)) ((b.sub a).dot (q.sub a)) (-(c.sub a).dot a) ((c.sub a).dot (c.sub a)) ((c.sub a).dot (q.sub a)) (-(q.sub a).dot a) ((q.sub a).dot (c.sub a)) ((q.sub a).dot (q.sub a)))) - (dt3 ((b.sub a).dot (b.sub a)) (-(b.sub a).dot a) ((b.sub a).dot (q.sub a)) ((c.sub a).dot (b.sub a)) (-(c.sub a).dot a) ((c.sub a).dot (q.sub a)) ((q.sub a).dot (b.sub a)) (-(q.sub a).dot a) ((q.sub a).dot (q.sub a)))) := Qfc (B := 3 * (3 * B3)) (by omega) cc1
  have cc2 : Bd (4 * (3 * B3)) ((((dt3 ((b.sub a).dot (b.sub a)) ((b.sub a).dot (c.sub a)) ((b.sub a).dot (q.sub a)) ((c.sub a).dot (b.sub a)) ((c.sub a).dot (c.sub a)) ((c.sub a).dot (q.sub a)) ((q.sub a).dot (b.sub a)) ((q.sub a).dot (c.sub a)) ((q.sub a).dot (q.sub a))) - (dt3 (-(b.sub a).dot a) ((b.sub a).dot (c.sub a)) ((b.sub a).dot (q.sub a)) (-(c.sub a).dot a) ((c.sub a).dot (c.sub a)) ((c.sub a).dot (q.sub a)) (-(q.sub a).dot a) ((q.sub a).dot (c.sub a)) ((q.sub a).dot (q.sub a)))) - (dt3 ((b.sub a).dot (b.sub a)) (-(b.sub a).dot a) ((b.sub a).dot (q.sub a)) ((c.sub a).dot (b.sub a)) (-(c.sub a).dot a) ((c.sub a).dot (q.sub a)) ((q.sub a).dot (b.sub a)) (-(q.sub a).dot a) ((q.sub a).dot (q.sub a)))) - (dt3 ((b.sub a).dot (b.sub a)) ((b.sub a).dot (c.sub a)) (-(b.sub a).dot a) ((c.sub a).dot (b.sub a)) ((c.sub a).dot (c.sub a)) (-(c.sub a).dot a) ((q.sub a).dot (b.sub a)) ((q.sub a).dot (c.sub a)) (-(q.sub a).dot a))) := ⟨by have := cc1.1;have := c3.2;omega,by have := cc1.2;have := c3.1;omega⟩
  have ff2 : fz ((((dt3 ((b.sub a).dot (b.sub a)) ((b.sub a).dot (c.sub a)) ((b.sub a).dot (q.sub a)) ((c.sub a).dot (b.sub a)) ((c.sub a).dot (c.sub a)) ((c.sub a).dot (q.sub a)) ((q.sub a).dot (b.sub a)) ((q.sub a).dot (c.sub a)) ((q.sub a).dot (q.sub a))) - (dt3 (-(b.sub a).dot a) ((b.sub a).dot (c.sub a)) ((b.sub a).dot (q.sub a)) (-(c.sub a).dot a) ((c.sub a).dot (c.sub a)) ((c.sub a).dot (q.sub a)) (-(q.sub a).dot a) ((q.sub a).dot (c.sub a)) ((q.sub a).dot (q.sub a)))) - (dt3 ((b.sub a).dot (b.sub a)) (-(b.sub a).dot a) ((b.sub a).dot (q.sub a)) ((c.sub a).dot (b.sub a)) (-(c.sub a).dot a) ((c.sub a).dot (q.sub a)) ((q.sub a).dot (b.sub a)) (-(q.sub a).dot a) ((q.sub a).dot (q.sub a)))) - (dt3 ((b.sub a).dot (b.sub a)) ((b.sub a).dot (c.sub a)) (-(b.sub a).dot a) ((c.sub a).dot (b.sub a)) ((c.sub a).dot (c.sub a)) (-(c.sub a).dot a) ((q.sub a).dot (b.sub a)) ((q.sub a).dot (c.sub a)) (-(q.sub a).dot a))) = ((((dt3 ((b.sub a).dot (b.sub a)) ((b.sub a).dot (c.sub a)) ((b.sub a).dot (q.sub a)) ((c.sub a).dot (b.sub a)) ((c.sub a).dot (c.sub a)) ((c.sub a).dot (q.sub a)) ((q.sub a).dot (b.sub a)) ((q.sub a).dot (c.sub a)) ((q.sub a).dot (q.sub a))) - (dt3 (-(b.sub a).dot a) ((b.sub a).dot (c.sub a)) ((b.sub a).dot (q.sub a)) (-(c.sub a).dot a) ((c.sub a).dot (c.sub a)) ((c.sub a).dot (q.sub a)) (-(q.sub a).dot a) ((q.sub a).dot (c.sub a)) ((q.sub a).dot (q.sub a)))) - (dt3 ((b.sub a).dot (b.sub a)) (-(b.sub a).dot a) ((b.sub a).dot (q.sub a)) ((c.sub a).dot (b.sub a)) (-(c.sub a).dot a) ((c.sub a).dot (q.sub a)) ((q.sub a).dot (b.sub a)) (-(q.sub a).dot a) ((q.sub a).dot (q.sub a)))) - (dt3 ((b.sub a).dot (b.sub a)) ((b.sub a).dot (c.sub a)) (-(b.sub a).dot a) ((c.sub a).dot (b.sub a)) ((c.sub a).dot (c.sub a)) (-(c.sub a).dot a) ((q.sub a).dot (b.sub a)) ((q.sub a).dot (c.sub a)) (-(q.sub a).dot a))) := Qfc (B := 4 * (3 * B3)) (by omega) cc2
  have R := weights_4 a b c q (b.sub a) (c.sub a) (q.sub a) (dt3 ((b.sub a).dot (b.sub a)) ((b.sub a).dot (c.sub a)) ((b.sub a).dot (q.sub a)) ((c.sub a).dot (b.sub a)) ((c.sub a).dot (c.sub a)) ((c.sub a).dot (q.sub a)) ((q.sub a).dot (b.sub a)) ((q.sub a).dot (c.sub a)) ((q.sub a).dot (q.sub a))) ((dt3 ((b.sub a).dot (b.sub a)) ((b.sub a).dot (c.sub a)) ((b.sub a).dot (q.sub a)) ((c.sub a).dot (b.sub a)) ((c.sub a).dot (c.sub a)) ((c.sub a).dot (q.sub a)) ((q.sub a).dot (b.sub a)) ((q.sub a).dot (c.sub a)) ((q.sub a).dot (q.sub a))) - (dt3 (-(b.sub a).dot a) ((b.sub a).dot (c.sub a)) ((b.sub a).dot (q.sub a)) (-(c.sub a).dot a) ((c.sub a).dot (c.sub a)) ((c.sub a).dot (q.sub a)) (-(q.sub a).dot a) ((q.sub a).dot (c.sub a)) ((q.sub a).dot (q.sub a)))) (((dt3 ((b.sub a).dot (b.sub a)) ((b.sub a).dot (c.sub a)) ((b.sub a).dot (q.sub a)) ((c.sub a).dot (b.sub a)) ((c.sub a).dot (c.sub a)) ((c.sub a).dot (q.sub a)) ((q.sub a).dot (b.sub a)) ((q.sub a).dot (c.sub a)) ((q.sub a).dot (q.sub a))) - (dt3 (-(b.sub a).dot a) ((b.sub a).dot (c.sub a)) ((b.sub a).dot (q.sub a)) (-(c.sub a).dot a) ((c.sub a).dot (c.sub a)) ((c.sub a).dot (q.sub a)) (-(q.sub a).dot a) ((q.sub a).dot (c.sub a)) ((q.sub a).dot (q.sub a)))) - (dt3 ((b.sub a).dot (b.sub a)) (-(b.sub a).dot a) ((b.sub a).dot (q.sub a)) ((c.sub a).dot (b.sub a)) (-(c.sub a).dot a) ((c.sub a).dot (q.sub a)) ((q.sub a).dot (b.sub a)) (-(q.sub a).dot a) ((q.sub a).dot (q.sub a)))) ((((dt3 ((b.sub a).dot (b.sub a)) ((b.sub a).dot (c.sub a)) ((b.sub a).dot (q.sub a)) ((c.sub a).dot (b.sub a)) ((c.sub a).dot (c.sub a)) ((c.sub a).dot (q.sub a)) ((q.sub a).dot (b.sub a)) ((q.sub a).dot (c.sub a)) ((q.sub a).dot (q.sub a))) - (dt3 (-(b.sub a).dot a) ((b.sub a).dot (c.sub a)) ((b.sub a).dot (q.sub a)) (-(c.sub a).dot a) ((c.sub a).dot (c.sub a)) ((c.sub a).dot (q.sub a)) (-(q.sub a).dot a) ((q.sub a).dot (c.sub a)) ((q.sub a).dot (q.sub a)))) - (dt3 ((b.sub a).dot (b.sub a)) (-(b.sub a).dot a) ((b.sub a).dot (q.sub a)) ((c.sub a).dot (b.sub a)) (-(c.sub a).dot a) ((c.sub a).dot (q.sub a)) ((q.sub a).dot (b.sub a)) (-(q.sub a).dot a) ((q.sub a).dot (q.sub a)))) - (dt3 ((b.sub a).dot (b.sub a)) ((b.sub a).dot (c.sub a)) (-(b.sub a).dot a) ((c.sub a).dot (b.sub a)) ((c.sub a).dot (c.sub a)) (-(c.sub a).dot a) ((q.sub a).dot (b.sub a)) ((q.sub a).dot (c.sub a)) (-(q.sub a).dot a))) (dt3 (-(b.sub a).dot a) ((b.sub a).dot (c.sub a)) ((b.sub a).dot (q.sub a)) (-(c.sub a).dot a) ((c.sub a).dot (c.sub a)) ((c.sub a).dot (q.sub a)) (-(q.sub a).dot a) ((q.sub a).dot (c.sub a)) ((q.sub a).dot (q.sub a))) (dt3 ((b.sub a).dot (b.sub a)) (-(b.sub a).dot a) ((b.sub a).dot (q.sub a)) ((c.sub a).dot (b.sub a)) (-(c.sub a).dot a) ((c.sub a).dot (q.sub a)) ((q.sub a).dot (b.sub a)) (-(q.sub a).dot a) ((q.sub a).dot (q.sub a))) (dt3 ((b.sub a).dot (b.sub a)) ((b.sub a).dot (c.sub a)) (-(b.sub a).dot a) ((c.sub a).dot (b.sub a)) ((c.sub a).dot (c.sub a)) (-(c.sub a).dot a) ((q.sub a).dot (b.sub a)) ((q.sub a).dot (c.sub a)) (-(q.sub a).dot a)) g0 off cap t0 z0' bc w hb hl hb0 hb1 hb2 hb3 (Lib.hid fun w1 => Qfu b a (Qaz heb) w1) (Lib.hid fun w1 => Qfu c a (Qaz hec) w1) (Lib.hid fun w1 => Qfu q a (Qaz heq) w1) (Lib.hid fun gn ge gl w1 hk f1 f2 f3 => by have := Qno w1 _ _ _ (gE 3 [b.sub a,c.sub a,q.sub a] a) (-1) (ggs_4 a (b.sub a) (c.sub a) (q.sub a) ha heb hec heq g0 off cap t0 z0' bc gn ge gl w1 (Qal hk hb) (by omega) hb0 f1 f2 f3);rw [y0] at this;exact this) (Lib.hid fun gn ge gl w1 hk f1 f2 f3 => by have := Qno w1 _ _ _ (gE 3 [b.sub a,c.sub a,q.sub a] a) (0) (ggs_4 a (b.sub a) (c.sub a) (q.sub a) ha heb hec heq g0 off cap t0 z0' bc gn ge gl w1 (Qal hk hb) (by omega) hb0 f1 f2 f3);rw [y1] at this;exact this) (Lib.hid fun gn ge gl w1 hk f1 f2 f3 => by have := Qno w1 _ _ _ (gE 3 [b.sub a,c.sub a,q.sub a] a) (1) (ggs_4 a (b.sub a) (c.sub a) (q.sub a) ha heb hec heq g0 off cap t0 z0' bc gn ge gl w1 (Qal hk hb) (by omega) hb0 f1 f2 f3);rw [y2] at this;exact this) (Lib.hid fun gn ge gl w1 hk f1 f2 f3 => by have := Qno w1 _ _ _ (gE 3 [b.sub a,c.sub a,q.sub a] a) (2) (ggs_4 a (b.sub a) (c.sub a) (q.sub a) ha heb hec heq g0 off cap t0 z0' bc gn ge gl w1 (Qal hk hb) (by omega) hb0 f1 f2 f3);rw [y3] at this;exact this) (Lib.hid fun w1 => by have := Qer (dt3 ((b.sub a).dot (b.sub a)) ((b.sub a).dot (c.sub a)) ((b.sub a).dot (q.sub a)) ((c.sub a).dot (b.sub a)) ((c.sub a).dot (c.sub a)) ((c.sub a).dot (q.sub a)) ((q.sub a).dot (b.sub a)) ((q.sub a).dot (c.sub a)) ((q.sub a).dot (q.sub a))) (dt3 (-(b.sub a).dot a) ((b.sub a).dot (c.sub a)) ((b.sub a).dot (q.sub a)) (-(c.sub a).dot a) ((c.sub a).dot (c.sub a)) ((c.sub a).dot (q.sub a)) (-(q.sub a).dot a) ((q.sub a).dot (c.sub a)) ((q.sub a).dot (q.sub a))) (Qcz (B := 1 * (3 * B3)) (by omega) ⟨by have := c0.1;omega,by have := c0.2;omega⟩) (Qcz (B := (3 * B3)) (by omega) c1) w1;rw [ff0] at this;exact this) (Lib.hid fun w1 => by have := Qer ((dt3 ((b.sub a).dot (b.sub a)) ((b.sub a).dot (c.sub a)) ((b.sub a).dot (q.sub a)) ((c.sub a).dot (b.sub a)) ((c.sub a).dot (c.sub a)) ((c.sub a).dot (q.sub a)) ((q.sub a).dot (b.sub a)) ((q.sub a).dot (c.sub a)) ((q.sub a).dot (q.sub a))) - (dt3 (-(b.sub a).dot a) ((b.sub a).dot (c.sub a)) ((b.sub a).dot (q.sub a)) (-(c.sub a).dot a) ((c.sub a).dot (c.sub a)) ((c.sub a).dot (q.sub a)) (-(q.sub a).dot a) ((q.sub a).dot (c.sub a)) ((q.sub a).dot (q.sub a)))) (dt3 ((b.sub a).dot (b.sub a)) (-(b.sub a).dot a) ((b.sub a).dot (q.sub a)) ((c.sub a).dot (b.sub a)) (-(c.sub a).dot a) ((c.sub a).dot (q.sub a)) ((q.sub a).dot (b.sub a)) (-(q.sub a).dot a) ((q.sub a).dot (q.sub a))) (Qcz (B := 2 * (3 * B3)) (by omega) cc0) (Qcz (B := (3 * B3)) (by omega) c2) w1;rw [ff1] at this;exact this) (Lib.hid fun w1 => by have := Qer (((dt3 ((b.sub a).dot (b.sub a)) ((b.sub a).dot (c.sub a)) ((b.sub a).dot (q.sub a)) ((c.sub a).dot (b.sub a)) ((c.sub a).dot (c.sub a)) ((c.sub a).dot (q.sub a)) ((q.sub a).dot (b.sub a)) ((q.sub a).dot (c.sub a)) ((q.sub a).dot (q.sub a))) - (dt3 (-(b.sub a).dot a) ((b.sub a).dot (c.sub a)) ((b.sub a).dot (q.sub a)) (-(c.sub a).dot a) ((c.sub a).dot (c.sub a)) ((c.sub a).dot (q.sub a)) (-(q.sub a).dot a) ((q.sub a).dot (c.sub a)) ((q.sub a).dot (q.sub a)))) - (dt3 ((b.sub a).dot (b.sub a)) (-(b.sub a).dot a) ((b.sub a).dot (q.sub a)) ((c.sub a).dot (b.sub a)) (-(c.sub a).dot a) ((c.sub a).dot (q.sub a)) ((q.sub a).dot (b.sub a)) (-(q.sub a).dot a) ((q.sub a).dot (q.sub a)))) (dt3 ((b.sub a).dot (b.sub a)) ((b.sub a).dot (c.sub a)) (-(b.sub a).dot a) ((c.sub a).dot (b.sub a)) ((c.sub a).dot (c.sub a)) (-(c.sub a).dot a) ((q.sub a).dot (b.sub a)) ((q.sub a).dot (c.sub a)) (-(q.sub a).dot a)) (Qcz (B := 3 * (3 * B3)) (by omega) cc1) (Qcz (B := (3 * B3)) (by omega) c3) w1;rw [ff2] at this;exact this)
  have e : [((((dt3 ((b.sub a).dot (b.sub a)) ((b.sub a).dot (c.sub a)) ((b.sub a).dot (q.sub a)) ((c.sub a).dot (b.sub a)) ((c.sub a).dot (c.sub a)) ((c.sub a).dot (q.sub a)) ((q.sub a).dot (b.sub a)) ((q.sub a).dot (c.sub a)) ((q.sub a).dot (q.sub a))) - (dt3 (-(b.sub a).dot a) ((b.sub a).dot (c.sub a)) ((b.sub a).dot (q.sub a)) (-(c.sub a).dot a) ((c.sub a).dot (c.sub a)) ((c.sub a).dot (q.sub a)) (-(q.sub a).dot a) ((q.sub a).dot (c.sub a)) ((q.sub a).dot (q.sub a)))) - (dt3 ((b.sub a).dot (b.sub a)) (-(b.sub a).dot a) ((b.sub a).dot (q.sub a)) ((c.sub a).dot (b.sub a)) (-(c.sub a).dot a) ((c.sub a).dot (q.sub a)) ((q.sub a).dot (b.sub a)) (-(q.sub a).dot a) ((q.sub a).dot (q.sub a)))) - (dt3 ((b.sub a).dot (b.sub a)) ((b.sub a).dot (c.sub a)) (-(b.sub a).dot a) ((c.sub a).dot (b.sub a)) ((c.sub a).dot (c.sub a)) (-(c.sub a).dot a) ((q.sub a).dot (b.sub a)) ((q.sub a).dot (c.sub a)) (-(q.sub a).dot a))),(dt3 (-(b.sub a).dot a) ((b.sub a).dot (c.sub a)) ((b.sub a).dot (q.sub a)) (-(c.sub a).dot a) ((c.sub a).dot (c.sub a)) ((c.sub a).dot (q.sub a)) (-(q.sub a).dot a) ((q.sub a).dot (c.sub a)) ((q.sub a).dot (q.sub a))),(dt3 ((b.sub a).dot (b.sub a)) (-(b.sub a).dot a) ((b.sub a).dot (q.sub a)) ((c.sub a).dot (b.sub a)) (-(c.sub a).dot a) ((c.sub a).dot (q.sub a)) ((q.sub a).dot (b.sub a)) (-(q.sub a).dot a) ((q.sub a).dot (q.sub a))),(dt3 ((b.sub a).dot (b.sub a)) ((b.sub a).dot (c.sub a)) (-(b.sub a).dot a) ((c.sub a).dot (b.sub a)) ((c.sub a).dot (c.sub a)) (-(c.sub a).dot a) ((q.sub a).dot (b.sub a)) ((q.sub a).dot (c.sub a)) (-(q.sub a).dot a))] = cw [a,b,c,q] := by
    unfold cw wv
    simp only [tot,List.cons.injEq,and_true]
    omega
  rw [e] at R
  exact R
theorem cw_bd_1 (a : P3) (hm : a.may) : (∀ x ∈ cw [a],Bd (64 * B3) x) ∧ Bd (64 * B3) (wd [a]) := by
  have hL := Qoz
  have hL1 := B13
  have hL2 := B23
  have hL0 := Qhf
  have hL3 := Qoh
  refine ⟨?_,?_⟩
  · intro x hx
    simp only [cw,wv,tot,List.mem_singleton] at hx
    subst hx
    exact ⟨by omega,by unfold B3 B2 B1;decide⟩
  · exact ⟨by show _ ≤ (1 : Int);omega,by show (1 : Int) ≤ _;unfold B3 B2 B1;decide⟩
theorem cw_bd_2 (a b : P3) (hm : a.may ∧ b.may) : (∀ x ∈ cw [a,b],Bd (64 * B3) x) ∧ Bd (64 * B3) (wd [a,b]) := by
  have hL := Qoz
  have hL1 := B13
  have hL2 := B23
  have hL0 := Qhf
  have hL3 := Qoh
  obtain ⟨ma,mb⟩ := hm
  have ha := Qew ma
  have heb := Qev mb ma
  have c0 := (mv_2_0 a (b.sub a) ha heb).2
  have c1 := (mv_2_1 a (b.sub a) ha heb).2
  refine ⟨?_,?_⟩
  · intro x hx
    simp only [cw,wv,tot,List.mem_cons,List.not_mem_nil,or_false] at hx
    rcases hx with rfl|rfl
    · exact ⟨by have := c0.1;have := c0.2;have := c1.1;have := c1.2;omega,by have := c0.1;have := c0.2;have := c1.1;have := c1.2;omega⟩
    · exact ⟨by have := c0.1;have := c0.2;have := c1.1;have := c1.2;omega,by have := c0.1;have := c0.2;have := c1.1;have := c1.2;omega⟩
  · exact ⟨Int.le_trans (by omega) c0.1,Int.le_trans c0.2 (by omega)⟩
theorem cw_bd_3 (a b c : P3) (hm : a.may ∧ b.may ∧ c.may) : (∀ x ∈ cw [a,b,c],Bd (64 * B3) x) ∧ Bd (64 * B3) (wd [a,b,c]) := by
  have hL := Qoz
  have hL1 := B13
  have hL2 := B23
  have hL0 := Qhf
  have hL3 := Qoh
  obtain ⟨ma,mb,mc⟩ := hm
  have ha := Qew ma
  have heb := Qev mb ma
  have hec := Qev mc ma
  have c0 := (mv_3_0 a (b.sub a) (c.sub a) ha heb hec).2
  have c1 := (mv_3_1 a (b.sub a) (c.sub a) ha heb hec).2
  have c2 := (mv_3_2 a (b.sub a) (c.sub a) ha heb hec).2
  refine ⟨?_,?_⟩
  · intro x hx
    simp only [cw,wv,tot,List.mem_cons,List.not_mem_nil,or_false] at hx
    rcases hx with rfl|rfl|rfl
    · exact ⟨by have := c0.1;have := c0.2;have := c1.1;have := c1.2;have := c2.1;have := c2.2;omega,by have := c0.1;have := c0.2;have := c1.1;have := c1.2;have := c2.1;have := c2.2;omega⟩
    · exact ⟨by have := c0.1;have := c0.2;have := c1.1;have := c1.2;have := c2.1;have := c2.2;omega,by have := c0.1;have := c0.2;have := c1.1;have := c1.2;have := c2.1;have := c2.2;omega⟩
    · exact ⟨by have := c0.1;have := c0.2;have := c1.1;have := c1.2;have := c2.1;have := c2.2;omega,by have := c0.1;have := c0.2;have := c1.1;have := c1.2;have := c2.1;have := c2.2;omega⟩
  · exact ⟨Int.le_trans (by omega) c0.1,Int.le_trans c0.2 (by omega)⟩
theorem cw_bd_4 (a b c q : P3) (hm : a.may ∧ b.may ∧ c.may ∧ q.may) : (∀ x ∈ cw [a,b,c,q],Bd (64 * B3) x) ∧ Bd (64 * B3) (wd [a,b,c,q]) := by
  have hL := Qoz
  have hL1 := B13
  have hL2 := B23
  have hL0 := Qhf
  have hL3 := Qoh
  obtain ⟨ma,mb,mc,mq⟩ := hm
  have ha := Qew ma
  have heb := Qev mb ma
  have hec := Qev mc ma
  have heq := Qev mq ma
  have c0 := (mv_4_0 a (b.sub a) (c.sub a) (q.sub a) ha heb hec heq).2
  have c1 := (mv_4_1 a (b.sub a) (c.sub a) (q.sub a) ha heb hec heq).2
  have c2 := (mv_4_2 a (b.sub a) (c.sub a) (q.sub a) ha heb hec heq).2
  have c3 := (mv_4_3 a (b.sub a) (c.sub a) (q.sub a) ha heb hec heq).2
  refine ⟨?_,?_⟩
  · intro x hx
    simp only [cw,wv,tot,List.mem_cons,List.not_mem_nil,or_false] at hx
    rcases hx with rfl|rfl|rfl|rfl
    · exact ⟨by have := c0.1;have := c0.2;have := c1.1;have := c1.2;have := c2.1;have := c2.2;have := c3.1;have := c3.2;omega,by have := c0.1;have := c0.2;have := c1.1;have := c1.2;have := c2.1;have := c2.2;have := c3.1;have := c3.2;omega⟩
    · exact ⟨by have := c0.1;have := c0.2;have := c1.1;have := c1.2;have := c2.1;have := c2.2;have := c3.1;have := c3.2;omega,by have := c0.1;have := c0.2;have := c1.1;have := c1.2;have := c2.1;have := c2.2;have := c3.1;have := c3.2;omega⟩
    · exact ⟨by have := c0.1;have := c0.2;have := c1.1;have := c1.2;have := c2.1;have := c2.2;have := c3.1;have := c3.2;omega,by have := c0.1;have := c0.2;have := c1.1;have := c1.2;have := c2.1;have := c2.2;have := c3.1;have := c3.2;omega⟩
    · exact ⟨by have := c0.1;have := c0.2;have := c1.1;have := c1.2;have := c2.1;have := c2.2;have := c3.1;have := c3.2;omega,by have := c0.1;have := c0.2;have := c1.1;have := c1.2;have := c2.1;have := c2.2;have := c3.1;have := c3.2;omega⟩
  · exact ⟨Int.le_trans (by omega) c0.1,Int.le_trans c0.2 (by omega)⟩
theorem cw_bd {S : List P3} (h1 : 1 ≤ S.length) (h4 : S.length ≤ 4) (hm : ∀ p ∈ S,p.may) : (∀ x ∈ cw S,Bd (64 * B3) x) ∧ Bd (64 * B3) (wd S) := by
  match S,h1,h4,hm with
  | [a],_,_,hm => exact cw_bd_1 a (hm a (by simp))
  | [a,b],_,_,hm => exact cw_bd_2 a b ⟨hm a (by simp),hm b (by simp)⟩
  | [a,b,c],_,_,hm => exact cw_bd_3 a b c ⟨hm a (by simp),hm b (by simp),hm c (by simp)⟩
  | [a,b,c,q],_,_,hm => exact cw_bd_4 a b c q ⟨hm a (by simp),hm b (by simp),hm c (by simp),hm q (by simp)⟩
theorem weights_any {S : List P3} (h1 : 1 ≤ S.length) (h4 : S.length ≤ 4) (hm : ∀ p ∈ S,p.may) {v : Value} (w : World) (h : PSl w v S) : Calls Tryz.prog 25 #[v] w (RetW (cw S) (wd S) w) := by
  rcases h with ⟨rfl,rfl⟩|⟨g,off,cap,bc,t,z,rfl,hb,hv⟩
  · simp at h1
  · have hr := (Qdg hv).resolve_left (by intro h0;rw [h0] at h1;simp at h1)
    have at_ : ∀ k p,S[k]? = some p → (bc.drop (off + k * 3)).take 3 = [.int .i64 p.x,.int .i64 p.y,.int .i64 p.z] := fun k p hk => Qfm hv hk
    clear hv
    match S,h1,h4,hm,hr,at_ with
    | [a],_,_,hm,hr,at_ => exact Qoe a (hm a (by simp)) g off cap t z bc w hb (by simpa using hr) (by simpa using at_ 0 a rfl)
    | [a,b],_,_,hm,hr,at_ => exact Qnu a b ⟨hm a (by simp),hm b (by simp)⟩ g off cap t z bc w hb (by simpa using hr) (by simpa using at_ 0 a rfl) (by simpa using at_ 1 b rfl)
    | [a,b,c],_,_,hm,hr,at_ => exact Qoq a b c ⟨hm a (by simp),hm b (by simp),hm c (by simp)⟩ g off cap t z bc w hb (by simpa using hr) (by simpa using at_ 0 a rfl) (by simpa using at_ 1 b rfl) (by simpa using at_ 2 c rfl)
    | [a,b,c,q],_,_,hm,hr,at_ => exact Qpi a b c q ⟨hm a (by simp),hm b (by simp),hm c (by simp),hm q (by simp)⟩ g off cap t z bc w hb (by simpa using hr) (by simpa using at_ 0 a rfl) (by simpa using at_ 1 b rfl) (by simpa using at_ 2 c rfl) (by simpa using at_ 3 q rfl)
end Go.Proofs.YtdfdmeoalbpcdaaGreat
