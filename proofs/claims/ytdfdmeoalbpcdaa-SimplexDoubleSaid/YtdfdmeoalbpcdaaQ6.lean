/-
  SimplexMore (the law).
  SimplexMore: the contract of the law.
  Twice as far, and turned over: the numbers.
  SimplexPast (the walk).
  SimplexPast (the walk, both fine).
-/
import Derived.Test.YtdfdmeoalbpcdaaQu
import Derived.Test.YtdfdmeoalbpcdaaHb
import Derived.Laws.Cover1
set_option linter.unusedSimpArgs false
set_option linter.unusedVariables false
set_option maxRecDepth 100000
namespace Go.Proofs.Ytdfdmeoalbpcdaa
open Go Go.RowKit
attribute [local irreducible] wpList
end Go.Proofs.Ytdfdmeoalbpcdaa

set_option linter.unusedSimpArgs false
set_option linter.unusedVariables false
set_option maxRecDepth 100000
namespace Go.Proofs.Ytdfdmeoalbpcdaa
open Go Go.RowKit
attribute [local irreducible] wpList
theorem Qjd {l : List P3} (h : Qcw l = 0) : Qbx l ≠ [] := by
  obtain ⟨hF,_⟩ := Qei h
  have := (Qgi hF.ok.1).1
  intro h0
  rw [h0] at this
  simp [pts] at this
end Go.Proofs.Ytdfdmeoalbpcdaa

set_option linter.unusedSimpArgs false
set_option linter.unusedVariables false
set_option maxRecDepth 100000
namespace Go.Proofs.Ytdfdmeoalbpcdaa
open Go Go.RowKit
/-- Points that may be twice as far, and turned over. -/
def P3.near (p : P3) : Prop := (-67108864 ≤ p.x ∧ p.x ≤ 67108864) ∧ (-67108864 ≤ p.y ∧ p.y ≤ 67108864) ∧ (-67108864 ≤ p.z ∧ p.z ≤ 67108864)
theorem near_scale {p : P3} (h : p.near) {k : Int} (hk : k = 1 ∨ k = 2 ∨ k = -1) : (p.scale k).may := by
  obtain ⟨⟨a,b⟩,⟨c,d⟩,e,f⟩ := h
  unfold P3.may may P3.scale
  dsimp only
  rcases hk with rfl|rfl|rfl <;> omega
theorem nearE_near {l : List P3} (h : ∀ p ∈ l,p.near) {k : Int} (hk : k = 1 ∨ k = 2 ∨ k = -1) : Qcw (l.map (·.scale k)) = if (l.length : Int) < 1 ∨ 4 < (l.length : Int) then 2 else 0 := by
  unfold Qcw
  rw [List.length_map]
  split
  · rfl
  · rw [if_neg]
    intro hf
    have : Qdk (l.map (·.scale k)) = true := by
      unfold Qdk
      rw [List.all_eq_true]
      intro q hq
      obtain ⟨p,hp,rfl⟩ := List.mem_map.1 hq
      simpa using near_scale (h p hp) hk
    rw [this] at hf
    cases hf
theorem Qmz (l : List P3) : l.map (·.scale 1) = l := by
  have : (fun p : P3 => p.scale 1) = id := by
    funext p
    apply Qbt <;> simp [P3.scale]
  rw [this,List.map_id]
theorem Qfi {l : List P3} {k : Int} (hk : k ≠ 0) (he : Qcw (l.map (·.scale k)) = Qcw l) : Qbx (l.map (·.scale k)) = Qbx l := by
  unfold Qbx
  rw [he,Qpd hk]
theorem Qik {l : List P3} {k : Int} (hk : k ≠ 0) (h : Qcw l = 0) (h' : Qcw (l.map (·.scale k)) = 0) : (Qbp (l.map (·.scale k))).1.scale (Qbp l).2 = ((Qbp l).1.scale k).scale (Qbp (l.map (·.scale k))).2 := by
  obtain ⟨hF,_,hN⟩ := Qei h
  obtain ⟨hG,_,hM⟩ := Qei h'
  have e := Qfi hk (h'.trans h.symm)
  rw [e] at hG hM
  have one := scaled_one hk hF
  rw [hN,hM]
  have w1 := Qdu hF.ok.1
  have w2 := Qdu hG.ok.1
  generalize cmb (cw (pts (l.map (·.scale k)) (Qbx l))) (pts (l.map (·.scale k)) (Qbx l)) = X at *
  generalize wd (pts (l.map (·.scale k)) (Qbx l)) = d at *
  generalize cmb (cw (pts l (Qbx l))) (pts l (Qbx l)) = Y at *
  generalize wd (pts l (Qbx l)) = e at *
  obtain ⟨a1,a2,a3⟩ := Qjx X w2
  obtain ⟨b1,b2,b3⟩ := Qjx Y w1
  have ga := Qgh (X := X) w2
  have gb := Qgh (X := Y) w1
  generalize (nrm X d).1 = N at *
  generalize (nrm X d).2 = n at *
  generalize (nrm Y e).1 = M at *
  generalize (nrm Y e).2 = m at *
  generalize gc X d = g at *
  generalize gc Y e = f at *
  subst a1
  subst b1
  subst a2
  subst b2
  have hx := congrArg P3.x one
  have hy := congrArg P3.y one
  have hz := congrArg P3.z one
  simp only [P3.scale] at hx hy hz
  have hp : (0 : Int) < (g : Int) * f := Int.mul_pos (by omega) (by omega)
  have key : ∀ u v : Int,f * m * (g * u) = g * n * (k * (f * v)) → m * u = n * (k * v) := by
    intro u v h
    refine Int.eq_of_mul_eq_mul_left (a := (g : Int) * f) (by omega) ?_
    have e1 : (g : Int) * f * (m * u) = f * m * (g * u) := by grind
    have e2 : (g : Int) * f * (n * (k * v)) = g * n * (k * (f * v)) := by grind
    rw [e1,e2];exact h
  exact Qbt (key _ _ hx) (key _ _ hy) (key _ _ hz)
theorem gc_neg (X : P3) (d : Int) : gc (X.scale (-1)) d = gc X d := by
  unfold gc P3.scale
  simp [Int.natAbs_mul]
theorem Qmi {l : List P3} (h : Qcw l = 0) (h' : Qcw (l.map (·.scale (-1))) = 0) : (Qbp (l.map (·.scale (-1)))).1 = (Qbp l).1.scale (-1) ∧ (Qbp (l.map (·.scale (-1)))).2 = (Qbp l).2 := by
  have e := Qik (k := -1) (by decide) h h'
  have h1 := (Qfe h).d0
  have h2 := (Qfe h').d0
  have g1 : gc (Qbp (l.map (·.scale (-1)))).1 (Qbp (l.map (·.scale (-1)))).2 = 1 := by
    obtain ⟨hF,_,hN⟩ := Qei h'
    rw [hN];exact Qkn _ (Qdu hF.ok.1)
  have g2 : gc (Qbp l).1 (Qbp l).2 = 1 := by
    obtain ⟨hF,_,hN⟩ := Qei h
    rw [hN];exact Qkn _ (Qdu hF.ok.1)
  exact Qop h2 h1 e g1 (by rw [gc_neg];exact g2)
/-- Products of such numbers fit, with room. -/
theorem nb_room {N : P3} {d : Int} (h : Nb N d) {e : Int} (he : 0 < e) (he' : e ≤ BW) : (Fit (N.x * e) ∧ Fit (N.y * e) ∧ Fit (N.z * e)) ∧ Fit (2 * (N.x * e)) ∧ Fit (2 * (N.y * e)) ∧ Fit (2 * (N.z * e)) := by
  have hb := Qlo
  have hw : (0 : Int) ≤ BW := by omega
  have hl : 2 * (4 * BP * BW) < M511 := by unfold BP BW B3 B2 B1 M511;decide
  have hn : 0 ≤ 4 * BP * BW := Int.mul_nonneg (by omega) hw
  have be : Bd BW e := ⟨by omega,he'⟩
  have bx := bdm (by omega) h.x be
  have by' := bdm (by omega) h.y be
  have bz := bdm (by omega) h.z be
  have f : ∀ {x : Int},Bd (4 * BP * BW) x → Fit x := fun h => Qco (by omega) h
  have f2 : ∀ {x : Int},Bd (4 * BP * BW) x → Fit (2 * x) := fun {x} h => Qco hl ⟨by have := h.1;omega,by have := h.2;omega⟩
  exact ⟨⟨f bx,f by',f bz⟩,f2 bx,f2 by',f2 bz⟩
end Go.Proofs.Ytdfdmeoalbpcdaa

set_option linter.unusedSimpArgs false
set_option linter.unusedVariables false
set_option maxRecDepth 100000
namespace Go.Proofs.Ytdfdmeoalbpcdaa
open Go Go.RowKit
attribute [local irreducible] wpList
end Go.Proofs.Ytdfdmeoalbpcdaa

set_option linter.unusedSimpArgs false
set_option linter.unusedVariables false
set_option maxRecDepth 100000
namespace Go.Proofs.Ytdfdmeoalbpcdaa
open Go Go.RowKit
attribute [local irreducible] wpList
def mx3 (x y z : Int) : Int := if z > (if y > x then y else x) then z else (if y > x then y else x)
def mn3 (x y z : Int) : Int := if z < (if y < x then y else x) then z else (if y < x then y else x)
section
variable {P : Program} {ops : Array Oper} {Q : Exit → Act → World → Prop} {rest : List Oper} {a : Act} {w : World} {d : Tmp} {tp t t2 t3 : TypeId} {pos : String} {af : Array Edge} {x y z : Operand} {i j k : Int}
theorem sx_max (hx : a.eval x = .int .i64 i) (hy : a.eval y = .int .i64 j) (hz : a.eval z = .int .i64 k) (h : wpList P ops Q rest (a.put (some d) (.int .i64 (mx3 i j k))) w) :
    wpList P ops Q (⟨some d,.call { callee := .builtin .max,args := #[x,y,z],argTypes := #[t,t2,t3] },tp,pos,af,none⟩ :: rest) a w := by
  unfold wpList
  rw [if_pos (by simp [Region.wanted])]
  unfold Oper.wp execOp
  simp only [resolve,invoke,builtin,Sem.run_bind,Sem.run_pure,Result.andThen_ok,List.map_toArray,List.map_cons,List.map_nil,hx,hy,hz,run_max_int3,Oper.upon]
  exact .inl h
theorem sx_min (hx : a.eval x = .int .i64 i) (hy : a.eval y = .int .i64 j) (hz : a.eval z = .int .i64 k) (h : wpList P ops Q rest (a.put (some d) (.int .i64 (mn3 i j k))) w) :
    wpList P ops Q (⟨some d,.call { callee := .builtin .min,args := #[x,y,z],argTypes := #[t,t2,t3] },tp,pos,af,none⟩ :: rest) a w := by
  unfold wpList
  rw [if_pos (by simp [Region.wanted])]
  unfold Oper.wp execOp
  simp only [resolve,invoke,builtin,Sem.run_bind,Sem.run_pure,Result.andThen_ok,List.map_toArray,List.map_cons,List.map_nil,hx,hy,hz,run_min_int3,Oper.upon]
  exact .inl h
theorem sx_gt {kk : IntKind} {c : Int} {b : Bool} (hx : a.eval x = .int kk i) (hb : decide (c < i) = b) (h : wpList P ops Q rest (a.put (some d) (.bool b)) w) :
    wpList P ops Q (⟨some d,.binOp .gtr t x (.const (.int kk c)) t2,tp,pos,af,none⟩ :: rest) a w := by
  unfold wpList
  rw [if_pos (by simp [Region.wanted])]
  unfold Oper.wp execOp
  subst hb
  have hc : a.eval (.const (.int kk c)) = .int kk c := rfl
  simp only [hx,hc]
  go_simp
  exact .inl h
theorem sx_ls {kk : IntKind} {c : Int} {b : Bool} (hx : a.eval x = .int kk i) (hb : decide (i < c) = b) (h : wpList P ops Q rest (a.put (some d) (.bool b)) w) :
    wpList P ops Q (⟨some d,.binOp .lss t x (.const (.int kk c)) t2,tp,pos,af,none⟩ :: rest) a w := by
  unfold wpList
  rw [if_pos (by simp [Region.wanted])]
  unfold Oper.wp execOp
  subst hb
  have hc : a.eval (.const (.int kk c)) = .int kk c := rfl
  simp only [hx,hc]
  go_simp
  exact .inl h
end
end Go.Proofs.Ytdfdmeoalbpcdaa
