/-
  Package orient: Spread, Rank, simplex (contracts).
  Package orient: simplex, level, Volume, between (contracts).
  Package orient: within (contract).
  Package orient: between (contract).
  Package orient: Inside, of three points that are a simplex (contract).
  Package orient: Volume (contract).
  Packages ninepinref06, ninepinref07: may, Check, Fine, Less, det, line, Side, Volume (contracts).
  Package ninepinref07: Of (contract).
  Package orient: deep, Inside (contracts).
  Package orient: Inside (contract).
  The Qel of points that each raised the rank (plain).
  Points in simplices: what is inside of a face, and the middle of two points, is inside (plain).
  Faces of simplices: what ninepinlaw07.OrientFaces asks, of points (plain).
  The rank by all choices is the spread's (plain).
  Slices of no element; appending what is part of a block, or nil.
  Package ninepinref07: Rank, Spread (contracts).
  Bits shifted up, and held against one another.
  Package ninepinref01: further, least (contracts).
-/
import Derived.Test.YtdfdmeoalbpcdaaHd
import Derived.Test.YtdfdmeoalbpcdaaGb
import Derived.Test.YtdfdmeoalbpcdaaHb
import Derived.Laws.AppendOwnNone
import Derived.Test.YtdfdmeoalbpcdaaIn
set_option linter.unusedSimpArgs false
set_option linter.unusedVariables false
set_option maxRecDepth 100000
namespace Go.Proofs.Ytdfdmeoalbpcdaa
open Go Go.RowKit
theorem spread_nil (w : World) : Calls Try.prog 39 #[.slice none 0 0] w (RetI [] (fun sv => .tuple #[sv,.int .i64 0]) w) := by
  have hmf : ∀ (fn : Fn) (first cap : Array Value) (w : World),(Instr.makeFunc fn first cap).run Try.prog w = .ok (.func fn first cap) w := fun _ _ _ _ => rfl
  go_enter Try.func39,Try.ntmps39
  have hp := Hp.start [] w
  go_wp2_with (fail)
  go_step3
  go_wp2_with (first|((with_reducible apply Qae hp);exact ii;exact rfl;clear hp;(try clear w1);intro g w1 hp;simp only [zp,zq,z0,z1])|((with_reducible refine Qah hp (fine_nil _) ?_);clear hp;(try clear w1);intro w1 hp))
  apply wp_loop_once
  go_wp2_with (fail)
  rw [Exit.noGoto_ret]
  exact bodyPost_ret (Qat rfl rfl rfl) rfl ⟨_,rfl,hp.keep,.inl ⟨rfl,rfl⟩⟩
set_option maxHeartbeats 1000000 in
theorem Qlz (ps : List P3) (e : Int) (b : Bool) (hb : Qdk ps = b) (hbe : (b = false ∧ e = 7) ∨ (b = true ∧ e = 3 ∧ 256 < ps.length)) (hlen : ps.length ≤ maxLen) (w : World) (g off cap : Nat) (bc : List Value) (t : TypeId) {z : Nat × Nat} (hbk : w.heap[g]? = some (.cells bc.toArray t z)) (hv : (bc.drop off).take (ps.length * 3) = pcs ps) :
    Calls Try.prog 39 #[.slice (some ⟨g,off,none⟩) ps.length cap] w (RetI [] (fun sv => .tuple #[sv,.int .i64 e]) w) := by
  have hmf : ∀ (fn : Fn) (first cap : Array Value) (w : World),(Instr.makeFunc fn first cap).run Try.prog w = .ok (.func fn first cap) w := fun _ _ _ _ => rfl
  have hfn : ∀ w1,Keep [] w w1 → Calls Try.prog 74 #[.slice (some ⟨g,off,none⟩) ps.length cap] w1 (Ret (.bool b) w1) := fun w1 hk => by
    rw [← hb]
    exact fine_any hlen w1 (PSl.keep (.inr ⟨g,off,cap,bc,t,z,rfl,hbk,hv⟩) hk)
  have Hfn := Lib.hid hfn
  clear hfn hv hbk hb
  unfold maxLen at hlen
  rcases hbe with ⟨rfl,rfl⟩|⟨rfl,rfl,hl⟩
  · obtain ⟨e,he⟩ : ∃ e : Int,e = 7 := ⟨_,rfl⟩
    go_enter Try.func39,Try.ntmps39
    have hp := Hp.start [] w
    go_wp2_with (fail)
    refine wp_scope_jumps 0 (fun a wx => ∃ u0 u1 u2 u4 u5 u6 u7 u8 u9 u10 u11 u12 u13 u14 u15 u16 u17 u18 u19 u20 u21 u22 u23 u24 u25 u26 u27 u28 u29 u30 u31 u32 u33 u34 u35 u36 u37,a = { tmps := #[u0,u1,u2,.int .i64 e,u4,u5,u6,u7,u8,u9,u10,u11,u12,u13,u14,u15,u16,u17,u18,u19,u20,u21,u22,u23,u24,u25,u26,u27,u28,u29,u30,u31,u32,u33,u34,u35,u36,u37],defers := [] } ∧ Hp [] w [] wx) (fun _ _ => 0) rfl ?first ?pass
    case first =>
      subst he
      go_wp2_with (first|((with_reducible apply Qae hp);exact ii;exact rfl;clear hp;(try clear w1);intro g w1 hp;simp only [zp,zq,z0,z1])|((with_reducible refine Qah hp (Hfn.out _ hp.keep) ?_);clear hp;(try clear w1);intro w1 hp))
      refine wp_goto ?_
      exact ⟨rfl,_,_,_,_,_,_,_,_,_,_,_,_,_,_,_,_,_,_,_,_,_,_,_,_,_,_,_,_,_,_,_,_,_,_,_,_,_,rfl,hp.sub (List.nil_sublist _)⟩
    case pass =>
      clear hp
      rintro a w1 ⟨u0,u1,u2,u4,u5,u6,u7,u8,u9,u10,u11,u12,u13,u14,u15,u16,u17,u18,u19,u20,u21,u22,u23,u24,u25,u26,u27,u28,u29,u30,u31,u32,u33,u34,u35,u36,u37,rfl,hp⟩
      subst he
      go_wp2_with (fail)
      exact bodyPost_ret (Qat rfl rfl rfl) rfl ⟨_,rfl,hp.keep,.inl ⟨rfl,rfl⟩⟩
  · obtain ⟨e,he⟩ : ∃ e : Int,e = 3 := ⟨_,rfl⟩
    go_enter Try.func39,Try.ntmps39
    have hp := Hp.start [] w
    go_wp2_with (fail)
    refine wp_scope_jumps 0 (fun a wx => ∃ u0 u1 u2 u4 u5 u6 u7 u8 u9 u10 u11 u12 u13 u14 u15 u16 u17 u18 u19 u20 u21 u22 u23 u24 u25 u26 u27 u28 u29 u30 u31 u32 u33 u34 u35 u36 u37,a = { tmps := #[u0,u1,u2,.int .i64 e,u4,u5,u6,u7,u8,u9,u10,u11,u12,u13,u14,u15,u16,u17,u18,u19,u20,u21,u22,u23,u24,u25,u26,u27,u28,u29,u30,u31,u32,u33,u34,u35,u36,u37],defers := [] } ∧ Hp [] w [] wx) (fun _ _ => 0) rfl ?first ?pass
    case first =>
      subst he
      go_wp2_with (first|((with_reducible apply Qae hp);exact ii;exact rfl;clear hp;(try clear w1);intro g w1 hp;simp only [zp,zq,z0,z1])|((with_reducible refine Qah hp (Hfn.out _ hp.keep) ?_);clear hp;(try clear w1);intro w1 hp))
      refine wp_goto ?_
      exact ⟨rfl,_,_,_,_,_,_,_,_,_,_,_,_,_,_,_,_,_,_,_,_,_,_,_,_,_,_,_,_,_,_,_,_,_,_,_,_,_,rfl,hp.sub (List.nil_sublist _)⟩
    case pass =>
      clear hp
      rintro a w1 ⟨u0,u1,u2,u4,u5,u6,u7,u8,u9,u10,u11,u12,u13,u14,u15,u16,u17,u18,u19,u20,u21,u22,u23,u24,u25,u26,u27,u28,u29,u30,u31,u32,u33,u34,u35,u36,u37,rfl,hp⟩
      subst he
      go_wp2_with (fail)
      exact bodyPost_ret (Qat rfl rfl rfl) rfl ⟨_,rfl,hp.keep,.inl ⟨rfl,rfl⟩⟩
/-- What Spread hands back. -/
def Qcn (ps : List P3) : List Int × Int := if Qdk ps = false then ([],7) else if 256 < ps.length then ([],3) else (Qel ps,0)
theorem spread_any {ps : List P3} {v : Value} (hlen : ps.length ≤ maxLen) (w : World) (h : PSl w v ps) : Calls Try.prog 39 #[v] w (RetI (Qcn ps).1 (fun sv => .tuple #[sv,.int .i64 (Qcn ps).2]) w) := by
  rcases h with ⟨rfl,rfl⟩|⟨g,off,cap,bc,t,z,rfl,hb,hv⟩
  · exact spread_nil w
  · unfold Qcn
    split
    · rename_i hf
      exact Qlz ps 7 false hf (.inl ⟨rfl,rfl⟩) hlen w g off cap bc t hb hv
    · rename_i hf
      have hf' : Qdk ps = true := by simpa using hf
      split
      · rename_i hl
        exact Qlz ps 3 true hf' (.inr ⟨rfl,rfl,hl⟩) hlen w g off cap bc t hb hv
      · rename_i hl
        exact spread_far ps _ (Lib.hid rfl) hf' (by omega) w g off cap bc t hb hv
/-! ### Rank -/
theorem Hp.ofI {X : List Nat} {w0 w w' : World} {H : List Bk} {sv : Value} {out : List Int} (hp : Hp X w0 H w) (hk : Keep [] w w') (h : ISl w.heap.size w' sv out) : (sv = .slice none 0 0 ∧ out = [] ∧ Hp X w0 H w') ∨ ∃ g cap junk,sv = .slice (some ⟨g,0,none⟩) out.length cap ∧ Hp X w0 (⟨g,3,out.map (Value.int .i64) ++ junk⟩ :: H) w' := by
  rcases h with ⟨h1,h2⟩|⟨g,cap,junk,hg,h1,h2⟩
  · exact .inl ⟨h1,h2,hp.call hk⟩
  · exact .inr ⟨g,cap,junk,h1,hp.add hk hg h2⟩
/-- What Rank hands back. -/
def Qeu (ps : List P3) : Int × Int := if (Qcn ps).2 = 0 then ((Qcn ps).1.length - 1,0) else (0,(Qcn ps).2)
theorem spread_len (ps : List P3) : (Qcn ps).1.length ≤ 4 := by
  unfold Qcn
  split
  · simp
  · split
    · simp
    · have h := Qmx ps ps.length
      dsimp only [Qel]
      omega
set_option maxHeartbeats 1000000 in
theorem Qjg {ps : List P3} {v : Value} (hlen : ps.length ≤ maxLen) (w : World) (h : PSl w v ps) : Calls Try.prog 19 #[v] w (Ret (.tuple #[.int .i64 (Qeu ps).1,.int .i64 (Qeu ps).2]) w) := by
  have hs := fun w1 hk => spread_any hlen w1 (h.keep hk)
  have hl := spread_len ps
  unfold Qeu
  generalize Qcn ps = so at *
  obtain ⟨out,e⟩ := so
  dsimp only at *
  have Hs := Lib.hid hs
  clear hs h hlen
  by_cases he : e = 0
  · rw [if_pos he]
    subst he
    go_enter Try.func19,Try.ntmps19
    have hp := Hp.start [] w
    go_wp2_with ((refine (Hs.out _ hp.keep).mono ?_);rintro e' w2 ⟨sv,rfl,hk2,hI2⟩;rcases hp.ofI hk2 hI2 with ⟨rfl,rfl,hp⟩|⟨g,cap,junk,rfl,hp⟩)
    all_goals exact bodyPost_ret (Qat rfl rfl rfl) rfl ⟨rfl,hp.keep⟩
  · rw [if_neg he]
    go_enter Try.func19,Try.ntmps19
    have hp := Hp.start [] w
    go_wp2_with ((refine (Hs.out _ hp.keep).mono ?_);rintro e' w2 ⟨sv,rfl,hk2,hI2⟩;rcases hp.ofI hk2 hI2 with ⟨rfl,rfl,hp⟩|⟨g,cap,junk,rfl,hp⟩)
    all_goals exact bodyPost_ret (Qat rfl rfl rfl) rfl ⟨rfl,hp.keep⟩
end Go.Proofs.Ytdfdmeoalbpcdaa

set_option linter.unusedSimpArgs false
set_option linter.unusedVariables false
set_option maxRecDepth 100000
namespace Go.Proofs.Ytdfdmeoalbpcdaa
open Go Go.RowKit
def Qfn (ps : List P3) : Bool := decide (1 ≤ ps.length ∧ ps.length ≤ 4 ∧ (Qeu ps).2 = 0 ∧ (Qeu ps).1 = ps.length - 1)
/-- What fits, multiplied and summed. -/
structure DotFit (m n : P3) : Prop where
  mf : Fit m.x ∧ Fit m.y ∧ Fit m.z
  nf : Fit n.x ∧ Fit n.y ∧ Fit n.z
  x : Fit (m.x * n.x)
  y : Fit (m.y * n.y)
  z : Fit (m.z * n.z)
  xy : Fit (m.x * n.x + m.y * n.y)
  all : Fit (m.x * n.x + m.y * n.y + m.z * n.z)
def part (m n : P3) : Nat → Int
  | 0 => 0
  | 1 => m.x * n.x
  | 2 => m.x * n.x + m.y * n.y
  | _ => m.x * n.x + m.y * n.y + m.z * n.z
end Go.Proofs.Ytdfdmeoalbpcdaa

set_option linter.unusedSimpArgs false
set_option linter.unusedVariables false
set_option maxRecDepth 100000
namespace Go.Proofs.Ytdfdmeoalbpcdaa
open Go Go.RowKit
theorem DotFit.dot {m n : P3} (h : DotFit m n) : Fit (m.dot n) := h.all
end Go.Proofs.Ytdfdmeoalbpcdaa

set_option linter.unusedSimpArgs false
set_option linter.unusedVariables false
set_option maxRecDepth 100000
namespace Go.Proofs.Ytdfdmeoalbpcdaa
open Go Go.RowKit
end Go.Proofs.Ytdfdmeoalbpcdaa
set_option linter.unusedSimpArgs false
set_option linter.unusedVariables false
set_option maxRecDepth 100000
namespace Go.Proofs.Ytdfdmeoalbpcdaa
open Go Go.RowKit
end Go.Proofs.Ytdfdmeoalbpcdaa
set_option linter.unusedSimpArgs false
set_option linter.unusedVariables false
set_option maxRecDepth 100000
namespace Go.Proofs.Ytdfdmeoalbpcdaa
open Go Go.RowKit
/-! ### Volume -/
end Go.Proofs.Ytdfdmeoalbpcdaa

set_option linter.unusedSimpArgs false
set_option linter.unusedVariables false
set_option maxRecDepth 100000
namespace Go.Proofs.Ytdfdmeoalbpcdaa
open Go Go.RowKit
end Go.Proofs.Ytdfdmeoalbpcdaa

set_option linter.unusedSimpArgs false
set_option linter.unusedVariables false
set_option maxRecDepth 100000
namespace Go.Proofs.Ytdfdmeoalbpcdaa
open Go Go.RowKit
/-- A point of a list. -/
def pt (ps : List P3) (i : Nat) : P3 := ps.getD i ⟨0,0,0⟩
def dz (ps : List P3) (j k i : Nat) : Int := P3.det ((pt ps j).sub (pt ps 0)) ((pt ps k).sub (pt ps 0)) ((pt ps i).sub (pt ps 0))
def nl (ps : List P3) (k i : Nat) : Prop := ((pt ps k).sub (pt ps 0)).cross ((pt ps i).sub (pt ps 0)) ≠ ⟨0,0,0⟩
def S1 (ps : List P3) (i : Nat) (e : Bool) : Prop := e = true ↔ ∃ i',1 ≤ i' ∧ i' < i ∧ pt ps i' ≠ pt ps 0
def S2 (ps : List P3) (i k : Nat) (e : Bool) : Prop := e = true ↔ ∃ i' k',1 ≤ k' ∧ k' < i' ∧ (i' < i ∨ i' = i ∧ k' < k) ∧ nl ps k' i'
end Go.Proofs.Ytdfdmeoalbpcdaa

set_option linter.unusedSimpArgs false
set_option linter.unusedVariables false
set_option maxRecDepth 100000
namespace Go.Proofs.Ytdfdmeoalbpcdaa
open Go Go.RowKit
end Go.Proofs.Ytdfdmeoalbpcdaa

set_option linter.unusedSimpArgs false
set_option linter.unusedVariables false
set_option maxRecDepth 100000
namespace Go.Proofs.Ytdfdmeoalbpcdaa
open Go Go.RowKit
section
variable (p : P3) (w : World) (g0 off cap : Nat) (bc : List Value) (t : TypeId) {z : Nat × Nat}
end
end Go.Proofs.Ytdfdmeoalbpcdaa

set_option linter.unusedSimpArgs false
set_option linter.unusedVariables false
namespace Go.Proofs.Ytdfdmeoalbpcdaa
open Go Go.RowKit
/-! ### The Qel of what was taken -/
/-- Each of these raises the rank of those before it. -/
def Raised : List P3 → List P3 → Prop
  | _,[] => True
  | tk,p :: ps => Qcm tk p = true ∧ Raised (tk ++ [p]) ps
theorem Raised.append : ∀ {ps : List P3} {tk : List P3} {p : P3},Raised tk ps → Qcm (tk ++ ps) p = true → Raised tk (ps ++ [p])
  | [],tk,p,_,h => by rw [List.append_nil] at h;exact ⟨h,trivial⟩
  | q :: ps,tk,p,h1,h => ⟨h1.1,Raised.append h1.2 (by simpa using h)⟩
theorem Qkv (ps : List P3) : ∀ k,Raised [] (spst ps k).1
  | 0 => trivial
  | k + 1 => by
    have ih := Qkv ps k
    unfold spst
    cases hp : ps[k]? with
    | none => exact ih
    | some p =>
      dsimp only
      split
      · rename_i hr
        exact ih.append (by simpa using hr)
      · exact ih
theorem Raised.take : ∀ {ps tk : List P3} (n : Nat),Raised tk ps → Raised tk (ps.take n)
  | _,_,0,_ => by simp [Raised]
  | [],_,_ + 1,_ => trivial
  | _ :: _,_,n + 1,h => ⟨h.1,Raised.take n h.2⟩
/-- The Qel of points that each raise the rank is all of them. -/
theorem spst_all {ps : List P3} (h : Raised [] ps) : ∀ k,k ≤ ps.length → (spst ps k).1 = ps.take k ∧ (spst ps k).2 = (List.range k).map (fun i : Nat => (i : Int))
  | 0,_ => ⟨rfl,rfl⟩
  | k + 1,hk => by
    obtain ⟨h1,h2⟩ := spst_all h k (by omega)
    have hp : ps[k]? = some ps[k] := List.getElem?_eq_getElem (by omega)
    have key : ∀ (l tk : List P3) (i : Nat) (q : P3),Raised tk l → l[i]? = some q → Qcm (tk ++ l.take i) q = true := by
      intro l
      induction l with
      | nil => intro tk i q _ hq;simp at hq
      | cons a l ih =>
        intro tk i q hr hq
        cases i with
        | zero => simp at hq;subst hq;simpa using hr.1
        | succ i =>
          have := ih (tk ++ [a]) i q hr.2 (by simpa using hq)
          simpa using this
    have hr := key ps [] k ps[k] h hp
    unfold spst
    rw [hp]
    dsimp only
    rw [h1,h2,if_pos (by simpa using hr)]
    exact ⟨by rw [List.take_add_one,hp];rfl,by rw [List.range_succ];simp⟩
theorem spread_all {ps : List P3} (h : Raised [] ps) : (Qel ps).length = ps.length := by
  unfold Qel
  rw [(spst_all h ps.length (Nat.le_refl _)).2]
  simp
end Go.Proofs.Ytdfdmeoalbpcdaa
set_option linter.unusedSimpArgs false
set_option linter.unusedVariables false
namespace Go.Proofs.Ytdfdmeoalbpcdaa
open Go Go.RowKit
/-- No plane parts p from these points. -/
def Cv (vs : List P3) (p : P3) : Prop := ∀ m x : P3,(∀ v ∈ vs,0 ≤ m.dot (v.sub x)) → 0 ≤ m.dot (p.sub x)
theorem Cv.mono {vs ws : List P3} {p : P3} (h : Cv vs p) (hs : ∀ v ∈ vs,v ∈ ws) : Cv ws p := fun m x hx => h m x fun v hv => hx v (hs v hv)
theorem Cv.self {vs : List P3} {p : P3} (h : p ∈ vs) : Cv vs p := fun m x hx => hx p h
def P3.scale (k : Int) (m : P3) : P3 := ⟨k * m.x,k * m.y,k * m.z⟩
theorem Qnp (k : Int) (m q : P3) : (m.scale k).dot q = k * m.dot q := by
  simp only [P3.scale,P3.dot]
  grind
theorem Cv.zero {vs : List P3} {p m x : P3} (h : Cv vs p) (hx : ∀ v ∈ vs,m.dot (v.sub x) = 0) : m.dot (p.sub x) = 0 := by
  have h1 := h m x fun v hv => by rw [hx v hv];omega
  have h2 := h (m.scale (-1)) x fun v hv => by rw [Qnp,hx v hv];omega
  rw [Qnp] at h2
  omega
theorem Qer (x : Int) : 0 ≤ x * x := by
  rcases Int.le_total 0 x with h|h
  · exact Int.mul_nonneg h h
  · have := Int.mul_nonneg (a := -x) (b := -x) (by omega) (by omega)
    rwa [Int.neg_mul_neg] at this
/-! ### A simplex, by what raised it -/
theorem spst_le (ps : List P3) : ∀ k,(spst ps k).1.length ≤ k
  | 0 => by simp [spst]
  | k + 1 => by
    have := spst_le ps k
    unfold spst
    cases ps[k]? with
    | none => dsimp only;omega
    | some p =>
      dsimp only
      split
      · simp;omega
      · omega
theorem Qnq (ps : List P3) : ∀ k,k ≤ ps.length → (spst ps k).1.length = k → (spst ps k).1 = ps.take k
  | 0,_,_ => by simp [spst]
  | k + 1,hk,h => by
    have hl := spst_le ps k
    have hp : ps[k]? = some ps[k] := List.getElem?_eq_getElem (by omega)
    unfold spst at h ⊢
    rw [hp] at h ⊢
    dsimp only at h ⊢
    split
    · rename_i hr
      rw [if_pos hr] at h
      simp only [List.length_append,List.length_cons,List.length_nil] at h
      rw [Qnq ps k (by omega) (by omega),List.take_add_one,hp]
      rfl
    · rename_i hr
      rw [if_neg hr] at h
      omega
theorem Qlp {ps : List P3} (h : Qfn ps = true) : Qdk ps = true ∧ 1 ≤ ps.length ∧ ps.length ≤ 4 ∧ Raised [] ps := by
  unfold Qfn at h
  simp only [decide_eq_true_eq] at h
  obtain ⟨h1,h4,he,hr⟩ := h
  unfold Qeu at he hr
  have hs : (Qcn ps).2 = 0 := by
    split at he
    · assumption
    · exact he
  rw [if_pos hs] at hr
  have hf : Qdk ps = true ∧ Qcn ps = (Qel ps,0) := by
    unfold Qcn at hs ⊢
    split at hs
    · cases hs
    · rename_i hf
      rw [if_neg hf]
      split at hs
      · cases hs
      · rename_i h2
        rw [if_neg h2]
        exact ⟨by simpa using hf,rfl⟩
  rw [hf.2] at hr
  dsimp only at hr
  obtain ⟨_,hl,_⟩ := Qmx ps ps.length
  have hfull := Qnq ps ps.length (Nat.le_refl _) (by rw [hl];unfold Qel at hr;omega)
  rw [List.take_length] at hfull
  refine ⟨hf.1,h1,h4,?_⟩
  rw [← hfull]
  exact Qkv ps ps.length
theorem simplex_of {ps : List P3} (hf : Qdk ps = true) (h1 : 1 ≤ ps.length) (h4 : ps.length ≤ 4) (hr : Raised [] ps) : Qfn ps = true := by
  unfold Qfn
  simp only [decide_eq_true_eq]
  have hs : Qcn ps = (Qel ps,0) := by
    unfold Qcn
    rw [if_neg (by rw [hf];simp),if_neg (by omega)]
  unfold Qeu
  rw [hs]
  dsimp only
  rw [if_pos rfl,spread_all hr]
  exact ⟨h1,h4,rfl,rfl⟩
/-! ### What no plane parts from a simplex is inside -/
theorem Qdg (n : P3) : 0 ≤ n.dot n := by
  have h1 := Qer n.x
  have h2 := Qer n.y
  have h3 := Qer n.z
  simp only [P3.dot]
  omega
end Go.Proofs.Ytdfdmeoalbpcdaa
set_option linter.unusedSimpArgs false
set_option linter.unusedVariables false
namespace Go.Proofs.Ytdfdmeoalbpcdaa
open Go Go.RowKit
theorem raised_two {a b : P3} : Raised [] [a,b] ↔ b ≠ a := by
  simp [Raised,Qcm]
theorem raised_three {a b c : P3} : Raised [] [a,b,c] ↔ b ≠ a ∧ (b.sub a).cross (c.sub a) ≠ ⟨0,0,0⟩ := by
  simp [Raised,Qcm]
theorem raised_four {a b c d : P3} : Raised [] [a,b,c,d] ↔ b ≠ a ∧ (b.sub a).cross (c.sub a) ≠ ⟨0,0,0⟩ ∧ P3.det (b.sub a) (c.sub a) (d.sub a) ≠ 0 := by
  simp [Raised,Qcm]
theorem Qlb {x y z : P3} (h : (y.sub x).cross (z.sub x) ≠ ⟨0,0,0⟩) : y ≠ x := by
  rintro rfl
  apply h
  simp only [P3.cross,P3.sub,P3.mk.injEq]
  refine ⟨by grind,by grind,by grind⟩
end Go.Proofs.Ytdfdmeoalbpcdaa

set_option linter.unusedSimpArgs false
set_option linter.unusedVariables false
namespace Go.Proofs.Ytdfdmeoalbpcdaa
open Go Go.RowKit
/-! ### Linear algebra -/
theorem Qoo {u v w : P3} (h : v.cross w = ⟨0,0,0⟩) : P3.det u v w = 0 := by
  unfold P3.det
  rw [h]
  simp [P3.dot]
/-! ### What was taken holds all -/
theorem sub_self (a : P3) : a.sub a = ⟨0,0,0⟩ := by simp [P3.sub]
theorem det_rot (a b c : P3) : P3.det a b c = P3.det c a b := by
  simp only [P3.det,P3.dot,P3.cross];grind
theorem pt_get {ps : List P3} {i : Nat} (h : i < ps.length) : ps[i]? = some (pt ps i) := by
  unfold pt
  rw [List.getD_eq_getElem?_getD,List.getElem?_eq_getElem h]
  rfl
/-! ### The Qel of a list that is longer -/
end Go.Proofs.Ytdfdmeoalbpcdaa

set_option linter.unusedSimpArgs false
set_option linter.unusedVariables false
namespace Go.Proofs.Ytdfdmeoalbpcdaa
open Go Go.RowKit
section
variable {P : Program} {X : List Nat} {w0 w : World} {H H1 : List Bk} {ops : Array Oper} {Q : Exit → Act → World → Prop} {a : Act} {rest : List Oper} {d : Tmp} {tp t : TypeId} {pos : String} {af : Array Edge}
end
end Go.Proofs.Ytdfdmeoalbpcdaa
set_option linter.unusedSimpArgs false
set_option linter.unusedVariables false
set_option maxRecDepth 100000
namespace Go.Proofs.Ytdfdmeoalbpcdaa
open Go Go.RowKit
theorem PSl.own {w : World} {g cap : Nat} {t : TypeId} {tk : List P3} {ja : List Value} (h : w.heap[g]? = some (.cells (pcs tk ++ ja).toArray t (0,0))) : PSl w (.slice (some ⟨g,0,none⟩) tk.length cap) tk :=
  .inr ⟨g,0,cap,_,t,_,rfl,h,by rw [List.drop_zero,← Qck,List.take_left'];rfl⟩
end Go.Proofs.Ytdfdmeoalbpcdaa

set_option linter.unusedSimpArgs false
set_option linter.unusedVariables false
set_option maxRecDepth 100000
namespace Go.Proofs.Ytdfdmeoalbpcdaa
open Go Go.RowKit
end Go.Proofs.Ytdfdmeoalbpcdaa
