/-
  Package orient: Spread, Rank, simplex (contracts).
  Package orient: simplex, level, Volume, between (contracts).
  Package orient: within (contract).
  Package orient: between (contract).
  Package orient: Inside, of three points that are a simplex (contract).
  Package orient: Volume (contract).
  Packages ninepinref06, ninepinref07: may, Check, Fine, Less, det, line, Side, Volume (contracts).
  Package ninepinref07: Of (contract).
  Package orient: deep, Inside (contracts).
  Package orient: Inside (contract).
-/
import Derived.Test.YtdfdmeoalbpcdaaHd
import Derived.Test.YtdfdmeoalbpcdaaGb
set_option linter.unusedSimpArgs false
set_option linter.unusedVariables false
set_option maxRecDepth 100000
namespace Go.Proofs.Ytdfdmeoalbpcdaa
open Go Go.RowKit
theorem spread_nil (w : World) : Calls Try.prog 39 #[.slice none 0 0] w (RetI [] (fun sv => .tuple #[sv,.int .i64 0]) w) := by
  have hmf : ∀ (fn : Fn) (first cap : Array Value) (w : World),(Instr.makeFunc fn first cap).run Try.prog w = .ok (.func fn first cap) w := fun _ _ _ _ => rfl
  go_enter Try.func39,Try.ntmps39
  have hp := Hp.start [] w
  go_wp2_with (fail)
  go_step3
  go_wp2_with (first|((with_reducible apply Qag hp);exact ii;exact rfl;clear hp;(try clear w1);intro g w1 hp;simp only [zp,zq,z0,z1])|((with_reducible refine Qae hp (Qpe _) ?_);clear hp;(try clear w1);intro w1 hp))
  apply wp_loop_once
  go_wp2_with (fail)
  rw [Exit.noGoto_ret]
  exact bodyPost_ret (Qaq rfl rfl rfl) rfl ⟨_,rfl,hp.keep,.inl ⟨rfl,rfl⟩⟩
set_option maxHeartbeats 1000000 in
theorem Qkj (ps : List P3) (e : Int) (b : Bool) (hb : Qeg ps = b) (hbe : (b = false ∧ e = 7) ∨ (b = true ∧ e = 3 ∧ 256 < ps.length)) (hlen : ps.length ≤ maxLen) (w : World) (g off cap : Nat) (bc : List Value) (t : TypeId) {z : Nat × Nat} (hbk : w.heap[g]? = some (.cells bc.toArray t z)) (hv : (bc.drop off).take (ps.length * 3) = pcs ps) :
    Calls Try.prog 39 #[.slice (some ⟨g,off,none⟩) ps.length cap] w (RetI [] (fun sv => .tuple #[sv,.int .i64 e]) w) := by
  have hmf : ∀ (fn : Fn) (first cap : Array Value) (w : World),(Instr.makeFunc fn first cap).run Try.prog w = .ok (.func fn first cap) w := fun _ _ _ _ => rfl
  have hfn : ∀ w1,Keep [] w w1 → Calls Try.prog 74 #[.slice (some ⟨g,off,none⟩) ps.length cap] w1 (Ret (.bool b) w1) := fun w1 hk => by
    rw [← hb]
    exact fine_any hlen w1 (PSl.keep (.inr ⟨g,off,cap,bc,t,z,rfl,hbk,hv⟩) hk)
  have Hfn := Lib.hid hfn
  clear hfn hv hbk hb
  unfold maxLen at hlen
  rcases hbe with ⟨rfl,rfl⟩|⟨rfl,rfl,hl⟩
  · obtain ⟨e,he⟩ : ∃ e : Int,e = 7 := ⟨_,rfl⟩
    go_enter Try.func39,Try.ntmps39
    have hp := Hp.start [] w
    go_wp2_with (fail)
    refine wp_scope_jumps 0 (fun a wx => ∃ u0 u1 u2 u4 u5 u6 u7 u8 u9 u10 u11 u12 u13 u14 u15 u16 u17 u18 u19 u20 u21 u22 u23 u24 u25 u26 u27 u28 u29 u30 u31 u32 u33 u34 u35 u36 u37,a = { tmps := #[u0,u1,u2,.int .i64 e,u4,u5,u6,u7,u8,u9,u10,u11,u12,u13,u14,u15,u16,u17,u18,u19,u20,u21,u22,u23,u24,u25,u26,u27,u28,u29,u30,u31,u32,u33,u34,u35,u36,u37],defers := [] } ∧ Hp [] w [] wx) (fun _ _ => 0) rfl ?first ?pass
    case first =>
      subst he
      go_wp2_with (first|((with_reducible apply Qag hp);exact ii;exact rfl;clear hp;(try clear w1);intro g w1 hp;simp only [zp,zq,z0,z1])|((with_reducible refine Qae hp (Hfn.out _ hp.keep) ?_);clear hp;(try clear w1);intro w1 hp))
      refine wp_goto ?_
      exact ⟨rfl,_,_,_,_,_,_,_,_,_,_,_,_,_,_,_,_,_,_,_,_,_,_,_,_,_,_,_,_,_,_,_,_,_,_,_,_,_,rfl,hp.sub (List.nil_sublist _)⟩
    case pass =>
      clear hp
      rintro a w1 ⟨u0,u1,u2,u4,u5,u6,u7,u8,u9,u10,u11,u12,u13,u14,u15,u16,u17,u18,u19,u20,u21,u22,u23,u24,u25,u26,u27,u28,u29,u30,u31,u32,u33,u34,u35,u36,u37,rfl,hp⟩
      subst he
      go_wp2_with (fail)
      exact bodyPost_ret (Qaq rfl rfl rfl) rfl ⟨_,rfl,hp.keep,.inl ⟨rfl,rfl⟩⟩
  · obtain ⟨e,he⟩ : ∃ e : Int,e = 3 := ⟨_,rfl⟩
    go_enter Try.func39,Try.ntmps39
    have hp := Hp.start [] w
    go_wp2_with (fail)
    refine wp_scope_jumps 0 (fun a wx => ∃ u0 u1 u2 u4 u5 u6 u7 u8 u9 u10 u11 u12 u13 u14 u15 u16 u17 u18 u19 u20 u21 u22 u23 u24 u25 u26 u27 u28 u29 u30 u31 u32 u33 u34 u35 u36 u37,a = { tmps := #[u0,u1,u2,.int .i64 e,u4,u5,u6,u7,u8,u9,u10,u11,u12,u13,u14,u15,u16,u17,u18,u19,u20,u21,u22,u23,u24,u25,u26,u27,u28,u29,u30,u31,u32,u33,u34,u35,u36,u37],defers := [] } ∧ Hp [] w [] wx) (fun _ _ => 0) rfl ?first ?pass
    case first =>
      subst he
      go_wp2_with (first|((with_reducible apply Qag hp);exact ii;exact rfl;clear hp;(try clear w1);intro g w1 hp;simp only [zp,zq,z0,z1])|((with_reducible refine Qae hp (Hfn.out _ hp.keep) ?_);clear hp;(try clear w1);intro w1 hp))
      refine wp_goto ?_
      exact ⟨rfl,_,_,_,_,_,_,_,_,_,_,_,_,_,_,_,_,_,_,_,_,_,_,_,_,_,_,_,_,_,_,_,_,_,_,_,_,_,rfl,hp.sub (List.nil_sublist _)⟩
    case pass =>
      clear hp
      rintro a w1 ⟨u0,u1,u2,u4,u5,u6,u7,u8,u9,u10,u11,u12,u13,u14,u15,u16,u17,u18,u19,u20,u21,u22,u23,u24,u25,u26,u27,u28,u29,u30,u31,u32,u33,u34,u35,u36,u37,rfl,hp⟩
      subst he
      go_wp2_with (fail)
      exact bodyPost_ret (Qaq rfl rfl rfl) rfl ⟨_,rfl,hp.keep,.inl ⟨rfl,rfl⟩⟩
/-- What Spread hands back. -/
def Qcm (ps : List P3) : List Int × Int := if Qeg ps = false then ([],7) else if 256 < ps.length then ([],3) else (Qer ps,0)
theorem spread_any {ps : List P3} {v : Value} (hlen : ps.length ≤ maxLen) (w : World) (h : PSl w v ps) : Calls Try.prog 39 #[v] w (RetI (Qcm ps).1 (fun sv => .tuple #[sv,.int .i64 (Qcm ps).2]) w) := by
  rcases h with ⟨rfl,rfl⟩|⟨g,off,cap,bc,t,z,rfl,hb,hv⟩
  · exact spread_nil w
  · unfold Qcm
    split
    · rename_i hf
      exact Qkj ps 7 false hf (.inl ⟨rfl,rfl⟩) hlen w g off cap bc t hb hv
    · rename_i hf
      have hf' : Qeg ps = true := by simpa using hf
      split
      · rename_i hl
        exact Qkj ps 3 true hf' (.inr ⟨rfl,rfl,hl⟩) hlen w g off cap bc t hb hv
      · rename_i hl
        exact spread_far ps _ (Lib.hid rfl) hf' (by omega) w g off cap bc t hb hv
/-! ### Rank -/
theorem Hp.ofI {X : List Nat} {w0 w w' : World} {H : List Bk} {sv : Value} {out : List Int} (hp : Hp X w0 H w) (hk : Keep [] w w') (h : ISl w.heap.size w' sv out) : (sv = .slice none 0 0 ∧ out = [] ∧ Hp X w0 H w') ∨ ∃ g cap junk,sv = .slice (some ⟨g,0,none⟩) out.length cap ∧ Hp X w0 (⟨g,3,out.map (Value.int .i64) ++ junk⟩ :: H) w' := by
  rcases h with ⟨h1,h2⟩|⟨g,cap,junk,hg,h1,h2⟩
  · exact .inl ⟨h1,h2,hp.call hk⟩
  · exact .inr ⟨g,cap,junk,h1,hp.add hk hg h2⟩
/-- What Rank hands back. -/
def Qff (ps : List P3) : Int × Int := if (Qcm ps).2 = 0 then ((Qcm ps).1.length - 1,0) else (0,(Qcm ps).2)
theorem spread_len (ps : List P3) : (Qcm ps).1.length ≤ 4 := by
  unfold Qcm
  split
  · simp
  · split
    · simp
    · have h := Qlw ps ps.length
      dsimp only [Qer]
      omega
set_option maxHeartbeats 1000000 in
theorem Qkx {ps : List P3} {v : Value} (hlen : ps.length ≤ maxLen) (w : World) (h : PSl w v ps) : Calls Try.prog 19 #[v] w (Ret (.tuple #[.int .i64 (Qff ps).1,.int .i64 (Qff ps).2]) w) := by
  have hs := fun w1 hk => spread_any hlen w1 (h.keep hk)
  have hl := spread_len ps
  unfold Qff
  generalize Qcm ps = so at *
  obtain ⟨out,e⟩ := so
  dsimp only at *
  have Hs := Lib.hid hs
  clear hs h hlen
  by_cases he : e = 0
  · rw [if_pos he]
    subst he
    go_enter Try.func19,Try.ntmps19
    have hp := Hp.start [] w
    go_wp2_with ((refine (Hs.out _ hp.keep).mono ?_);rintro e' w2 ⟨sv,rfl,hk2,hI2⟩;rcases hp.ofI hk2 hI2 with ⟨rfl,rfl,hp⟩|⟨g,cap,junk,rfl,hp⟩)
    all_goals exact bodyPost_ret (Qaq rfl rfl rfl) rfl ⟨rfl,hp.keep⟩
  · rw [if_neg he]
    go_enter Try.func19,Try.ntmps19
    have hp := Hp.start [] w
    go_wp2_with ((refine (Hs.out _ hp.keep).mono ?_);rintro e' w2 ⟨sv,rfl,hk2,hI2⟩;rcases hp.ofI hk2 hI2 with ⟨rfl,rfl,hp⟩|⟨g,cap,junk,rfl,hp⟩)
    all_goals exact bodyPost_ret (Qaq rfl rfl rfl) rfl ⟨rfl,hp.keep⟩
end Go.Proofs.Ytdfdmeoalbpcdaa

set_option linter.unusedSimpArgs false
set_option linter.unusedVariables false
set_option maxRecDepth 100000
namespace Go.Proofs.Ytdfdmeoalbpcdaa
open Go Go.RowKit
def Qft (ps : List P3) : Bool := decide (1 ≤ ps.length ∧ ps.length ≤ 4 ∧ (Qff ps).2 = 0 ∧ (Qff ps).1 = ps.length - 1)
/-- What fits, multiplied and summed. -/
structure DotFit (m n : P3) : Prop where
  mf : Fit m.x ∧ Fit m.y ∧ Fit m.z
  nf : Fit n.x ∧ Fit n.y ∧ Fit n.z
  x : Fit (m.x * n.x)
  y : Fit (m.y * n.y)
  z : Fit (m.z * n.z)
  xy : Fit (m.x * n.x + m.y * n.y)
  all : Fit (m.x * n.x + m.y * n.y + m.z * n.z)
def part (m n : P3) : Nat → Int
  | 0 => 0
  | 1 => m.x * n.x
  | 2 => m.x * n.x + m.y * n.y
  | _ => m.x * n.x + m.y * n.y + m.z * n.z
end Go.Proofs.Ytdfdmeoalbpcdaa

set_option linter.unusedSimpArgs false
set_option linter.unusedVariables false
set_option maxRecDepth 100000
namespace Go.Proofs.Ytdfdmeoalbpcdaa
open Go Go.RowKit
theorem DotFit.dot {m n : P3} (h : DotFit m n) : Fit (m.dot n) := h.all
end Go.Proofs.Ytdfdmeoalbpcdaa

set_option linter.unusedSimpArgs false
set_option linter.unusedVariables false
set_option maxRecDepth 100000
namespace Go.Proofs.Ytdfdmeoalbpcdaa
open Go Go.RowKit
end Go.Proofs.Ytdfdmeoalbpcdaa
set_option linter.unusedSimpArgs false
set_option linter.unusedVariables false
set_option maxRecDepth 100000
namespace Go.Proofs.Ytdfdmeoalbpcdaa
open Go Go.RowKit
end Go.Proofs.Ytdfdmeoalbpcdaa
set_option linter.unusedSimpArgs false
set_option linter.unusedVariables false
set_option maxRecDepth 100000
namespace Go.Proofs.Ytdfdmeoalbpcdaa
open Go Go.RowKit
/-! ### Volume -/
end Go.Proofs.Ytdfdmeoalbpcdaa

set_option linter.unusedSimpArgs false
set_option linter.unusedVariables false
set_option maxRecDepth 100000
namespace Go.Proofs.Ytdfdmeoalbpcdaa
open Go Go.RowKit
end Go.Proofs.Ytdfdmeoalbpcdaa

set_option linter.unusedSimpArgs false
set_option linter.unusedVariables false
set_option maxRecDepth 100000
namespace Go.Proofs.Ytdfdmeoalbpcdaa
open Go Go.RowKit
/-- A point of a list. -/
def pt (ps : List P3) (i : Nat) : P3 := ps.getD i ⟨0,0,0⟩
def nl (ps : List P3) (k i : Nat) : Prop := ((pt ps k).sub (pt ps 0)).cross ((pt ps i).sub (pt ps 0)) ≠ ⟨0,0,0⟩
def S1 (ps : List P3) (i : Nat) (e : Bool) : Prop := e = true ↔ ∃ i',1 ≤ i' ∧ i' < i ∧ pt ps i' ≠ pt ps 0
def S2 (ps : List P3) (i k : Nat) (e : Bool) : Prop := e = true ↔ ∃ i' k',1 ≤ k' ∧ k' < i' ∧ (i' < i ∨ i' = i ∧ k' < k) ∧ nl ps k' i'
end Go.Proofs.Ytdfdmeoalbpcdaa

set_option linter.unusedSimpArgs false
set_option linter.unusedVariables false
set_option maxRecDepth 100000
namespace Go.Proofs.Ytdfdmeoalbpcdaa
open Go Go.RowKit
end Go.Proofs.Ytdfdmeoalbpcdaa

set_option linter.unusedSimpArgs false
set_option linter.unusedVariables false
set_option maxRecDepth 100000
namespace Go.Proofs.Ytdfdmeoalbpcdaa
open Go Go.RowKit
section
variable (p : P3) (w : World) (g0 off cap : Nat) (bc : List Value) (t : TypeId) {z : Nat × Nat}
end
end Go.Proofs.Ytdfdmeoalbpcdaa
