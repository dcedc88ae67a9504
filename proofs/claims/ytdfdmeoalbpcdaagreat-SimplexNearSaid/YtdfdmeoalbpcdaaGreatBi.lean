/-
  Package orient: Spread, Rank, simplex (contracts).
  Package orient: simplex, level, Volume, between (contracts).
  Package orient: within (contract).
  Package orient: between (contract).
  Package orient: Inside, of three points that are a simplex (contract).
  Package orient: Volume (contract).
  Packages ninepinref06, ninepinref07: may, Check, Fine, Less, det, line, Side, Volume (contracts).
-/
import Derived.Test.YtdfdmeoalbpcdaaGreatHd
import Derived.Test.YtdfdmeoalbpcdaaGreatGc
set_option linter.unusedSimpArgs false
set_option linter.unusedVariables false
set_option maxRecDepth 100000
namespace Go.Proofs.YtdfdmeoalbpcdaaGreat
open Go Go.RowKit
theorem spread_nil (w : World) : Calls Tryz.prog 22 #[.slice none 0 0] w (RetI [] (fun sv => .tuple #[sv,.int .i64 0]) w) := by
  have hmf : ∀ (fn : Fn) (first cap : Array Value) (w : World),(Instr.makeFunc fn first cap).run Tryz.prog w = .ok (.func fn first cap) w := fun _ _ _ _ => rfl
  go_enter Tryz.func22,Tryz.ntmps22
  have hp := Hp.start [] w
  go_wp2_with (fail)
  go_step3
  go_wp2_with (first|((with_reducible apply Qag hp);exact ii;exact rfl;clear hp;(try clear w1);intro g w1 hp;simp only [zp,zq,z0,z1])|((with_reducible refine Qaf hp (fine_nil _) ?_);clear hp;(try clear w1);intro w1 hp))
  apply wp_loop_once
  go_wp2_with (fail)
  rw [Exit.noGoto_ret]
  exact bodyPost_ret (Qan rfl rfl rfl) rfl ⟨_,rfl,hp.keep,.inl ⟨rfl,rfl⟩⟩
set_option maxHeartbeats 1000000 in
theorem Qml (ps : List P3) (e : Int) (b : Bool) (hb : Qdf ps = b) (hbe : (b = false ∧ e = 7) ∨ (b = true ∧ e = 3 ∧ 256 < ps.length)) (hlen : ps.length ≤ maxLen) (w : World) (g off cap : Nat) (bc : List Value) (t : TypeId) {z : Nat × Nat} (hbk : w.heap[g]? = some (.cells bc.toArray t z)) (hv : (bc.drop off).take (ps.length * 3) = pcs ps) :
    Calls Tryz.prog 22 #[.slice (some ⟨g,off,none⟩) ps.length cap] w (RetI [] (fun sv => .tuple #[sv,.int .i64 e]) w) := by
  have hmf : ∀ (fn : Fn) (first cap : Array Value) (w : World),(Instr.makeFunc fn first cap).run Tryz.prog w = .ok (.func fn first cap) w := fun _ _ _ _ => rfl
  have hfn : ∀ w1,Keep [] w w1 → Calls Tryz.prog 48 #[.slice (some ⟨g,off,none⟩) ps.length cap] w1 (Ret (.bool b) w1) := fun w1 hk => by
    rw [← hb]
    exact fine_any hlen w1 (PSl.keep (.inr ⟨g,off,cap,bc,t,z,rfl,hbk,hv⟩) hk)
  have Hfn := Lib.hid hfn
  clear hfn hv hbk hb
  unfold maxLen at hlen
  rcases hbe with ⟨rfl,rfl⟩|⟨rfl,rfl,hl⟩
  · obtain ⟨e,he⟩ : ∃ e : Int,e = 7 := ⟨_,rfl⟩
    go_enter Tryz.func22,Tryz.ntmps22
    have hp := Hp.start [] w
    go_wp2_with (fail)
    refine wp_scope_jumps 0 (fun a wx => ∃ u0 u1 u2 u4 u5 u6 u7 u8 u9 u10 u11 u12 u13 u14 u15 u16 u17 u18 u19 u20 u21 u22 u23 u24 u25 u26 u27 u28 u29 u30 u31 u32 u33 u34 u35 u36 u37,a = { tmps := #[u0,u1,u2,.int .i64 e,u4,u5,u6,u7,u8,u9,u10,u11,u12,u13,u14,u15,u16,u17,u18,u19,u20,u21,u22,u23,u24,u25,u26,u27,u28,u29,u30,u31,u32,u33,u34,u35,u36,u37],defers := [] } ∧ Hp [] w [] wx) (fun _ _ => 0) rfl ?first ?pass
    case first =>
      subst he
      go_wp2_with (first|((with_reducible apply Qag hp);exact ii;exact rfl;clear hp;(try clear w1);intro g w1 hp;simp only [zp,zq,z0,z1])|((with_reducible refine Qaf hp (Hfn.out _ hp.keep) ?_);clear hp;(try clear w1);intro w1 hp))
      refine wp_goto ?_
      exact ⟨rfl,_,_,_,_,_,_,_,_,_,_,_,_,_,_,_,_,_,_,_,_,_,_,_,_,_,_,_,_,_,_,_,_,_,_,_,_,_,rfl,hp.sub (List.nil_sublist _)⟩
    case pass =>
      clear hp
      rintro a w1 ⟨u0,u1,u2,u4,u5,u6,u7,u8,u9,u10,u11,u12,u13,u14,u15,u16,u17,u18,u19,u20,u21,u22,u23,u24,u25,u26,u27,u28,u29,u30,u31,u32,u33,u34,u35,u36,u37,rfl,hp⟩
      subst he
      go_wp2_with (fail)
      exact bodyPost_ret (Qan rfl rfl rfl) rfl ⟨_,rfl,hp.keep,.inl ⟨rfl,rfl⟩⟩
  · obtain ⟨e,he⟩ : ∃ e : Int,e = 3 := ⟨_,rfl⟩
    go_enter Tryz.func22,Tryz.ntmps22
    have hp := Hp.start [] w
    go_wp2_with (fail)
    refine wp_scope_jumps 0 (fun a wx => ∃ u0 u1 u2 u4 u5 u6 u7 u8 u9 u10 u11 u12 u13 u14 u15 u16 u17 u18 u19 u20 u21 u22 u23 u24 u25 u26 u27 u28 u29 u30 u31 u32 u33 u34 u35 u36 u37,a = { tmps := #[u0,u1,u2,.int .i64 e,u4,u5,u6,u7,u8,u9,u10,u11,u12,u13,u14,u15,u16,u17,u18,u19,u20,u21,u22,u23,u24,u25,u26,u27,u28,u29,u30,u31,u32,u33,u34,u35,u36,u37],defers := [] } ∧ Hp [] w [] wx) (fun _ _ => 0) rfl ?first ?pass
    case first =>
      subst he
      go_wp2_with (first|((with_reducible apply Qag hp);exact ii;exact rfl;clear hp;(try clear w1);intro g w1 hp;simp only [zp,zq,z0,z1])|((with_reducible refine Qaf hp (Hfn.out _ hp.keep) ?_);clear hp;(try clear w1);intro w1 hp))
      refine wp_goto ?_
      exact ⟨rfl,_,_,_,_,_,_,_,_,_,_,_,_,_,_,_,_,_,_,_,_,_,_,_,_,_,_,_,_,_,_,_,_,_,_,_,_,_,rfl,hp.sub (List.nil_sublist _)⟩
    case pass =>
      clear hp
      rintro a w1 ⟨u0,u1,u2,u4,u5,u6,u7,u8,u9,u10,u11,u12,u13,u14,u15,u16,u17,u18,u19,u20,u21,u22,u23,u24,u25,u26,u27,u28,u29,u30,u31,u32,u33,u34,u35,u36,u37,rfl,hp⟩
      subst he
      go_wp2_with (fail)
      exact bodyPost_ret (Qan rfl rfl rfl) rfl ⟨_,rfl,hp.keep,.inl ⟨rfl,rfl⟩⟩
/-- What Spread hands back. -/
def Qcq (ps : List P3) : List Int × Int := if Qdf ps = false then ([],7) else if 256 < ps.length then ([],3) else (Qcd ps,0)
theorem spread_any {ps : List P3} {v : Value} (hlen : ps.length ≤ maxLen) (w : World) (h : PSl w v ps) : Calls Tryz.prog 22 #[v] w (RetI (Qcq ps).1 (fun sv => .tuple #[sv,.int .i64 (Qcq ps).2]) w) := by
  rcases h with ⟨rfl,rfl⟩|⟨g,off,cap,bc,t,z,rfl,hb,hv⟩
  · exact spread_nil w
  · unfold Qcq
    split
    · rename_i hf
      exact Qml ps 7 false hf (.inl ⟨rfl,rfl⟩) hlen w g off cap bc t hb hv
    · rename_i hf
      have hf' : Qdf ps = true := by simpa using hf
      split
      · rename_i hl
        exact Qml ps 3 true hf' (.inr ⟨rfl,rfl,hl⟩) hlen w g off cap bc t hb hv
      · rename_i hl
        exact spread_far ps _ (Lib.hid rfl) hf' (by omega) w g off cap bc t hb hv
/-! ### Rank -/
theorem Hp.ofI {X : List Nat} {w0 w w' : World} {H : List Bk} {sv : Value} {out : List Int} (hp : Hp X w0 H w) (hk : Keep [] w w') (h : ISl w.heap.size w' sv out) : (sv = .slice none 0 0 ∧ out = [] ∧ Hp X w0 H w') ∨ ∃ g cap junk,sv = .slice (some ⟨g,0,none⟩) out.length cap ∧ Hp X w0 (⟨g,3,out.map (Value.int .i64) ++ junk⟩ :: H) w' := by
  rcases h with ⟨h1,h2⟩|⟨g,cap,junk,hg,h1,h2⟩
  · exact .inl ⟨h1,h2,hp.call hk⟩
  · exact .inr ⟨g,cap,junk,h1,hp.add hk hg h2⟩
/-- What Rank hands back. -/
def Qft (ps : List P3) : Int × Int := if (Qcq ps).2 = 0 then ((Qcq ps).1.length - 1,0) else (0,(Qcq ps).2)
theorem spread_len (ps : List P3) : (Qcq ps).1.length ≤ 4 := by
  unfold Qcq
  split
  · simp
  · split
    · simp
    · have h := Qgj ps ps.length
      dsimp only [Qcd]
      omega
set_option maxHeartbeats 1000000 in
theorem Qnl {ps : List P3} {v : Value} (hlen : ps.length ≤ maxLen) (w : World) (h : PSl w v ps) : Calls Tryz.prog 11 #[v] w (Ret (.tuple #[.int .i64 (Qft ps).1,.int .i64 (Qft ps).2]) w) := by
  have hs := fun w1 hk => spread_any hlen w1 (h.keep hk)
  have hl := spread_len ps
  unfold Qft
  generalize Qcq ps = so at *
  obtain ⟨out,e⟩ := so
  dsimp only at *
  have Hs := Lib.hid hs
  clear hs h hlen
  by_cases he : e = 0
  · rw [if_pos he]
    subst he
    go_enter Tryz.func11,Tryz.ntmps11
    have hp := Hp.start [] w
    go_wp2_with ((refine (Hs.out _ hp.keep).mono ?_);rintro e' w2 ⟨sv,rfl,hk2,hI2⟩;rcases hp.ofI hk2 hI2 with ⟨rfl,rfl,hp⟩|⟨g,cap,junk,rfl,hp⟩)
    all_goals exact bodyPost_ret (Qan rfl rfl rfl) rfl ⟨rfl,hp.keep⟩
  · rw [if_neg he]
    go_enter Tryz.func11,Tryz.ntmps11
    have hp := Hp.start [] w
    go_wp2_with ((refine (Hs.out _ hp.keep).mono ?_);rintro e' w2 ⟨sv,rfl,hk2,hI2⟩;rcases hp.ofI hk2 hI2 with ⟨rfl,rfl,hp⟩|⟨g,cap,junk,rfl,hp⟩)
    all_goals exact bodyPost_ret (Qan rfl rfl rfl) rfl ⟨rfl,hp.keep⟩
end Go.Proofs.YtdfdmeoalbpcdaaGreat

set_option linter.unusedSimpArgs false
set_option linter.unusedVariables false
set_option maxRecDepth 100000
namespace Go.Proofs.YtdfdmeoalbpcdaaGreat
open Go Go.RowKit
def Qgt (ps : List P3) : Bool := decide (1 ≤ ps.length ∧ ps.length ≤ 4 ∧ (Qft ps).2 = 0 ∧ (Qft ps).1 = ps.length - 1)
/-- What fits, multiplied and summed. -/
structure DotFit (m n : P3) : Prop where
  mf : Fit m.x ∧ Fit m.y ∧ Fit m.z
  nf : Fit n.x ∧ Fit n.y ∧ Fit n.z
  x : Fit (m.x * n.x)
  y : Fit (m.y * n.y)
  z : Fit (m.z * n.z)
  xy : Fit (m.x * n.x + m.y * n.y)
  all : Fit (m.x * n.x + m.y * n.y + m.z * n.z)
def part (m n : P3) : Nat → Int
  | 0 => 0
  | 1 => m.x * n.x
  | 2 => m.x * n.x + m.y * n.y
  | _ => m.x * n.x + m.y * n.y + m.z * n.z
end Go.Proofs.YtdfdmeoalbpcdaaGreat

set_option linter.unusedSimpArgs false
set_option linter.unusedVariables false
set_option maxRecDepth 100000
namespace Go.Proofs.YtdfdmeoalbpcdaaGreat
open Go Go.RowKit
theorem DotFit.dot {m n : P3} (h : DotFit m n) : Fit (m.dot n) := h.all
end Go.Proofs.YtdfdmeoalbpcdaaGreat

set_option linter.unusedSimpArgs false
set_option linter.unusedVariables false
set_option maxRecDepth 100000
namespace Go.Proofs.YtdfdmeoalbpcdaaGreat
open Go Go.RowKit
theorem span_eq {p : P3} (hx : Fit p.x) (hy : Fit p.y) (hz : Fit p.z) : (eqb p.x 0 && (eqb p.y 0 && eqb p.z 0)) = decide (p = ⟨0,0,0⟩) := by
  rw [Qdr hx Qbp,Qdr hy Qbp,Qdr hz Qbp]
  obtain ⟨px,py,pz⟩ := p
  rw [Bool.eq_iff_iff]
  simp
end Go.Proofs.YtdfdmeoalbpcdaaGreat
set_option linter.unusedSimpArgs false
set_option linter.unusedVariables false
set_option maxRecDepth 100000
namespace Go.Proofs.YtdfdmeoalbpcdaaGreat
open Go Go.RowKit
end Go.Proofs.YtdfdmeoalbpcdaaGreat
set_option linter.unusedSimpArgs false
set_option linter.unusedVariables false
set_option maxRecDepth 100000
namespace Go.Proofs.YtdfdmeoalbpcdaaGreat
open Go Go.RowKit
/-! ### Volume -/
end Go.Proofs.YtdfdmeoalbpcdaaGreat

set_option linter.unusedSimpArgs false
set_option linter.unusedVariables false
set_option maxRecDepth 100000
namespace Go.Proofs.YtdfdmeoalbpcdaaGreat
open Go Go.RowKit
set_option maxHeartbeats 1000000 in
theorem Qei (a b : P3) (h : (a.sub b).i64) (w : World) : Calls Tryz.prog 93 #[PV a,PV b] w (Ret (PV (a.sub b)) w) := by
  obtain ⟨ax,ay,az⟩ := a
  obtain ⟨bx,by',bz⟩ := b
  obtain ⟨h1,h2,h3⟩ := h
  unfold P3.sub I64 at *
  dsimp only at h1 h2 h3 ⊢
  go_enter Tryz.func93,Tryz.ntmps93
  have hp := Hp.start [] w
  go_wp2_with (first|((with_reducible apply Qau hp);exact za rfl;exact rfl;clear hp;(try clear w1);intro g w1 hp;simp only [zp,zq,z0,z1])|((with_reducible apply Qag hp);exact ii;exact rfl;clear hp;(try clear w1);intro g w1 hp;simp only [zp,zq,z0,z1])|((with_reducible apply Qai hp);exact zt rfl;exact ii;exact ii;(exact zio rfl);simp only [zp,zq,z0,z1])|((with_reducible apply Qae hp);exact zt rfl;exact za rfl;exact rfl;(exact AggTy.size);exact rfl;exact ii;(simp only [n0,Nat.reduceAdd,nn];try rfl);(exact zl rfl);exact rfl;exact ii;clear hp;(try clear w1);intro w1 hp))
  exact bodyPost_ret (Qaa rfl ⟨_,rfl,Qac hp (Nat.le_of_ble_eq_true rfl)⟩) rfl ⟨rfl,hp.keep⟩
set_option maxHeartbeats 2000000 in
theorem rfine_far (ps : List P3) (r : Bool) (Hr : Hid (r = Qdf ps)) (hlen : ps.length ≤ maxLen) (w : World) (g off cap : Nat) (bc : List Value) (t : TypeId) {z : Nat × Nat} (hb : w.heap[g]? = some (.cells bc.toArray t z)) (hv : (bc.drop off).take (ps.length * 3) = pcs ps) :
    Calls Tryz.prog 14 #[.slice (some ⟨g,off,none⟩) ps.length cap] w (Ret (.bool r) w) := by
  have Hv := Lib.hid hv
  clear hv
  unfold maxLen at hlen
  go_enter Tryz.func14,Tryz.ntmps14
  have hp := Hp.start [] w
  go_wp2_with (fail)
  go_loopw [3] (fun i wr => ∃ k : Nat,k ≤ ps.length ∧ i = .int .i64 k ∧ Qdf (ps.take k) = true ∧ Hp [] w [] wr) (fun i _ => ps.length - (intOf i).toNat)
  case atStart => exact ⟨0,by omega,rfl,rfl,hp⟩
  case round =>
    clear hp
    obtain ⟨k,hk,rfl,hf,hp⟩ := hrel
    have Hf := Lib.hid hf
    clear hf
    by_cases hk1 : k < ps.length
    · obtain ⟨p,hpk⟩ : ∃ p,ps[k]? = some p := ⟨_,List.getElem?_eq_getElem hk1⟩
      have hat := Qfm Hv.out hpk
      have hroom : off + k * 3 + 3 ≤ bc.length := by
        rcases Qdg Hv.out with h|h
        · subst h;simp at hk1
        · omega
      have Hpk := Lib.hid hpk
      clear hpk
      have hch := rcheck_any p
      by_cases hm : p.may
      · simp only [if_pos hm] at hch
        have Hch := Lib.hid hch
        clear hch
        go_wp2_with (first|((with_reducible apply Qar);exact zx rfl;exact zk rfl;exact ii;(exact AggTy.size);omega;omega;((try simp only [m0,Int.reduceToNat,m1,m2,Nat.reduceMul,Nat.reduceAdd,m3,m4,m5,n0]);exact rfl);simp only [zp,zq,z0,z1])|((with_reducible apply Qbr hp);exact zt rfl;assumption;exact ii;assumption;(omega);simp only [zp,zq,z0,z1])|((with_reducible refine Qaf hp (Hch.out _) ?_);clear hp;(try clear w1);intro w1 hp))
        go_roundw
        case rel =>
          refine ⟨k + 1,by omega,by go_num,?_,hp.sub (List.nil_sublist _)⟩
          rw [Qdf,List.take_add_one,Hpk.out,List.all_append]
          simp [hm]
          simpa [Qdf] using Hf.out
        case measure => simp [intOf];omega
      · simp only [if_neg hm] at hch
        have Hch := Lib.hid hch
        clear hch
        have hr : r = false := by
          rw [Hr.out,Qdf,List.all_eq_false]
          exact ⟨p,List.mem_of_getElem? Hpk.out,by simp [hm]⟩
        subst hr
        go_wp2_with (first|((with_reducible apply Qar);exact zx rfl;exact zk rfl;exact ii;(exact AggTy.size);omega;omega;((try simp only [m0,Int.reduceToNat,m1,m2,Nat.reduceMul,Nat.reduceAdd,m3,m4,m5,n0]);exact rfl);simp only [zp,zq,z0,z1])|((with_reducible apply Qbr hp);exact zt rfl;assumption;exact ii;assumption;(omega);simp only [zp,zq,z0,z1])|((with_reducible refine Qaf hp (Hch.out _) ?_);clear hp;(try clear w1);intro w1 hp))
        exact bodyPost_ret (Qaa rfl rfl) rfl ⟨rfl,hp.keep⟩
    · obtain rfl : k = ps.length := by omega
      have hr : r = true := by
        rw [Hr.out]
        have := Hf.out
        rwa [List.take_length] at this
      subst hr
      go_wp2_with (fail)
      exact bodyPost_ret (Qaa rfl rfl) rfl ⟨rfl,hp.keep⟩
theorem rfine_nil (w : World) : Calls Tryz.prog 14 #[.slice none 0 0] w (Ret (.bool true) w) := by
  go_enter Tryz.func14,Tryz.ntmps14
  have hp := Hp.start [] w
  go_wp2_with (fail)
  apply wp_loop_once
  go_wp2_with (fail)
  exact bodyPost_ret (Qaa rfl rfl) rfl ⟨rfl,hp.keep⟩
theorem Qpc {ps : List P3} {v : Value} (hlen : ps.length ≤ maxLen) (w : World) (h : PSl w v ps) : Calls Tryz.prog 14 #[v] w (Ret (.bool (Qdf ps)) w) := by
  rcases h with ⟨rfl,rfl⟩|⟨g,off,cap,bc,t,z,rfl,hb,hv⟩
  · exact rfine_nil w
  · exact rfine_far ps _ (Lib.hid rfl) hlen w g off cap bc t hb hv
set_option maxHeartbeats 4000000 in
theorem r7det_any (a b c p : P3) (ha : a.may) (hb : b.may) (hc : c.may) (hp' : p.may) (w : World) : Calls Tryz.prog 59 #[PV a,PV b,PV c,PV p] w (Ret (W (P3.det (b.sub a) (c.sub a) (p.sub a))) w) := by
  have L1 := Lib.hid (Qei b a (Qbv hb ha))
  have L2 := Lib.hid (Qei c a (Qbv hc ha))
  have L3 := Lib.hid (Qei p a (Qbv hp' ha))
  have D := Lib.hid (rdet_any _ _ _ (Qbv hb ha) (Qbv hc ha) (Qbv hp' ha))
  clear ha hb hc hp'
  go_enter Tryz.func59,Tryz.ntmps59
  have hp := Hp.start [] w
  go_upto_region 1 with (first|((with_reducible apply Qau hp);(exact za rfl);exact rfl;clear hp;(try clear w1);intro g w1 hp;simp only [zp,zq,z0,z1])|((with_reducible apply Qag hp);exact ii;exact rfl;clear hp;(try clear w1);intro g w1 hp;simp only [zp,zq,z0,z1]))
  have hq := hp
  refine Qad hp hq [10] (.q 0 (.q 1 (.q 3 (.q 4 (.q 6 (.q 7 (.l 2 (.l 5 (.l 8 (.l 9 (.l 10 .nil))))))))))) (by kernel_rfl) (by kernel_rfl) ?_
  clear hp hq;(try clear w1);intro w1 hp hq
  repeat' (first|(((with_reducible apply sd_q);exact zo rfl);((with_reducible apply Qah hp);exact rfl;exact zt rfl;exact ii;exact ii;(exact zl rfl);(simp only [n0,Nat.reduceAdd,nn];try rfl);simp only [zp,zq,z0,z1]))|(((with_reducible apply sd_l);exact zo rfl);(first|((with_reducible apply Qap hp);exact rfl;(focus (intro _;go_simp;try first|with_reducible rfl|exact ⟨rfl,rfl⟩));(with_reducible first|exact fun w => L1.out w|exact fun w => L2.out w|exact fun w => L3.out w|exact fun w => D.out w);exact hq;clear hp hq;(try clear w1);intro w1 hp hq;simp only [zp,zq,z0,z1])|((with_reducible apply Qbb hq);exact rfl;exact zt rfl;(exact za rfl);exact rfl;(exact AggTy.size);exact rfl;exact ii;(simp only [n0,Nat.reduceAdd,nn];try rfl);(exact zl rfl);exact rfl;exact ii;exact rfl;clear hp hq;(try clear w1);intro w1 hq;have hp := True.intro)))|((with_reducible apply Qao);clear hp;have hp := hq;clear hq))
  go_wp2
  exact bodyPost_ret (Qaa rfl ⟨_,rfl,Qac hp (Nat.le_of_ble_eq_true rfl)⟩) rfl ⟨rfl,hp.keep⟩
set_option maxHeartbeats 4000000 in
theorem r7line_any (a b p : P3) (ha : a.may) (hb : b.may) (hp' : p.may) (w : World) : Calls Tryz.prog 58 #[PV a,PV b,PV p] w (Ret (.bool (decide ((b.sub a).cross (p.sub a) = ⟨0,0,0⟩))) w) := by
  have hu := Qbv hb ha
  have hv := Qbv hp' ha
  have L1 := Lib.hid (Qei b a hu)
  have L2 := Lib.hid (Qei p a hv)
  generalize b.sub a = u at *
  generalize p.sub a = v at *
  have C := Lib.hid (rcross_any u v hu hv)
  have hcf := Qoa hu hv
  clear hu hv ha hb hp'
  generalize u.cross v = c at *
  have hc := span_eq hcf.1 hcf.2.1 hcf.2.2
  rw [Qce,Qce,Qce] at hc
  clear hcf
  generalize decide (c = ⟨0,0,0⟩) = r at *
  go_enter Tryz.func58,Tryz.ntmps58
  have hp := Hp.start [] w
  go_upto_region 1 with ((with_reducible apply Qau hp);(exact za rfl);exact rfl;clear hp;(try clear w1);intro g w1 hp;simp only [zp,zq,z0,z1])
  have hq := hp
  refine Qad hp hq [] (.q 0 (.q 1 (.q 3 (.q 4 (.q 7 (.l 2 (.l 5 (.l 6 (.q 8 (.q 9 .nil)))))))))) (by kernel_rfl) (by kernel_rfl) ?_
  clear hp hq;(try clear w1);intro w1 hp hq
  repeat' (first|(((with_reducible apply sd_q);exact zo rfl);(first|((with_reducible apply Qah hp);exact rfl;exact zt rfl;exact ii;exact ii;(exact zl rfl);(simp only [n0,Nat.reduceAdd,nn];try rfl);simp only [zp,zq,z0,z1])|((with_reducible apply Qat hp);exact zb rfl;simp only [zp,zq,z0,z1])|((with_reducible apply Qaj hp);exact rfl;(focus (intro _;go_simp;(try go_ints);try with_reducible rfl));simp only [zp,zq,z0,z1])))|(((with_reducible apply sd_l);exact zo rfl);((with_reducible apply Qap hp);exact rfl;(focus (intro _;go_simp;try first|with_reducible rfl|exact ⟨rfl,rfl⟩));(with_reducible first|exact fun w => L1.out w|exact fun w => L2.out w|exact fun w => C.out w);exact hq;clear hp hq;(try clear w1);intro w1 hp hq;simp only [zp,zq,z0,z1]))|((with_reducible apply Qao);clear hp;have hp := hq;clear hq))
  go_wp2
  exact bodyPost_ret (Qaa rfl rfl) rfl ⟨by rw [← hc];rfl,hp.keep⟩
end Go.Proofs.YtdfdmeoalbpcdaaGreat
