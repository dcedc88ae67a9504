/-
  Package grid: Check (contract).
  Points in slices; package orient: less, fine, Side (contracts).
  Package orient: fine, Side (contracts).
  Package orient: raises (contracts).
-/
import Derived.Test.YtdfdmeoalbpcdaaGreatGd
import Derived.Laws.IdiomArrays
import Derived.Test.YtdfdmeoalbpcdaaGreatSl
import Derived.Test.YtdfdmeoalbpcdaaGreatEr
set_option linter.unusedSimpArgs false
set_option maxRecDepth 100000
namespace Go.Proofs.YtdfdmeoalbpcdaaGreat
open Go Go.RowKit
set_option maxHeartbeats 1000000 in
theorem check_gen (x y z r : Int) (H0 : Hid (may x ∧ may y ∧ may z → r = 0)) (H7 : Hid (¬ (may x ∧ may y ∧ may z) → r = 7)) (w : World) : Calls Tryz.prog 86 #[PV ⟨x,y,z⟩] w (Ret (.int .i64 r) w) := by
  go_enter Tryz.func86,Tryz.ntmps86
  have hp := Hp.start [] w
  go_wp2_with (first|((with_reducible apply Qau hp);exact za rfl;exact rfl;clear hp;(try clear w1);intro g w1 hp;simp only [zp,zq,z0,z1])|((with_reducible apply Qai hp);exact zt rfl;exact ii;exact ii;(exact zio rfl);simp only [zp,zq,z0,z1]))
  go_loopw [12] (fun i wr => ∃ k : Nat,k ≤ 3 ∧ i = .int .i64 k ∧ (0 < k → may x) ∧ (1 < k → may y) ∧ (2 < k → may z) ∧ Hp [] w [⟨g,39,[.int .i64 x,.int .i64 y,.int .i64 z]⟩] wr) (fun i _ => 3 - (intOf i).toNat)
  case atStart => exact ⟨0,by omega,rfl,by omega,by omega,by omega,hp⟩
  case round =>
    clear hp
    obtain ⟨k,hk,rfl,h0,h1',h2',hp⟩ := hrel
    unfold may at h0 h1' h2'
    obtain rfl|rfl|rfl|rfl : k = 0 ∨ k = 1 ∨ k = 2 ∨ k = 3 := by omega
    · by_cases h1 : x < -268435456
      · have hb : ¬ (may x ∧ may y ∧ may z) := by unfold may;omega
        obtain rfl := H7.out hb
        go_wp2_with ((with_reducible apply Qbs);exact za rfl;exact zk rfl;exact ii;exact ii;omega;omega;(exact rfl);simp only [zp,zq,z0,z1])
        exact bodyPost_ret (Qaa rfl rfl) rfl ⟨rfl,hp.keep⟩
      · by_cases h2 : 268435456 < x
        · have hb : ¬ (may x ∧ may y ∧ may z) := by unfold may;omega
          obtain rfl := H7.out hb
          go_wp2_with ((with_reducible apply Qbs);exact za rfl;exact zk rfl;exact ii;exact ii;omega;omega;(exact rfl);simp only [zp,zq,z0,z1])
          exact bodyPost_ret (Qaa rfl rfl) rfl ⟨rfl,hp.keep⟩
        · go_wp2_with ((with_reducible apply Qbs);exact za rfl;exact zk rfl;exact ii;exact ii;omega;omega;(exact rfl);simp only [zp,zq,z0,z1])
          go_roundw
          case rel => exact ⟨1,by omega,rfl,by unfold may;omega,by unfold may;omega,by unfold may;omega,hp⟩
          case measure => simp [intOf]
    · by_cases h1 : y < -268435456
      · have hb : ¬ (may x ∧ may y ∧ may z) := by unfold may;omega
        obtain rfl := H7.out hb
        go_wp2_with ((with_reducible apply Qbs);exact za rfl;exact zk rfl;exact ii;exact ii;omega;omega;(exact rfl);simp only [zp,zq,z0,z1])
        exact bodyPost_ret (Qaa rfl rfl) rfl ⟨rfl,hp.keep⟩
      · by_cases h2 : 268435456 < y
        · have hb : ¬ (may x ∧ may y ∧ may z) := by unfold may;omega
          obtain rfl := H7.out hb
          go_wp2_with ((with_reducible apply Qbs);exact za rfl;exact zk rfl;exact ii;exact ii;omega;omega;(exact rfl);simp only [zp,zq,z0,z1])
          exact bodyPost_ret (Qaa rfl rfl) rfl ⟨rfl,hp.keep⟩
        · go_wp2_with ((with_reducible apply Qbs);exact za rfl;exact zk rfl;exact ii;exact ii;omega;omega;(exact rfl);simp only [zp,zq,z0,z1])
          go_roundw
          case rel => exact ⟨2,by omega,rfl,by unfold may;omega,by unfold may;omega,by unfold may;omega,hp⟩
          case measure => simp [intOf]
    · by_cases h1 : z < -268435456
      · have hb : ¬ (may x ∧ may y ∧ may z) := by unfold may;omega
        obtain rfl := H7.out hb
        go_wp2_with ((with_reducible apply Qbs);exact za rfl;exact zk rfl;exact ii;exact ii;omega;omega;(exact rfl);simp only [zp,zq,z0,z1])
        exact bodyPost_ret (Qaa rfl rfl) rfl ⟨rfl,hp.keep⟩
      · by_cases h2 : 268435456 < z
        · have hb : ¬ (may x ∧ may y ∧ may z) := by unfold may;omega
          obtain rfl := H7.out hb
          go_wp2_with ((with_reducible apply Qbs);exact za rfl;exact zk rfl;exact ii;exact ii;omega;omega;(exact rfl);simp only [zp,zq,z0,z1])
          exact bodyPost_ret (Qaa rfl rfl) rfl ⟨rfl,hp.keep⟩
        · go_wp2_with ((with_reducible apply Qbs);exact za rfl;exact zk rfl;exact ii;exact ii;omega;omega;(exact rfl);simp only [zp,zq,z0,z1])
          go_roundw
          case rel => exact ⟨3,by omega,rfl,by unfold may;omega,by unfold may;omega,by unfold may;omega,hp⟩
          case measure => simp [intOf]
    · have hb : may x ∧ may y ∧ may z := by unfold may;omega
      obtain rfl := H0.out hb
      go_wp2_with (fail)
      exact bodyPost_ret (Qaa rfl rfl) rfl ⟨rfl,hp.keep⟩
theorem check_any (p : P3) (w : World) : Calls Tryz.prog 86 #[PV p] w (Ret (.int .i64 (if p.may then 0 else 7)) w) :=
  check_gen p.x p.y p.z _ (Lib.hid fun h => if_pos h) (Lib.hid fun h => if_neg h) w
end Go.Proofs.YtdfdmeoalbpcdaaGreat

set_option linter.unusedSimpArgs false
set_option maxRecDepth 100000
namespace Go.Proofs.YtdfdmeoalbpcdaaGreat
open Go Go.RowKit
/-- Points, cell by cell. -/
def pcs : List P3 → List Value
  | [] => []
  | p :: ps => .int .i64 p.x :: .int .i64 p.y :: .int .i64 p.z :: pcs ps
theorem Qdx : ∀ ps : List P3,(pcs ps).length = ps.length * 3
  | [] => rfl
  | p :: ps => by simp [pcs,Qdx ps];omega
theorem pcs_drop : ∀ (ps : List P3) (k : Nat) (p : P3),ps[k]? = some p → ((pcs ps).drop (k * 3)).take 3 = [.int .i64 p.x,.int .i64 p.y,.int .i64 p.z]
  | [],_,_,h => by simp at h
  | q :: ps,0,p,h => by simp at h;subst h;rfl
  | q :: ps,k + 1,p,h => by
    have := pcs_drop ps k p (by simpa using h)
    rw [show (k + 1) * 3 = k * 3 + 3 by omega,pcs]
    simpa using this
theorem Qfm {bc : List Value} {off : Nat} {ps : List P3} (h : (bc.drop off).take (ps.length * 3) = pcs ps) {k : Nat} {p : P3} (hk : ps[k]? = some p) : (bc.drop (off + k * 3)).take 3 = [.int .i64 p.x,.int .i64 p.y,.int .i64 p.z] := by
  have hlt : k < ps.length := by
    rcases Nat.lt_or_ge k ps.length with h' | h'
    · exact h'
    · rw [List.getElem?_eq_none h'] at hk;cases hk
  rw [← pcs_drop ps k p hk,← h,List.drop_take,List.take_take,List.drop_drop,show min 3 (ps.length * 3 - k * 3) = 3 by omega]
theorem Qdg {bc : List Value} {off : Nat} {ps : List P3} (h : (bc.drop off).take (ps.length * 3) = pcs ps) : ps = [] ∨ off + ps.length * 3 ≤ bc.length := by
  cases ps with
  | nil => exact .inl rfl
  | cons p ps =>
    right
    have := congrArg List.length h
    rw [Qdx] at this
    simp at this
    simp
    omega
/-- A slice of points, as it lies in a world. -/
def PSl (w : World) (v : Value) (ps : List P3) : Prop :=
  (v = .slice none 0 0 ∧ ps = []) ∨ ∃ g off cap bc t z,v = .slice (some ⟨g,off,none⟩) ps.length cap ∧ w.heap[g]? = some (.cells (bc : List Value).toArray t z) ∧ (bc.drop off).take (ps.length * 3) = pcs ps
theorem PSl.keep {w w' : World} {v : Value} {ps : List P3} (h : PSl w v ps) (hk : Keep [] w w') : PSl w' v ps := by
  rcases h with h|⟨g,off,cap,bc,t,z,h1,h2,h3⟩
  · exact .inl h
  · refine .inr ⟨g,off,cap,bc,t,z,h1,?_,h3⟩
    have hlt : g < w.heap.size := by
      rcases Nat.lt_or_ge g w.heap.size with h' | h'
      · exact h'
      · rw [Array.getElem?_eq_none h'] at h2;cases h2
    rw [hk.block g hlt (by simp)]
    exact h2
def Qdf (ps : List P3) : Bool := ps.all fun p => decide p.may
set_option maxHeartbeats 1000000 in
theorem Qgk (a b : P3) (h : (a.sub b).i64) (w : World) : Calls Tryz.prog 84 #[PV a,PV b] w (Ret (PV (a.sub b)) w) := by
  obtain ⟨ax,ay,az⟩ := a
  obtain ⟨bx,by',bz⟩ := b
  obtain ⟨h1,h2,h3⟩ := h
  unfold P3.sub I64 at *
  dsimp only at h1 h2 h3 ⊢
  go_enter Tryz.func84,Tryz.ntmps84
  have hp := Hp.start [] w
  go_wp2_with (first|((with_reducible apply Qau hp);exact za rfl;exact rfl;clear hp;(try clear w1);intro g w1 hp;simp only [zp,zq,z0,z1])|((with_reducible apply Qag hp);exact ii;exact rfl;clear hp;(try clear w1);intro g w1 hp;simp only [zp,zq,z0,z1])|((with_reducible apply Qai hp);exact zt rfl;exact ii;exact ii;(exact zio rfl);simp only [zp,zq,z0,z1])|((with_reducible apply Qae hp);exact zt rfl;exact za rfl;exact rfl;(exact AggTy.size);exact rfl;exact ii;(simp only [n0,Nat.reduceAdd,nn];try rfl);(exact zl rfl);exact rfl;exact ii;clear hp;(try clear w1);intro w1 hp))
  exact bodyPost_ret (Qaa rfl ⟨_,rfl,Qac hp (Nat.le_of_ble_eq_true rfl)⟩) rfl ⟨rfl,hp.keep⟩
set_option maxHeartbeats 2000000 in
theorem fine_far (ps : List P3) (r : Bool) (Hr : Hid (r = Qdf ps)) (hlen : ps.length ≤ maxLen) (w : World) (g off cap : Nat) (bc : List Value) (t : TypeId) {z : Nat × Nat} (hb : w.heap[g]? = some (.cells bc.toArray t z)) (hv : (bc.drop off).take (ps.length * 3) = pcs ps) :
    Calls Tryz.prog 48 #[.slice (some ⟨g,off,none⟩) ps.length cap] w (Ret (.bool r) w) := by
  have Hv := Lib.hid hv
  clear hv
  unfold maxLen at hlen
  go_enter Tryz.func48,Tryz.ntmps48
  have hp := Hp.start [] w
  go_wp2_with (fail)
  go_loopw [7] (fun i wr => ∃ k : Nat,k ≤ ps.length ∧ i = .int .i64 k ∧ Qdf (ps.take k) = true ∧ Hp [] w [] wr) (fun i _ => ps.length - (intOf i).toNat)
  case atStart => exact ⟨0,by omega,rfl,rfl,hp⟩
  case round =>
    clear hp
    obtain ⟨k,hk,rfl,hf,hp⟩ := hrel
    have Hf := Lib.hid hf
    clear hf
    by_cases hk1 : k < ps.length
    · obtain ⟨p,hpk⟩ : ∃ p,ps[k]? = some p := ⟨_,List.getElem?_eq_getElem hk1⟩
      have hat := Qfm Hv.out hpk
      have hroom : off + k * 3 + 3 ≤ bc.length := by
        rcases Qdg Hv.out with h|h
        · subst h;simp at hk1
        · omega
      have Hpk := Lib.hid hpk
      clear hpk
      have hch := check_any p
      by_cases hm : p.may
      · simp only [if_pos hm] at hch
        have Hch := Lib.hid hch
        clear hch
        go_wp2_with (first|((with_reducible apply Qag hp);exact ii;exact rfl;clear hp;(try clear w1);intro g w1 hp;simp only [zp,zq,z0,z1])|((with_reducible apply Qab hp);exact zt rfl;exact ii;exact ii;(exact zl rfl);(simp only [n0,Nat.reduceAdd,nn];try rfl);simp only [zp,zq,z0,z1])|((with_reducible apply Qae hp);exact zt rfl;exact za rfl;exact rfl;(exact AggTy.size);exact rfl;exact ii;(simp only [n0,Nat.reduceAdd,nn];try rfl);(exact zl rfl);exact rfl;exact ii;clear hp;(try clear w1);intro w1 hp)|((with_reducible apply Qar);exact zx rfl;exact zk rfl;exact ii;(exact AggTy.size);omega;omega;((try simp only [m0,Int.reduceToNat,m1,m2,Nat.reduceMul,Nat.reduceAdd,m3,m4,m5,n0]);exact rfl);simp only [zp,zq,z0,z1])|((with_reducible apply Qbr hp);exact zt rfl;assumption;exact ii;assumption;(omega);simp only [zp,zq,z0,z1])|((with_reducible refine Qaf hp (Hch.out _) ?_);clear hp;(try clear w1);intro w1 hp))
        go_roundw
        case rel =>
          refine ⟨k + 1,by omega,by go_num,?_,hp.sub (List.nil_sublist _)⟩
          rw [Qdf,List.take_add_one,Hpk.out,List.all_append]
          simp [hm]
          simpa [Qdf] using Hf.out
        case measure => simp [intOf];omega
      · simp only [if_neg hm] at hch
        have Hch := Lib.hid hch
        clear hch
        have hr : r = false := by
          rw [Hr.out,Qdf,List.all_eq_false]
          exact ⟨p,List.mem_of_getElem? Hpk.out,by simp [hm]⟩
        subst hr
        go_wp2_with (first|((with_reducible apply Qag hp);exact ii;exact rfl;clear hp;(try clear w1);intro g w1 hp;simp only [zp,zq,z0,z1])|((with_reducible apply Qab hp);exact zt rfl;exact ii;exact ii;(exact zl rfl);(simp only [n0,Nat.reduceAdd,nn];try rfl);simp only [zp,zq,z0,z1])|((with_reducible apply Qae hp);exact zt rfl;exact za rfl;exact rfl;(exact AggTy.size);exact rfl;exact ii;(simp only [n0,Nat.reduceAdd,nn];try rfl);(exact zl rfl);exact rfl;exact ii;clear hp;(try clear w1);intro w1 hp)|((with_reducible apply Qar);exact zx rfl;exact zk rfl;exact ii;(exact AggTy.size);omega;omega;((try simp only [m0,Int.reduceToNat,m1,m2,Nat.reduceMul,Nat.reduceAdd,m3,m4,m5,n0]);exact rfl);simp only [zp,zq,z0,z1])|((with_reducible apply Qbr hp);exact zt rfl;assumption;exact ii;assumption;(omega);simp only [zp,zq,z0,z1])|((with_reducible refine Qaf hp (Hch.out _) ?_);clear hp;(try clear w1);intro w1 hp))
        exact bodyPost_ret (Qaa rfl rfl) rfl ⟨rfl,hp.keep⟩
    · obtain rfl : k = ps.length := by omega
      have hr : r = true := by
        rw [Hr.out]
        have := Hf.out
        rwa [List.take_length] at this
      subst hr
      go_wp2_with (fail)
      exact bodyPost_ret (Qaa rfl rfl) rfl ⟨rfl,hp.keep⟩
end Go.Proofs.YtdfdmeoalbpcdaaGreat

set_option linter.unusedSimpArgs false
set_option maxRecDepth 100000
namespace Go.Proofs.YtdfdmeoalbpcdaaGreat
open Go Go.RowKit
theorem fine_nil (w : World) : Calls Tryz.prog 48 #[.slice none 0 0] w (Ret (.bool true) w) := by
  go_enter Tryz.func48,Tryz.ntmps48
  have hp := Hp.start [] w
  go_wp2_with (fail)
  apply wp_loop_once
  go_wp2_with (fail)
  exact bodyPost_ret (Qaa rfl rfl) rfl ⟨rfl,hp.keep⟩
theorem fine_any {ps : List P3} {v : Value} (hlen : ps.length ≤ maxLen) (w : World) (h : PSl w v ps) : Calls Tryz.prog 48 #[v] w (Ret (.bool (Qdf ps)) w) := by
  rcases h with ⟨rfl,rfl⟩|⟨g,off,cap,bc,t,z,rfl,hb,hv⟩
  · exact fine_nil w
  · exact fine_far ps _ (Lib.hid rfl) hlen w g off cap bc t hb hv
theorem Qbv {a b : P3} (ha : a.may) (hb : b.may) : (a.sub b).i64 := by
  unfold P3.may may at ha hb
  unfold P3.i64 P3.sub I64
  dsimp only
  omega
theorem det_fit {a b c : P3} (ha : a.i64) (hb : b.i64) (hc : c.i64) : Fit (P3.det a b c) := by
  have hxx := Qbh hb.1 hc.2.1
  have hxy := Qbh hb.2.1 hc.1
  have hxz := Qbh hb.1 hc.2.2
  have hzx := Qbh hb.2.2 hc.1
  have hyz := Qbh hb.2.1 hc.2.2
  have hzy := Qbh hb.2.2 hc.2.1
  have h1 := Qig (a := (b.cross c).x) (by unfold P3.cross;dsimp only;omega) ha.1
  have h2 := Qig (a := (b.cross c).y) (by unfold P3.cross;dsimp only;omega) ha.2.1
  have h3 := Qig (a := (b.cross c).z) (by unfold P3.cross;dsimp only;omega) ha.2.2
  unfold P3.det P3.dot Fit M511
  omega
theorem Qou {ps : List P3} (h : Qdf ps = true) {p : P3} (hp : p ∈ ps) : p.may := by
  have := List.all_eq_true.1 h p hp
  simpa using this
end Go.Proofs.YtdfdmeoalbpcdaaGreat

set_option linter.unusedSimpArgs false
set_option maxRecDepth 100000
namespace Go.Proofs.YtdfdmeoalbpcdaaGreat
open Go Go.RowKit
/-- Does a point raise the rank of those? -/
def Qbz : List P3 → P3 → Bool
  | [],_ => true
  | [a],p => decide (p ≠ a)
  | [a,b],p => decide ((b.sub a).cross (p.sub a) ≠ ⟨0,0,0⟩)
  | [a,b,c],p => decide (P3.det (b.sub a) (c.sub a) (p.sub a) ≠ 0)
  | _,_ => false
theorem p3_ne (p a : P3) : (!(p.x == a.x && (p.y == a.y && p.z == a.z))) = decide (p ≠ a) := by
  obtain ⟨px,py,pz⟩ := p
  obtain ⟨ax,ay,az⟩ := a
  rw [Bool.eq_iff_iff]
  simp
theorem span_ne {p : P3} (hx : Fit p.x) (hy : Fit p.y) (hz : Fit p.z) : (!(eqb p.x 0 && (eqb p.y 0 && eqb p.z 0))) = decide (p ≠ ⟨0,0,0⟩) := by
  rw [Qdr hx Qbp,Qdr hy Qbp,Qdr hz Qbp]
  obtain ⟨px,py,pz⟩ := p
  rw [Bool.eq_iff_iff]
  simp
theorem Qoa {a b : P3} (ha : a.i64) (hb : b.i64) : Fit (a.cross b).x ∧ Fit (a.cross b).y ∧ Fit (a.cross b).z := by
  have hxx := Qbh ha.1 hb.2.1
  have hxy := Qbh ha.2.1 hb.1
  have hxz := Qbh ha.1 hb.2.2
  have hzx := Qbh ha.2.2 hb.1
  have hyz := Qbh ha.2.1 hb.2.2
  have hzy := Qbh ha.2.2 hb.2.1
  unfold P3.cross Fit M511
  dsimp only
  omega
theorem sgn_zero (n : Int) : sgn n = 0 ↔ n = 0 := by
  unfold sgn
  split
  · omega
  · split <;> omega
section
variable (w : World) (gt g cap : Nat) (t : TypeId) (bc : List Value)
set_option maxHeartbeats 1000000 in
theorem raises0 (p : P3) (ht : w.heap[gt]? = some (.cells [Value.slice none 0 0].toArray 89 (0,0))) :
    Calls Tryz.prog 47 #[.pointer (some ⟨gt,0,none⟩),PV p] w (Ret (.bool true) w) := by
  go_enter Tryz.func47,Tryz.ntmps47
  have hp := Hp.start [] w
  go_wp2_with (first|((with_reducible apply Qau hp);exact za rfl;exact rfl;clear hp;(try clear w1);intro g w1 hp;simp only [zp,zq,z0,z1])|((with_reducible apply Qbf hp);exact zt rfl;assumption;exact ii;(exact zso rfl);simp only [zp,zq,z0,z1]))
  exact bodyPost_ret (Qaa rfl rfl) rfl ⟨rfl,hp.keep⟩
set_option maxHeartbeats 1000000 in
theorem raises0' (p : P3) (ht : w.heap[gt]? = some (.cells [Value.slice (some ⟨g,0,none⟩) 0 cap].toArray 89 (0,0))) :
    Calls Tryz.prog 47 #[.pointer (some ⟨gt,0,none⟩),PV p] w (Ret (.bool true) w) := by
  go_enter Tryz.func47,Tryz.ntmps47
  have hp := Hp.start [] w
  go_wp2_with (first|((with_reducible apply Qau hp);exact za rfl;exact rfl;clear hp;(try clear w1);intro g w1 hp;simp only [zp,zq,z0,z1])|((with_reducible apply Qbf hp);exact zt rfl;assumption;exact ii;(exact zso rfl);simp only [zp,zq,z0,z1]))
  exact bodyPost_ret (Qaa rfl rfl) rfl ⟨rfl,hp.keep⟩
set_option maxHeartbeats 1000000 in
theorem raises1 (a p : P3) (ht : w.heap[gt]? = some (.cells [Value.slice (some ⟨g,0,none⟩) 1 cap].toArray 89 (0,0))) (hb : w.heap[g]? = some (.cells bc.toArray t (0,0))) (hl : 3 ≤ bc.length)
    (h0 : (bc.drop 0).take 3 = [.int .i64 a.x,.int .i64 a.y,.int .i64 a.z]) :
    Calls Tryz.prog 47 #[.pointer (some ⟨gt,0,none⟩),PV p] w (Ret (.bool (decide (p ≠ a))) w) := by
  go_enter Tryz.func47,Tryz.ntmps47
  have hp := Hp.start [] w
  go_wp2_with (first|((with_reducible apply Qau hp);exact za rfl;exact rfl;clear hp;(try clear w1);intro g w1 hp;simp only [zp,zq,z0,z1])|((with_reducible apply Qbf hp);exact zt rfl;assumption;exact ii;(exact zso rfl);simp only [zp,zq,z0,z1]))
  have hq := hp
  refine Qad hp hq [] (.q 0 (.q 1 (.q 2 (.q 3 (.q 4 (.q 5 (.q 6 (.q 7 (.q 8 .nil))))))))) (by kernel_rfl) (by kernel_rfl) ?_
  clear hp hq;(try clear w1);intro w1 hp hq
  repeat' (first|(((with_reducible apply sd_q);exact zo rfl);(first|((with_reducible apply Qah hp);exact rfl;exact zt rfl;exact ii;exact ii;(exact zl rfl);(simp only [n0,Nat.reduceAdd,nn];try rfl);simp only [zp,zq,z0,z1])|((with_reducible apply Qbe hp);exact rfl;exact zt rfl;assumption;exact ii;assumption;(omega);simp only [zp,zq,z0,z1])|((with_reducible apply Qbl hp);exact rfl;exact zt rfl;assumption;exact ii;(exact zso rfl);simp only [zp,zq,z0,z1])|((with_reducible apply Qaq hp);exact zr rfl;simp only [zp,zq,z0,z1])|((with_reducible apply Qat hp);exact zb rfl;simp only [zp,zq,z0,z1])|((with_reducible apply Qas hp);exact rfl;exact zx rfl;exact zk rfl;exact ii;(exact AggTy.size);omega;omega;((try simp only [m0,Int.reduceToNat,m1,m2,Nat.reduceMul,Nat.reduceAdd,m3,m4,m5,n0]);exact rfl);simp only [zp,zq,z0,z1])|((with_reducible apply Qaj hp);exact rfl;(focus (intro _;go_simp;(try go_ints);try with_reducible rfl));simp only [zp,zq,z0,z1])))|((with_reducible apply Qao);clear hp;have hp := hq;clear hq))
  go_wp2
  rw [← p3_ne,Bool.not_and,Bool.not_and]
  exact bodyPost_ret (Qaa rfl rfl) rfl ⟨rfl,hp.keep⟩
set_option maxHeartbeats 1000000 in
theorem raises2 (a b p : P3) (ha : a.may) (hb' : b.may) (hp' : p.may) (ht : w.heap[gt]? = some (.cells [Value.slice (some ⟨g,0,none⟩) 2 cap].toArray 89 (0,0))) (hb : w.heap[g]? = some (.cells bc.toArray t (0,0))) (hl : 6 ≤ bc.length)
    (h0 : (bc.drop 0).take 3 = [.int .i64 a.x,.int .i64 a.y,.int .i64 a.z]) (h1 : (bc.drop 3).take 3 = [.int .i64 b.x,.int .i64 b.y,.int .i64 b.z]) :
    Calls Tryz.prog 47 #[.pointer (some ⟨gt,0,none⟩),PV p] w (Ret (.bool (Qbz [a,b] p)) w) := by
  have L1 := Lib.hid (Qgk b a (Qbv hb' ha))
  have L2 := Lib.hid (Qgk p a (Qbv hp' ha))
  have C := Lib.hid (Qoy _ _ (Qbv hb' ha) (Qbv hp' ha))
  have hcf := Qoa (Qbv hb' ha) (Qbv hp' ha)
  have hr : (!(eqb ((b.sub a).cross (p.sub a)).x 0 && (eqb ((b.sub a).cross (p.sub a)).y 0 && eqb ((b.sub a).cross (p.sub a)).z 0))) = Qbz [a,b] p := span_ne hcf.1 hcf.2.1 hcf.2.2
  rw [Qce,Qce,Qce] at hr
  simp only [Bool.not_and] at hr
  rw [← hr]
  clear ha hb' hp' hcf hr
  go_enter Tryz.func47,Tryz.ntmps47
  have hp := Hp.start [] w
  go_wp2_with (first|((with_reducible apply Qau hp);exact za rfl;exact rfl;clear hp;(try clear w1);intro g w1 hp;simp only [zp,zq,z0,z1])|((with_reducible apply Qbf hp);exact zt rfl;assumption;exact ii;(exact zso rfl);simp only [zp,zq,z0,z1]))
  have hq := hp
  refine Qad hp hq [] (.q 0 (.q 1 (.q 2 (.q 3 (.q 4 (.q 5 (.q 6 (.q 7 (.q 8 (.q 9 (.q 10 (.q 11 (.q 13 (.q 14 (.q 15 (.q 16 (.q 17 (.q 18 (.q 19 (.q 22 (.l 12 (.l 20 (.l 21 (.q 23 (.q 24 .nil))))))))))))))))))))))))) (by kernel_rfl) (by kernel_rfl) ?_
  clear hp hq;(try clear w1);intro w1 hp hq
  repeat' (first|(((with_reducible apply sd_q);exact zo rfl);(first|((with_reducible apply Qah hp);exact rfl;exact zt rfl;exact ii;exact ii;(exact zl rfl);(simp only [n0,Nat.reduceAdd,nn];try rfl);simp only [zp,zq,z0,z1])|((with_reducible apply Qbe hp);exact rfl;exact zt rfl;assumption;exact ii;assumption;(omega);simp only [zp,zq,z0,z1])|((with_reducible apply Qbl hp);exact rfl;exact zt rfl;assumption;exact ii;(exact zso rfl);simp only [zp,zq,z0,z1])|((with_reducible apply Qaq hp);exact zr rfl;simp only [zp,zq,z0,z1])|((with_reducible apply Qat hp);exact zb rfl;simp only [zp,zq,z0,z1])|((with_reducible apply Qas hp);exact rfl;exact zx rfl;exact zk rfl;exact ii;(exact AggTy.size);omega;omega;((try simp only [m0,Int.reduceToNat,m1,m2,Nat.reduceMul,Nat.reduceAdd,m3,m4,m5,n0]);exact rfl);simp only [zp,zq,z0,z1])|((with_reducible apply Qaj hp);exact rfl;(focus (intro _;go_simp;(try go_ints);try with_reducible rfl));simp only [zp,zq,z0,z1])))|(((with_reducible apply sd_l);exact zo rfl);((with_reducible apply Qap hp);exact rfl;(focus (intro _;go_simp;try first|with_reducible rfl|exact ⟨rfl,rfl⟩));(with_reducible first|exact fun w => L1.out w|exact fun w => L2.out w|exact fun w => C.out w);exact hq;clear hp hq;(try clear w1);intro w1 hp hq;simp only [zp,zq,z0,z1]))|((with_reducible apply Qao);clear hp;have hp := hq;clear hq))
  go_wp2
  exact bodyPost_ret (Qaa rfl rfl) rfl ⟨rfl,hp.keep⟩
set_option maxHeartbeats 2000000 in
theorem raises3 (a b c p : P3) (ha : a.may) (hb' : b.may) (hc' : c.may) (hp' : p.may) (ht : w.heap[gt]? = some (.cells [Value.slice (some ⟨g,0,none⟩) 3 cap].toArray 89 (0,0))) (hb : w.heap[g]? = some (.cells bc.toArray t (0,0))) (hl : 9 ≤ bc.length)
    (h0 : (bc.drop 0).take 3 = [.int .i64 a.x,.int .i64 a.y,.int .i64 a.z]) (h1 : (bc.drop 3).take 3 = [.int .i64 b.x,.int .i64 b.y,.int .i64 b.z]) (h2 : (bc.drop 6).take 3 = [.int .i64 c.x,.int .i64 c.y,.int .i64 c.z]) :
    Calls Tryz.prog 47 #[.pointer (some ⟨gt,0,none⟩),PV p] w (Ret (.bool (Qbz [a,b,c] p)) w) := by
  have L1 := Lib.hid (Qgk b a (Qbv hb' ha))
  have L2 := Lib.hid (Qgk p a (Qbv hp' ha))
  have L3 := Lib.hid (Qgk c a (Qbv hc' ha))
  have D := Lib.hid (det_any _ _ _ (Qbv hb' ha) (Qbv hc' ha) (Qbv hp' ha))
  have Sg := Lib.hid (Qcn _ (det_fit (Qbv hb' ha) (Qbv hc' ha) (Qbv hp' ha)))
  have hr : (!(sgn (P3.det (b.sub a) (c.sub a) (p.sub a)) == 0)) = Qbz [a,b,c] p := by
    have hz := sgn_zero (P3.det (b.sub a) (c.sub a) (p.sub a))
    rw [Qbz]
    by_cases h : P3.det (b.sub a) (c.sub a) (p.sub a) = 0
    · rw [hz.2 h];simp [h]
    · have : sgn (P3.det (b.sub a) (c.sub a) (p.sub a)) ≠ 0 := fun h' => h (hz.1 h')
      simp [h,this]
  rw [← hr]
  clear ha hb' hc' hp' hr
  go_enter Tryz.func47,Tryz.ntmps47
  have hp := Hp.start [] w
  go_wp2_with (first|((with_reducible apply Qau hp);exact za rfl;exact rfl;clear hp;(try clear w1);intro g w1 hp;simp only [zp,zq,z0,z1])|((with_reducible apply Qbf hp);exact zt rfl;assumption;exact ii;(exact zso rfl);simp only [zp,zq,z0,z1]))
  have hq := hp
  refine Qad hp hq [] (.q 0 (.q 1 (.q 2 (.q 3 (.q 4 (.q 5 (.q 6 (.q 7 (.q 8 (.q 9 (.q 10 (.q 11 (.q 13 (.q 14 (.q 15 (.q 16 (.q 17 (.q 18 (.q 19 (.q 20 (.q 21 (.q 22 (.q 23 (.q 24 (.q 26 (.q 27 (.q 28 (.q 29 (.q 30 (.q 31 (.q 32 (.l 12 (.l 25 (.l 33 (.l 34 (.l 35 (.q 36 (.q 37 .nil)))))))))))))))))))))))))))))))))))))) (by kernel_rfl) (by kernel_rfl) ?_
  clear hp hq;(try clear w1);intro w1 hp hq
  repeat' (first|(((with_reducible apply sd_q);exact zo rfl);(first|((with_reducible apply Qah hp);exact rfl;exact zt rfl;exact ii;exact ii;(exact zl rfl);(simp only [n0,Nat.reduceAdd,nn];try rfl);simp only [zp,zq,z0,z1])|((with_reducible apply Qbe hp);exact rfl;exact zt rfl;assumption;exact ii;assumption;(omega);simp only [zp,zq,z0,z1])|((with_reducible apply Qbl hp);exact rfl;exact zt rfl;assumption;exact ii;(exact zso rfl);simp only [zp,zq,z0,z1])|((with_reducible apply Qaq hp);exact zr rfl;simp only [zp,zq,z0,z1])|((with_reducible apply Qat hp);exact zb rfl;simp only [zp,zq,z0,z1])|((with_reducible apply Qas hp);exact rfl;exact zx rfl;exact zk rfl;exact ii;(exact AggTy.size);omega;omega;((try simp only [m0,Int.reduceToNat,m1,m2,Nat.reduceMul,Nat.reduceAdd,m3,m4,m5,n0]);exact rfl);simp only [zp,zq,z0,z1])|((with_reducible apply Qaj hp);exact rfl;(focus (intro _;go_simp;(try go_ints);try with_reducible rfl));simp only [zp,zq,z0,z1])))|(((with_reducible apply sd_l);exact zo rfl);((with_reducible apply Qap hp);exact rfl;(focus (intro _;go_simp;try first|with_reducible rfl|exact ⟨rfl,rfl⟩));(with_reducible first|exact fun w => L1.out w|exact fun w => L2.out w|exact fun w => L3.out w|exact fun w => D.out w|exact fun w => Sg.out w);exact hq;clear hp hq;(try clear w1);intro w1 hp hq;simp only [zp,zq,z0,z1]))|((with_reducible apply Qao);clear hp;have hp := hq;clear hq))
  go_wp2
  exact bodyPost_ret (Qaa rfl rfl) rfl ⟨rfl,hp.keep⟩
set_option maxHeartbeats 1000000 in
theorem raises4 (p : P3) (ht : w.heap[gt]? = some (.cells [Value.slice (some ⟨g,0,none⟩) 4 cap].toArray 89 (0,0))) :
    Calls Tryz.prog 47 #[.pointer (some ⟨gt,0,none⟩),PV p] w (Ret (.bool false) w) := by
  go_enter Tryz.func47,Tryz.ntmps47
  have hp := Hp.start [] w
  go_wp2_with (first|((with_reducible apply Qau hp);exact za rfl;exact rfl;clear hp;(try clear w1);intro g w1 hp;simp only [zp,zq,z0,z1])|((with_reducible apply Qbf hp);exact zt rfl;assumption;exact ii;(exact zso rfl);simp only [zp,zq,z0,z1]))
  exact bodyPost_ret (Qaa rfl rfl) rfl ⟨rfl,hp.keep⟩
end
end Go.Proofs.YtdfdmeoalbpcdaaGreat
