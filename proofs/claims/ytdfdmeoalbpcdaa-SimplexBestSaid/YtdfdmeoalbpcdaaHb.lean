/-
  Package grid: Check (contract).
  Points in slices; package orient: less, fine, Side (contracts).
  Package orient: fine, Side (contracts).
-/
import Derived.Test.YtdfdmeoalbpcdaaGd
import Derived.Laws.IdiomArrays
import Derived.Test.YtdfdmeoalbpcdaaSl
set_option linter.unusedSimpArgs false
set_option maxRecDepth 100000
namespace Go.Proofs.Ytdfdmeoalbpcdaa
open Go Go.RowKit
set_option maxHeartbeats 1000000 in
theorem check_gen (x y z r : Int) (H0 : Hid (may x ∧ may y ∧ may z → r = 0)) (H7 : Hid (¬ (may x ∧ may y ∧ may z) → r = 7)) (w : World) : Calls Try.prog 15 #[PV ⟨x,y,z⟩] w (Ret (.int .i64 r) w) := by
  go_enter Try.func15,Try.ntmps15
  have hp := Hp.start [] w
  go_wp2_with (first|((with_reducible apply Qaw hp);exact za rfl;exact rfl;clear hp;(try clear w1);intro g w1 hp;simp only [zp,zq,z0,z1])|((with_reducible apply Qai hp);exact zt rfl;exact ii;exact ii;(exact zio rfl);simp only [zp,zq,z0,z1]))
  go_loopw [12] (fun i wr => ∃ k : Nat,k ≤ 3 ∧ i = .int .i64 k ∧ (0 < k → may x) ∧ (1 < k → may y) ∧ (2 < k → may z) ∧ Hp [] w [⟨g,24,[.int .i64 x,.int .i64 y,.int .i64 z]⟩] wr) (fun i _ => 3 - (intOf i).toNat)
  case atStart => exact ⟨0,by omega,rfl,by omega,by omega,by omega,hp⟩
  case round =>
    clear hp
    obtain ⟨k,hk,rfl,h0,h1',h2',hp⟩ := hrel
    unfold may at h0 h1' h2'
    obtain rfl|rfl|rfl|rfl : k = 0 ∨ k = 1 ∨ k = 2 ∨ k = 3 := by omega
    · by_cases h1 : x < -268435456
      · have hb : ¬ (may x ∧ may y ∧ may z) := by unfold may;omega
        obtain rfl := H7.out hb
        go_wp2_with ((with_reducible apply Qbo);exact za rfl;exact zk rfl;exact ii;exact ii;omega;omega;(exact rfl);simp only [zp,zq,z0,z1])
        exact bodyPost_ret (Qab rfl rfl) rfl ⟨rfl,hp.keep⟩
      · by_cases h2 : 268435456 < x
        · have hb : ¬ (may x ∧ may y ∧ may z) := by unfold may;omega
          obtain rfl := H7.out hb
          go_wp2_with ((with_reducible apply Qbo);exact za rfl;exact zk rfl;exact ii;exact ii;omega;omega;(exact rfl);simp only [zp,zq,z0,z1])
          exact bodyPost_ret (Qab rfl rfl) rfl ⟨rfl,hp.keep⟩
        · go_wp2_with ((with_reducible apply Qbo);exact za rfl;exact zk rfl;exact ii;exact ii;omega;omega;(exact rfl);simp only [zp,zq,z0,z1])
          go_roundw
          case rel => exact ⟨1,by omega,rfl,by unfold may;omega,by unfold may;omega,by unfold may;omega,hp⟩
          case measure => simp [intOf]
    · by_cases h1 : y < -268435456
      · have hb : ¬ (may x ∧ may y ∧ may z) := by unfold may;omega
        obtain rfl := H7.out hb
        go_wp2_with ((with_reducible apply Qbo);exact za rfl;exact zk rfl;exact ii;exact ii;omega;omega;(exact rfl);simp only [zp,zq,z0,z1])
        exact bodyPost_ret (Qab rfl rfl) rfl ⟨rfl,hp.keep⟩
      · by_cases h2 : 268435456 < y
        · have hb : ¬ (may x ∧ may y ∧ may z) := by unfold may;omega
          obtain rfl := H7.out hb
          go_wp2_with ((with_reducible apply Qbo);exact za rfl;exact zk rfl;exact ii;exact ii;omega;omega;(exact rfl);simp only [zp,zq,z0,z1])
          exact bodyPost_ret (Qab rfl rfl) rfl ⟨rfl,hp.keep⟩
        · go_wp2_with ((with_reducible apply Qbo);exact za rfl;exact zk rfl;exact ii;exact ii;omega;omega;(exact rfl);simp only [zp,zq,z0,z1])
          go_roundw
          case rel => exact ⟨2,by omega,rfl,by unfold may;omega,by unfold may;omega,by unfold may;omega,hp⟩
          case measure => simp [intOf]
    · by_cases h1 : z < -268435456
      · have hb : ¬ (may x ∧ may y ∧ may z) := by unfold may;omega
        obtain rfl := H7.out hb
        go_wp2_with ((with_reducible apply Qbo);exact za rfl;exact zk rfl;exact ii;exact ii;omega;omega;(exact rfl);simp only [zp,zq,z0,z1])
        exact bodyPost_ret (Qab rfl rfl) rfl ⟨rfl,hp.keep⟩
      · by_cases h2 : 268435456 < z
        · have hb : ¬ (may x ∧ may y ∧ may z) := by unfold may;omega
          obtain rfl := H7.out hb
          go_wp2_with ((with_reducible apply Qbo);exact za rfl;exact zk rfl;exact ii;exact ii;omega;omega;(exact rfl);simp only [zp,zq,z0,z1])
          exact bodyPost_ret (Qab rfl rfl) rfl ⟨rfl,hp.keep⟩
        · go_wp2_with ((with_reducible apply Qbo);exact za rfl;exact zk rfl;exact ii;exact ii;omega;omega;(exact rfl);simp only [zp,zq,z0,z1])
          go_roundw
          case rel => exact ⟨3,by omega,rfl,by unfold may;omega,by unfold may;omega,by unfold may;omega,hp⟩
          case measure => simp [intOf]
    · have hb : may x ∧ may y ∧ may z := by unfold may;omega
      obtain rfl := H0.out hb
      go_wp2_with (fail)
      exact bodyPost_ret (Qab rfl rfl) rfl ⟨rfl,hp.keep⟩
theorem check_any (p : P3) (w : World) : Calls Try.prog 15 #[PV p] w (Ret (.int .i64 (if p.may then 0 else 7)) w) :=
  check_gen p.x p.y p.z _ (Lib.hid fun h => if_pos h) (Lib.hid fun h => if_neg h) w
end Go.Proofs.Ytdfdmeoalbpcdaa

set_option linter.unusedSimpArgs false
set_option maxRecDepth 100000
namespace Go.Proofs.Ytdfdmeoalbpcdaa
open Go Go.RowKit
/-- Points, cell by cell. -/
def pcs : List P3 → List Value
  | [] => []
  | p :: ps => .int .i64 p.x :: .int .i64 p.y :: .int .i64 p.z :: pcs ps
theorem Qck : ∀ ps : List P3,(pcs ps).length = ps.length * 3
  | [] => rfl
  | p :: ps => by simp [pcs,Qck ps];omega
theorem pcs_drop : ∀ (ps : List P3) (k : Nat) (p : P3),ps[k]? = some p → ((pcs ps).drop (k * 3)).take 3 = [.int .i64 p.x,.int .i64 p.y,.int .i64 p.z]
  | [],_,_,h => by simp at h
  | q :: ps,0,p,h => by simp at h;subst h;rfl
  | q :: ps,k + 1,p,h => by
    have := pcs_drop ps k p (by simpa using h)
    rw [show (k + 1) * 3 = k * 3 + 3 by omega,pcs]
    simpa using this
theorem Qfu {bc : List Value} {off : Nat} {ps : List P3} (h : (bc.drop off).take (ps.length * 3) = pcs ps) {k : Nat} {p : P3} (hk : ps[k]? = some p) : (bc.drop (off + k * 3)).take 3 = [.int .i64 p.x,.int .i64 p.y,.int .i64 p.z] := by
  have hlt : k < ps.length := by
    rcases Nat.lt_or_ge k ps.length with h' | h'
    · exact h'
    · rw [List.getElem?_eq_none h'] at hk;cases hk
  rw [← pcs_drop ps k p hk,← h,List.drop_take,List.take_take,List.drop_drop,show min 3 (ps.length * 3 - k * 3) = 3 by omega]
theorem Qdp {bc : List Value} {off : Nat} {ps : List P3} (h : (bc.drop off).take (ps.length * 3) = pcs ps) : ps = [] ∨ off + ps.length * 3 ≤ bc.length := by
  cases ps with
  | nil => exact .inl rfl
  | cons p ps =>
    right
    have := congrArg List.length h
    rw [Qck] at this
    simp at this
    simp
    omega
/-- A slice of points, as it lies in a world. -/
def PSl (w : World) (v : Value) (ps : List P3) : Prop :=
  (v = .slice none 0 0 ∧ ps = []) ∨ ∃ g off cap bc t z,v = .slice (some ⟨g,off,none⟩) ps.length cap ∧ w.heap[g]? = some (.cells (bc : List Value).toArray t z) ∧ (bc.drop off).take (ps.length * 3) = pcs ps
theorem PSl.keep {w w' : World} {v : Value} {ps : List P3} (h : PSl w v ps) (hk : Keep [] w w') : PSl w' v ps := by
  rcases h with h|⟨g,off,cap,bc,t,z,h1,h2,h3⟩
  · exact .inl h
  · refine .inr ⟨g,off,cap,bc,t,z,h1,?_,h3⟩
    have hlt : g < w.heap.size := by
      rcases Nat.lt_or_ge g w.heap.size with h' | h'
      · exact h'
      · rw [Array.getElem?_eq_none h'] at h2;cases h2
    rw [hk.block g hlt (by simp)]
    exact h2
def Qdk (ps : List P3) : Bool := ps.all fun p => decide p.may
set_option maxHeartbeats 1000000 in
theorem Qfl (a b : P3) (h : (a.sub b).i64) (w : World) : Calls Try.prog 92 #[PV a,PV b] w (Ret (PV (a.sub b)) w) := by
  obtain ⟨ax,ay,az⟩ := a
  obtain ⟨bx,by',bz⟩ := b
  obtain ⟨h1,h2,h3⟩ := h
  unfold P3.sub I64 at *
  dsimp only at h1 h2 h3 ⊢
  go_enter Try.func92,Try.ntmps92
  have hp := Hp.start [] w
  go_wp2_with (first|((with_reducible apply Qaw hp);exact za rfl;exact rfl;clear hp;(try clear w1);intro g w1 hp;simp only [zp,zq,z0,z1])|((with_reducible apply Qae hp);exact ii;exact rfl;clear hp;(try clear w1);intro g w1 hp;simp only [zp,zq,z0,z1])|((with_reducible apply Qai hp);exact zt rfl;exact ii;exact ii;(exact zio rfl);simp only [zp,zq,z0,z1])|((with_reducible apply Qad hp);exact zt rfl;exact za rfl;exact rfl;(exact AggTy.size);exact rfl;exact ii;(simp only [n0,Nat.reduceAdd,nn];try rfl);(exact zl rfl);exact rfl;exact ii;clear hp;(try clear w1);intro w1 hp))
  exact bodyPost_ret (Qab rfl ⟨_,rfl,Qag hp (Nat.le_of_ble_eq_true rfl)⟩) rfl ⟨rfl,hp.keep⟩
set_option maxHeartbeats 2000000 in
theorem fine_far (ps : List P3) (r : Bool) (Hr : Hid (r = Qdk ps)) (hlen : ps.length ≤ maxLen) (w : World) (g off cap : Nat) (bc : List Value) (t : TypeId) {z : Nat × Nat} (hb : w.heap[g]? = some (.cells bc.toArray t z)) (hv : (bc.drop off).take (ps.length * 3) = pcs ps) :
    Calls Try.prog 74 #[.slice (some ⟨g,off,none⟩) ps.length cap] w (Ret (.bool r) w) := by
  have Hv := Lib.hid hv
  clear hv
  unfold maxLen at hlen
  go_enter Try.func74,Try.ntmps74
  have hp := Hp.start [] w
  go_wp2_with (fail)
  go_loopw [7] (fun i wr => ∃ k : Nat,k ≤ ps.length ∧ i = .int .i64 k ∧ Qdk (ps.take k) = true ∧ Hp [] w [] wr) (fun i _ => ps.length - (intOf i).toNat)
  case atStart => exact ⟨0,by omega,rfl,rfl,hp⟩
  case round =>
    clear hp
    obtain ⟨k,hk,rfl,hf,hp⟩ := hrel
    have Hf := Lib.hid hf
    clear hf
    by_cases hk1 : k < ps.length
    · obtain ⟨p,hpk⟩ : ∃ p,ps[k]? = some p := ⟨_,List.getElem?_eq_getElem hk1⟩
      have hat := Qfu Hv.out hpk
      have hroom : off + k * 3 + 3 ≤ bc.length := by
        rcases Qdp Hv.out with h|h
        · subst h;simp at hk1
        · omega
      have Hpk := Lib.hid hpk
      clear hpk
      have hch := check_any p
      by_cases hm : p.may
      · simp only [if_pos hm] at hch
        have Hch := Lib.hid hch
        clear hch
        go_wp2_with (first|((with_reducible apply Qae hp);exact ii;exact rfl;clear hp;(try clear w1);intro g w1 hp;simp only [zp,zq,z0,z1])|((with_reducible apply Qaa hp);exact zt rfl;exact ii;exact ii;(exact zl rfl);(simp only [n0,Nat.reduceAdd,nn];try rfl);simp only [zp,zq,z0,z1])|((with_reducible apply Qad hp);exact zt rfl;exact za rfl;exact rfl;(exact AggTy.size);exact rfl;exact ii;(simp only [n0,Nat.reduceAdd,nn];try rfl);(exact zl rfl);exact rfl;exact ii;clear hp;(try clear w1);intro w1 hp)|((with_reducible apply Qba);exact zx rfl;exact zk rfl;exact ii;(exact AggTy.size);omega;omega;((try simp only [m0,Int.reduceToNat,m1,m2,Nat.reduceMul,Nat.reduceAdd,m3,m4,m5,n0]);exact rfl);simp only [zp,zq,z0,z1])|((with_reducible apply Qbj hp);exact zt rfl;assumption;exact ii;assumption;(omega);simp only [zp,zq,z0,z1])|((with_reducible refine Qah hp (Hch.out _) ?_);clear hp;(try clear w1);intro w1 hp))
        go_roundw
        case rel =>
          refine ⟨k + 1,by omega,by go_num,?_,hp.sub (List.nil_sublist _)⟩
          rw [Qdk,List.take_add_one,Hpk.out,List.all_append]
          simp [hm]
          simpa [Qdk] using Hf.out
        case measure => simp [intOf];omega
      · simp only [if_neg hm] at hch
        have Hch := Lib.hid hch
        clear hch
        have hr : r = false := by
          rw [Hr.out,Qdk,List.all_eq_false]
          exact ⟨p,List.mem_of_getElem? Hpk.out,by simp [hm]⟩
        subst hr
        go_wp2_with (first|((with_reducible apply Qae hp);exact ii;exact rfl;clear hp;(try clear w1);intro g w1 hp;simp only [zp,zq,z0,z1])|((with_reducible apply Qaa hp);exact zt rfl;exact ii;exact ii;(exact zl rfl);(simp only [n0,Nat.reduceAdd,nn];try rfl);simp only [zp,zq,z0,z1])|((with_reducible apply Qad hp);exact zt rfl;exact za rfl;exact rfl;(exact AggTy.size);exact rfl;exact ii;(simp only [n0,Nat.reduceAdd,nn];try rfl);(exact zl rfl);exact rfl;exact ii;clear hp;(try clear w1);intro w1 hp)|((with_reducible apply Qba);exact zx rfl;exact zk rfl;exact ii;(exact AggTy.size);omega;omega;((try simp only [m0,Int.reduceToNat,m1,m2,Nat.reduceMul,Nat.reduceAdd,m3,m4,m5,n0]);exact rfl);simp only [zp,zq,z0,z1])|((with_reducible apply Qbj hp);exact zt rfl;assumption;exact ii;assumption;(omega);simp only [zp,zq,z0,z1])|((with_reducible refine Qah hp (Hch.out _) ?_);clear hp;(try clear w1);intro w1 hp))
        exact bodyPost_ret (Qab rfl rfl) rfl ⟨rfl,hp.keep⟩
    · obtain rfl : k = ps.length := by omega
      have hr : r = true := by
        rw [Hr.out]
        have := Hf.out
        rwa [List.take_length] at this
      subst hr
      go_wp2_with (fail)
      exact bodyPost_ret (Qab rfl rfl) rfl ⟨rfl,hp.keep⟩
end Go.Proofs.Ytdfdmeoalbpcdaa

set_option linter.unusedSimpArgs false
set_option maxRecDepth 100000
namespace Go.Proofs.Ytdfdmeoalbpcdaa
open Go Go.RowKit
theorem fine_nil (w : World) : Calls Try.prog 74 #[.slice none 0 0] w (Ret (.bool true) w) := by
  go_enter Try.func74,Try.ntmps74
  have hp := Hp.start [] w
  go_wp2_with (fail)
  apply wp_loop_once
  go_wp2_with (fail)
  exact bodyPost_ret (Qab rfl rfl) rfl ⟨rfl,hp.keep⟩
theorem fine_any {ps : List P3} {v : Value} (hlen : ps.length ≤ maxLen) (w : World) (h : PSl w v ps) : Calls Try.prog 74 #[v] w (Ret (.bool (Qdk ps)) w) := by
  rcases h with ⟨rfl,rfl⟩|⟨g,off,cap,bc,t,z,rfl,hb,hv⟩
  · exact fine_nil w
  · exact fine_far ps _ (Lib.hid rfl) hlen w g off cap bc t hb hv
theorem Qda {a b : P3} (ha : a.may) (hb : b.may) : (a.sub b).i64 := by
  unfold P3.may may at ha hb
  unfold P3.i64 P3.sub I64
  dsimp only
  omega
theorem det_fit {a b c : P3} (ha : a.i64) (hb : b.i64) (hc : c.i64) : Fit (P3.det a b c) := by
  have hxx := Qbr hb.1 hc.2.1
  have hxy := Qbr hb.2.1 hc.1
  have hxz := Qbr hb.1 hc.2.2
  have hzx := Qbr hb.2.2 hc.1
  have hyz := Qbr hb.2.1 hc.2.2
  have hzy := Qbr hb.2.2 hc.2.1
  have h1 := Qig (a := (b.cross c).x) (by unfold P3.cross;dsimp only;omega) ha.1
  have h2 := Qig (a := (b.cross c).y) (by unfold P3.cross;dsimp only;omega) ha.2.1
  have h3 := Qig (a := (b.cross c).z) (by unfold P3.cross;dsimp only;omega) ha.2.2
  unfold P3.det P3.dot Fit M511
  omega
theorem Qoa {ps : List P3} (h : Qdk ps = true) {p : P3} (hp : p ∈ ps) : p.may := by
  have := List.all_eq_true.1 h p hp
  simpa using this
end Go.Proofs.Ytdfdmeoalbpcdaa
