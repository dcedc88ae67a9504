/-
  Points in slices; package orient: less, fine, Side (contracts).
-/
import Derived.Test.YtdfdmeoalbpcdaaGe
import Derived.Test.YtdfdmeoalbpcdaaSl
set_option linter.unusedSimpArgs false
set_option maxRecDepth 100000
namespace Go.Proofs.Ytdfdmeoalbpcdaa
open Go Go.RowKit
/-- Points, cell by cell. -/
def pcs : List P3 → List Value
  | [] => []
  | p :: ps => .int .i64 p.x :: .int .i64 p.y :: .int .i64 p.z :: pcs ps
theorem Qaz : ∀ ps : List P3,(pcs ps).length = ps.length * 3
  | [] => rfl
  | p :: ps => by simp [pcs,Qaz ps];omega
theorem Qns : ∀ (ps : List P3) (k : Nat) (p : P3),ps[k]? = some p → ((pcs ps).drop (k * 3)).take 3 = [.int .i64 p.x,.int .i64 p.y,.int .i64 p.z]
  | [],_,_,h => by simp at h
  | q :: ps,0,p,h => by simp at h;subst h;rfl
  | q :: ps,k + 1,p,h => by
    have := Qns ps k p (by simpa using h)
    rw [show (k + 1) * 3 = k * 3 + 3 by omega,pcs]
    simpa using this
theorem Qig {bc : List Value} {off : Nat} {ps : List P3} (h : (bc.drop off).take (ps.length * 3) = pcs ps) {k : Nat} {p : P3} (hk : ps[k]? = some p) : (bc.drop (off + k * 3)).take 3 = [.int .i64 p.x,.int .i64 p.y,.int .i64 p.z] := by
  have hlt : k < ps.length := by
    rcases Nat.lt_or_ge k ps.length with h' | h'
    · exact h'
    · rw [List.getElem?_eq_none h'] at hk;cases hk
  rw [← Qns ps k p hk,← h,List.drop_take,List.take_take,List.drop_drop,show min 3 (ps.length * 3 - k * 3) = 3 by omega]
theorem Qet {bc : List Value} {off : Nat} {ps : List P3} (h : (bc.drop off).take (ps.length * 3) = pcs ps) : ps = [] ∨ off + ps.length * 3 ≤ bc.length := by
  cases ps with
  | nil => exact .inl rfl
  | cons p ps =>
    right
    have := congrArg List.length h
    rw [Qaz] at this
    simp at this
    simp
    omega
/-- A slice of points, as it lies in a world. -/
def PSl (w : World) (v : Value) (ps : List P3) : Prop :=
  (v = .slice none 0 0 ∧ ps = []) ∨ ∃ g off cap bc t z,v = .slice (some ⟨g,off,none⟩) ps.length cap ∧ w.heap[g]? = some (.cells (bc : List Value).toArray t z) ∧ (bc.drop off).take (ps.length * 3) = pcs ps
theorem PSl.keep {w w' : World} {v : Value} {ps : List P3} (h : PSl w v ps) (hk : Keep [] w w') : PSl w' v ps := by
  rcases h with h|⟨g,off,cap,bc,t,z,h1,h2,h3⟩
  · exact .inl h
  · refine .inr ⟨g,off,cap,bc,t,z,h1,?_,h3⟩
    have hlt : g < w.heap.size := by
      rcases Nat.lt_or_ge g w.heap.size with h' | h'
      · exact h'
      · rw [Array.getElem?_eq_none h'] at h2;cases h2
    rw [hk.block g hlt (by simp)]
    exact h2
def Qdw (ps : List P3) : Bool := ps.all fun p => decide p.may
set_option maxHeartbeats 1000000 in
theorem Qfe (a b : P3) (h : (a.sub b).i64) (w : World) : Calls Try.prog 92 #[PV a,PV b] w (Ret (PV (a.sub b)) w) := by
  obtain ⟨ax,ay,az⟩ := a
  obtain ⟨bx,by',bz⟩ := b
  obtain ⟨h1,h2,h3⟩ := h
  unfold P3.sub I64 at *
  dsimp only at h1 h2 h3 ⊢
  go_enter Try.func92,Try.ntmps92
  have hp := Hp.start [] w
  go_wp2_with (first|((with_reducible apply Qan hp);exact za rfl;exact rfl;clear hp;(try clear w1);intro g w1 hp;simp only [zp,zq,z0,z1])|((with_reducible apply Qaf hp);exact ii;exact rfl;clear hp;(try clear w1);intro g w1 hp;simp only [zp,zq,z0,z1])|((with_reducible apply Qad hp);exact zt rfl;exact ii;exact ii;(first|exact zio rfl|exact Qae (by omega));simp only [zp,zq,z0,z1])|((with_reducible apply Qag hp);exact zt rfl;exact za rfl;exact rfl;exact Sz.z;exact rfl;exact ii;(first|(with_reducible exact Qaa (by omega))|(simp only [n0,Nat.reduceAdd,nn];try rfl));(first|exact zl rfl|exact Qac (by omega));exact rfl;exact ii;clear hp;(try clear w1);intro w1 hp))
  exact bodyPost_ret (Qak rfl ⟨_,rfl,Qaq hp (Nat.le_of_ble_eq_true rfl)⟩) rfl ⟨rfl,hp.keep⟩
set_option maxHeartbeats 2000000 in
theorem Qnq (ps : List P3) (r : Bool) (Hr : Hid (r = Qdw ps)) (hlen : ps.length ≤ maxLen) (w : World) (g off cap : Nat) (bc : List Value) (t : TypeId) {z : Nat × Nat} (hb : w.heap[g]? = some (.cells bc.toArray t z)) (hv : (bc.drop off).take (ps.length * 3) = pcs ps) :
    Calls Try.prog 74 #[.slice (some ⟨g,off,none⟩) ps.length cap] w (Ret (.bool r) w) := by
  have Hv := Lib.hid hv
  clear hv
  unfold maxLen at hlen
  go_enter Try.func74,Try.ntmps74
  have hp := Hp.start [] w
  go_wp2_with (first|((with_reducible apply Qaf hp);exact ii;exact rfl;clear hp;(try clear w1);intro g w1 hp;simp only [zp,zq,z0,z1])|((with_reducible apply Qab hp);exact zt rfl;exact ii;exact ii;(first|exact zl rfl|exact Qac (by omega));(first|(with_reducible exact Qaa (by omega))|(simp only [n0,Nat.reduceAdd,nn];try rfl));simp only [zp,zq,z0,z1])|((with_reducible apply Qag hp);exact zt rfl;exact za rfl;exact rfl;exact Sz.z;exact rfl;exact ii;(first|(with_reducible exact Qaa (by omega))|(simp only [n0,Nat.reduceAdd,nn];try rfl));(first|exact zl rfl|exact Qac (by omega));exact rfl;exact ii;clear hp;(try clear w1);intro w1 hp)|((with_reducible apply Qah);exact zx rfl;exact zk rfl;exact ii;exact Sz.z;omega;omega;((try simp only [m0,Int.reduceToNat,m1,m2,Nat.reduceMul,Nat.reduceAdd,m3,m4,m5,n0]);exact rfl);simp only [zp,zq,z0,z1])|((with_reducible apply Qaj hp);exact zt rfl;assumption;exact ii;assumption;(first|exact zl rfl|omega);simp only [zp,zq,z0,z1]))
  go_loopw [7] (fun i wr => ∃ k : Nat,k ≤ ps.length ∧ i = .int .i64 k ∧ Qdw (ps.take k) = true ∧ Hp [] w [] wr) (fun i _ => ps.length - (intOf i).toNat)
  case atStart => exact ⟨0,by omega,rfl,rfl,hp⟩
  case round =>
    clear hp
    obtain ⟨k,hk,rfl,hf,hp⟩ := hrel
    have Hf := Lib.hid hf
    clear hf
    by_cases hk1 : k < ps.length
    · obtain ⟨p,hpk⟩ : ∃ p,ps[k]? = some p := ⟨_,List.getElem?_eq_getElem hk1⟩
      have hat := Qig Hv.out hpk
      have hroom : off + k * 3 + 3 ≤ bc.length := by
        rcases Qet Hv.out with h|h
        · subst h;simp at hk1
        · omega
      have Hpk := Lib.hid hpk
      clear hpk
      have hch := Qlj p
      by_cases hm : p.may
      · simp only [if_pos hm] at hch
        have Hch := Lib.hid hch
        clear hch
        go_wp2_with (first|((with_reducible apply Qaf hp);exact ii;exact rfl;clear hp;(try clear w1);intro g w1 hp;simp only [zp,zq,z0,z1])|((with_reducible apply Qab hp);exact zt rfl;exact ii;exact ii;(first|exact zl rfl|exact Qac (by omega));(first|(with_reducible exact Qaa (by omega))|(simp only [n0,Nat.reduceAdd,nn];try rfl));simp only [zp,zq,z0,z1])|((with_reducible apply Qag hp);exact zt rfl;exact za rfl;exact rfl;exact Sz.z;exact rfl;exact ii;(first|(with_reducible exact Qaa (by omega))|(simp only [n0,Nat.reduceAdd,nn];try rfl));(first|exact zl rfl|exact Qac (by omega));exact rfl;exact ii;clear hp;(try clear w1);intro w1 hp)|((with_reducible apply Qah);exact zx rfl;exact zk rfl;exact ii;exact Sz.z;omega;omega;((try simp only [m0,Int.reduceToNat,m1,m2,Nat.reduceMul,Nat.reduceAdd,m3,m4,m5,n0]);exact rfl);simp only [zp,zq,z0,z1])|((with_reducible apply Qaj hp);exact zt rfl;assumption;exact ii;assumption;(first|exact zl rfl|omega);simp only [zp,zq,z0,z1])|((with_reducible refine Qau hp (Hch.out _) ?_);clear hp;(try clear w1);intro w1 hp))
        go_roundw
        case rel =>
          refine ⟨k + 1,by omega,by go_num,?_,hp.sub (List.nil_sublist _)⟩
          rw [Qdw,List.take_add_one,Hpk.out,List.all_append]
          simp [hm]
          simpa [Qdw] using Hf.out
        case measure => simp [intOf];omega
      · simp only [if_neg hm] at hch
        have Hch := Lib.hid hch
        clear hch
        have hr : r = false := by
          rw [Hr.out,Qdw,List.all_eq_false]
          exact ⟨p,List.mem_of_getElem? Hpk.out,by simp [hm]⟩
        subst hr
        go_wp2_with (first|((with_reducible apply Qaf hp);exact ii;exact rfl;clear hp;(try clear w1);intro g w1 hp;simp only [zp,zq,z0,z1])|((with_reducible apply Qab hp);exact zt rfl;exact ii;exact ii;(first|exact zl rfl|exact Qac (by omega));(first|(with_reducible exact Qaa (by omega))|(simp only [n0,Nat.reduceAdd,nn];try rfl));simp only [zp,zq,z0,z1])|((with_reducible apply Qag hp);exact zt rfl;exact za rfl;exact rfl;exact Sz.z;exact rfl;exact ii;(first|(with_reducible exact Qaa (by omega))|(simp only [n0,Nat.reduceAdd,nn];try rfl));(first|exact zl rfl|exact Qac (by omega));exact rfl;exact ii;clear hp;(try clear w1);intro w1 hp)|((with_reducible apply Qah);exact zx rfl;exact zk rfl;exact ii;exact Sz.z;omega;omega;((try simp only [m0,Int.reduceToNat,m1,m2,Nat.reduceMul,Nat.reduceAdd,m3,m4,m5,n0]);exact rfl);simp only [zp,zq,z0,z1])|((with_reducible apply Qaj hp);exact zt rfl;assumption;exact ii;assumption;(first|exact zl rfl|omega);simp only [zp,zq,z0,z1])|((with_reducible refine Qau hp (Hch.out _) ?_);clear hp;(try clear w1);intro w1 hp))
        exact bodyPost_ret (Qak rfl rfl) rfl ⟨rfl,hp.keep⟩
    · obtain rfl : k = ps.length := by omega
      have hr : r = true := by
        rw [Hr.out]
        have := Hf.out
        rwa [List.take_length] at this
      subst hr
      go_wp2_with (first|((with_reducible apply Qaf hp);exact ii;exact rfl;clear hp;(try clear w1);intro g w1 hp;simp only [zp,zq,z0,z1])|((with_reducible apply Qab hp);exact zt rfl;exact ii;exact ii;(first|exact zl rfl|exact Qac (by omega));(first|(with_reducible exact Qaa (by omega))|(simp only [n0,Nat.reduceAdd,nn];try rfl));simp only [zp,zq,z0,z1])|((with_reducible apply Qag hp);exact zt rfl;exact za rfl;exact rfl;exact Sz.z;exact rfl;exact ii;(first|(with_reducible exact Qaa (by omega))|(simp only [n0,Nat.reduceAdd,nn];try rfl));(first|exact zl rfl|exact Qac (by omega));exact rfl;exact ii;clear hp;(try clear w1);intro w1 hp)|((with_reducible apply Qah);exact zx rfl;exact zk rfl;exact ii;exact Sz.z;omega;omega;((try simp only [m0,Int.reduceToNat,m1,m2,Nat.reduceMul,Nat.reduceAdd,m3,m4,m5,n0]);exact rfl);simp only [zp,zq,z0,z1])|((with_reducible apply Qaj hp);exact zt rfl;assumption;exact ii;assumption;(first|exact zl rfl|omega);simp only [zp,zq,z0,z1]))
      exact bodyPost_ret (Qak rfl rfl) rfl ⟨rfl,hp.keep⟩
end Go.Proofs.Ytdfdmeoalbpcdaa
