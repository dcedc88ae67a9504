/-
  Package grid: numbers, and what it hands back (contracts).
-/
import Derived.Test.YtdfdmeoalbpcdaaGa
set_option linter.unusedSimpArgs false
set_option maxRecDepth 100000
namespace Go.Proofs.Ytdfdmeoalbpcdaa
open Go Go.RowKit
abbrev Sl (x y z : Int) : List Value := [.int .u64 (lb (x) 0),.int .u64 (lb (x) 1),.int .u64 (lb (x) 2),.int .u64 (lb (x) 3),.int .u64 (lb (x) 4),.int .u64 (lb (x) 5),.int .u64 (lb (x) 6),.int .u64 (lb (x) 7),.int .u64 (lb (y) 0),.int .u64 (lb (y) 1),.int .u64 (lb (y) 2),.int .u64 (lb (y) 3),.int .u64 (lb (y) 4),.int .u64 (lb (y) 5),.int .u64 (lb (y) 6),.int .u64 (lb (y) 7),.int .u64 (lb (z) 0),.int .u64 (lb (z) 1),.int .u64 (lb (z) 2),.int .u64 (lb (z) 3),.int .u64 (lb (z) 4),.int .u64 (lb (z) 5),.int .u64 (lb (z) 6),.int .u64 (lb (z) 7)]
set_option maxHeartbeats 1000000 in
theorem Qmo (x y z u v t : Int) (w : World) : Calls Try.prog 46 #[Sv x y z,Sv u v t] w (RetN2 (fun g h => .func (.func 84) #[] #[.pointer (some ⟨h,0,none⟩),.pointer (some ⟨g,0,none⟩)]) 30 (Sl u v t) 30 (Sl x y z) w) := by
  have hmf : ∀ (fn : Fn) (first cap : Array Value) (w : World),(Instr.makeFunc fn first cap).run Try.prog w = .ok (.func fn first cap) w := fun _ _ _ _ => rfl
  go_enter Try.func46,Try.ntmps46
  have hp := Hp.start [] w
  go_wp2_with (first|((with_reducible apply Qan hp);exact za rfl;exact rfl;clear hp;(try clear w1);intro g w1 hp;simp only [zp,zq,z0,z1]))
  refine bodyPost_ret (Qak rfl rfl) rfl ⟨g,_,rfl,?_,hp.keep,hp.fresh,hp.fresh,hp.blk,hp.blk⟩
  have := hp.nd
  simp at this
  exact this
def nth (x y z : Int) : Fin 3 → Int
  | 0 => x
  | 1 => y
  | 2 => z
/-- The blocks of a and b lie as they lay. -/
def Kept (ga gb : Nat) (W W' : World) : Prop := W'.heap[ga]? = W.heap[ga]? ∧ W'.heap[gb]? = W.heap[gb]?
def Went (pre : List (Fin 3)) : Prop := pre = [0] ∨ pre = [0,1] ∨ pre = [0,1,2]
set_option maxHeartbeats 4000000 in
theorem Qkr (n : Nat) (x y z u v t : Int) (ga gb : Nat) (hne : ga ≠ gb) (w : World) (ha : w.heap[ga]? = some (.cells (Sl x y z).toArray 30 (0,0))) (hb : w.heap[gb]? = some (.cells (Sl u v t).toArray 30 (0,0))) :
    SeqStopsK Fence.wide n Try.prog 84 #[.pointer (some ⟨ga,0,none⟩),.pointer (some ⟨gb,0,none⟩)] (fun i : Fin 3 => #[W (nth x y z i),W (nth u v t i)]) (Kept ga gb) (fun xs => xs = [0,1,2]) Went 3 w := by
  intro l J Jx W0 hW hJ hJx hY h0
  have hlt : ∀ {k : Nat} {o : Obj},w.heap[k]? = some o → k < w.heap.size := fun {k o} h => by
    rcases Nat.lt_or_ge k w.heap.size with h' | h'
    · exact h'
    · rw [Array.getElem?_eq_none h'] at h;cases h
  have ha := (hW.block _ (hlt ha)).trans ha
  have hb := (hW.block _ (hlt hb)).trans hb
  clear hW hJ hJx hlt
  obtain ⟨fn,tmps,asg,body,hy,hR⟩ := hY [] 0 W0 h0 (by simp)
  dsimp only [nth,List.nil_append] at hy hR
  have hp := Hp.startX2 hne ha hb
  have HY := Lib.hid hY
  clear hY
  refine callsIn_of_wp Try.func84 rfl trivial ?_ rfl
  simp only [Try.ntmps84,List.size_toArray,List.length_cons,List.length_nil,Nat.reduceAdd,Nat.reduceSub,Array.replicate_succ,Array.replicate_zero,List.push_toArray,List.append_toArray,List.nil_append,List.cons_append]
  gi_wp2_with (first|((with_reducible apply Qav hp);exact zt rfl;exact ii;exact ii;(first|exact zl rfl|exact Qac (by omega));(first|(with_reducible exact Qaa (by omega))|(simp only [n0,Nat.reduceAdd,nn];try rfl));simp only [zp,zq,z0,z1])|((with_reducible apply Qbh);exact rfl)|((with_reducible apply Qar);exact rfl;simp only [zp,zq,z0,z1]))
  refine ⟨fun h => by simp [Fence.wide] at h,hR.mono ?_⟩
  clear hp hR hy h0
  rintro e W1 (⟨rfl,hJ1,hk1,hk2⟩|⟨rfl,hx⟩)
  · have ha := hk1.trans ha
    have hb := hk2.trans hb
    clear hk1 hk2
    obtain ⟨fn,tmps,asg,body,hy,hR⟩ := HY.out [0] 1 W1 hJ1 (by simp)
    dsimp only [nth,List.cons_append,List.nil_append] at hy hR
    have hp := Hp.startX2 hne ha hb
    gi_wp2_with (first|((with_reducible apply Qav hp);exact zt rfl;exact ii;exact ii;(first|exact zl rfl|exact Qac (by omega));(first|(with_reducible exact Qaa (by omega))|(simp only [n0,Nat.reduceAdd,nn];try rfl));simp only [zp,zq,z0,z1])|((with_reducible apply Qbh);exact rfl)|((with_reducible apply Qar);exact rfl;simp only [zp,zq,z0,z1]))
    refine ⟨fun h => by simp [Fence.wide] at h,hR.mono ?_⟩
    clear hp hR hy hJ1
    rintro e W2 (⟨rfl,hJ2,hk1,hk2⟩|⟨rfl,hx⟩)
    · have ha := hk1.trans ha
      have hb := hk2.trans hb
      clear hk1 hk2
      obtain ⟨fn,tmps,asg,body,hy,hR⟩ := HY.out [0,1] 2 W2 hJ2 (by simp)
      dsimp only [nth,List.cons_append,List.nil_append] at hy hR
      have hp := Hp.startX2 hne ha hb
      gi_wp2_with (first|((with_reducible apply Qav hp);exact zt rfl;exact ii;exact ii;(first|exact zl rfl|exact Qac (by omega));(first|(with_reducible exact Qaa (by omega))|(simp only [n0,Nat.reduceAdd,nn];try rfl));simp only [zp,zq,z0,z1])|((with_reducible apply Qbh);exact rfl)|((with_reducible apply Qar);exact rfl;simp only [zp,zq,z0,z1]))
      refine ⟨fun h => by simp [Fence.wide] at h,hR.mono ?_⟩
      clear hp hR hy hJ2
      rintro e W3 (⟨rfl,hJ3,hk1,hk2⟩|⟨rfl,hx⟩)
      · gi_wp2_with (first|((with_reducible apply Qav hp);exact zt rfl;exact ii;exact ii;(first|exact zl rfl|exact Qac (by omega));(first|(with_reducible exact Qaa (by omega))|(simp only [n0,Nat.reduceAdd,nn];try rfl));simp only [zp,zq,z0,z1])|((with_reducible apply Qbh);exact rfl)|((with_reducible apply Qar);exact rfl;simp only [zp,zq,z0,z1]))
        go_end0
        exact ⟨⟨_,rfl⟩,.inl ⟨_,rfl,hJ3⟩⟩
      · gi_wp2_with (first|((with_reducible apply Qav hp);exact zt rfl;exact ii;exact ii;(first|exact zl rfl|exact Qac (by omega));(first|(with_reducible exact Qaa (by omega))|(simp only [n0,Nat.reduceAdd,nn];try rfl));simp only [zp,zq,z0,z1])|((with_reducible apply Qbh);exact rfl)|((with_reducible apply Qar);exact rfl;simp only [zp,zq,z0,z1]))
        go_end0
        exact ⟨⟨_,rfl⟩,.inr ⟨_,.inr (.inr rfl),hx⟩⟩
    · gi_wp2_with (first|((with_reducible apply Qav hp);exact zt rfl;exact ii;exact ii;(first|exact zl rfl|exact Qac (by omega));(first|(with_reducible exact Qaa (by omega))|(simp only [n0,Nat.reduceAdd,nn];try rfl));simp only [zp,zq,z0,z1])|((with_reducible apply Qbh);exact rfl)|((with_reducible apply Qar);exact rfl;simp only [zp,zq,z0,z1]))
      go_end0
      exact ⟨⟨_,rfl⟩,.inr ⟨_,.inr (.inl rfl),hx⟩⟩
  · gi_wp2_with (first|((with_reducible apply Qav hp);exact zt rfl;exact ii;exact ii;(first|exact zl rfl|exact Qac (by omega));(first|(with_reducible exact Qaa (by omega))|(simp only [n0,Nat.reduceAdd,nn];try rfl));simp only [zp,zq,z0,z1])|((with_reducible apply Qbh);exact rfl)|((with_reducible apply Qar);exact rfl;simp only [zp,zq,z0,z1]))
    go_end0
    exact ⟨⟨_,rfl⟩,.inr ⟨_,.inl rfl,hx⟩⟩
end Go.Proofs.Ytdfdmeoalbpcdaa
