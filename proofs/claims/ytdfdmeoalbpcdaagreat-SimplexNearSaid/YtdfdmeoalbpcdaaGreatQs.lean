/-
  Package simplex: weights (contracts).
  A loop over a function whose elements lie in memory: the function says of each element, where it hands it over, what lies there.
  Slices that read as lists: laws of their own.
-/
import Derived.Test.YtdfdmeoalbpcdaaGreatQb
import Derived.Test.YtdfdmeoalbpcdaaGreatDa
set_option linter.unusedSimpArgs false
set_option linter.unusedVariables false
set_option maxRecDepth 100000
namespace Go.Proofs.YtdfdmeoalbpcdaaGreat
open Go Go.RowKit
attribute [local irreducible] wpList
theorem Qdl {p q : P3} (hp : p.i64) (hq : q.i64) : Fit (p.dot q) := by
  have h1 := Qbh hp.1 hq.1
  have h2 := Qbh hp.2.1 hq.2.1
  have h3 := Qbh hp.2.2 hq.2.2
  unfold P3.dot Fit M511
  omega
set_option maxHeartbeats 4000000 in
theorem g_ne (n : Int) (i k : Nat) (p q : P3) (hp' : p.i64) (hq' : q.i64) (hkn : ((k : Int) == n) = false) (hi3 : (i : Int) < 3) (hk3 : (k : Int) < 3) (gn ge gl : Nat) (ec : List Value) (he9 : ec.length = 9) (w : World) (hn : w.heap[gn]? = some (.cells #[.int .i64 n] 3 (0,0))) (he : w.heap[ge]? = some (.cells ec.toArray 93 (0,0)))
    (hei : (ec.drop (i * 3)).take 3 = [.int .i64 p.x,.int .i64 p.y,.int .i64 p.z]) (hek : (ec.drop (k * 3)).take 3 = [.int .i64 q.x,.int .i64 q.y,.int .i64 q.z]) :
    Calls Tryz.prog 51 #[.int .i64 (i : Int),.int .i64 (k : Int),.pointer (some ⟨gn,0,none⟩),.pointer (some ⟨ge,0,none⟩),.pointer (some ⟨gl,0,none⟩)] w (Ret (W (p.dot q)) w) := by
  have D1 := Lib.hid (dot_any p q hp' hq')
  clear hp' hq'
  generalize p.dot q = x at *
  have l1 : i * 3 + 3 ≤ ec.length := by omega
  have l2 : k * 3 + 3 ≤ ec.length := by omega
  have i0 : (0 : Int) ≤ (i : Int) := by omega
  have k0 : (0 : Int) ≤ (k : Int) := by omega
  go_enter Tryz.func51,Tryz.ntmps51
  have hp := Hp.start [] w
  go_upto_region 4 with (first|((with_reducible apply Qag hp);exact ii;exact rfl;clear hp;(try clear w1);intro g w1 hp;simp only [zp,zq,z0,z1])|((with_reducible apply Qbf hp);exact zt rfl;assumption;exact ii;(exact zio rfl);simp only [zp,zq,z0,z1]))
  have hq := hp
  refine Qad hp hq [7] (.q 0 (.q 1 (.q 2 (.q 3 (.q 4 (.q 5 (.l 6 (.l 7 .nil)))))))) (by kernel_rfl) (by kernel_rfl) ?_
  clear hp hq;(try clear w1);intro w1 hp hq
  repeat' (first|(((with_reducible apply sd_q);exact zo rfl);(first|((with_reducible apply Qbe hp);exact rfl;exact zt rfl;assumption;exact ii;assumption;(omega);simp only [zp,zq,z0,z1])|((with_reducible apply Qaq hp);exact zi rfl;simp only [zp,zq,z0,z1])|((with_reducible apply Qaj hp);exact rfl;(focus (intro _;go_simp;(try go_ints);try with_reducible rfl));simp only [zp,zq,z0,z1])))|(((with_reducible apply sd_l);exact zo rfl);(first|((with_reducible apply Qap hp);exact rfl;(focus (intro _;go_simp;try first|with_reducible rfl|exact ⟨rfl,rfl⟩));(with_reducible exact fun w => D1.out w);exact hq;clear hp hq;(try clear w1);intro w1 hp hq;simp only [zp,zq,z0,z1])|((with_reducible apply Qbb hq);exact rfl;exact zt rfl;(exact za rfl);exact rfl;(exact AggTy.size);exact rfl;exact ii;(simp only [n0,Nat.reduceAdd,nn];try rfl);(exact zl rfl);exact rfl;exact ii;exact rfl;clear hp hq;(try clear w1);intro w1 hq;have hp := True.intro)))|((with_reducible apply Qao);clear hp;have hp := hq;clear hq))
  go_wp2
  exact bodyPost_ret (Qaa rfl ⟨_,rfl,Qac hp (Nat.le_of_ble_eq_true rfl)⟩) rfl ⟨rfl,hp.keep⟩
set_option maxHeartbeats 4000000 in
theorem g_eq (n : Int) (i : Nat) (p a : P3) (hp' : p.i64) (hq' : a.i64) (hi3 : (i : Int) < 3) (gn ge gl g0 off len cap : Nat) (t0 : TypeId) (z0' : Nat × Nat) (ec bc : List Value) (he9 : ec.length = 9) (w : World) (hn : w.heap[gn]? = some (.cells #[.int .i64 n] 3 (0,0))) (he : w.heap[ge]? = some (.cells ec.toArray 93 (0,0)))
    (hl : w.heap[gl]? = some (.cells #[.slice (some ⟨g0,off,none⟩) len cap] 22 (0,0))) (hb : w.heap[g0]? = some (.cells bc.toArray t0 z0')) (hlen : (0 : Int) < len)
    (hei : (ec.drop (i * 3)).take 3 = [.int .i64 p.x,.int .i64 p.y,.int .i64 p.z]) (hea : (bc.drop off).take 3 = [.int .i64 a.x,.int .i64 a.y,.int .i64 a.z]) (hbl : off + 3 ≤ bc.length) :
    Calls Tryz.prog 51 #[.int .i64 (i : Int),.int .i64 n,.pointer (some ⟨gn,0,none⟩),.pointer (some ⟨ge,0,none⟩),.pointer (some ⟨gl,0,none⟩)] w (Ret (W (fz (-(p.dot a)))) w) := by
  have hf := Qdl hp' hq'
  have D1 := Lib.hid (dot_any p a hp' hq')
  clear hp' hq'
  generalize p.dot a = x at *
  have N1 := Lib.hid (Qnb x hf)
  clear hf
  generalize fz (-x) = y at *
  generalize decide (Fit (-x)) = ok at *
  have z0 : (n == n) = true := beq_self_eq_true _
  have l1 : i * 3 + 3 ≤ ec.length := by omega
  have i0 : (0 : Int) ≤ (i : Int) := by omega
  go_enter Tryz.func51,Tryz.ntmps51
  have hp := Hp.start [] w
  go_upto_region 2 with (first|((with_reducible apply Qag hp);exact ii;exact rfl;clear hp;(try clear w1);intro g w1 hp;simp only [zp,zq,z0,z1])|((with_reducible apply Qbf hp);exact zt rfl;assumption;exact ii;(exact zio rfl);simp only [zp,zq,z0,z1]))
  have hq := hp
  refine Qad hp hq [] (.q 0 (.q 1 (.q 2 (.q 3 (.q 4 (.q 5 (.b2 6 (.b2 7 (.q 8 (.q 9 (.q 10 (.l 11 (.l 12 (.q 13 .nil)))))) 11 (.l 7 (.q 8 (.q 9 (.q 10 (.l 12 (.q 13 .nil))))))) 11 (.l 6 (.l 7 (.q 8 (.q 9 (.q 10 (.l 12 (.q 13 .nil)))))))))))))) (by kernel_rfl) (by kernel_rfl) ?_
  clear hp hq;(try clear w1);intro w1 hp hq
  repeat' (first|(((with_reducible apply sd_q);exact zo rfl);(first|((with_reducible apply Qbe hp);exact rfl;exact zt rfl;assumption;exact ii;assumption;(omega);simp only [zp,zq,z0,z1])|((with_reducible apply Qbl hp);exact rfl;exact zt rfl;assumption;exact ii;(exact zso rfl);simp only [zp,zq,z0,z1])|((with_reducible apply Qaq hp);(first|exact zi rfl|exact zu rfl);simp only [zp,zq,z0,z1])|((with_reducible apply Qat hp);exact zb rfl;simp only [zp,zq,z0,z1])|((with_reducible apply Qas hp);exact rfl;exact zx rfl;exact zk rfl;exact ii;(exact AggTy.size);omega;omega;((try simp only [m0,Int.reduceToNat,m1,m2,Nat.reduceMul,Nat.reduceAdd,m3,m4,m5,n0]);exact rfl);simp only [zp,zq,z0,z1])|((with_reducible apply Qaj hp);exact rfl;(focus (intro _;go_simp;(try go_ints);try with_reducible rfl));simp only [zp,zq,z0,z1])))|(((with_reducible apply sd_l);exact zo rfl);(first|((with_reducible apply Qcm hq);(repeat (exact sb0));exact rfl;exact ii;exact rfl;clear hp hq;(try clear w1);intro g w1 hp hq;simp only [zp,zq,z0,z1])|((with_reducible apply Qap hp);exact rfl;(focus (intro _;go_simp;try first|with_reducible rfl|exact ⟨rfl,rfl⟩));(with_reducible first|exact fun w => D1.out w|exact fun w => N1.out w);exact hq;clear hp hq;(try clear w1);intro w1 hp hq;simp only [zp,zq,z0,z1])|((with_reducible apply Qam hq);exact rfl;exact zt rfl;(exact za rfl);exact rfl;(exact AggTy.size);exact rfl;exact ii;(simp only [n0,Nat.reduceAdd,nn];try rfl);(exact zl rfl);exact rfl;exact ii;(repeat (first|exact sb0|apply sb3));clear hp hq;(try clear w1);intro w1 hp hq)))|(with_reducible apply Qfa)|((with_reducible apply Qao);clear hp;have hp := hq;clear hq))
  all_goals
    go_wp2_with (first|((with_reducible apply Qab hp);exact zt rfl;exact ii;exact ii;(exact zl rfl);(simp only [n0,Nat.reduceAdd,nn];try rfl);simp only [zp,zq,z0,z1])|((with_reducible apply Qae hp);exact zt rfl;exact za rfl;exact rfl;(exact AggTy.size);exact rfl;exact ii;(simp only [n0,Nat.reduceAdd,nn];try rfl);(exact zl rfl);exact rfl;exact ii;clear hp;(try clear w1);intro w1 hp))
    exact bodyPost_ret (Qaa rfl ⟨_,rfl,Qac hp (Nat.le_of_ble_eq_true rfl)⟩) rfl ⟨rfl,hp.keep⟩
end Go.Proofs.YtdfdmeoalbpcdaaGreat

set_option linter.unusedSimpArgs false
set_option linter.unusedVariables false
set_option maxRecDepth 100000
namespace Go.Proofs.YtdfdmeoalbpcdaaGreat
open Go Go.RowKit
theorem Qdh {w : World} {k : Nat} {o : Obj} (h : w.heap[k]? = some o) : k < w.heap.size := by
  rcases Nat.lt_or_ge k w.heap.size with h' | h'
  · exact h'
  · rw [Array.getElem?_eq_none h'] at h;cases h
theorem Keep.some {w w' : World} (h : Keep [] w w') {k : Nat} {o : Obj} (hk : w.heap[k]? = Option.some o) : w'.heap[k]? = Option.some o :=
  (h.block k (Qdh hk) (by simp)).trans hk
theorem Qif (w : World) (o : Obj) : Keep [] w (w.alloc o) := ⟨rfl,rfl,rfl,by simp,fun k hk _ => Below.heap_alloc _ _ _ hk⟩
theorem keep_put {w0 w : World} {l : Nat} {o : Obj} (h : Keep [] w0 w) (hl : w0.heap.size ≤ l) : Keep [] w0 (w.putObj l o) :=
  ⟨h.os,h.tape,h.output,by rw [World.putObj_size];exact h.size,fun k hk hx => (World.putObj_heap_other (by omega)).trans (h.block k hk hx)⟩
/-- A function that hands elements over, one by one, each of which is as Px says: all, or as long as more are asked for. -/
def Yields {α : Type} (P : Program) (n : Nat) (g : FuncId) (ca : Array Value) (enc : α → Value) (Px : α → World → Prop) (S Sp : List α → Prop) (w0 : World) : Prop :=
  ∀ (l : Nat) (J Jx : List α → World → Prop) (W : World),Keep [] w0 W → (∀ s A B,J s A → Keep [] A B → J s B) → (∀ s A B,Jx s A → Keep [] A B → Jx s B) →
    (∀ pre x W1,Px x W1 → J pre W1 → YieldAt Fence.wide (n - 1) P l #[enc x] W1 fun e W' => (e = .returned (.bool true) ∧ J (pre ++ [x]) W' ∧ Keep [] W1 W') ∨ (e = .returned (.bool false) ∧ Jx (pre ++ [x]) W')) →
    J [] W → CallsIn Fence.wide n P g (#[.func (.yield l) #[] #[]] ++ ca) W fun e W' => (∃ v,e = .returned v) ∧ ((∃ xs,S xs ∧ J xs W') ∨ ∃ pre,Sp pre ∧ Jx pre W')
/-- How a round may be left. -/
def roundEnd {α : Type} (B : Nat) (I : List α → Prop) (Ix : List α → World → Prop) (xs : List α) (W : World) : Exit → Act → World → Prop
  | .normal,_,W' => Keep [] W W' ∧ I xs
  | .ret,_,W' => (∃ X : List Nat,(∀ g ∈ X,g < B) ∧ Keep X W W') ∧ Ix xs W'
  | _,_,_ => False
theorem round_slot1 (TM : Array Value) (p : Tmp) (v : Value) : ((#[p] : Array Tmp).zip #[v]).foldl (fun t (p,v) => t.setIfInBounds p v) TM = TM.setIfInBounds p v := by simp
theorem Qkv {α : Type} {P : Program} {n : Nat} {f : Operand} {p : Tmp} {asg body : Code} {Q : Exit → Act → World → Prop} {a : Act} {w : World} (h1 : 1 ≤ n) {g : FuncId} {ca : Array Value} (hf : a.eval f = .func (.func g) #[] ca)
    (henter : ∀ args w,(callFunc g args).run P w = .ok (.enter g args) w) {enc : α → Value} {Px : α → World → Prop} {S Sp : List α → Prop} (hseq : ∀ W,Keep [] w W → Yields P (n - 1) g ca enc Px S Sp W)
    (I : List α → Prop) (Ix : List α → World → Prop) (hIx : OwnFrom w.heap.size Ix) (h0 : I []) (q : Tmp)
    (hasg : ∀ (l : Nat) (x : α) (W : World) (K : Act → World → Prop),K { tmps := (a.tmps.setIfInBounds p (enc x)).setIfInBounds q (enc x),defers := [] } W → asg.wpIn (Fence.wide.inRound l) (n - 1 - 1) P (Exit.then K fun _ _ _ => False) { tmps := a.tmps.setIfInBounds p (enc x),defers := [] } W)
    (hbody : ∀ (l : Nat) (pre : List α) (x : α) (W : World),Keep [] w W → I pre → Px x W → body.wpIn (Fence.wide.inRound l) (n - 1 - 1) P (roundEnd w.heap.size I Ix (pre ++ [x]) W) { tmps := (a.tmps.setIfInBounds p (enc x)).setIfInBounds q (enc x),defers := [] } W)
    (hPx : ∀ x A l o o',Px x A → A.heap[l]? = some o → o.isCells = false → Px x (A.putObj l o'))
    (hdone : ∀ (D : Nat) (xs : List α) (W : World),w.heap.size ≤ D → S xs → I xs → Keep [] w W → W.heap[D]? = some (.deferred (some [])) → Q .normal { a with defers := { target := .collected D,args := #[] } :: a.defers } W)
    (hstop : ∀ (D : Nat) (pre : List α) (W : World),w.heap.size ≤ D → Sp pre → Ix pre W → W.heap[D]? = some (.deferred (some [])) → Code.ret.wpIn Fence.wide n P Q { a with defers := { target := .collected D,args := #[] } :: a.defers } W) :
    (Code.rangeFunc f #[p] asg body).wpIn Fence.wide n P Q a w := by
  refine wpIn_rangeFunc fun fn hfn => ?_
  -- the record,and the block beside it
  obtain ⟨R,hR⟩ : ∃ R : LoopState → Option Code → Loop,∀ s j,R s j = { state := s,pending := j,fn,tmps := a.tmps,params := #[p],assign := asg,body,defers := w.heap.size } := ⟨_,fun _ _ => rfl⟩
  have hen := run_enterLoop_outer (P := P) (w := w) fn a.tmps #[p] asg body
  rw [← hR .ready none] at hen
  generalize hl : w.heap.size + 1 = l at hen
  have k1 : Keep [] w ((w.alloc (.deferred (some []))).alloc (.loop (R .ready none))) := (Qif w _).trans (Qif _ _)
  have r1 : ((w.alloc (.deferred (some []))).alloc (.loop (R .ready none))).heap[l]? = some (.loop (R .ready none)) := by
    have := World.alloc_heap_new (w.alloc (.deferred (some []))) (.loop (R .ready none))
    rwa [World.size_alloc,hl] at this
  have d1 : ((w.alloc (.deferred (some []))).alloc (.loop (R .ready none))).heap[w.heap.size]? = some (.deferred (some [])) :=
    (Qif _ _).some (World.alloc_heap_new w _)
  generalize (w.alloc (.deferred (some []))).alloc (.loop (R .ready none)) = W1 at hen k1 r1 d1
  have hst : ∀ (s : LoopState) (j : Option Code),(R s j).state = s ∧ (R s j).pending = j ∧ (R s j).params = #[p] := fun s j => by rw [hR];exact ⟨rfl,rfl,rfl⟩
  have hup : ∀ (s t : LoopState) (j k : Option Code),{ R s j with state := t,pending := k } = R t k := fun s t j k => by rw [hR,hR]
  refine ⟨l,_,W1,{ target := .fn (.func g) ca,args := #[.func (.yield l) #[] #[]] },W1,g,#[.func (.yield l) #[] #[]] ++ ca,W1,hen,?_,fun f' _ => trivial,?_,fun _ => h1,?_⟩
  · simp only [resolve,hf]
    simp [go_sem]
  · simp [invoke,go_sem,henter]
  refine (hseq W1 k1 l (fun xs W => I xs ∧ Keep [] w W ∧ W.heap[l]? = some (.loop (R .ready none)) ∧ W.heap[w.heap.size]? = some (.deferred (some [])))
    (fun xs W => Ix xs W ∧ W.heap[l]? = some (.loop (R .done (some .ret))) ∧ W.heap[w.heap.size]? = some (.deferred (some []))) W1 (Keep.refl _ _)
    (fun s A B h k => ⟨h.1,h.2.1.trans k,k.some h.2.2.1,k.some h.2.2.2⟩)
    (fun s A B h k => ⟨hIx s A B none h.1 ⟨k.os,k.tape,k.output,k.size,fun i hi _ => k.block i hi (by simp)⟩ (fun r e => by cases e),k.some h.2.1,k.some h.2.2⟩)
    ?_ ⟨h0,k1,r1,d1⟩).mono ?_
  · -- a round
    rintro pre x W hx ⟨hi,hk,hr,hd⟩
    have hy := run_yield (P := P) (args := #[enc x]) hr (by rw [(hst _ _).2.2];rfl)
    have hq : (R .ready none).fn = fn ∧ (R .ready none).tmps = a.tmps ∧ (R .ready none).params = #[p] ∧ (R .ready none).assign = asg ∧ (R .ready none).body = body := by rw [hR];exact ⟨rfl,rfl,rfl,rfl,rfl⟩
    rw [hq.1,hq.2.1,hq.2.2.1,hq.2.2.2.1,hq.2.2.2.2,round_slot1] at hy
    refine ⟨_,_,_,_,hy,?_⟩
    refine roundIn_of_wpIn hfn ?_
    refine hasg l x W _ ⟨_,run_beginRound hr (hst _ _).1,?_⟩
    have e1 : ({ R .ready none with state := .busy } : Loop) = R .busy none := by rw [hR,hR]
    rw [e1]
    have hkb : Keep [] w (W.putObj l (.loop (R .busy none))) := keep_put hk (by omega)
    have hxb := hPx x W l _ (.loop (R .busy none)) hx hr rfl
    have hlt := Qdh hr
    have hrb : (W.putObj l (.loop (R .busy none))).heap[l]? = some (.loop (R .busy none)) := World.putObj_heap_same hlt
    have hdb : (W.putObj l (.loop (R .busy none))).heap[w.heap.size]? = some (.deferred (some [])) := (World.putObj_heap_other (by omega)).trans hd
    refine wpIn_mono (hbody l pre x _ hkb hi hxb) ?_
    intro e a3 W3 hp
    cases e with
    | normal =>
      obtain ⟨k3,hi3⟩ := hp
      have h3 := k3.some hrb
      refine ⟨_,_,run_endRound none h3,.inl ⟨rfl,?_⟩⟩
      have e2 : ({ R .busy none with state := if (none : Option Code).isNone then .ready else .done,pending := none } : Loop) = R .ready none := by rw [hR,hR];rfl
      rw [e2]
      have kk : Keep [] W (W3.putObj l (.loop (R .ready none))) := by
        refine ⟨k3.os,k3.tape,k3.output,?_,fun k hk' _ => ?_⟩
        · rw [World.putObj_size]
          have := k3.size
          rwa [World.putObj_size] at this
        · by_cases hkl : k = l
          · subst hkl
            rw [World.putObj_heap_same (Qdh h3)];exact hr.symm
          · rw [World.putObj_heap_other hkl,k3.block k (by rw [World.putObj_size];exact hk') (by simp),World.putObj_heap_other hkl]
      exact ⟨⟨hi3,hk.trans kk,kk.some hr,kk.some hd⟩,kk⟩
    | ret =>
      obtain ⟨⟨X,hX,k3⟩,hi3⟩ := hp
      have hlX : l ∉ X := fun h => by have := hX l h;omega
      have hdX : w.heap.size ∉ X := fun h => by have := hX _ h;omega
      have h3 := (k3.block l (Qdh hrb) hlX).trans hrb
      have h4 := (k3.block _ (Qdh hdb) hdX).trans hdb
      refine ⟨_,_,run_endRound (some .ret) h3,.inr ⟨rfl,?_⟩⟩
      have e2 : ({ R .busy none with state := if (some Code.ret).isNone then .ready else .done,pending := some .ret } : Loop) = R .done (some .ret) := by rw [hR,hR];rfl
      rw [e2]
      exact ⟨hIx.putObj _ hi3 (by omega) h3 rfl,World.putObj_heap_same (Qdh h3),(World.putObj_heap_other (by omega)).trans h4⟩
    | exit id => exact hp.elim
    | goto t => exact hp.elim
    | panic ch => exact hp.elim
    | outgrown => exact hp.elim
  · -- behind it
    rintro e W2 ⟨⟨v,rfl⟩,⟨xs,hS,hi,hk,hr,hd⟩|⟨pre,hS,hi,hr,hd⟩⟩
    · refine ⟨none,_,(run_endLoop hr (by rw [(hst _ _).1];simp)).trans (by rw [(hst _ _).2.1]),?_⟩
      exact hdone _ xs _ (Nat.le_refl _) hS hi (keep_put hk (by omega)) ((World.putObj_heap_other (by omega)).trans hd)
    · refine ⟨some .ret,_,(run_endLoop hr (by rw [(hst _ _).1];simp)).trans (by rw [(hst _ _).2.1]),?_⟩
      exact hstop _ pre _ (Nat.le_refl _) hS (hIx.putObj _ hi (by omega) hr rfl) ((World.putObj_heap_other (by omega)).trans hd)
end Go.Proofs.YtdfdmeoalbpcdaaGreat

set_option linter.unusedSimpArgs false
set_option linter.unusedVariables false
set_option maxRecDepth 100000
namespace Go.Proofs.YtdfdmeoalbpcdaaGreat
open Go Go.RowKit
attribute [local irreducible] wpList
section
variable {α : Type} (f : α → List Value) (m : Nat)
theorem Qeo (hf : ∀ x,(f x).length = m) (L : List α) : (L.flatMap f).length = L.length * m := by
  induction L with
  | nil => simp
  | cons x L ih => rw [List.flatMap_cons,List.length_append,hf,ih,List.length_cons,Nat.succ_mul];omega
/-- The cells, parted at one element. -/
theorem fl_split (hf : ∀ x,(f x).length = m) (L : List α) (k : Nat) (h : k < L.length) (j : List Value) : ∃ pre post,pre.length = k * m ∧ L.flatMap f ++ j = pre ++ (f L[k] ++ post) ∧ ∀ x,(L.set k x).flatMap f ++ j = pre ++ (f x ++ post) := by
  refine ⟨(L.take k).flatMap f,(L.drop (k + 1)).flatMap f ++ j,by rw [Qeo f m hf,List.length_take,Nat.min_eq_left (by omega)],?_,fun x => ?_⟩
  · have e : L = L.take k ++ (L[k] :: L.drop (k + 1)) := by rw [List.getElem_cons_drop];exact (List.take_append_drop k L).symm
    conv => lhs;rw [e]
    rw [List.flatMap_append,List.flatMap_cons]
    simp [List.append_assoc]
  · rw [List.set_eq_take_append_cons_drop,if_pos h,List.flatMap_append,List.flatMap_cons]
    simp [List.append_assoc]
end
/-- A slice that reads as a list. -/
def FSl {α : Type} (f : α → List Value) (m : Nat) (w : World) (v : Value) (L : List α) : Prop :=
  (v = .slice none 0 0 ∧ L = []) ∨ ∃ g off cap bc t z,v = .slice (some ⟨g,off,none⟩) L.length cap ∧ w.heap[g]? = some (.cells (bc : List Value).toArray t z) ∧ (bc.drop off).take (L.length * m) = L.flatMap f
theorem FSl.keep {α : Type} {f : α → List Value} {m : Nat} {w w' : World} {v : Value} {L : List α} (h : FSl f m w v L) (hk : Keep [] w w') : FSl f m w' v L := by
  rcases h with h|⟨g,off,cap,bc,t,z,h1,h2,h3⟩
  · exact .inl h
  · refine .inr ⟨g,off,cap,bc,t,z,h1,?_,h3⟩
    exact hk.some h2
theorem FSl.own {α : Type} {f : α → List Value} {m : Nat} {w : World} {g cap n : Nat} {t : TypeId} {L : List α} {junk : List Value} (hf : ∀ x,(f x).length = m) (hn : n = L.length) (h : w.heap[g]? = some (.cells (L.flatMap f ++ junk).toArray t (0,0))) : FSl f m w (.slice (some ⟨g,0,none⟩) n cap) L := by
  subst hn
  refine .inr ⟨g,0,cap,_,_,_,rfl,h,?_⟩
  rw [List.drop_zero,← Qeo f m hf,List.take_left]
theorem FSl.shape {α : Type} {f : α → List Value} {m : Nat} {w : World} {v : Value} {L : List α} (h : FSl f m w v L) : ∃ b c,v = .slice b L.length c := by
  rcases h with ⟨rfl,rfl⟩|⟨g,off,cap,_,_,_,rfl,_⟩
  · exact ⟨none,0,rfl⟩
  · exact ⟨_,cap,rfl⟩
theorem fl_at {α : Type} {f : α → List Value} {m : Nat} (hm : 0 < m) (hf : ∀ x,(f x).length = m) {bc : List Value} {off : Nat} {L : List α} (h : (bc.drop off).take (L.length * m) = L.flatMap f) {k : Nat} (hk : k < L.length) : (bc.drop (off + k * m)).take m = f L[k] ∧ off + k * m + m ≤ bc.length := by
  obtain ⟨pre,post,h1,h2,_⟩ := fl_split f m hf L k hk []
  rw [List.append_nil,← h] at h2
  have hl : L.length * m = k * m + m + (L.length - k - 1) * m := by
    rw [← Nat.succ_mul,← Nat.add_mul];congr 1;omega
  have hlen := congrArg List.length h2
  simp only [List.length_append,List.length_take,List.length_drop,hf,h1] at hlen
  have h3 : ((bc.drop off).take (L.length * m)).drop (k * m) = (f L[k] ++ post) := by rw [h2,← h1,List.drop_left]
  rw [List.drop_take,List.drop_drop] at h3
  have h4 := congrArg (List.take m) h3
  have e9 : ((f L[k]) ++ post).take m = f L[k] := by rw [List.take_append_of_le_length (Nat.le_of_eq (hf _).symm),List.take_of_length_le (Nat.le_of_eq (hf _))]
  rw [e9,List.take_take,Nat.min_eq_left (by omega)] at h4
  refine ⟨h4,?_⟩
  have h5 := congrArg List.length h4
  rw [hf,List.length_take,List.length_drop] at h5
  omega
/-- A slice that reads as a list that is not empty. -/
theorem FSl.some {α : Type} {f : α → List Value} {m : Nat} {w : World} {v : Value} {L : List α} (h : FSl f m w v L) (hn : L ≠ []) : ∃ g off cap bc t z,v = .slice (some ⟨g,off,none⟩) L.length cap ∧ w.heap[g]? = some (.cells (bc : List Value).toArray t z) ∧ (bc.drop off).take (L.length * m) = L.flatMap f :=
  h.resolve_left fun h => hn h.2
end Go.Proofs.YtdfdmeoalbpcdaaGreat
