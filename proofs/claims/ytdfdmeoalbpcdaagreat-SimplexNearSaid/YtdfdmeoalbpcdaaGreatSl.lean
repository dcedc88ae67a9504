/-
  More of the walk's laws: an operation whose guard says yes; a block of a wide number.
  Slices: literals, elements, append (laws of the walk).
-/
import Derived.Test.YtdfdmeoalbpcdaaGreatDraw
import Derived.WalkSmall
import Derived.Test.YtdfdmeoalbpcdaaGreatTypes
import Derived.Maps.AppendAt
namespace Go.Proofs.YtdfdmeoalbpcdaaGreat
open Go Go.RowKit
/-- An operation that is wanted is walked as one without a guard. -/
theorem Qbm {P : Program} {ops : Array Oper} {Q : Exit → Act → World → Prop} {rest : List Oper} {a : Act} {w : World} {dst : Option Tmp} {op : Op} {tp : TypeId} {pos : String} {af : Array Edge} {gd : Nat × Bool}
    (hw : Region.wanted ⟨dst,op,tp,pos,af,some gd⟩ (yielded ops a.tmps) = true) (h : wpList P ops Q (⟨dst,op,tp,pos,af,none⟩ :: rest) a w) : wpList P ops Q (⟨dst,op,tp,pos,af,some gd⟩ :: rest) a w := by
  unfold wpList at h ⊢
  rw [if_pos hw]
  rw [if_pos (by simp [Region.wanted])] at h
  exact h
theorem Qds {P : Program} {ops : Array Oper} {Q : Exit → Act → World → Prop} {rest : List Oper} {a : Act} {w : World} {dst : Option Tmp} {op : Op} {tp : TypeId} {pos : String} {af : Array Edge} {gd : Nat × Bool}
    (hw : Region.wanted ⟨dst,op,tp,pos,af,some gd⟩ (yielded ops a.tmps) = false) (h : wpList P ops Q rest (a.put dst undef) w) : wpList P ops Q (⟨dst,op,tp,pos,af,some gd⟩ :: rest) a w := by
  unfold wpList
  rw [if_neg (by rw [hw];simp)]
  exact h
/-- What a call comes to that panics with v. -/
def Dies (v : Value) (w : World) (e : Ending) (w' : World) : Prop := e = .panicked [{ v,recovered := false }] ∧ Keep [] w w'
theorem sd_callD {P : Program} {ops : Array Oper} {Q : Exit → Act → World → Prop} {N : List Nat} {X : List Nat} {w0 w : World} {H Hq : List Bk} {d : Option Tmp} {tp : TypeId} {pos : String} {af : Array Edge} {gd : Option (Nat × Bool)} {i : Nat} {a : Act} {rest : Sc}
    {c : Call} {f : FuncId} {args : Array Value} {v : Value} (hq : Hp X w0 Hq w) (hw : Region.wanted ⟨d,.call c,tp,pos,af,gd⟩ (yielded ops a.tmps) = true)
    (he : ∀ w,(execOp a.eval ⟨d,.call c,tp,pos,af,gd⟩).run P w = .ok (.enter f args) w) (hc : Calls P f args w (Dies v w))
    (hk : ∀ w1,Hp X w0 Hq w1 → Q (.panic [{ v,recovered := false }]) a w1) : wpL P ops Q (Hp X w0 H) N i rest ⟨d,.call c,tp,pos,af,gd⟩ a w := by
  refine Qek hw ?_
  unfold Oper.wp
  simp only [he,Oper.upon]
  exact hc.mono fun e w1 ⟨he,hw1⟩ => by
    subst he
    exact hk w1 (hq.call hw1)
/-- Behind a panic: slots J and the deferred calls are as they were, Kp holds. -/
def PanicAt (J : List (Nat × Value)) (D : List Deferred) (Kp : List PanicEntry → World → Prop) (Q : Exit → Act → World → Prop) : Exit → Act → World → Prop
  | .panic c,a,w => (∀ p ∈ J,a.tmps.getD p.1 undef = p.2) ∧ a.defers = D ∧ Kp c w
  | e,a,w => Q e a w
theorem getD_put {a : Act} {d : Option Tmp} {v : Value} {j : Nat} (h : (d != some j) = true) : (a.put d v).tmps.getD j undef = a.tmps.getD j undef := by
  cases d with
  | none => rfl
  | some d =>
    have : d ≠ j := fun h' => by subst h';simp at h
    simp only [Act.put,Array.getD_eq_getD_getElem?,Array.getElem?_setIfInBounds_ne this]
theorem defers_put {a : Act} {d : Option Tmp} {v : Value} : (a.put d v).defers = a.defers := by cases d <;> rfl
theorem Qkp {P : Program} {Q : Exit → Act → World → Prop} {id : Nat} {a : Act} {w w0 : World} {X : List Nat} {H Hq : List Bk} {l : List Oper} (J : List (Nat × Value)) (D : List Deferred) (Kp : List PanicEntry → World → Prop)
    (hK : ∀ c a w,(∀ p ∈ J,a.tmps.getD p.1 undef = p.2) → a.defers = D → Kp c w → Q (.panic c) a w) (hp : Hp X w0 H w) (hq : Hp X w0 Hq w) (N : List Nat) (sched : Sc) (hm : P.follows .mixedOrders = true)
    (hc : (Qdk .any l.toArray N sched l.length (Array.replicate l.length false) && Region.noSelect l.toArray) = true) (hJ : (l.all fun o => J.all fun p => o.dst != some p.1) = true)
    (h : ∀ w1,Hp X w0 H w1 → Hp X w0 Hq w1 → Qbd P l.toArray (PanicAt J D Kp Q) (Hp X w0 H) N sched a w1) : (Code.region id l.toArray true).wp P Q a w := by
  refine Code.wp_mono (Q := PanicAt J D Kp Q) (fun e a' w' h' => ?_) (wp_drawn (Hp X w0 H) N sched hm hc (fun i o ho c a v w h => ?_) (h _ hp.bump hq.bump))
  · cases e with
    | panic c => exact hK c a' w' h'.1 h'.2.1 h'.2.2
    | _ => exact h'
  · refine ⟨fun p hpj => ?_,?_,h.2.2⟩
    · rw [← h.1 p hpj,getD_put]
      rw [List.all_eq_true] at hJ
      have ho' : o ∈ l := by
        have : l[i]? = some o := by simpa using ho
        exact List.mem_of_getElem? this
      exact List.all_eq_true.1 (hJ o ho') p hpj
    · rw [← h.2.1,defers_put]
end Go.Proofs.YtdfdmeoalbpcdaaGreat

set_option linter.unusedSimpArgs false
set_option linter.unusedVariables false
namespace Go.Proofs.YtdfdmeoalbpcdaaGreat
open Go Go.RowKit
theorem fold_set (off : Nat) : ∀ (l : List Value) (k : Nat) (A B C : List Value),A.length = off + k → B.length = l.length →
    (l.zipIdx k).foldl (fun (cs : Array Value) (p : Value × Nat) => cs.setIfInBounds (off + p.2) p.1) (A ++ B ++ C).toArray = (A ++ l ++ C).toArray
  | [],k,A,B,C,hA,hB => by
    have : B = [] := List.length_eq_zero_iff.1 hB
    subst this
    rfl
  | c :: l,k,A,B,C,hA,hB => by
    cases B with
    | nil => simp at hB
    | cons b B =>
      rw [List.zipIdx_cons,List.foldl_cons]
      have e : (A ++ b :: B ++ C).toArray.setIfInBounds (off + k) c = ((A ++ [c]) ++ B ++ C).toArray := by
        rw [List.setIfInBounds_toArray,← hA]
        simp [List.set_append_right]
      dsimp only
      rw [e,fold_set off l (k + 1) (A ++ [c]) B C (by simp [hA];omega) (by simpa using hB)]
      simp
/-- The parts of a literal, in their order. -/
def Qbk (i : Nat) : List Value → List (Nat × Value)
  | [] => []
  | v :: vs => (i,v) :: Qbk (i + 1) vs
section
variable {a b c d e : List Value} {v : List (Array Value)} {p q r s t : Value} {u : List (Nat × Value)}
theorem zm1 (h : v = List.map (fun x : List Value => x.toArray) [a]) : v = List.map (fun x : List Value => x.toArray) [a] := h
theorem zk1 (h : u = Qbk 0 [p]) : u = Qbk 0 [p] := h
theorem zm2 (h : v = List.map (fun x : List Value => x.toArray) [a,b]) : v = List.map (fun x : List Value => x.toArray) [a,b] := h
theorem zk2 (h : u = Qbk 0 [p,q]) : u = Qbk 0 [p,q] := h
theorem zm3 (h : v = List.map (fun x : List Value => x.toArray) [a,b,c]) : v = List.map (fun x : List Value => x.toArray) [a,b,c] := h
theorem zk3 (h : u = Qbk 0 [p,q,r]) : u = Qbk 0 [p,q,r] := h
theorem zm4 (h : v = List.map (fun x : List Value => x.toArray) [a,b,c,d]) : v = List.map (fun x : List Value => x.toArray) [a,b,c,d] := h
theorem zk4 (h : u = Qbk 0 [p,q,r,s]) : u = Qbk 0 [p,q,r,s] := h
theorem zm5 (h : v = List.map (fun x : List Value => x.toArray) [a,b,c,d,e]) : v = List.map (fun x : List Value => x.toArray) [a,b,c,d,e] := h
theorem zk5 (h : u = Qbk 0 [p,q,r,s,t]) : u = Qbk 0 [p,q,r,s,t] := h
end
theorem fill_all (m : Nat) : ∀ (vs : List Value) (ls : List (List Value)) (i : Nat) (A B : List Value),vs.map (·.cells) = ls.map (·.toArray) → (∀ l ∈ ls,l.length = m) → A.length = i * m → B.length = vs.length * m →
    Instr.fill (fun i => some (i * m,m)) (A ++ B).toArray (Qbk i vs) = some (A ++ ls.flatten).toArray
  | [],ls,i,A,B,hv,hl,hA,hB => by
    have : B = [] := List.length_eq_zero_iff.1 (by simpa using hB)
    subst this
    have : ls = [] := by simpa using hv.symm
    subst this
    rfl
  | v :: vs,ls,i,A,B,hv,hl,hA,hB => by
    cases ls with
    | nil => simp at hv
    | cons l ls =>
      simp only [List.map_cons,List.cons.injEq] at hv
      have hlm : l.length = m := hl l (by simp)
      simp only [List.length_cons,Nat.succ_mul] at hB
      have hB1 : B.length = (B.take m).length + (B.drop m).length := by simp;omega
      have hd : (B.drop m).length = vs.length * m := by simp;omega
      have ht : (B.take m).length = m := by simp;omega
      unfold Qbk Instr.fill
      simp only [hv.1,List.size_toArray,hlm,List.length_append,hA]
      rw [if_neg (by simp;omega)]
      have e : (l.toArray.zipIdx.foldl (fun (cs : Array Value) (x : Value × Nat) => cs.setIfInBounds (i * m + x.2) x.1) (A ++ B).toArray) = (A ++ l ++ B.drop m).toArray := by
        have := fold_set (i * m) l 0 A (B.take m) (B.drop m) hA (by rw [ht,hlm])
        rw [List.append_assoc,List.take_append_drop] at this
        rw [← this]
        simp
      have e2 := fill_all m vs ls (i + 1) (A ++ l) (B.drop m) hv.2 (fun x hx => hl x (by simp [hx])) (by simp [hA,hlm,Nat.succ_mul]) hd
      rw [← e] at e2
      rw [List.flatten_cons,← List.append_assoc,← e2]
section
variable {P : Program} {w : World}
theorem Qff {t e : TypeId} {n m : Nat} {z : Value} {parts : Array (Nat × Value)} {vs : List Value} {ls : List (List Value)} [ht : Qfk P t e] (hs : ∀ w,(sizeOf e).run P w = .ok m w) [hz : ZeroTy P e z] (hsm : n * m ≤ 2 ^ 24) (h0 : n * m ≠ 0)
    (hp : parts.toList = Qbk 0 vs) (hn : vs.length = n) (hv : vs.map (·.cells) = ls.map (·.toArray)) (hl : ∀ l ∈ ls,l.length = m) :
    (Instr.buildSlice t n parts).run P w = .ok (.slice (some ⟨w.heap.size,0,none⟩) n n) (w.alloc (.cells ls.flatten.toArray e)) := by
  have h1 : ¬ (n * m > 2 ^ 24) := by omega
  have hc : Instr.fill (fun i => some (i * m,m)) ((Array.range (n * m)).map (z.cells[· % z.cells.size]!)) parts.toList = some ls.flatten.toArray := by
    have := fill_all m vs ls 0 [] ((Array.range (n * m)).map (z.cells[· % z.cells.size]!)).toList hv hl (by simp) (by simp [hn])
    rw [List.nil_append,Array.toArray_toList,List.nil_append] at this
    rw [hp]
    exact this
  simp only [Instr.buildSlice,Sem.run_bind,run_underlying ht.und,Result.andThen_ok,hs,h1,if_false,h0,hz.zero,Sem.run_pure,hc]
  simp [newRow]
end
section
variable {P : Program} {X : List Nat} {w0 w : World} {H H' : List Bk} {g : Nat} {t : TypeId} {cs cs' : List Value}
variable {ops : Array Oper} {Q : Exit → Act → World → Prop} {a : Act} {rest : List Oper} {d p : Tmp} {tp ty : TypeId} {pos : String} {af : Array Edge} {off n : Nat}
theorem Qav {e : TypeId} {n m : Nat} {z : Value} {parts : List (Nat × Operand)} {vs cs : List Value} {ls : List (List Value)} (hp : Hp X w0 H w) (ht : Qfk P t e) (hs : ∀ w,(sizeOf e).run P w = .ok m w) (hz : ZeroTy P e z) (hsm : n * m ≤ 2 ^ 24) (h0 : n * m ≠ 0)
    (hpv : (parts.map fun p => (p.1,a.eval p.2)) = Qbk 0 vs) (hn : vs.length = n) (hv : vs.map (·.cells) = ls.map (·.toArray)) (hl : ∀ l ∈ ls,l.length = m) (hcs : ls.flatten = cs)
    (hk : ∀ g w1,Hp X w0 (⟨g,e,cs⟩ :: H) w1 → wpList P ops Q rest (a.put (some d) (.slice (some ⟨g,0,none⟩) n n)) w1) : wpList P ops Q (⟨some d,.buildSlice t n parts.toArray,tp,pos,af,none⟩ :: rest) a w := by
  subst hcs
  refine wpList_plain rfl fun K hK => ?_
  unfold Oper.wp
  have hpv' : (parts.toArray.map fun (i,x) => (i,a.eval x)).toList = Qbk 0 vs := by rw [← hpv];simp
  simp only [execOp,Sem.run_bind,Qff hs hsm h0 hpv' hn hv hl,Result.andThen_ok]
  exact hK _ _ (hk _ _ (hp.alloc e ls.flatten))
/-- An element of a slice: its address. -/
theorem Qdi {e : TypeId} {m len cap : Nat} {k : Int} [ht : Qfk P t e] (hs : ∀ w,(sizeOf e).run P w = .ok m w) (h0 : 0 ≤ k) (h1 : k < len) :
    (Instr.indexAt t (.slice (some ⟨g,off,none⟩) len cap) (.int .i64 k)).run P w = .ok (.pointer (some ⟨g,off + k.toNat * m,none⟩)) w := by
  have hi : 0 ≤ k ∧ k < (len : Int) := ⟨h0,h1⟩
  simp [Instr.indexAt,asIntOf,run_underlying ht.und,hs,hi,Qon]
/-- A load out of a block that was there at the call's begin. -/
theorem far_cell {w0 w : World} {g : Nat} {t : TypeId} {z : Nat × Nat} {cs : List Value} (hk : Keep [] w0 w) (hb : w0.heap[g]? = some (.cells cs.toArray t z)) (i : Nat) : w.cell? ⟨g,i,none⟩ = cs[i]? := by
  have hlt : g < w0.heap.size := by
    rcases Nat.lt_or_ge g w0.heap.size with h' | h'
    · exact h'
    · rw [Array.getElem?_eq_none h'] at hb;cases hb
  rw [cell_of_row w g i cs.toArray t z ((hk.block g hlt (by simp)).trans hb)]
  simp
theorem Qes {w0 w : World} {g : Nat} {t : TypeId} {z : Nat × Nat} {cs : List Value} (hk : Keep [] w0 w) (hb : w0.heap[g]? = some (.cells cs.toArray t z)) {ty n : Nat} [ht : AggTy P ty n] {off : Nat} (hle : off + n ≤ cs.length) {vs : List Value} (hvs : (cs.drop off).take n = vs) :
    (loadVar ty ⟨g,off,none⟩).run P w = .ok (.agg vs.toArray) w := by
  subst hvs
  have hlen : ((cs.drop off).take n).length = n := by simp;omega
  have hl : (loadCells ⟨g,off,none⟩ ((cs.drop off).take n).length).run P w = .ok ((cs.drop off).take n).toArray w :=
    run_loadCells_list (P := P) w ⟨g,off,none⟩ _ (fun j v hv => by
      rw [Qon,far_cell hk hb]
      rw [List.getElem?_take] at hv
      split at hv
      · rw [List.getElem?_drop] at hv;exact hv
      · cases hv)
  rw [hlen] at hl
  simp [loadVar,Sem.run_bind,ht.agg,ht.size,hl]
theorem Qeb {w0 w : World} {g : Nat} {t : TypeId} {z : Nat × Nat} {cs : List Value} (hk : Keep [] w0 w) (hb : w0.heap[g]? = some (.cells cs.toArray t z)) {ty : Nat} [ht : OneTy P ty] {off : Nat} {v : Value} (hv : cs[off]? = some v) :
    (loadVar ty ⟨g,off,none⟩).run P w = .ok v w := by
  have hc := far_cell hk hb off
  rw [hv] at hc
  simp [loadVar,Sem.run_bind,ht.agg,hc]
theorem Qbr {z : Nat × Nat} (hp : Hp [] w0 H w) (hx : a.eval (.tmp p) = .pointer (some ⟨g,off,none⟩)) (hb : w0.heap[g]? = some (.cells cs.toArray t z)) (ht : AggTy P ty n) {vs : List Value} (hvs : (cs.drop off).take n = vs) (hle : off + n ≤ cs.length)
    (hk : wpList P ops Q rest (a.put (some d) (.agg vs.toArray)) w) : wpList P ops Q (⟨some d,.load ty (.tmp p),tp,pos,af,none⟩ :: rest) a w := by
  refine wpList_plain rfl fun K hK => ?_
  unfold Oper.wp
  simp only [execOp,hx,Instr.loadAt,Instr.sureAddr,Sem.run_bind,Sem.run_pure,Result.andThen_ok,Qes hp.keep hb hle hvs]
  exact hK _ _ hk
theorem Qbf {z : Nat × Nat} (hp : Hp [] w0 H w) (hx : a.eval (.tmp p) = .pointer (some ⟨g,off,none⟩)) (hb : w0.heap[g]? = some (.cells cs.toArray t z)) (ht : OneTy P ty) {v : Value} (hv : cs[off]? = some v)
    (hk : wpList P ops Q rest (a.put (some d) v) w) : wpList P ops Q (⟨some d,.load ty (.tmp p),tp,pos,af,none⟩ :: rest) a w := by
  refine wpList_plain rfl fun K hK => ?_
  unfold Oper.wp
  simp only [execOp,hx,Instr.loadAt,Instr.sureAddr,Sem.run_bind,Sem.run_pure,Result.andThen_ok,Qeb hp.keep hb hv]
  exact hK _ _ hk
theorem Qar {x y : Operand} {e : TypeId} {m len cap : Nat} {k : Int} (hx : a.eval x = .slice (some ⟨g,off,none⟩) len cap) (hy : a.eval y = .int .i64 k) (ht : Qfk P t e) (hs : ∀ w,(sizeOf e).run P w = .ok m w) (h0 : 0 ≤ k) (h1 : k < len)
    {off' : Nat} (ho : off + k.toNat * m = off') (hk : wpList P ops Q rest (a.put (some d) (.pointer (some ⟨g,off',none⟩))) w) : wpList P ops Q (⟨some d,.indexAddr t x y,tp,pos,af,none⟩ :: rest) a w := by
  subst ho
  refine wpList_plain rfl fun K hK => ?_
  unfold Oper.wp
  simp only [execOp,hx,hy,Sem.run_bind,Sem.run_pure,Result.andThen_ok,Qdi hs h0 h1]
  exact hK _ _ hk
theorem Qbe {z : Nat × Nat} {N : List Nat} {rest : Sc} {gd : Option (Nat × Bool)} (hp : Hp [] w0 H w) (hw : Region.wanted ⟨some d,.load ty (.tmp p),tp,pos,af,gd⟩ (yielded ops a.tmps) = true)
    (hx : a.eval (.tmp p) = .pointer (some ⟨g,off,none⟩)) (hb : w0.heap[g]? = some (.cells cs.toArray t z)) (ht : AggTy P ty n) {vs : List Value} (hvs : (cs.drop off).take n = vs) (hle : off + n ≤ cs.length)
    (hk : Qbd P ops Q (Hp [] w0 H) N rest (a.put (some d) (.agg vs.toArray)) w) : wpQ P ops Q (Hp [] w0 H) N rest ⟨some d,.load ty (.tmp p),tp,pos,af,gd⟩ a w := by
  refine ⟨.agg vs.toArray,hp,.inl ⟨hw,fun w hp => ?_⟩,hk⟩
  simp only [execOp,hx,Instr.loadAt,Instr.sureAddr,Sem.run_bind,Sem.run_pure,Result.andThen_ok,Qes hp.keep hb hle hvs]
theorem Qbl {z : Nat × Nat} {N : List Nat} {rest : Sc} {gd : Option (Nat × Bool)} (hp : Hp [] w0 H w) (hw : Region.wanted ⟨some d,.load ty (.tmp p),tp,pos,af,gd⟩ (yielded ops a.tmps) = true)
    (hx : a.eval (.tmp p) = .pointer (some ⟨g,off,none⟩)) (hb : w0.heap[g]? = some (.cells cs.toArray t z)) (ht : OneTy P ty) {v : Value} (hv : cs[off]? = some v)
    (hk : Qbd P ops Q (Hp [] w0 H) N rest (a.put (some d) v) w) : wpQ P ops Q (Hp [] w0 H) N rest ⟨some d,.load ty (.tmp p),tp,pos,af,gd⟩ a w := by
  refine ⟨v,hp,.inl ⟨hw,fun w hp => ?_⟩,hk⟩
  simp only [execOp,hx,Instr.loadAt,Instr.sureAddr,Sem.run_bind,Sem.run_pure,Result.andThen_ok,Qeb hp.keep hb hv]
theorem Qas {X : List Nat} {N : List Nat} {rest : Sc} {gd : Option (Nat × Bool)} {x y : Operand} {e : TypeId} {m len cap : Nat} {k : Int} (hp : Hp X w0 H w) (hw : Region.wanted ⟨some d,.indexAddr t x y,tp,pos,af,gd⟩ (yielded ops a.tmps) = true) (hx : a.eval x = .slice (some ⟨g,off,none⟩) len cap) (hy : a.eval y = .int .i64 k) (ht : Qfk P t e) (hs : ∀ w,(sizeOf e).run P w = .ok m w) (h0 : 0 ≤ k) (h1 : k < len)
    {off' : Nat} (ho : off + k.toNat * m = off') (hk : Qbd P ops Q (Hp X w0 H) N rest (a.put (some d) (.pointer (some ⟨g,off',none⟩))) w) : wpQ P ops Q (Hp X w0 H) N rest ⟨some d,.indexAddr t x y,tp,pos,af,gd⟩ a w := by
  subst ho
  refine Qaj hp hw (fun w => ?_) hk
  simp only [execOp,hx,hy,Sem.run_bind,Sem.run_pure,Result.andThen_ok,Qdi hs h0 h1]
/-! ### append -/
theorem Hp.grew {H1 : List Bk} {w' : World} {gv g' : Nat} {e0 e : TypeId} {c0 cs' : List Value} (hp : Hp X w0 H w) (hperm : H.Perm (⟨gv,e0,c0⟩ :: H1)) (hg : w.grownBy w' (some gv)) (hg' : g' = gv ∨ g' = w.heap.size)
    (hb : w'.heap[g']? = some (.cells cs'.toArray e (0,0))) : Hp X w0 (⟨g',e,cs'⟩ :: H1) w' := by
  have hp := hp.perm hperm
  have hgv := hp.own ⟨gv,e0,c0⟩ (by simp)
  obtain ⟨h1,h2,h3,h4,h5⟩ := hg
  have hnd := hp.nd
  simp only [List.map_cons,List.nodup_cons] at hnd
  refine ⟨⟨h1.trans hp.keep.os,h2.trans hp.keep.tape,h3.trans hp.keep.output,Nat.le_trans hp.keep.size h4,fun k hk hx => ?_⟩,?_,?_⟩
  · rw [h5 k (Nat.lt_of_lt_of_le hk hp.keep.size) (fun e => ?_)]
    · exact hp.keep.block k hk hx
    · cases e
      rcases hgv.1 with h|h
      · exact hx h
      · exact absurd hk (by simp only at h;omega)
  · intro b hb'
    rcases List.mem_cons.1 hb' with rfl|hb'
    · refine ⟨?_,hb⟩
      rcases hg' with rfl|rfl
      · exact hgv.1
      · exact .inr hp.keep.size
    · refine ⟨(hp.own b (by simp [hb'])).1,?_⟩
      rw [h5 b.g (hp.lt (by simp [hb'])) (fun e => ?_)]
      · exact (hp.own b (by simp [hb'])).2
      · cases e
        exact hnd.1 (List.mem_map.2 ⟨b,hb',rfl⟩)
  · simp only [List.map_cons,List.nodup_cons]
    refine ⟨fun hm => ?_,hnd.2⟩
    rcases hg' with rfl|rfl
    · exact hnd.1 hm
    · obtain ⟨b,hb',he⟩ := List.mem_map.1 hm
      have := hp.lt (b := b) (by simp [hb'])
      omega
theorem Hp.grew0 {w' : World} {g' : Nat} {e : TypeId} {cs' : List Value} (hp : Hp X w0 H w) (hg : w.grownBy w' none) (hg' : g' = w.heap.size) (hb : w'.heap[g']? = some (.cells cs'.toArray e (0,0))) : Hp X w0 (⟨g',e,cs'⟩ :: H) w' := by
  obtain ⟨h1,h2,h3,h4,h5⟩ := hg
  refine ⟨⟨h1.trans hp.keep.os,h2.trans hp.keep.tape,h3.trans hp.keep.output,Nat.le_trans hp.keep.size h4,fun k hk hx => ?_⟩,?_,?_⟩
  · rw [h5 k (Nat.lt_of_lt_of_le hk hp.keep.size) (fun e => by cases e)]
    exact hp.keep.block k hk hx
  · intro b hb'
    rcases List.mem_cons.1 hb' with rfl|hb'
    · exact ⟨.inr (by rw [hg'];exact hp.keep.size),hb⟩
    · refine ⟨(hp.own b hb').1,?_⟩
      rw [h5 b.g (hp.lt hb') (fun e => by cases e)]
      exact (hp.own b hb').2
  · simp only [List.map_cons,List.nodup_cons]
    refine ⟨fun hm => ?_,hp.nd⟩
    obtain ⟨b,hb',he⟩ := List.mem_map.1 hm
    have := hp.lt hb'
    omega
theorem Qhs {gx : Nat} {e : TypeId} {news : List Value} (hp : Hp X w0 H w) [h : Has H gx e news] : ∀ j u,news[j]? = some u → w.cell? ((⟨gx,0,none⟩ : Addr).add j) = some u := by
  intro j u hj
  rw [Qon,Nat.zero_add,hp.cell]
  exact hj
theorem Qbq {s x : Operand} {e : TypeId} {z : Value} {size bytes m c gx : Nat} {ex : TypeId} {news : List Value} (hp : Hp X w0 H w) (ht : Qfk P t e) (he : Qgf P e z size bytes) (hzs : z.cells.size = size) (hsz : 0 < size)
    (hs : a.eval s = .slice none 0 0) (hx : a.eval x = .slice (some ⟨gx,0,none⟩) m c) (hh : Has H gx ex news) (hl : news.length = m * size) (h1 : news.all (·.oneCell') = true) (hm : m ≠ 0) (hm1 : m ≤ maxLen) (hm2 : m * bytes ≤ 140737488355328)
    (hk : ∀ g cap junk w1,(news ++ junk).length = cap * size → m ≤ cap → cap ≤ maxLen → Hp X w0 (⟨g,e,news ++ junk⟩ :: H) w1 → wpList P ops Q rest (a.put (some d) (.slice (some ⟨g,0,none⟩) m cap)) w1) :
    wpList P ops Q (⟨some d,.call { callee := .builtin .append,args := #[s,x],argTypes := #[t,t] },tp,pos,af,none⟩ :: rest) a w := by
  obtain ⟨i,hi,hi'⟩ : ∃ i,P.info? e = some i ∧ (i.zero,i.size,i.bytes) = (some z,size,bytes) := by
    have := he.info
    cases h : P.info? e with
    | none => rw [h] at this;cases this
    | some i => rw [h] at this;exact ⟨i,rfl,by simpa using this⟩
  simp only [Prod.mk.injEq] at hi'
  obtain ⟨hiz,his,hib⟩ := hi'
  refine wpList_append_own_at w rfl s x t rfl 0 e i z size bytes ht.und hi hiz his hib hzs hsz (.slice none 0 0) 0 [] hs ⟨by simp,.inl ⟨rfl,rfl⟩⟩ ⟨gx,0,none⟩ m c news hx hl (Qhs hp) (fun u hu => List.all_eq_true.1 h1 u hu) (by omega) (by rw [Nat.zero_add];exact hm2) (Nat.zero_le _) ?_
  intro v' w' hr hg hnil hob
  obtain ⟨hlen,hr⟩ := hr
  rcases hr with ⟨rfl,h0⟩|⟨g,cap,cur,rfl,_,hb,hn,hc,hcs,htk⟩
  · exact absurd (hnil.1 rfl).2 hm
  · have hgs : g = w.heap.size := by
      rcases hob with h|h
      · cases h
      · simpa [Value.ownBlock] using h
    rw [Nat.zero_add] at hn htk hlen
    rw [List.nil_append] at htk hlen
    have e1 : cur.toList = news ++ cur.toList.drop (m * size) := by rw [← htk,List.take_append_drop]
    rw [Nat.zero_add]
    refine hk g cap (cur.toList.drop (m * size)) w' ?_ hn hc ?_
    · rw [← e1];simpa using hcs
    · rw [← e1]
      exact hp.grew0 hg hgs (by simpa using hb)
theorem Qdn {s x : Operand} {e : TypeId} {z : Value} {size bytes n m c gv cap gx : Nat} {ex : TypeId} {xs junk news : List Value} {H1 : List Bk} (hp : Hp X w0 H w) (ht : Qfk P t e) (he : Qgf P e z size bytes) (hzs : z.cells.size = size) (hsz : 0 < size)
    (hs : a.eval s = .slice (some ⟨gv,0,none⟩) n cap) (hperm : H.Perm (⟨gv,e,xs ++ junk⟩ :: H1)) (hxl : xs.length = n * size) (hjl : (xs ++ junk).length = cap * size) (hnc : n ≤ cap) (hcm : cap ≤ maxLen)
    (hx : a.eval x = .slice (some ⟨gx,0,none⟩) m c) (hh : Has H gx ex news) (hl : news.length = m * size) (h1 : news.all (·.oneCell') = true) (hm : m ≠ 0) (hm1 : n + m ≤ maxLen) (hm2 : (n + m) * bytes ≤ 140737488355328)
    (hk : ∀ g cap' junk' w1,(xs ++ news ++ junk').length = cap' * size → n + m ≤ cap' → cap' ≤ maxLen → Hp X w0 (⟨g,e,xs ++ news ++ junk'⟩ :: H1) w1 → wpList P ops Q rest (a.put (some d) (.slice (some ⟨g,0,none⟩) (n + m) cap')) w1) :
    wpList P ops Q (⟨some d,.call { callee := .builtin .append,args := #[s,x],argTypes := #[t,t] },tp,pos,af,none⟩ :: rest) a w := by
  obtain ⟨i,hi,hi'⟩ : ∃ i,P.info? e = some i ∧ (i.zero,i.size,i.bytes) = (some z,size,bytes) := by
    have := he.info
    cases h : P.info? e with
    | none => rw [h] at this;cases this
    | some i => rw [h] at this;exact ⟨i,rfl,by simpa using this⟩
  simp only [Prod.mk.injEq] at hi'
  obtain ⟨hiz,his,hib⟩ := hi'
  have hbv := ((hp.perm hperm).own ⟨gv,e,xs ++ junk⟩ (by simp)).2
  refine wpList_append_own_at w rfl s x t rfl 0 e i z size bytes ht.und hi hiz his hib hzs hsz (.slice (some ⟨gv,0,none⟩) n cap) n xs hs ⟨hxl,.inr ⟨gv,cap,_,rfl,Nat.zero_le _,hbv,hnc,hcm,by simpa using hjl,by rw [List.toList_toArray,← hxl,List.take_left'];rfl⟩⟩ ⟨gx,0,none⟩ m c news hx hl (Qhs hp) (fun u hu => List.all_eq_true.1 h1 u hu) hm1 hm2 (Nat.zero_le _) ?_
  intro v' w' hr hg hnil hob
  obtain ⟨hlen,hr⟩ := hr
  rcases hr with ⟨rfl,h0⟩|⟨g,cap',cur,rfl,_,hb,hn,hc,hcs,htk⟩
  · exact absurd (hnil.1 rfl).2 hm
  · have hgs : g = gv ∨ g = w.heap.size := by
      rcases hob with h|h
      · left;simpa [Value.ownBlock] using h
      · right;simpa [Value.ownBlock] using h
    have e1 : cur.toList = xs ++ news ++ cur.toList.drop ((n + m) * size) := by rw [← htk,List.take_append_drop]
    refine hk g cap' (cur.toList.drop ((n + m) * size)) w' ?_ hn hc ?_
    · rw [← e1];simpa using hcs
    · rw [← e1]
      exact hp.grew hperm hg hgs (by simpa using hb)
end
end Go.Proofs.YtdfdmeoalbpcdaaGreat
