/-
  Memory of a call's own as a list of whole blocks: laws for the walk (load, store, box, alloc, call, results), over any program.
-/
import Derived.WalkKit
import Derived.Laws.Rows
import Derived.Deep.RegionHeld3
namespace Go.Proofs.YtdfdmeoalbpcdaaGreat
open Go Go.RowKit
abbrev ii := @inferInstance
section
variable {α : Type _} {a b c d e f : α} {l m : List α}
theorem pm0 : l.Perm l := List.Perm.refl _
theorem pm1 : ([a] ++ f :: l).Perm (f :: ([a] ++ l)) := List.perm_middle
theorem pm2 : ([a,b] ++ f :: l).Perm (f :: ([a,b] ++ l)) := List.perm_middle
theorem pm3 : ([a,b,c] ++ f :: l).Perm (f :: ([a,b,c] ++ l)) := List.perm_middle
theorem pm4 : ([a,b,c,d] ++ f :: l).Perm (f :: ([a,b,c,d] ++ l)) := List.perm_middle
theorem pm5 : ([a,b,c,d,e] ++ f :: l).Perm (f :: ([a,b,c,d,e] ++ l)) := List.perm_middle
theorem sb0 : l.Sublist l := List.Sublist.refl _
theorem sb1 : ([] : List α).Sublist l := List.nil_sublist _
theorem sb2 (h : l.Sublist m) : (a :: l).Sublist (a :: m) := h.cons_cons a
theorem sb3 (h : l.Sublist m) : l.Sublist (a :: m) := h.cons a
end
/-- A block: its number, its element type, its cells. -/
structure Bk where
  g : Nat
  t : TypeId
  cs : List Value
/-- Behind a step: whatever block there was, and is not among X, is as it was. -/
structure Keep (X : List Nat) (w w' : World) : Prop where
  os : w'.os = w.os
  tape : w'.tape = w.tape
  output : w'.output = w.output
  size : w.heap.size ≤ w'.heap.size
  block : ∀ k,k < w.heap.size → k ∉ X → w'.heap[k]? = w.heap[k]?
theorem Keep.refl (X : List Nat) (w : World) : Keep X w w := ⟨rfl,rfl,rfl,Nat.le_refl _,fun _ _ _ => rfl⟩
theorem Keep.trans {X : List Nat} {a b c : World} (h : Keep X a b) (k : Keep X b c) : Keep X a c :=
  ⟨k.os.trans h.os,k.tape.trans h.tape,k.output.trans h.output,Nat.le_trans h.size k.size,fun i hi hx => (k.block i (Nat.lt_of_lt_of_le hi h.size) hx).trans (h.block i hi hx)⟩
theorem Keep.below {w w' : World} (h : Keep [] w w') : Below w.heap.size w w' := ⟨h.os,h.tape,h.output,h.size,fun k hk => h.block k hk (by simp)⟩
/-- Memory behind some steps of a call: w0 the world at its begin, H the blocks that it made (or that are in X and that it may write). -/
structure Hp (X : List Nat) (w0 : World) (H : List Bk) (w : World) : Prop where
  keep : Keep X w0 w
  own : ∀ b ∈ H,(b.g ∈ X ∨ w0.heap.size ≤ b.g) ∧ w.heap[b.g]? = some (.cells b.cs.toArray b.t (0,0))
  nd : (H.map (·.g)).Nodup
theorem Hp.start (X : List Nat) (w : World) : Hp X w [] w := ⟨Keep.refl _ _,by simp,by simp⟩
theorem Hp.lt {X : List Nat} {w0 w : World} {H : List Bk} (hp : Hp X w0 H w) {b : Bk} (hb : b ∈ H) : b.g < w.heap.size := by
  have h := (hp.own b hb).2
  rcases Nat.lt_or_ge b.g w.heap.size with hlt|hge
  · exact hlt
  · rw [Array.getElem?_eq_none hge] at h;cases h
theorem Hp.bump {X : List Nat} {w0 w : World} {H : List Bk} {n : Nat} (hp : Hp X w0 H w) : Hp X w0 H { w with drawn := n } := ⟨⟨hp.keep.os,hp.keep.tape,hp.keep.output,hp.keep.size,hp.keep.block⟩,hp.own,hp.nd⟩
theorem Hp.sub {X : List Nat} {w0 w : World} {H H' : List Bk} (hp : Hp X w0 H w) (hs : List.Sublist H' H) : Hp X w0 H' w :=
  ⟨hp.keep,fun b hb => hp.own b (hs.subset hb),hp.nd.sublist (hs.map _)⟩
theorem Hp.alloc {X : List Nat} {w0 w : World} {H : List Bk} (hp : Hp X w0 H w) (t : TypeId) (cs : List Value) :
    Hp X w0 (⟨w.heap.size,t,cs⟩ :: H) (w.alloc (.cells cs.toArray t)) := by
  refine ⟨hp.keep.trans ⟨rfl,rfl,rfl,by simp,fun k hk _ => Below.heap_alloc _ _ _ hk⟩,?_,?_⟩
  · intro b hb
    rcases List.mem_cons.1 hb with rfl|hb
    · exact ⟨.inr hp.keep.size,heap_alloc_new w _⟩
    · exact ⟨(hp.own b hb).1,(Below.heap_alloc _ _ _ (hp.lt hb)).trans (hp.own b hb).2⟩
  · simp only [List.map_cons,List.nodup_cons]
    refine ⟨fun hm => ?_,hp.nd⟩
    obtain ⟨b,hb,he⟩ := List.mem_map.1 hm
    have := hp.lt hb
    omega
/-- Behind a callee that leaves all there was as it was. -/
theorem Hp.call {X : List Nat} {w0 w w1 : World} {H : List Bk} (hp : Hp X w0 H w) (hk : Keep [] w w1) : Hp X w0 H w1 := by
  refine ⟨hp.keep.trans ⟨hk.os,hk.tape,hk.output,hk.size,fun k h _ => hk.block k h (by simp)⟩,fun b hb => ⟨(hp.own b hb).1,?_⟩,hp.nd⟩
  exact (hk.block _ (hp.lt hb) (by simp)).trans (hp.own b hb).2
/-- Behind a callee that made a block and hands it back. -/
theorem Hp.add {X : List Nat} {w0 w w1 : World} {H : List Bk} (hp : Hp X w0 H w) (hk : Keep [] w w1) {g : Nat} {t : TypeId} {cs : List Value} (hg : w.heap.size ≤ g)
    (hb : w1.heap[g]? = some (.cells cs.toArray t (0,0))) : Hp X w0 (⟨g,t,cs⟩ :: H) w1 := by
  have h1 := hp.call hk
  refine ⟨h1.keep,?_,?_⟩
  · intro b hb'
    rcases List.mem_cons.1 hb' with rfl|hb'
    · exact ⟨.inr (Nat.le_trans hp.keep.size hg),hb⟩
    · exact h1.own b hb'
  · simp only [List.map_cons,List.nodup_cons]
    refine ⟨fun hm => ?_,hp.nd⟩
    obtain ⟨b,hb,he⟩ := List.mem_map.1 hm
    have := hp.lt hb
    omega
/-- Block g of H is ⟨g, t, cs⟩; H' is H with cs' in its place. -/
class Upd (H : List Bk) (g : Nat) (t : outParam TypeId) (cs : outParam (List Value)) (cs' : List Value) (H' : outParam (List Bk)) : Prop where
  mem : ⟨g,t,cs⟩ ∈ H
  eq : ∀ b ∈ H',(b = ⟨g,t,cs'⟩) ∨ (b ∈ H ∧ b.g ≠ g ∨ ¬ (H.map (·.g)).Nodup)
  gs : H'.map (·.g) = H.map (·.g)
instance Upd.tail {b : Bk} {H H' : List Bk} {g : Nat} {t : TypeId} {cs cs' : List Value} [h : Upd H g t cs cs' H'] : Upd (b :: H) g t cs cs' (b :: H') where
  mem := List.mem_cons_of_mem _ h.mem
  eq := by
    intro x hx
    rcases List.mem_cons.1 hx with rfl|hx
    · right
      by_cases hn : ((x :: H).map (·.g)).Nodup
      · left
        refine ⟨List.mem_cons_self ..,fun he => ?_⟩
        simp only [List.map_cons,List.nodup_cons] at hn
        exact hn.1 (List.mem_map.2 ⟨_,h.mem,he.symm⟩)
      · exact .inr hn
    · rcases h.eq x hx with he|he|he
      · exact .inl he
      · exact .inr (.inl ⟨List.mem_cons_of_mem _ he.1,he.2⟩)
      · exact .inr (.inr (fun hn => he (by simp only [List.map_cons,List.nodup_cons] at hn;exact hn.2)))
  gs := by simp [h.gs]
instance Upd.head {H : List Bk} {g : Nat} {t : TypeId} {cs cs' : List Value} : Upd (⟨g,t,cs⟩ :: H) g t cs cs' (⟨g,t,cs'⟩ :: H) where
  mem := List.mem_cons_self ..
  eq := by
    intro x hx
    rcases List.mem_cons.1 hx with rfl|hx
    · exact .inl rfl
    · right
      by_cases hn : ((⟨g,t,cs⟩ :: H : List Bk).map (·.g)).Nodup
      · left
        refine ⟨List.mem_cons_of_mem _ hx,fun he => ?_⟩
        simp only [List.map_cons,List.nodup_cons] at hn
        exact hn.1 (List.mem_map.2 ⟨_,hx,he⟩)
      · exact .inr hn
  gs := by simp
/-- Block g of H is ⟨g, t, cs⟩. -/
class Has (H : List Bk) (g : Nat) (t : outParam TypeId) (cs : outParam (List Value)) : Prop where
  mem : ⟨g,t,cs⟩ ∈ H
instance Has.tail {b : Bk} {H : List Bk} {g : Nat} {t : TypeId} {cs : List Value} [h : Has H g t cs] : Has (b :: H) g t cs := ⟨List.mem_cons_of_mem _ h.mem⟩
instance Has.head {H : List Bk} {g : Nat} {t : TypeId} {cs : List Value} : Has (⟨g,t,cs⟩ :: H) g t cs := ⟨List.mem_cons_self ..⟩
section
variable {X : List Nat} {w0 w : World} {H H' : List Bk} {g : Nat} {t : TypeId} {cs cs' : List Value}
theorem Hp.blk (hp : Hp X w0 H w) [h : Has H g t cs] : w.heap[g]? = some (.cells cs.toArray t (0,0)) := (hp.own _ h.mem).2
theorem Hp.cell (hp : Hp X w0 H w) [h : Has H g t cs] (i : Nat) : w.cell? ⟨g,i,none⟩ = cs[i]? := by
  rw [cell_of_row w g i cs.toArray t (0,0) hp.blk];simp
theorem Hp.fresh (hp : Hp [] w0 H w) [h : Has H g t cs] : w0.heap.size ≤ g := (hp.own _ h.mem).1.resolve_left (by simp)
/-- One block is written anew. -/
theorem Hp.put (hp : Hp X w0 H w) [h : Upd H g t cs cs' H'] {w1 : World} (hos : w1.os = w.os) (htp : w1.tape = w.tape) (hout : w1.output = w.output) (hsz : w1.heap.size = w.heap.size)
    (hg : w1.heap[g]? = some (.cells cs'.toArray t (0,0))) (ho : ∀ k,k ≠ g → w1.heap[k]? = w.heap[k]?) : Hp X w0 H' w1 := by
  refine ⟨⟨hos.trans hp.keep.os,htp.trans hp.keep.tape,hout.trans hp.keep.output,by rw [hsz];exact hp.keep.size,?_⟩,?_,?_⟩
  · intro k hk hX
    rw [ho k (fun e => ?_)]
    · exact hp.keep.block k hk hX
    · rcases (hp.own _ h.mem).1 with hm|hm
      · exact hX (e ▸ hm)
      · simp only at hm;omega
  · intro b hb
    rcases h.eq b hb with rfl|⟨hm,hne⟩|hn
    · exact ⟨(hp.own _ h.mem).1,hg⟩
    · exact ⟨(hp.own _ hm).1,(ho _ hne).trans (hp.own _ hm).2⟩
    · exact absurd hp.nd hn
  · rw [h.gs];exact hp.nd
end
/-- Behind a callee that writes block g alone of what there was. -/
theorem Hp.callX {X : List Nat} {w0 w w1 : World} {H H' : List Bk} {g : Nat} {t : TypeId} {cs cs' : List Value} (hp : Hp X w0 H w) (hk : Keep [g] w w1) (hb : w1.heap[g]? = some (.cells cs'.toArray t (0,0))) (h : Upd H g t cs cs' H') : Hp X w0 H' w1 := by
  refine ⟨⟨hk.os.trans hp.keep.os,hk.tape.trans hp.keep.tape,hk.output.trans hp.keep.output,Nat.le_trans hp.keep.size hk.size,?_⟩,?_,?_⟩
  · intro k hk' hX
    rw [hk.block k (Nat.lt_of_lt_of_le hk' hp.keep.size) (fun e => ?_)]
    · exact hp.keep.block k hk' hX
    · have e : k = g := by simpa using e
      rcases (hp.own _ h.mem).1 with hm|hm
      · exact hX (e ▸ hm)
      · simp only at hm;omega
  · intro b hb'
    rcases h.eq b hb' with rfl|⟨hm,hne⟩|hn
    · exact ⟨(hp.own _ h.mem).1,hb⟩
    · exact ⟨(hp.own _ hm).1,(hk.block _ (hp.lt hm) (by simpa using hne)).trans (hp.own _ hm).2⟩
    · exact absurd hp.nd hn
  · rw [h.gs];exact hp.nd
/-- Behind a callee that writes blocks g and h alone of what there was. -/
theorem Hp.callX2 {X : List Nat} {w0 w w1 : World} {H H1 H2 : List Bk} {g h : Nat} {t u : TypeId} {cs cs' ds ds' : List Value} (hp : Hp X w0 H w) (hk : Hp [g,h] w [⟨g,t,cs'⟩,⟨h,u,ds'⟩] w1) (h1 : Upd H g t cs cs' H1) (h2 : Upd H1 h u ds ds' H2) : Hp X w0 H2 w1 := by
  have hg := (hk.own ⟨g,t,cs'⟩ (by simp)).2
  have hh := (hk.own ⟨h,u,ds'⟩ (by simp)).2
  have hnd1 : (H1.map (·.g)).Nodup := by rw [h1.gs];exact hp.nd
  have hmem : ∀ b ∈ H1,b = ⟨g,t,cs'⟩ ∨ (b ∈ H ∧ b.g ≠ g) := fun b hb => by
    rcases h1.eq b hb with h|h|h
    · exact .inl h
    · exact .inr h
    · exact absurd hp.nd h
  have hgm : ∀ b ∈ H1,b.g ∈ X ∨ w0.heap.size ≤ b.g := fun b hb => by
    rcases hmem b hb with rfl|⟨hm,_⟩
    · exact (hp.own _ h1.mem).1
    · exact (hp.own _ hm).1
  refine ⟨⟨hk.keep.os.trans hp.keep.os,hk.keep.tape.trans hp.keep.tape,hk.keep.output.trans hp.keep.output,Nat.le_trans hp.keep.size hk.keep.size,?_⟩,?_,by rw [h2.gs];exact hnd1⟩
  · intro k hk' hX
    rw [hk.keep.block k (Nat.lt_of_lt_of_le hk' hp.keep.size) (fun e => ?_)]
    · exact hp.keep.block k hk' hX
    · simp only [List.mem_cons,List.not_mem_nil,or_false] at e
      have hin : k ∈ X ∨ w0.heap.size ≤ k := by
        rcases e with rfl|rfl
        · exact (hp.own _ h1.mem).1
        · exact hgm ⟨k,u,ds⟩ h2.mem
      rcases hin with hm|hm
      · exact hX hm
      · omega
  · intro b hb
    rcases h2.eq b hb with rfl|⟨hm,hne⟩|hn
    · have hm := hgm ⟨h,u,ds⟩ h2.mem
      exact ⟨hm,hh⟩
    · rcases hmem b hm with rfl|⟨hm',hne'⟩
      · exact ⟨hgm _ hm,hg⟩
      · refine ⟨(hp.own _ hm').1,?_⟩
        have e : ∀ k,k < w.heap.size → k ∉ [g,h] → w1.heap[k]? = w.heap[k]? := hk.keep.block
        rw [e _ (hp.lt hm') (by simp [hne,hne'])]
        exact (hp.own _ hm').2
    · exact absurd hnd1 hn
theorem Hp.perm {X : List Nat} {w0 w : World} {H H' : List Bk} (hp : Hp X w0 H w) (h : H.Perm H') : Hp X w0 H' w :=
  ⟨hp.keep,fun b hb => hp.own b (h.mem_iff.2 hb),(h.map _).nodup_iff.1 hp.nd⟩
theorem Hp.startX {w : World} {g : Nat} {t : TypeId} {cs : List Value} (hb : w.heap[g]? = some (.cells cs.toArray t (0,0))) : Hp [g] w [⟨g,t,cs⟩] w :=
  ⟨Keep.refl _ _, by intro b hb'; have e : b = ⟨g, t, cs⟩ := by simpa using hb'
                     subst e;exact ⟨.inl (by simp),hb⟩,by simp⟩
theorem Hp.startX2 {w : World} {g h : Nat} {t u : TypeId} {cs ds : List Value} (hne : g ≠ h) (hb : w.heap[g]? = some (.cells cs.toArray t (0,0))) (hc : w.heap[h]? = some (.cells ds.toArray u (0,0))) : Hp [g,h] w [⟨g,t,cs⟩,⟨h,u,ds⟩] w :=
  ⟨Keep.refl _ _, by intro b hb'
                     simp only [List.mem_cons,List.not_mem_nil,or_false] at hb'
                     rcases hb' with rfl|rfl
                     · exact ⟨.inl (by simp),hb⟩
                     · exact ⟨.inl (by simp),hc⟩,by simp [hne]⟩
/-! ### Types -/
/-- A type of n cells (a struct, an array). -/
class AggTy (P : Program) (ty : TypeId) (n : outParam Nat) : Prop where
  agg : ∀ w,(isAgg ty).run P w = .ok true w
  size : ∀ w,(sizeOf ty).run P w = .ok n w
/-- A type of one cell. -/
class OneTy (P : Program) (ty : TypeId) : Prop where
  agg : ∀ w,(isAgg ty).run P w = .ok false w
  size : ∀ w,(sizeOf ty).run P w = .ok 1 w
class Sz (P : Program) (ty : TypeId) (n : outParam Nat) : Prop where
  z : ∀ w,(sizeOf ty).run P w = .ok n w
instance {P : Program} {ty : TypeId} {n : Nat} [h : AggTy P ty n] : Sz P ty n := ⟨h.size⟩
instance {P : Program} {ty : TypeId} [h : OneTy P ty] : Sz P ty 1 := ⟨h.size⟩
/-- A type's zero value. -/
class ZeroTy (P : Program) (ty : TypeId) (z : outParam Value) : Prop where
  zero : ∀ w,(zeroValue ty).run P w = .ok z w
/-- An array's type: how many elements, and of which type; a slice's. -/
class Qlm (P : Program) (ty : TypeId) (n : outParam Nat) (e : outParam TypeId) : Prop where
  und : P.underlying ty = some (.array n e)
class Qfk (P : Program) (ty : TypeId) (e : outParam TypeId) : Prop where
  und : P.underlying ty = some (.slice e)
/-- The element type of a slice: its zero value, how many cells, how many bytes. -/
class Qgf (P : Program) (e : TypeId) (z : outParam Value) (size bytes : outParam Nat) : Prop where
  info : (P.info? e).map (fun i => (i.zero,i.size,i.bytes)) = some (some z,size,bytes)
theorem AggTy.mk' {P : Program} {ty : TypeId} {n : Nat} {d : TypeDesc} (hu : P.underlying ty = some d) (hd : (match d with | .struct _ | .array _ _ => true|_ => false) = true) (hi : (P.info? ty).map (·.size) = some n) : AggTy P ty n := by
  refine ⟨fun w => ?_,fun w => ?_⟩
  · unfold isAgg
    rw [Sem.run_bind,run_underlying hu w]
    cases d <;> simp_all
  · cases hq : P.info? ty with
    | none => simp [hq] at hi
    | some i => simp [sizeOf,typeInfo,hq] at hi ⊢;exact hi
theorem OneTy.mk' {P : Program} {ty : TypeId} {d : TypeDesc} (hu : P.underlying ty = some d) (hd : (match d with | .struct _ | .array _ _ => true|_ => false) = false) (hi : (P.info? ty).map (·.size) = some 1) : OneTy P ty := by
  refine ⟨fun w => ?_,fun w => ?_⟩
  · unfold isAgg
    rw [Sem.run_bind,run_underlying hu w]
    cases d <;> simp_all
  · cases hq : P.info? ty with
    | none => simp [hq] at hi
    | some i => simp [sizeOf,typeInfo,hq] at hi ⊢;exact hi
theorem ZeroTy.mk' {P : Program} {ty : TypeId} {z : Value} (hi : (P.info? ty).map (·.zero) = some (some z)) : ZeroTy P ty z := by
  refine ⟨fun w => ?_⟩
  cases hq : P.info? ty with
  | none => simp [hq] at hi
  | some i => simp [zeroValue,typeInfo,hq] at hi ⊢;simp [hi]
/-! ### Whole loads and stores -/
section
variable {P : Program} {X : List Nat} {w0 w : World} {H H' : List Bk} {g : Nat} {t : TypeId} {cs cs' : List Value}
theorem Qon (g off j : Nat) : (⟨g,off,none⟩ : Addr).add j = ⟨g,off + j,none⟩ := by unfold Addr.add;split <;> simp_all
theorem Qac (hp : Hp X w0 H w) [h : Has H g t cs] {ty n : Nat} [ht : AggTy P ty n] {off : Nat} (hle : off + n ≤ cs.length) :
    (loadVar ty ⟨g,off,none⟩).run P w = .ok (.agg ((cs.drop off).take n).toArray) w := by
  have hlen : ((cs.drop off).take n).length = n := by simp;omega
  have hl : (loadCells ⟨g,off,none⟩ ((cs.drop off).take n).length).run P w = .ok ((cs.drop off).take n).toArray w :=
    run_loadCells_list (P := P) w ⟨g,off,none⟩ _ (fun j v hv => by
      rw [Qon,hp.cell]
      rw [List.getElem?_take] at hv
      split at hv
      · rw [List.getElem?_drop] at hv;exact hv
      · cases hv)
  rw [hlen] at hl
  simp [loadVar,Sem.run_bind,ht.agg,ht.size,hl]
theorem Qbt (hp : Hp X w0 H w) [h : Has H g t cs] {ty : Nat} [ht : OneTy P ty] {off : Nat} {v : Value} (hv : cs[off]? = some v) :
    (loadVar ty ⟨g,off,none⟩).run P w = .ok v w := by
  have hc := hp.cell (g := g) off
  rw [hv] at hc
  simp [loadVar,Sem.run_bind,ht.agg,hc]
theorem Qdv (hp : Hp X w0 H w) {off : Nat} {vs : List Value} {ty n : Nat} {v : Value} (hv : v.cells = vs.toArray) (hn : ∀ w,(sizeOf ty).run P w = .ok n w) (hvn : vs.length = n)
    [h : Upd H g t cs (cs.take off ++ vs ++ cs.drop (off + n)) H'] (hle : off + n ≤ cs.length) (h1 : vs.all (·.oneCell') = true) :
    ∃ w1,(storeVar ty ⟨g,off,none⟩ v).run P w = .ok () w1 ∧ Hp X w0 H' w1 := by
  have hb := (hp.own _ h.mem).2
  have hst := run_storeCells_at P g off t vs 0 cs.toArray w hb (by simp;omega) (fun x hx => by simpa using (List.all_eq_true.1 h1) x hx)
  simp only [Nat.add_zero,hvn] at hst
  refine ⟨w.setRow g (cs.take off ++ vs ++ cs.drop (off + n)).toArray,?_,?_⟩
  · simp only [storeVar,Sem.run_bind,hn,Result.andThen_ok,hv]
    simp only [List.size_toArray,hvn,ne_eq,not_true_eq_false,if_false]
    exact hst
  · refine hp.put (g := g) (t := t) (cs := cs) (cs' := cs.take off ++ vs ++ cs.drop (off + n)) rfl rfl rfl (by simp) ?_ ?_
    · simpa using setRow_heap w g cs.toArray (cs.take off ++ vs ++ cs.drop (off + n)).toArray t (0,0) hb
    · intro k hk
      simp only [World.setRow,Array.getElem?_modify]
      rw [if_neg (fun e => hk e.symm)]
end
/-! ### The walk's laws -/
section
variable {P : Program} {X : List Nat} {w0 w : World} {H H' : List Bk} {g : Nat} {t : TypeId} {cs cs' : List Value}
variable {ops : Array Oper} {Q : Exit → Act → World → Prop} {a : Act} {rest : List Oper} {d p : Tmp} {tp ty : TypeId} {pos : String} {af : Array Edge} {off n : Nat}
theorem Qab (hp : Hp X w0 H w) (hx : a.eval (.tmp p) = .pointer (some ⟨g,off,none⟩)) (h : Has H g t cs) (ht : AggTy P ty n) (hle : off + n ≤ cs.length) {vs : List Value} (hvs : (cs.drop off).take n = vs)
    (hk : wpList P ops Q rest (a.put (some d) (.agg vs.toArray)) w) : wpList P ops Q (⟨some d,.load ty (.tmp p),tp,pos,af,none⟩ :: rest) a w := by
  subst hvs
  refine wpList_plain rfl fun K hK => ?_
  unfold Oper.wp
  simp only [execOp,hx,Instr.loadAt,Instr.sureAddr,Sem.run_bind,Sem.run_pure,Result.andThen_ok,Qac hp hle]
  exact hK _ _ hk
theorem Qai (hp : Hp X w0 H w) (hx : a.eval (.tmp p) = .pointer (some ⟨g,off,none⟩)) (h : Has H g t cs) (ht : OneTy P ty) {v : Value} (hv : cs[off]? = some v)
    (hk : wpList P ops Q rest (a.put (some d) v) w) : wpList P ops Q (⟨some d,.load ty (.tmp p),tp,pos,af,none⟩ :: rest) a w := by
  refine wpList_plain rfl fun K hK => ?_
  unfold Oper.wp
  simp only [execOp,hx,Instr.loadAt,Instr.sureAddr,Sem.run_bind,Sem.run_pure,Result.andThen_ok,Qbt hp hv]
  exact hK _ _ hk
theorem Qae {x : Operand} (hp : Hp X w0 H w) (hx : a.eval (.tmp p) = .pointer (some ⟨g,off,none⟩)) {v : Value} (hxv : a.eval x = v) {vs : List Value} (hv : v.cells = vs.toArray) (hn : ∀ w,(sizeOf ty).run P w = .ok n w) (hvn : vs.length = n)
    {cs' : List Value} (_h0 : Has H g t cs) (hcs : cs.take off ++ vs ++ cs.drop (off + n) = cs') (hle : off + n ≤ cs.length) (h1 : vs.all (·.oneCell') = true) (h : Upd H g t cs cs' H')
    (hk : ∀ w1,Hp X w0 H' w1 → wpList P ops Q rest a w1) : wpList P ops Q (⟨none,.store ty (.tmp p) x,tp,pos,af,none⟩ :: rest) a w := by
  subst hcs
  obtain ⟨w1,hr,hp1⟩ := Qdv (P := P) hp (off := off) hv hn hvn hle h1 (h := h)
  refine wpList_plain rfl fun K hK => ?_
  unfold Oper.wp
  simp only [execOp,hx,hxv,Instr.storeAt,Instr.sureAddr,Sem.run_bind,Sem.run_pure,Result.andThen_ok,hr]
  exact hK _ _ (hk w1 hp1)
theorem Qau {x : Operand} (hp : Hp X w0 H w) {v : Value} (hxv : a.eval x = v) {vs : List Value} (hv : v.cells = vs.toArray)
    (hk : ∀ g w1,Hp X w0 (⟨g,ty,vs⟩ :: H) w1 → wpList P ops Q rest (a.put (some d) (.pointer (some ⟨g,0,none⟩))) w1) : wpList P ops Q (⟨some d,.box ty x,tp,pos,af,none⟩ :: rest) a w := by
  refine wpList_plain rfl fun K hK => ?_
  unfold Oper.wp
  have hr : (Instr.box ty v).run P w = .ok (.pointer (some ⟨w.heap.size,0,none⟩)) (w.alloc (.cells vs.toArray ty)) := by
    simp [Instr.box,newVar,newRow,hv]
  simp only [execOp,hxv,Sem.run_bind,Result.andThen_ok,hr]
  exact hK _ _ (hk _ _ (hp.alloc ty vs))
theorem Qag {z : Value} (hp : Hp X w0 H w) (hz : ZeroTy P ty z) {vs : List Value} (hv : z.cells = vs.toArray)
    (hk : ∀ g w1,Hp X w0 (⟨g,ty,vs⟩ :: H) w1 → wpList P ops Q rest (a.put (some d) (.pointer (some ⟨g,0,none⟩))) w1) : wpList P ops Q (⟨some d,.alloc ty,tp,pos,af,none⟩ :: rest) a w := by
  refine wpList_plain rfl fun K hK => ?_
  unfold Oper.wp
  have hr : (Instr.alloc ty true (.tuple #[])).run P w = .ok (.pointer (some ⟨w.heap.size,0,none⟩)) (w.alloc (.cells vs.toArray ty)) := by
    simp [Instr.alloc,newVar,newRow,hv,hz.zero]
  simp only [execOp,Sem.run_bind,Result.andThen_ok,hr]
  exact hK _ _ (hk _ _ (hp.alloc ty vs))
/-- An array's element, out of its value. -/
theorem Qnq {e len : Nat} {cs : List Value} {k : Int} [h : Qlm P t len e] [he : OneTy P e] (h0 : 0 ≤ k) (h1 : k < len) {v : Value} (hv : cs[k.toNat]? = some v) : (Instr.index t (.agg cs.toArray) (.int .i64 k)).run P w = .ok v w := by
  have hi : 0 ≤ k ∧ k < (len : Int) := ⟨h0,h1⟩
  simp [Instr.index,asIntOf,run_underlying h.und,part,he.agg,he.size,hi,hv]
theorem Qmu {e len m : Nat} {cs vs : List Value} {k : Int} [h : Qlm P t len e] [he : AggTy P e m] (h0 : 0 ≤ k) (h1 : k < len) (hv : (cs.drop (k.toNat * m)).take m = vs) : (Instr.index t (.agg cs.toArray) (.int .i64 k)).run P w = .ok (.agg vs.toArray) w := by
  have hi : 0 ≤ k ∧ k < (len : Int) := ⟨h0,h1⟩
  simp [Instr.index,asIntOf,run_underlying h.und,part,he.agg,he.size,hi,← hv]
theorem Qbs {x y : Operand} {e len : Nat} {cs : List Value} {k : Int} (hx : a.eval x = .agg cs.toArray) (hy : a.eval y = .int .i64 k) (ha : Qlm P t len e) (he : OneTy P e) (h0 : 0 ≤ k) (h1 : k < len) {v : Value} (hv : cs[k.toNat]? = some v)
    (hk : wpList P ops Q rest (a.put (some d) v) w) : wpList P ops Q (⟨some d,.index t x y,tp,pos,af,none⟩ :: rest) a w := by
  refine wpList_plain rfl fun K hK => ?_
  unfold Oper.wp
  simp only [execOp,hx,hy,Sem.run_bind,Sem.run_pure,Result.andThen_ok,Qnq h0 h1 hv]
  exact hK _ _ hk
theorem Qdz {x y : Operand} {e len m : Nat} {cs vs : List Value} {k : Int} (hx : a.eval x = .agg cs.toArray) (hy : a.eval y = .int .i64 k) (ha : Qlm P t len e) (he : AggTy P e m) (h0 : 0 ≤ k) (h1 : k < len) (hv : (cs.drop (k.toNat * m)).take m = vs)
    (hk : wpList P ops Q rest (a.put (some d) (.agg vs.toArray)) w) : wpList P ops Q (⟨some d,.index t x y,tp,pos,af,none⟩ :: rest) a w := by
  refine wpList_plain rfl fun K hK => ?_
  unfold Oper.wp
  simp only [execOp,hx,hy,Sem.run_bind,Sem.run_pure,Result.andThen_ok,Qmu h0 h1 hv]
  exact hK _ _ hk
/-- What a call of the commonest kind comes to: it hands back v, and whatever there was is as it was. -/
def Ret (v : Value) (w : World) (e : Ending) (w' : World) : Prop := e = .returned v ∧ Keep [] w w'
theorem Qaf {f : FuncId} {args : Array Value} {v : Value} {R : Ending → World → Prop} (hp : Hp X w0 H w) (hc : Calls P f args w (Ret v w)) (hk : ∀ w1,Hp X w0 H w1 → R (.returned v) w1) : Calls P f args w R :=
  hc.mono fun e w1 ⟨he,hw⟩ => by subst he;exact hk w1 (hp.call hw)
/-- What a call comes to that writes block g alone of what there was. -/
def RetX (g : Nat) (t : TypeId) (cs' : List Value) (v : Value) (w : World) (e : Ending) (w' : World) : Prop := e = .returned v ∧ Keep [g] w w' ∧ w'.heap[g]? = some (.cells cs'.toArray t (0,0))
/-- What a call comes to that hands back v, in which the address of a block is that it made: cells cs of type t. -/
def RetN (v : Nat → Value) (t : TypeId) (cs : List Value) (w : World) (e : Ending) (w' : World) : Prop := ∃ g,e = .returned (v g) ∧ Keep [] w w' ∧ w.heap.size ≤ g ∧ w'.heap[g]? = some (.cells cs.toArray t (0,0))
theorem Qci {f : FuncId} {args : Array Value} {v : Nat → Value} {R : Ending → World → Prop} (hp : Hp X w0 H w) (hc : Calls P f args w (RetN v t cs w)) (hk : ∀ g w1,Hp X w0 (⟨g,t,cs⟩ :: H) w1 → R (.returned (v g)) w1) : Calls P f args w R :=
  hc.mono fun e w1 ⟨g,he,hw,hg,hb⟩ => by subst he;exact hk g w1 (hp.add hw hg hb)
/-! ### Results -/
def RV (P : Program) (w : World) (tmps : Array Value) : ResultVar → Value → Prop
  | .tmp t,v => tmps.getD t undef = v
  | .cell p ty,v => ∃ a,tmps.getD p undef = .pointer (some a) ∧ (loadVar ty a).run P w = .ok v w
theorem Qaa {fn : Func} {tmps : Array Value} {r : ResultVar} {v : Value} (hf : fn.results = #[r]) (h : RV P w tmps r v) : (results fn tmps).run P w = .ok v w := by
  cases r with
  | tmp t => simp only [RV] at h;simp [results,hf];simpa using h
  | cell p ty =>
    obtain ⟨a,h1,h2⟩ := h
    have h1' : tmps[p]?.getD undef = .pointer (some a) := by simpa using h1
    simp [results,hf,h1',asAddr,h2]
theorem Qan {fn : Func} {tmps : Array Value} {r s : ResultVar} {v u : Value} (hf : fn.results = #[r,s]) (h : RV P w tmps r v) (h' : RV P w tmps s u) : (results fn tmps).run P w = .ok (.tuple #[v,u]) w := by
  cases r with
  | tmp t =>
    have e1 : tmps[t]?.getD undef = v := by simpa [RV] using h
    cases s with
    | tmp t' =>
      have e2 : tmps[t']?.getD undef = u := by simpa [RV] using h'
      simp [results,hf,e1,e2]
    | cell p' ty' =>
      obtain ⟨a',h3,h4⟩ := h'
      have h3' : tmps[p']?.getD undef = .pointer (some a') := by simpa using h3
      simp [results,hf,e1,h3',asAddr,h4]
  | cell p ty =>
    obtain ⟨a,h1,h2⟩ := h
    have h1' : tmps[p]?.getD undef = .pointer (some a) := by simpa using h1
    cases s with
    | tmp t' =>
      have e2 : tmps[t']?.getD undef = u := by simpa [RV] using h'
      simp [results,hf,h1',asAddr,h2,e2]
    | cell p' ty' =>
      obtain ⟨a',h3,h4⟩ := h'
      have h3' : tmps[p']?.getD undef = .pointer (some a') := by simpa using h3
      simp [results,hf,h1',asAddr,h2,h3',h4]
end
/-! ### Short names of what each step of a walk asks -/
theorem za {v : Value} {l : List Value} (h : v = Value.agg (List.toArray l)) : v = Value.agg (List.toArray l) := h
theorem zu {v : Value} {l : List Value} (h : v = Value.tuple (List.toArray l)) : v = Value.tuple (List.toArray l) := h
theorem zi {v : Value} {k : IntKind} {n : Int} (h : v = Value.int k n) : v = Value.int k n := h
theorem zio {v : Option Value} {k : IntKind} {n : Int} (h : v = some (Value.int k n)) : v = some (Value.int k n) := h
theorem zk {v : Value} {n : Int} (h : v = Value.int .i64 n) : v = Value.int .i64 n := h
theorem zb {v : Value} {b : Bool} (h : v = Value.bool b) : v = Value.bool b := h
theorem zr {v : Value} {x : Option Addr} (h : v = Value.pointer x) : v = Value.pointer x := h
theorem zs {v : Value} {x : Option Addr} {n c : Nat} (h : v = Value.slice x n c) : v = Value.slice x n c := h
theorem zso {v : Option Value} {x : Option Addr} {n c : Nat} (h : v = some (Value.slice x n c)) : v = some (Value.slice x n c) := h
theorem zf {v : Value} {f : Fn} {a b : Array Value} (h : v = Value.func f a b) : v = Value.func f a b := h
theorem zfo {v : Option Value} {f : Fn} {a b : Array Value} (h : v = some (Value.func f a b)) : v = some (Value.func f a b) := h
theorem zt {v : Value} {g n : Nat} (h : v = Value.pointer (some (Addr.mk g n none))) : v = Value.pointer (some (Addr.mk g n none)) := h
theorem zx {v : Value} {g n k c : Nat} (h : v = Value.slice (some (Addr.mk g n none)) k c) : v = Value.slice (some (Addr.mk g n none)) k c := h
theorem zy {v : Value} {g k c : Nat} (h : v = Value.slice (some (Addr.mk g 0 none)) k c) : v = Value.slice (some (Addr.mk g 0 none)) k c := h
theorem zo {x : Option Oper} {d : Option Tmp} {o : Op} {t : TypeId} {p : String} {f : Array Edge} {g : Option (Nat × Bool)} (h : x = some (Oper.mk d o t p f g)) : x = some (Oper.mk d o t p f g) := h
theorem zl {m n : Nat} (h : Nat.ble m n = true) : m ≤ n := Nat.le_of_ble_eq_true h
theorem zp (l : List Value) (D : List Deferred) (d : Tmp) (v : Value) : (Act.mk l.toArray D).put (some d) v = Act.mk (l.set d v).toArray D := by simp [Act.put]
theorem zq (a : Act) (v : Value) : a.put none v = a := rfl
theorem z0 {a b : Value} {l : List Value} : (a :: l).set 0 b = b :: l := List.set_cons_zero
theorem z1 {a b : Value} {l : List Value} {i : Nat} : (a :: l).set (i + 1) b = a :: l.set i b := List.set_cons_succ
theorem n0 (n : Nat) : 0 + n = n := Nat.zero_add n
theorem n1 {a : Value} {l : List Value} {i : Nat} : (a :: l).take (i + 1) = a :: l.take i := List.take_succ_cons
theorem n2 {l : List Value} : l.take 0 = [] := List.take_zero
theorem n3 {i : Nat} : ([] : List Value).take i = [] := List.take_nil
theorem n4 {a : Value} {l : List Value} {i : Nat} : (a :: l).drop (i + 1) = l.drop i := List.drop_succ_cons
theorem n5 {l : List Value} : l.drop 0 = l := List.drop_zero
theorem n6 {i : Nat} : ([] : List Value).drop i = [] := List.drop_nil
theorem n7 {l : List Value} : [] ++ l = l := List.nil_append l
theorem n8 {a : Value} {l m : List Value} : a :: l ++ m = a :: (l ++ m) := List.cons_append
theorem n9 {l : List Value} : l ++ [] = l := List.append_nil l
theorem nn : (∀ {a : Value} {l : List Value} {i : Nat},(a :: l).take (i + 1) = a :: l.take i) ∧ (∀ {l : List Value},l.take 0 = []) ∧ (∀ {i : Nat},([] : List Value).take i = []) ∧ (∀ {a : Value} {l : List Value} {i : Nat},(a :: l).drop (i + 1) = l.drop i) ∧ (∀ {l : List Value},l.drop 0 = l) ∧ (∀ {i : Nat},([] : List Value).drop i = []) ∧ (∀ {l : List Value},[] ++ l = l) ∧ (∀ {a : Value} {l m : List Value},a :: l ++ m = a :: (l ++ m)) ∧ ∀ {l : List Value},l ++ [] = l := ⟨n1,n2,n3,n4,n5,n6,n7,n8,n9⟩
theorem m0 (n : Nat) : (n : Int).toNat = n := Int.toNat_natCast n
theorem m1 : (0 : Int).toNat = 0 := rfl
theorem m2 : (1 : Int).toNat = 1 := rfl
theorem m3 (n : Nat) : 0 * n = 0 := Nat.zero_mul n
theorem m4 (n : Nat) : 1 * n = n := Nat.one_mul n
theorem m5 (n : Nat) : n + 0 = n := Nat.add_zero n
end Go.Proofs.YtdfdmeoalbpcdaaGreat
