/-
  A region that draws its order, walked once in an order of one's own choice: copies, arithmetic and loads are Qeu as soon as they may come up; what is left must then come up one by one.
-/
import Derived.Test.YtdfdmeoalbpcdaaGreatHeap
import Derived.OrdersHeld
import Derived.Deep.RegionHeld3
import Derived.KernelRfl
namespace Go.Proofs.YtdfdmeoalbpcdaaGreat
open Go Go.RowKit
section
variable {P : Program} {ops : Array Oper} {Q : Exit → Act → World → Prop} {md : Region.Mode} {S : World → Prop} {N : List Nat}
/-- Whatever order is picked from here on; S holds behind every operation that is carried out and is not among N. -/
def Qmc (P : Program) (md : Region.Mode) (ops : Array Oper) (Q : Exit → Act → World → Prop) (S : World → Prop) (N : List Nat) : Nat → Array Bool → Act → World → Prop
  | 0,listed,a,w => Region.ready md ops listed = [] ∧ Q .normal a w
  | fuel + 1,listed,a,w =>
    (Region.ready md ops listed = [] → Q .normal a w) ∧
    ∀ i ∈ Region.ready md ops listed,wpOp P ops Q i (fun a' w' => (i ∉ N → S w') ∧ Qmc P md ops Q S N fuel (listed.setIfInBounds i true) a' w') a w
theorem Qhw : ∀ (fuel : Nat) (listed : Array Bool) (a : Act) (w : World),Qmc P md ops Q S N fuel listed a w → wpAny P md ops Q fuel listed a w
  | 0,_,_,_,h => h
  | fuel + 1,_,_,_,h => ⟨h.1,fun i hi => wpOp_mono (fun a' w' h' => Qhw fuel _ a' w' h'.2) (h.2 i hi)⟩
/-- Operation i, among those that are not yet listed, is waited for by each of N. -/
def lateOk (md : Region.Mode) (ops : Array Oper) (N : List Nat) (listed : Array Bool) (i : Nat) : Bool :=
  N.all fun j => j != i && (listed.getD j true || match ops[j]? with
    | some oj => oj.after.any fun e => Region.binds md e && e.on == i
    | none => true)
theorem Qos {i : Nat} {oi : Oper} {v : Value} (hi : ops[i]? = some oi) (hsel : ∀ (j : Nat) (o : Oper) cs b,ops[j]? = some o → o.op ≠ .select cs b)
    (hQ : ∀ c a w,Q (.panic c) (a.put oi.dst v) w → Q (.panic c) a w) :
    ∀ (fuel : Nat) (listed : Array Bool) (a : Act) (w : World),
      (∀ j oj,ops[j]? = some oj → j ≠ i → listed.getD j true = false → (∀ e ∈ oj.after,Region.binds md e = true → e.on ≠ i) → oi.apart ops oj = true) →
      (∀ j,j ∈ N → j ≠ i ∧ (listed.getD j true = false → ∀ oj,ops[j]? = some oj → ∃ e ∈ oj.after,Region.binds md e = true ∧ e.on = i)) →
      i ∈ Region.ready md ops listed → YieldsIf P ops S oi v a → S w →
      Qmc P md ops Q S N fuel (listed.setIfInBounds i true) (a.put oi.dst v) w → Qmc P md ops Q S N (fuel + 1) listed a w := by
  intro fuel
  induction fuel with
  | zero =>
    intro listed a w _ _ hr hy hS H
    refine ⟨fun h => (by rw [h] at hr;cases hr),fun j hj => ?_⟩
    by_cases hji : j = i
    · subst hji;exact hy.wpOp hi hS ⟨fun _ => hS,H⟩
    · have := ready_mono hj hji
      rw [H.1] at this
      cases this
  | succ fuel ih =>
    intro listed a w hfree hlate hr hy hS H
    refine ⟨fun h => (by rw [h] at hr;cases hr),fun j hj => ?_⟩
    by_cases hji : j = i
    · subst hji;exact hy.wpOp hi hS ⟨fun _ => hS,H⟩
    · have h1 := H.2 j (ready_mono hj hji)
      obtain ⟨hjun,oj,hoj,hall⟩ := mem_ready.1 hj
      have hnot : ∀ e ∈ oj.after,Region.binds md e = true → e.on ≠ i := fun e he hb heq => by
        have h1 := hall e he hb
        have h0 := (mem_ready.1 hr).1
        rw [heq] at h1
        rcases Nat.lt_or_ge i listed.size with h' | h'
        · simp [h'] at h0 h1;rw [h0] at h1;cases h1
        · simp [Array.getElem?_eq_none h'] at h1
      have hN : j ∉ N := fun hm => by
        obtain ⟨_,h⟩ := hlate j hm
        obtain ⟨e,he,hb,ho⟩ := h hjun oj hoj
        exact hnot e he hb ho
      have h2 := wpOp_putIf hoj (hfree j oj hoj hji hjun hnot) (fun cs b => hsel i oi cs b hi) (fun cs b => hsel j oj cs b hoj) hQ hy h1
      have hfree' : ∀ k ok,ops[k]? = some ok → k ≠ i → (listed.setIfInBounds j true).getD k true = false →
          (∀ e ∈ ok.after,Region.binds md e = true → e.on ≠ i) → oi.apart ops ok = true := fun k ok hk hki hun hno => by
        refine hfree k ok hk hki ?_ hno
        by_cases hjk : j = k
        · subst hjk;exact hjun
        · rw [getD_set_ne true hjk] at hun;exact hun
      have hlate' : ∀ k,k ∈ N → k ≠ i ∧ ((listed.setIfInBounds j true).getD k true = false → ∀ ok,ops[k]? = some ok → ∃ e ∈ ok.after,Region.binds md e = true ∧ e.on = i) := fun k hk => by
        refine ⟨(hlate k hk).1,fun hun => (hlate k hk).2 ?_⟩
        by_cases hjk : j = k
        · subst hjk;exact absurd hk hN
        · rw [getD_set_ne true hjk] at hun;exact hun
      refine wpOp_mono (fun a' w' h3 => ⟨h3.2.1,ih (listed.setIfInBounds j true) a' w' hfree' hlate' (ready_mono hr (Ne.symm hji)) h3.1 (h3.2.1 hN) ?_⟩) h2
      rw [Array.setIfInBounds_comm _ _ hji]
      exact h3.2.2
/-- The order: 'q i': operation i is Qeu ahead of its turn; 'l i': it alone may come up; 'b2', 'b3': two, three may come up. -/
inductive Sc where
  | nil
  | q (i : Nat) (t : Sc)
  | l (i : Nat) (t : Sc)
  | b2 (i : Nat) (t : Sc) (j : Nat) (u : Sc)
  | b3 (i : Nat) (t : Sc) (j : Nat) (u : Sc) (k : Nat) (v : Sc)
def Qdk (md : Region.Mode) (ops : Array Oper) (N : List Nat) : Sc → Nat → Array Bool → Bool
  | .nil,n,listed => n == 0 && (Region.ready md ops listed).isEmpty
  | .q i t,n,listed => (Region.ready md ops listed).contains i && Region.free md ops listed i && lateOk md ops N listed i && n != 0 && Qdk md ops N t (n - 1) (listed.setIfInBounds i true)
  | .l i t,n,listed => Region.ready md ops listed == [i] && n != 0 && Qdk md ops N t (n - 1) (listed.setIfInBounds i true)
  | .b2 i t j u,n,listed => Region.ready md ops listed == [i,j] && n != 0 && Qdk md ops N t (n - 1) (listed.setIfInBounds i true) && Qdk md ops N u (n - 1) (listed.setIfInBounds j true)
  | .b3 i t j u k v,n,listed => Region.ready md ops listed == [i,j,k] && n != 0 && Qdk md ops N t (n - 1) (listed.setIfInBounds i true) && Qdk md ops N u (n - 1) (listed.setIfInBounds j true) && Qdk md ops N v (n - 1) (listed.setIfInBounds k true)
/-- The walk in that order. -/
def Qbd (P : Program) (ops : Array Oper) (Q : Exit → Act → World → Prop) (S : World → Prop) (N : List Nat) : Sc → Act → World → Prop
  | .nil,a,w => Q .normal a w
  | .q i t,a,w => ∃ o v,ops[i]? = some o ∧ S w ∧ YieldsIf P ops S o v a ∧ Qbd P ops Q S N t (a.put o.dst v) w
  | .l i t,a,w => wpOp P ops Q i (fun a' w' => (i ∉ N → S w') ∧ Qbd P ops Q S N t a' w') a w
  | .b2 i t j u,a,w => wpOp P ops Q i (fun a' w' => (i ∉ N → S w') ∧ Qbd P ops Q S N t a' w') a w ∧ wpOp P ops Q j (fun a' w' => (j ∉ N → S w') ∧ Qbd P ops Q S N u a' w') a w
  | .b3 i t j u k v,a,w => wpOp P ops Q i (fun a' w' => (i ∉ N → S w') ∧ Qbd P ops Q S N t a' w') a w ∧ wpOp P ops Q j (fun a' w' => (j ∉ N → S w') ∧ Qbd P ops Q S N u a' w') a w ∧
      wpOp P ops Q k (fun a' w' => (k ∉ N → S w') ∧ Qbd P ops Q S N v a' w') a w
theorem Qbw (hs : Region.noSelect ops = true) (hQ : ∀ (i : Nat) (o : Oper),ops[i]? = some o → ∀ c a v w,Q (.panic c) (Act.put a o.dst v) w → Q (.panic c) a w) :
    ∀ (sched : Sc) (n : Nat) (listed : Array Bool) (a : Act) (w : World),Qdk md ops N sched n listed = true → Qbd P ops Q S N sched a w → Qmc P md ops Q S N n listed a w
  | .nil,n,listed,a,w,hc,h => by
    simp only [Qdk,Bool.and_eq_true,beq_iff_eq,List.isEmpty_iff] at hc
    obtain ⟨rfl,hc⟩ := hc
    exact ⟨hc,h⟩
  | .q i t,n,listed,a,w,hc,h => by
    simp only [Qdk,Bool.and_eq_true,bne_iff_ne,ne_eq] at hc
    obtain ⟨⟨⟨⟨hr,hf⟩,hl⟩,hn⟩,hrest⟩ := hc
    obtain ⟨m,rfl⟩ : ∃ m,n = m + 1 := ⟨n - 1,by omega⟩
    obtain ⟨o,v,ho,hS,hy,hw⟩ := h
    refine Qos ho (Region.noSelect_spec hs) (fun c a w => hQ i o ho c a _ w) m listed a w (Region.free_spec ho hf) ?_ (by simpa using hr) hy hS (Qbw hs hQ t _ _ _ _ hrest hw)
    intro j hj
    have := List.all_eq_true.1 hl j hj
    simp only [Bool.and_eq_true,bne_iff_ne,ne_eq,Bool.or_eq_true] at this
    refine ⟨this.1,fun hun oj hoj => ?_⟩
    rcases this.2 with h1|h1
    · rw [hun] at h1;cases h1
    · rw [hoj] at h1
      obtain ⟨e,he,hb⟩ := Array.any_eq_true'.1 h1
      simp only [Bool.and_eq_true,beq_iff_eq] at hb
      exact ⟨e,he,hb.1,hb.2⟩
  | .l i t,n,listed,a,w,hc,h => by
    simp only [Qdk,Bool.and_eq_true,beq_iff_eq,bne_iff_ne,ne_eq] at hc
    obtain ⟨m,rfl⟩ : ∃ m,n = m + 1 := ⟨n - 1,by omega⟩
    refine ⟨fun h0 => absurd h0 (by rw [hc.1.1];simp),fun j hj => ?_⟩
    rw [hc.1.1] at hj
    have : j = i := by simpa using hj
    subst this
    exact wpOp_mono (fun a' w' h' => ⟨h'.1,Qbw hs hQ t _ _ _ _ hc.2 h'.2⟩) h
  | .b2 i t j u,n,listed,a,w,hc,h => by
    simp only [Qdk,Bool.and_eq_true,beq_iff_eq,bne_iff_ne,ne_eq] at hc
    obtain ⟨⟨⟨hr,hn⟩,h1⟩,h2⟩ := hc
    obtain ⟨m,rfl⟩ : ∃ m,n = m + 1 := ⟨n - 1,by omega⟩
    refine ⟨fun h0 => absurd h0 (by rw [hr];simp),fun l hl => ?_⟩
    rw [hr] at hl
    simp only [List.mem_cons,List.not_mem_nil,or_false] at hl
    rcases hl with rfl|rfl
    · exact wpOp_mono (fun a' w' h' => ⟨h'.1,Qbw hs hQ t _ _ _ _ h1 h'.2⟩) h.1
    · exact wpOp_mono (fun a' w' h' => ⟨h'.1,Qbw hs hQ u _ _ _ _ h2 h'.2⟩) h.2
  | .b3 i t j u k v,n,listed,a,w,hc,h => by
    simp only [Qdk,Bool.and_eq_true,beq_iff_eq,bne_iff_ne,ne_eq] at hc
    obtain ⟨⟨⟨⟨hr,hn⟩,h1⟩,h2⟩,h3⟩ := hc
    obtain ⟨m,rfl⟩ : ∃ m,n = m + 1 := ⟨n - 1,by omega⟩
    refine ⟨fun h0 => absurd h0 (by rw [hr];simp),fun l hl => ?_⟩
    rw [hr] at hl
    simp only [List.mem_cons,List.not_mem_nil,or_false] at hl
    rcases hl with rfl|rfl|rfl
    · exact wpOp_mono (fun a' w' h' => ⟨h'.1,Qbw hs hQ t _ _ _ _ h1 h'.2⟩) h.1
    · exact wpOp_mono (fun a' w' h' => ⟨h'.1,Qbw hs hQ u _ _ _ _ h2 h'.2⟩) h.2.1
    · exact wpOp_mono (fun a' w' h' => ⟨h'.1,Qbw hs hQ v _ _ _ _ h3 h'.2⟩) h.2.2
/-- A region that draws, walked in one order (or in some). -/
theorem wp_drawn {id : Nat} {a : Act} {w : World} {l : List Oper} (S : World → Prop) (N : List Nat) (sched : Sc) (hm : P.follows .mixedOrders = true)
    (hc : (Qdk .any l.toArray N sched l.length (Array.replicate l.length false) && Region.noSelect l.toArray) = true)
    (hQ : ∀ (i : Nat) (o : Oper),l.toArray[i]? = some o → ∀ c a v w,Q (.panic c) (Act.put a o.dst v) w → Q (.panic c) a w)
    (h : Qbd P l.toArray Q S N sched a { w with drawn := w.drawn + 1 }) : (Code.region id l.toArray true).wp P Q a w := by
  simp only [Bool.and_eq_true] at hc
  refine wp_region_any hm (Qhw (S := S) (N := N) _ _ _ _ ?_)
  simpa using Qbw (P := P) (Q := Q) (S := S) (md := .any) hc.2 hQ sched l.length (Array.replicate l.length false) a _ hc.1 h
end
theorem Qad {P : Program} {Q : Exit → Act → World → Prop} {id : Nat} {a : Act} {w w0 : World} {X : List Nat} {H Hq : List Bk} {l : List Oper} (hp : Hp X w0 H w) (hq : Hp X w0 Hq w) (N : List Nat) (sched : Sc) (hm : P.follows .mixedOrders = true)
    (hc : (Qdk .any l.toArray N sched l.length (Array.replicate l.length false) && Region.noSelect l.toArray) = true)
    (h : ∀ w1,Hp X w0 H w1 → Hp X w0 Hq w1 → Qbd P l.toArray (NoPanic Q) (Hp X w0 H) N sched a w1) : (Code.region id l.toArray true).wp P Q a w :=
  wp_region_noPanic (wp_drawn (Hp X w0 H) N sched hm hc (fun _ _ _ _ _ _ _ h => h) (h _ hp.bump hq.bump))
section
variable {P : Program} {ops : Array Oper} {Q : Exit → Act → World → Prop} {N : List Nat} {X : List Nat} {w0 w : World} {H Hq H' : List Bk} {a : Act} {i : Nat} {rest : Sc}
variable {dst : Option Tmp} {d p : Tmp} {tp ty : TypeId} {pos : String} {af : Array Edge} {gd : Option (Nat × Bool)} {g off n : Nat} {t : TypeId} {cs : List Value}
theorem Qao {S : World → Prop} (h : Q .normal a w) : Qbd P ops (NoPanic Q) S N .nil a w := h
/-- The operation that is Qeu next, written out. -/
def wpQ (P : Program) (ops : Array Oper) (Q : Exit → Act → World → Prop) (S : World → Prop) (N : List Nat) (rest : Sc) (o : Oper) (a : Act) (w : World) : Prop :=
  ∃ v,S w ∧ YieldsIf P ops S o v a ∧ Qbd P ops Q S N rest (a.put o.dst v) w
theorem sd_q {S : World → Prop} {o : Oper} (ho : ops[i]? = some o) (h : wpQ P ops Q S N rest o a w) : Qbd P ops Q S N (.q i rest) a w := by
  obtain ⟨v,h1,h2,h3⟩ := h
  exact ⟨o,v,ho,h1,h2,h3⟩
/-- The operation that alone may come up, written out. -/
def wpL (P : Program) (ops : Array Oper) (Q : Exit → Act → World → Prop) (S : World → Prop) (N : List Nat) (i : Nat) (rest : Sc) (o : Oper) (a : Act) (w : World) : Prop :=
  if Region.wanted o (yielded ops a.tmps) = true then o.wp P a w (fun a' w' => (i ∉ N → S w') ∧ Qbd P ops Q S N rest a' w') Q else (i ∉ N → S w) ∧ Qbd P ops Q S N rest (a.put o.dst undef) w
theorem sd_l {S : World → Prop} {o : Oper} (ho : ops[i]? = some o) (h : wpL P ops Q S N i rest o a w) : Qbd P ops Q S N (.l i rest) a w := by
  unfold wpL at h
  simp only [Qbd,wpOp,ho]
  split at h
  · rename_i hw;rw [if_pos hw];exact .inl h
  · rename_i hw;rw [if_neg hw];exact h
theorem Qfa {S : World → Prop} {i j : Nat} {t u : Sc} (h1 : Qbd P ops Q S N (.l i t) a w) (h2 : Qbd P ops Q S N (.l j u) a w) : Qbd P ops Q S N (.b2 i t j u) a w := ⟨h1,h2⟩
theorem sd_b3 {S : World → Prop} {i j k : Nat} {t u v : Sc} (h1 : Qbd P ops Q S N (.l i t) a w) (h2 : Qbd P ops Q S N (.l j u) a w) (h3 : Qbd P ops Q S N (.l k v) a w) : Qbd P ops Q S N (.b3 i t j u k v) a w := ⟨h1,h2,h3⟩
/-- What needs no memory. -/
theorem Qaj {o : Oper} {v : Value} (hp : Hp X w0 H w) (hw : Region.wanted o (yielded ops a.tmps) = true) (hv : ∀ w,(execOp a.eval o).run P w = .ok (.value v) w)
    (hk : Qbd P ops Q (Hp X w0 H) N rest (a.put o.dst v) w) : wpQ P ops Q (Hp X w0 H) N rest o a w :=
  ⟨v,hp,.inl ⟨hw,fun w _ => hv w⟩,hk⟩
theorem Qaq {x : Operand} {v : Value} (hp : Hp X w0 H w) (hv : a.eval x = v) (hk : Qbd P ops Q (Hp X w0 H) N rest (a.put (some d) v) w) : wpQ P ops Q (Hp X w0 H) N rest ⟨some d,.move x,tp,pos,af,none⟩ a w :=
  Qaj hp rfl (fun w => by subst hv;rfl) hk
theorem Qat {x : Operand} {v : Value} (hp : Hp X w0 H w) (hv : a.eval x = v) (hk : Qbd P ops Q (Hp X w0 H) N rest (a.put (some d) v) w) : wpQ P ops Q (Hp X w0 H) N rest ⟨some d,.assign x,tp,pos,af,none⟩ a w :=
  Qaj hp rfl (fun w => by subst hv;rfl) hk
/-- What is not wanted. -/
theorem sd_skip {o : Oper} (hp : Hp X w0 H w) (hw : Region.wanted o (yielded ops a.tmps) = false)
    (hk : Qbd P ops Q (Hp X w0 H) N rest (a.put o.dst undef) w) : wpQ P ops Q (Hp X w0 H) N rest o a w :=
  ⟨undef,hp,.inr ⟨hw,rfl⟩,hk⟩
theorem Qil {o : Oper} {S : World → Prop} (hp : S w) (hw : Region.wanted o (yielded ops a.tmps) = false)
    (hk : Qbd P ops Q S N rest (a.put o.dst undef) w) : wpL P ops Q S N i rest o a w := by
  unfold wpL
  rw [if_neg (by rw [hw];simp)]
  exact ⟨fun _ => hp,hk⟩
theorem Qah (hp : Hp X w0 H w) (hw : Region.wanted ⟨some d,.load ty (.tmp p),tp,pos,af,gd⟩ (yielded ops a.tmps) = true)
    (hx : a.eval (.tmp p) = .pointer (some ⟨g,off,none⟩)) (h : Has H g t cs) (ht : AggTy P ty n) (hle : off + n ≤ cs.length) {vs : List Value} (hvs : (cs.drop off).take n = vs)
    (hk : Qbd P ops Q (Hp X w0 H) N rest (a.put (some d) (.agg vs.toArray)) w) : wpQ P ops Q (Hp X w0 H) N rest ⟨some d,.load ty (.tmp p),tp,pos,af,gd⟩ a w := by
  subst hvs
  refine ⟨.agg ((cs.drop off).take n).toArray,hp,.inl ⟨hw,fun w hp => ?_⟩,hk⟩
  simp only [execOp,hx,Instr.loadAt,Instr.sureAddr,Sem.run_bind,Sem.run_pure,Result.andThen_ok,Qac hp hle]
theorem Qba (hp : Hp X w0 H w) (hw : Region.wanted ⟨some d,.load ty (.tmp p),tp,pos,af,gd⟩ (yielded ops a.tmps) = true)
    (hx : a.eval (.tmp p) = .pointer (some ⟨g,off,none⟩)) (h : Has H g t cs) (ht : OneTy P ty) {v : Value} (hv : cs[off]? = some v)
    (hk : Qbd P ops Q (Hp X w0 H) N rest (a.put (some d) v) w) : wpQ P ops Q (Hp X w0 H) N rest ⟨some d,.load ty (.tmp p),tp,pos,af,gd⟩ a w := by
  refine ⟨v,hp,.inl ⟨hw,fun w hp => ?_⟩,hk⟩
  simp only [execOp,hx,Instr.loadAt,Instr.sureAddr,Sem.run_bind,Sem.run_pure,Result.andThen_ok,Qbt hp hv]
/-- One operation that alone may come up. -/
theorem Qek {S : World → Prop} {o : Oper} (hw : Region.wanted o (yielded ops a.tmps) = true)
    (h : o.wp P a w (fun a' w' => (i ∉ N → S w') ∧ Qbd P ops Q S N rest a' w') Q) : wpL P ops Q S N i rest o a w := by
  unfold wpL
  rw [if_pos hw]
  exact h
/-- A call. -/
theorem Qap {c : Call} {f : FuncId} {args : Array Value} {v : Value} (hp : Hp X w0 H w) (hw : Region.wanted ⟨some d,.call c,tp,pos,af,gd⟩ (yielded ops a.tmps) = true)
    (he : ∀ w,(execOp a.eval ⟨some d,.call c,tp,pos,af,gd⟩).run P w = .ok (.enter f args) w) (hc : ∀ w,Calls P f args w (Ret v w)) (hq : Hp X w0 Hq w)
    (hk : ∀ w1,Hp X w0 H w1 → Hp X w0 Hq w1 → Qbd P ops Q (Hp X w0 H) N rest (a.put (some d) v) w1) : wpL P ops Q (Hp X w0 H) N i rest ⟨some d,.call c,tp,pos,af,gd⟩ a w := by
  refine Qek hw ?_
  unfold Oper.wp
  simp only [he,Oper.upon]
  exact (hc w).mono fun e w1 ⟨he,hw1⟩ => by subst he;exact ⟨fun _ => hp.call hw1,hk w1 (hp.call hw1) (hq.call hw1)⟩
/-- A call that writes block g alone of what there was. -/
theorem sd_callX {c : Call} {f : FuncId} {args : Array Value} {v : Value} {cs' : List Value} (hq : Hp X w0 Hq w) (hw : Region.wanted ⟨some d,.call c,tp,pos,af,gd⟩ (yielded ops a.tmps) = true)
    (he : ∀ w,(execOp a.eval ⟨some d,.call c,tp,pos,af,gd⟩).run P w = .ok (.enter f args) w) (hc : Calls P f args w (RetX g t cs' v w)) (h : Upd Hq g t cs cs' H') (hs : List.Sublist H H')
    (hk : ∀ w1,Hp X w0 H w1 → Hp X w0 H' w1 → Qbd P ops Q (Hp X w0 H) N rest (a.put (some d) v) w1) : wpL P ops Q (Hp X w0 H) N i rest ⟨some d,.call c,tp,pos,af,gd⟩ a w := by
  refine Qek hw ?_
  unfold Oper.wp
  simp only [he,Oper.upon]
  exact hc.mono fun e w1 ⟨he,hw1,hb⟩ => by
    subst he
    have h1 := hq.callX hw1 hb h
    exact ⟨fun _ => h1.sub hs,hk w1 (h1.sub hs) h1⟩
/-- A call that hands back a block that it made. -/
theorem Qcu {c : Call} {f : FuncId} {args : Array Value} {v : Nat → Value} (hq : Hp X w0 Hq w) (hs : List.Sublist H Hq) (hw : Region.wanted ⟨some d,.call c,tp,pos,af,gd⟩ (yielded ops a.tmps) = true)
    (he : ∀ w,(execOp a.eval ⟨some d,.call c,tp,pos,af,gd⟩).run P w = .ok (.enter f args) w) (hc : Calls P f args w (RetN v t cs w))
    (hk : ∀ g w1,Hp X w0 H w1 → Hp X w0 (⟨g,t,cs⟩ :: Hq) w1 → Qbd P ops Q (Hp X w0 H) N rest (a.put (some d) (v g)) w1) : wpL P ops Q (Hp X w0 H) N i rest ⟨some d,.call c,tp,pos,af,gd⟩ a w := by
  refine Qek hw ?_
  unfold Oper.wp
  simp only [he,Oper.upon]
  exact hc.mono fun e w1 ⟨g,he,hw1,hg,hb⟩ => by
    subst he
    have h1 := hq.add hw1 hg hb
    exact ⟨fun _ => h1.sub (hs.cons _),hk g w1 (h1.sub (hs.cons _)) h1⟩
theorem Qcm {z : Value} (hq : Hp X w0 Hq w) (hs : List.Sublist H Hq) (hw : Region.wanted ⟨some d,.alloc ty,tp,pos,af,gd⟩ (yielded ops a.tmps) = true) (hz : ZeroTy P ty z) {vs : List Value} (hv : z.cells = vs.toArray)
    (hk : ∀ g w1,Hp X w0 H w1 → Hp X w0 (⟨g,ty,vs⟩ :: Hq) w1 → Qbd P ops Q (Hp X w0 H) N rest (a.put (some d) (.pointer (some ⟨g,0,none⟩))) w1) : wpL P ops Q (Hp X w0 H) N i rest ⟨some d,.alloc ty,tp,pos,af,gd⟩ a w := by
  refine Qek hw ?_
  unfold Oper.wp
  have hr : (Instr.alloc ty true (.tuple #[])).run P w = .ok (.pointer (some ⟨w.heap.size,0,none⟩)) (w.alloc (.cells vs.toArray ty)) := by
    simp [Instr.alloc,newVar,newRow,hv,hz.zero]
  simp only [execOp,Sem.run_bind,Result.andThen_ok,hr]
  have h1 := hq.alloc ty vs
  have h2 : Hp X w0 H (w.alloc (.cells vs.toArray ty)) := h1.sub (hs.cons _)
  exact ⟨fun _ => h2,hk _ _ h2 h1⟩
/-- A store that is among N: behind it S is not asked any more. -/
theorem Qbb {x : Operand} {S : World → Prop} (hq : Hp X w0 Hq w) (hw : Region.wanted ⟨none,.store ty (.tmp p) x,tp,pos,af,gd⟩ (yielded ops a.tmps) = true)
    (hx : a.eval (.tmp p) = .pointer (some ⟨g,off,none⟩)) {v : Value} (hxv : a.eval x = v) {vs : List Value} (hv : v.cells = vs.toArray) (hn : ∀ w,(sizeOf ty).run P w = .ok n w) (hvn : vs.length = n)
    {cs' : List Value} (_h0 : Has Hq g t cs) (hcs : cs.take off ++ vs ++ cs.drop (off + n) = cs') (hle : off + n ≤ cs.length) (h1 : vs.all (·.oneCell') = true) (h : Upd Hq g t cs cs' H') (hN : N.contains i = true)
    (hk : ∀ w1,Hp X w0 H' w1 → Qbd P ops Q S N rest a w1) : wpL P ops Q S N i rest ⟨none,.store ty (.tmp p) x,tp,pos,af,gd⟩ a w := by
  subst hcs
  obtain ⟨w1,hr,hp1⟩ := Qdv (P := P) hq (off := off) hv hn hvn hle h1 (h := h)
  refine Qek hw ?_
  unfold Oper.wp
  simp only [execOp,hx,hxv,Instr.storeAt,Instr.sureAddr,Sem.run_bind,Sem.run_pure,Result.andThen_ok,hr]
  exact ⟨fun hn => absurd (by simpa using hN) hn,hk w1 hp1⟩
/-- A store into a block that S does not name. -/
theorem Qam {x : Operand} (hq : Hp X w0 Hq w) (hw : Region.wanted ⟨none,.store ty (.tmp p) x,tp,pos,af,gd⟩ (yielded ops a.tmps) = true)
    (hx : a.eval (.tmp p) = .pointer (some ⟨g,off,none⟩)) {v : Value} (hxv : a.eval x = v) {vs : List Value} (hv : v.cells = vs.toArray) (hn : ∀ w,(sizeOf ty).run P w = .ok n w) (hvn : vs.length = n)
    {cs' : List Value} (_h0 : Has Hq g t cs) (hcs : cs.take off ++ vs ++ cs.drop (off + n) = cs') (hle : off + n ≤ cs.length) (h1 : vs.all (·.oneCell') = true) (h : Upd Hq g t cs cs' H') (hs : List.Sublist H H')
    (hk : ∀ w1,Hp X w0 H w1 → Hp X w0 H' w1 → Qbd P ops Q (Hp X w0 H) N rest a w1) : wpL P ops Q (Hp X w0 H) N i rest ⟨none,.store ty (.tmp p) x,tp,pos,af,gd⟩ a w := by
  subst hcs
  obtain ⟨w1,hr,hp1⟩ := Qdv (P := P) hq (off := off) hv hn hvn hle h1 (h := h)
  refine Qek hw ?_
  unfold Oper.wp
  simp only [execOp,hx,hxv,Instr.storeAt,Instr.sureAddr,Sem.run_bind,Sem.run_pure,Result.andThen_ok,hr]
  exact ⟨fun _ => hp1.sub hs,hk w1 (hp1.sub hs) hp1⟩
end
end Go.Proofs.YtdfdmeoalbpcdaaGreat
