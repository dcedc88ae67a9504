/-
  A region that draws its order, with calls that leave all there was as it was and answer the same in whatever world: they too are Qeu as soon as they may come up (what they leave behind in memory is not looked at).
-/
import Derived.Test.YtdfdmeoalbpcdaaGreatDf
set_option linter.unusedSimpArgs false
set_option linter.unusedVariables false
namespace Go.Proofs.YtdfdmeoalbpcdaaGreat
open Go Go.RowKit
section
variable {P : Program} {ops : Array Oper} {Q : Exit → Act → World → Prop} {md : Region.Mode} {S : World → Prop} {N : List Nat}
/-- Whatever order is picked from here on, and whatever calls have left behind in memory meanwhile. -/
def Qfr (P : Program) (md : Region.Mode) (ops : Array Oper) (Q : Exit → Act → World → Prop) (S : World → Prop) (N : List Nat) : Nat → Array Bool → Act → World → Prop
  | 0,listed,a,w => ∀ w1,Keep [] w w1 → Region.ready md ops listed = [] ∧ Q .normal a w1
  | fuel + 1,listed,a,w => ∀ w1,Keep [] w w1 →
    (Region.ready md ops listed = [] → Q .normal a w1) ∧
    ∀ i ∈ Region.ready md ops listed,wpOp P ops Q i (fun a' w' => (i ∉ N → S w') ∧ Qfr P md ops Q S N fuel (listed.setIfInBounds i true) a' w') a w1
theorem Qkl : ∀ (fuel : Nat) (listed : Array Bool) (a : Act) (w : World),Qfr P md ops Q S N fuel listed a w → Qmc P md ops Q S N fuel listed a w
  | 0,_,_,_,h => h _ (Keep.refl _ _)
  | fuel + 1,_,_,w,h => ⟨(h w (Keep.refl _ _)).1,fun i hi => wpOp_mono (fun a' w' h' => ⟨h'.1,Qkl fuel _ a' w' h'.2⟩) ((h w (Keep.refl _ _)).2 i hi)⟩
theorem Qeg {fuel : Nat} {listed : Array Bool} {a : Act} {w w1 : World} (h : Qfr P md ops Q S N fuel listed a w) (hk : Keep [] w w1) : Qfr P md ops Q S N fuel listed a w1 := by
  cases fuel with
  | zero => exact fun w2 h2 => h w2 (hk.trans h2)
  | succ fuel => exact fun w2 h2 => h w2 (hk.trans h2)
/-- A call that in state a answers v, in whatever world, and leaves all there was as it was; or one that is not wanted. -/
def CallsTo (P : Program) (ops : Array Oper) (o : Oper) (v : Value) (a : Act) : Prop :=
  (Region.wanted o (yielded ops a.tmps) = true ∧ ∃ f args,(∀ w,(execOp a.eval o).run P w = .ok (.enter f args) w) ∧ ∀ w,Calls P f args w (Ret v w)) ∨
  (Region.wanted o (yielded ops a.tmps) = false ∧ v = undef)
theorem CallsTo.wpOp {i : Nat} {o : Oper} {v : Value} {a : Act} (hi : ops[i]? = some o) (hy : CallsTo P ops o v a)
    {K : Act → World → Prop} {w : World} (h : ∀ w1,Keep [] w w1 → K (a.put o.dst v) w1) : wpOp P ops Q i K a w := by
  unfold Go.wpOp
  simp only [hi]
  rcases hy with ⟨hw,f,args,he,hc⟩|⟨hw,rfl⟩
  · simp only [hw,if_true,Oper.wp,he w,Oper.upon]
    exact .inl ((hc w).mono fun e w1 ⟨h1,h2⟩ => by subst h1;exact h w1 h2)
  · simp only [hw,Bool.false_eq_true,if_false];exact h w (Keep.refl _ _)
theorem CallsTo.of_same {o : Oper} {v : Value} {a a' : Act} (hy : CallsTo P ops o v a) (he : execOp a'.eval o = execOp a.eval o)
    (hw : Region.wanted o (yielded ops a'.tmps) = Region.wanted o (yielded ops a.tmps)) : CallsTo P ops o v a' := by
  unfold CallsTo at *
  rw [he,hw]
  exact hy
theorem wpOp_putP {j : Nat} {oi oj : Oper} {v : Value} (hj : ops[j]? = some oj) (hap : oi.apart ops oj = true)
    (hsi : ∀ cs b,oi.op ≠ .select cs b) (hsj : ∀ cs b,oj.op ≠ .select cs b)
    (hQ : ∀ c a w,Q (.panic c) (a.put oi.dst v) w → Q (.panic c) a w) {K : Act → World → Prop} {a : Act} {w : World}
    (hy : CallsTo P ops oi v a) (h : wpOp P ops Q j K (a.put oi.dst v) w) :
    wpOp P ops Q j (fun a' w' => CallsTo P ops oi v a' ∧ K (a'.put oi.dst v) w') a w := by
  obtain ⟨h1,h2,h3⟩ := Oper.apart_spec hap
  have keep : ∀ (a : Act),CallsTo P ops oi v a → ∀ u,CallsTo P ops oi v (a.put oj.dst u) := fun a hy u =>
    hy.of_same (execOp_put oi hsi a oj.dst u h3) (wanted_put oi a oj.dst u h3)
  have keepD : ∀ d,CallsTo P ops oi v { a with defers := d :: a.defers } := fun d => hy.of_same rfl rfl
  unfold wpOp at *
  simp only [hj] at *
  rw [wanted_put oj a oi.dst v h1] at h
  split
  · rename_i hw
    simp only [hw,if_true] at h
    rcases h with h|⟨hasks,hlets⟩
    case inr => exact .inr ⟨by unfold Oper.asks at *;rw [execOp_put oj hsj a oi.dst v h1] at hasks;exact hasks,hlets⟩
    refine .inl ?_
    unfold Oper.wp at *
    rw [execOp_put oj hsj a oi.dst v h1] at h
    generalize (execOp a.eval oj).run P w = r at *
    cases r with
    | ok n w' =>
      cases n <;> simp only [Oper.upon] at h ⊢
      case value u => exact ⟨keep a hy u,by rw [← Act.put_comm a v u h2];exact h⟩
      case skip => exact ⟨keep a hy _,by rw [← Act.put_comm a v undef h2];exact h⟩
      case defer d =>
        refine ⟨keep _ (keepD d) _,?_⟩
        rw [← Act.put_comm _ v undef h2,← Act.put_defers]
        exact h
      case enter f args =>
        refine Calls.mono h fun e w'' he => ?_
        cases e with
        | returned u => exact ⟨keep a hy u,by rw [← Act.put_comm a v u h2];exact he⟩
        | panicked c => exact hQ _ _ _ he
        | outgrown => exact he
      case row row args => exact Rows.mono h fun u w'' he => ⟨keep a hy u,by rw [← Act.put_comm a v u h2];exact he⟩
    | halt x w' =>
      cases x <;> simp only [Oper.upon] at h ⊢
      case panic u => exact hQ _ _ _ h
  · rename_i hw
    simp only [hw] at h
    exact ⟨keep a hy _,by rw [← Act.put_comm a v undef h2];exact h⟩
theorem Qox {i : Nat} {oi : Oper} {v : Value} (hi : ops[i]? = some oi) (hSt : ∀ w w1,S w → Keep [] w w1 → S w1) (hsel : ∀ (j : Nat) (o : Oper) cs b,ops[j]? = some o → o.op ≠ .select cs b)
    (hQ : ∀ c a w,Q (.panic c) (a.put oi.dst v) w → Q (.panic c) a w) :
    ∀ (fuel : Nat) (listed : Array Bool) (a : Act) (w : World),
      (∀ j oj,ops[j]? = some oj → j ≠ i → listed.getD j true = false → (∀ e ∈ oj.after,Region.binds md e = true → e.on ≠ i) → oi.apart ops oj = true) →
      (∀ j,j ∈ N → j ≠ i ∧ (listed.getD j true = false → ∀ oj,ops[j]? = some oj → ∃ e ∈ oj.after,Region.binds md e = true ∧ e.on = i)) →
      i ∈ Region.ready md ops listed → YieldsIf P ops S oi v a → S w →
      Qfr P md ops Q S N fuel (listed.setIfInBounds i true) (a.put oi.dst v) w → Qfr P md ops Q S N (fuel + 1) listed a w := by
  intro fuel
  induction fuel with
  | zero =>
    intro listed a w _ _ hr hy hS H w1 hk
    have hS := hSt _ _ hS hk
    have H := Qeg H hk
    refine ⟨fun h => (by rw [h] at hr;cases hr),fun j hj => ?_⟩
    by_cases hji : j = i
    · subst hji;exact hy.wpOp hi hS ⟨fun _ => hS,H⟩
    · have := ready_mono hj hji
      rw [(H _ (Keep.refl _ _)).1] at this
      cases this
  | succ fuel ih =>
    intro listed a w hfree hlate hr hy hS H w1 hk
    have hS := hSt _ _ hS hk
    have H := Qeg H hk
    refine ⟨fun h => (by rw [h] at hr;cases hr),fun j hj => ?_⟩
    by_cases hji : j = i
    · subst hji;exact hy.wpOp hi hS ⟨fun _ => hS,H⟩
    · have h1 := (H _ (Keep.refl _ _)).2 j (ready_mono hj hji)
      obtain ⟨hjun,oj,hoj,hall⟩ := mem_ready.1 hj
      have hnot : ∀ e ∈ oj.after,Region.binds md e = true → e.on ≠ i := fun e he hb heq => by
        have h1 := hall e he hb
        have h0 := (mem_ready.1 hr).1
        rw [heq] at h1
        rcases Nat.lt_or_ge i listed.size with h' | h'
        · simp [h'] at h0 h1;rw [h0] at h1;cases h1
        · simp [Array.getElem?_eq_none h'] at h1
      have hN : j ∉ N := fun hm => by
        obtain ⟨_,h⟩ := hlate j hm
        obtain ⟨e,he,hb,ho⟩ := h hjun oj hoj
        exact hnot e he hb ho
      have h2 := wpOp_putIf hoj (hfree j oj hoj hji hjun hnot) (fun cs b => hsel i oi cs b hi) (fun cs b => hsel j oj cs b hoj) hQ hy h1
      have hfree' : ∀ k ok,ops[k]? = some ok → k ≠ i → (listed.setIfInBounds j true).getD k true = false →
          (∀ e ∈ ok.after,Region.binds md e = true → e.on ≠ i) → oi.apart ops ok = true := fun k ok hk hki hun hno => by
        refine hfree k ok hk hki ?_ hno
        by_cases hjk : j = k
        · subst hjk;exact hjun
        · rw [getD_set_ne true hjk] at hun;exact hun
      have hlate' : ∀ k,k ∈ N → k ≠ i ∧ ((listed.setIfInBounds j true).getD k true = false → ∀ ok,ops[k]? = some ok → ∃ e ∈ ok.after,Region.binds md e = true ∧ e.on = i) := fun k hk => by
        refine ⟨(hlate k hk).1,fun hun => (hlate k hk).2 ?_⟩
        by_cases hjk : j = k
        · subst hjk;exact absurd hk hN
        · rw [getD_set_ne true hjk] at hun;exact hun
      refine wpOp_mono (fun a' w' h3 => ⟨h3.2.1,ih (listed.setIfInBounds j true) a' w' hfree' hlate' (ready_mono hr (Ne.symm hji)) h3.1 (h3.2.1 hN) ?_⟩) h2
      rw [Array.setIfInBounds_comm _ _ hji]
      exact h3.2.2
theorem wpAnyG_call {i : Nat} {oi : Oper} {v : Value} (hi : ops[i]? = some oi) (hSt : ∀ w w1,S w → Keep [] w w1 → S w1) (hsel : ∀ (j : Nat) (o : Oper) cs b,ops[j]? = some o → o.op ≠ .select cs b)
    (hQ : ∀ c a w,Q (.panic c) (a.put oi.dst v) w → Q (.panic c) a w) :
    ∀ (fuel : Nat) (listed : Array Bool) (a : Act) (w : World),
      (∀ j oj,ops[j]? = some oj → j ≠ i → listed.getD j true = false → (∀ e ∈ oj.after,Region.binds md e = true → e.on ≠ i) → oi.apart ops oj = true) →
      (∀ j,j ∈ N → j ≠ i ∧ (listed.getD j true = false → ∀ oj,ops[j]? = some oj → ∃ e ∈ oj.after,Region.binds md e = true ∧ e.on = i)) →
      i ∈ Region.ready md ops listed → CallsTo P ops oi v a → S w →
      Qfr P md ops Q S N fuel (listed.setIfInBounds i true) (a.put oi.dst v) w → Qfr P md ops Q S N (fuel + 1) listed a w := by
  intro fuel
  induction fuel with
  | zero =>
    intro listed a w _ _ hr hy hS H w1 hk
    have hS := hSt _ _ hS hk
    have H := Qeg H hk
    refine ⟨fun h => (by rw [h] at hr;cases hr),fun j hj => ?_⟩
    by_cases hji : j = i
    · subst hji;exact hy.wpOp hi fun w2 hk2 => ⟨fun _ => hSt _ _ hS hk2,Qeg H hk2⟩
    · have := ready_mono hj hji
      rw [(H _ (Keep.refl _ _)).1] at this
      cases this
  | succ fuel ih =>
    intro listed a w hfree hlate hr hy hS H w1 hk
    have hS := hSt _ _ hS hk
    have H := Qeg H hk
    refine ⟨fun h => (by rw [h] at hr;cases hr),fun j hj => ?_⟩
    by_cases hji : j = i
    · subst hji;exact hy.wpOp hi fun w2 hk2 => ⟨fun _ => hSt _ _ hS hk2,Qeg H hk2⟩
    · have h1 := (H _ (Keep.refl _ _)).2 j (ready_mono hj hji)
      obtain ⟨hjun,oj,hoj,hall⟩ := mem_ready.1 hj
      have hnot : ∀ e ∈ oj.after,Region.binds md e = true → e.on ≠ i := fun e he hb heq => by
        have h1 := hall e he hb
        have h0 := (mem_ready.1 hr).1
        rw [heq] at h1
        rcases Nat.lt_or_ge i listed.size with h' | h'
        · simp [h'] at h0 h1;rw [h0] at h1;cases h1
        · simp [Array.getElem?_eq_none h'] at h1
      have hN : j ∉ N := fun hm => by
        obtain ⟨_,h⟩ := hlate j hm
        obtain ⟨e,he,hb,ho⟩ := h hjun oj hoj
        exact hnot e he hb ho
      have h2 := wpOp_putP hoj (hfree j oj hoj hji hjun hnot) (fun cs b => hsel i oi cs b hi) (fun cs b => hsel j oj cs b hoj) hQ hy h1
      have hfree' : ∀ k ok,ops[k]? = some ok → k ≠ i → (listed.setIfInBounds j true).getD k true = false →
          (∀ e ∈ ok.after,Region.binds md e = true → e.on ≠ i) → oi.apart ops ok = true := fun k ok hk hki hun hno => by
        refine hfree k ok hk hki ?_ hno
        by_cases hjk : j = k
        · subst hjk;exact hjun
        · rw [getD_set_ne true hjk] at hun;exact hun
      have hlate' : ∀ k,k ∈ N → k ≠ i ∧ ((listed.setIfInBounds j true).getD k true = false → ∀ ok,ops[k]? = some ok → ∃ e ∈ ok.after,Region.binds md e = true ∧ e.on = i) := fun k hk => by
        refine ⟨(hlate k hk).1,fun hun => (hlate k hk).2 ?_⟩
        by_cases hjk : j = k
        · subst hjk;exact absurd hk hN
        · rw [getD_set_ne true hjk] at hun;exact hun
      refine wpOp_mono (fun a' w' h3 => ⟨h3.2.1,ih (listed.setIfInBounds j true) a' w' hfree' hlate' (ready_mono hr (Ne.symm hji)) h3.1 (h3.2.1 hN) ?_⟩) h2
      rw [Array.setIfInBounds_comm _ _ hji]
      exact h3.2.2
/-- The order: 'q i', 'p i': operation (call) i is Qeu ahead of its turn; 'l i': it alone may come up; 'alt i t u': it, or what u begins with. -/
inductive Sg where
  | nil
  | q (i : Nat) (t : Sg)
  | p (i : Nat) (t : Sg)
  | l (i : Nat) (t : Sg)
  | alt (i : Nat) (t : Sg) (u : Sg)
def Sg.heads : Sg → List Nat
  | .l i _ => [i]
  | .alt i _ u => i :: u.heads
  | _ => []
def sgOk (md : Region.Mode) (ops : Array Oper) (N : List Nat) : Bool → Sg → Nat → Array Bool → Bool
  | top,.nil,n,listed => top && n == 0 && (Region.ready md ops listed).isEmpty
  | top,.q i t,n,listed => top && (Region.ready md ops listed).contains i && Region.free md ops listed i && lateOk md ops N listed i && n != 0 && sgOk md ops N true t (n - 1) (listed.setIfInBounds i true)
  | top,.p i t,n,listed => top && (Region.ready md ops listed).contains i && Region.free md ops listed i && lateOk md ops N listed i && n != 0 && sgOk md ops N true t (n - 1) (listed.setIfInBounds i true)
  | top,.l i t,n,listed => (!top || Region.ready md ops listed == [i]) && n != 0 && sgOk md ops N true t (n - 1) (listed.setIfInBounds i true)
  | top,.alt i t u,n,listed => (!top || Region.ready md ops listed == i :: u.heads) && n != 0 && sgOk md ops N true t (n - 1) (listed.setIfInBounds i true) && sgOk md ops N false u n listed
def wpSg (P : Program) (ops : Array Oper) (Q : Exit → Act → World → Prop) (S : World → Prop) (N : List Nat) : Sg → Act → World → Prop
  | .nil,a,w => ∀ w1,Keep [] w w1 → Q .normal a w1
  | .q i t,a,w => ∃ o v,ops[i]? = some o ∧ S w ∧ YieldsIf P ops S o v a ∧ wpSg P ops Q S N t (a.put o.dst v) w
  | .p i t,a,w => ∃ o v,ops[i]? = some o ∧ S w ∧ CallsTo P ops o v a ∧ wpSg P ops Q S N t (a.put o.dst v) w
  | .l i t,a,w => ∀ w1,Keep [] w w1 → wpOp P ops Q i (fun a' w' => (i ∉ N → S w') ∧ wpSg P ops Q S N t a' w') a w1
  | .alt i t u,a,w => (∀ w1,Keep [] w w1 → wpOp P ops Q i (fun a' w' => (i ∉ N → S w') ∧ wpSg P ops Q S N t a' w') a w1) ∧ wpSg P ops Q S N u a w
theorem Qod {i n : Nat} {listed : Array Bool} (hl : lateOk md ops N listed i = true) :
    ∀ j,j ∈ N → j ≠ i ∧ (listed.getD j true = false → ∀ oj,ops[j]? = some oj → ∃ e ∈ oj.after,Region.binds md e = true ∧ e.on = i) := by
  intro j hj
  have := List.all_eq_true.1 hl j hj
  simp only [Bool.and_eq_true,bne_iff_ne,ne_eq,Bool.or_eq_true] at this
  refine ⟨this.1,fun hun oj hoj => ?_⟩
  rcases this.2 with h1|h1
  · rw [hun] at h1;cases h1
  · rw [hoj] at h1
    obtain ⟨e,he,hb⟩ := Array.any_eq_true'.1 h1
    simp only [Bool.and_eq_true,beq_iff_eq] at hb
    exact ⟨e,he,hb.1,hb.2⟩
/-- What the order's branches say together: of each that it begins with. -/
theorem Qgq (hs : Region.noSelect ops = true) (hSt : ∀ w w1,S w → Keep [] w w1 → S w1) (hQ : ∀ (i : Nat) (o : Oper),ops[i]? = some o → ∀ c a v w,Q (.panic c) (Act.put a o.dst v) w → Q (.panic c) a w) :
    ∀ (sched : Sg) (top : Bool) (n : Nat) (listed : Array Bool) (a : Act) (w : World),sgOk md ops N top sched n listed = true → wpSg P ops Q S N sched a w →
      (top = true → Qfr P md ops Q S N n listed a w) ∧
      (∀ i ∈ sched.heads,∀ w1,Keep [] w w1 → wpOp P ops Q i (fun a' w' => (i ∉ N → S w') ∧ Qfr P md ops Q S N (n - 1) (listed.setIfInBounds i true) a' w') a w1)
  | .nil,top,n,listed,a,w,hc,h => by
    simp only [sgOk,Bool.and_eq_true,beq_iff_eq,List.isEmpty_iff] at hc
    obtain ⟨⟨_,rfl⟩,hc⟩ := hc
    exact ⟨fun _ w1 hk => ⟨hc,h w1 hk⟩,fun i hi => by simp [Sg.heads] at hi⟩
  | .q i t,top,n,listed,a,w,hc,h => by
    simp only [sgOk,Bool.and_eq_true,bne_iff_ne,ne_eq] at hc
    obtain ⟨⟨⟨⟨⟨_,hr⟩,hf⟩,hl⟩,hn⟩,hrest⟩ := hc
    obtain ⟨m,rfl⟩ : ∃ m,n = m + 1 := ⟨n - 1,by omega⟩
    obtain ⟨o,v,ho,hS,hy,hw⟩ := h
    exact ⟨fun _ => Qox ho hSt (Region.noSelect_spec hs) (fun c a w => hQ i o ho c a _ w) m listed a w (Region.free_spec ho hf) (Qod (n := 0) hl) (by simpa using hr) hy hS ((Qgq hs hSt hQ t true _ _ _ _ hrest hw).1 rfl),
      fun i hi => by simp [Sg.heads] at hi⟩
  | .p i t,top,n,listed,a,w,hc,h => by
    simp only [sgOk,Bool.and_eq_true,bne_iff_ne,ne_eq] at hc
    obtain ⟨⟨⟨⟨⟨_,hr⟩,hf⟩,hl⟩,hn⟩,hrest⟩ := hc
    obtain ⟨m,rfl⟩ : ∃ m,n = m + 1 := ⟨n - 1,by omega⟩
    obtain ⟨o,v,ho,hS,hy,hw⟩ := h
    exact ⟨fun _ => wpAnyG_call ho hSt (Region.noSelect_spec hs) (fun c a w => hQ i o ho c a _ w) m listed a w (Region.free_spec ho hf) (Qod (n := 0) hl) (by simpa using hr) hy hS ((Qgq hs hSt hQ t true _ _ _ _ hrest hw).1 rfl),
      fun i hi => by simp [Sg.heads] at hi⟩
  | .l i t,top,n,listed,a,w,hc,h => by
    simp only [sgOk,Bool.and_eq_true,bne_iff_ne,ne_eq] at hc
    obtain ⟨m,rfl⟩ : ∃ m,n = m + 1 := ⟨n - 1,by omega⟩
    have key : ∀ w1,Keep [] w w1 → wpOp P ops Q i (fun a' w' => (i ∉ N → S w') ∧ Qfr P md ops Q S N (m + 1 - 1) (listed.setIfInBounds i true) a' w') a w1 := fun w1 hk =>
      wpOp_mono (fun a' w' h' => ⟨h'.1,(Qgq hs hSt hQ t true _ _ _ _ hc.2 h'.2).1 rfl⟩) (h w1 hk)
    refine ⟨fun ht w1 hk => ?_,fun j hj w1 hk => ?_⟩
    · subst ht
      have hr : Region.ready md ops listed = [i] := by simpa using hc.1.1
      refine ⟨fun h0 => absurd h0 (by rw [hr];simp),fun j hj => ?_⟩
      rw [hr] at hj
      have : j = i := by simpa using hj
      subst this
      exact key w1 hk
    · have : j = i := by simpa [Sg.heads] using hj
      subst this
      exact key w1 hk
  | .alt i t u,top,n,listed,a,w,hc,h => by
    simp only [sgOk,Bool.and_eq_true,bne_iff_ne,ne_eq] at hc
    obtain ⟨⟨⟨h0,hn⟩,h1⟩,h2⟩ := hc
    obtain ⟨m,rfl⟩ : ∃ m,n = m + 1 := ⟨n - 1,by omega⟩
    have key : ∀ w1,Keep [] w w1 → wpOp P ops Q i (fun a' w' => (i ∉ N → S w') ∧ Qfr P md ops Q S N (m + 1 - 1) (listed.setIfInBounds i true) a' w') a w1 := fun w1 hk =>
      wpOp_mono (fun a' w' h' => ⟨h'.1,(Qgq hs hSt hQ t true _ _ _ _ h1 h'.2).1 rfl⟩) (h.1 w1 hk)
    have hu := (Qgq hs hSt hQ u false _ _ _ _ h2 h.2).2
    have both : ∀ j ∈ i :: u.heads,∀ w1,Keep [] w w1 → wpOp P ops Q j (fun a' w' => (j ∉ N → S w') ∧ Qfr P md ops Q S N (m + 1 - 1) (listed.setIfInBounds j true) a' w') a w1 := fun j hj w1 hk => by
      rcases List.mem_cons.1 hj with rfl|hj
      · exact key w1 hk
      · exact hu j hj w1 hk
    refine ⟨fun ht w1 hk => ?_,both⟩
    subst ht
    have hr : Region.ready md ops listed = i :: u.heads := by simpa using h0
    refine ⟨fun h0 => absurd h0 (by rw [hr];simp),fun j hj => ?_⟩
    rw [hr] at hj
    exact both j hj w1 hk
/-- A region that draws, walked in one order (or in some). -/
theorem wp_drawnG {id : Nat} {a : Act} {w : World} {l : List Oper} (S : World → Prop) (N : List Nat) (sched : Sg) (hm : P.follows .mixedOrders = true) (hSt : ∀ w w1,S w → Keep [] w w1 → S w1)
    (hc : (sgOk .any l.toArray N true sched l.length (Array.replicate l.length false) && Region.noSelect l.toArray) = true)
    (hQ : ∀ (i : Nat) (o : Oper),l.toArray[i]? = some o → ∀ c a v w,Q (.panic c) (Act.put a o.dst v) w → Q (.panic c) a w)
    (h : wpSg P l.toArray Q S N sched a { w with drawn := w.drawn + 1 }) : (Code.region id l.toArray true).wp P Q a w := by
  simp only [Bool.and_eq_true] at hc
  refine wp_region_any hm (Qhw (S := S) (N := N) _ _ _ _ (Qkl _ _ _ _ ?_))
  simpa using (Qgq (P := P) (Q := Q) (S := S) (md := .any) hc.2 hSt hQ sched true l.length (Array.replicate l.length false) a _ hc.1 h).1 rfl
end
theorem Qcc {P : Program} {Q : Exit → Act → World → Prop} {id : Nat} {a : Act} {w w0 : World} {X : List Nat} {H Hq : List Bk} {l : List Oper} (hp : Hp X w0 H w) (hq : Hp X w0 Hq w) (N : List Nat) (sched : Sg) (hm : P.follows .mixedOrders = true)
    (hc : (sgOk .any l.toArray N true sched l.length (Array.replicate l.length false) && Region.noSelect l.toArray) = true)
    (h : ∀ w1,Hp X w0 H w1 → Hp X w0 Hq w1 → wpSg P l.toArray (NoPanic Q) (Hp X w0 H) N sched a w1) : (Code.region id l.toArray true).wp P Q a w :=
  wp_region_noPanic (wp_drawnG (Hp X w0 H) N sched hm (fun _ _ h hk => h.call hk) hc (fun _ _ _ _ _ _ _ h => h) (h _ hp.bump hq.bump))
section
variable {P : Program} {ops : Array Oper} {Q : Exit → Act → World → Prop} {N : List Nat} {X : List Nat} {w0 w : World} {H Hq H' : List Bk} {a : Act} {i : Nat} {rest : Sg}
variable {dst : Option Tmp} {d p : Tmp} {tp ty : TypeId} {pos : String} {af : Array Edge} {gd : Option (Nat × Bool)} {g off n : Nat} {t : TypeId} {cs : List Value}
theorem Qgw {S : World → Prop} (hq : Hp X w0 Hq w) (h : ∀ w1,Hp X w0 Hq w1 → Q .normal a w1) : wpSg P ops (NoPanic Q) S N .nil a w := fun w1 hk => h w1 (hq.call hk)
/-- The operation that is Qeu next, written out. -/
def wpQG (P : Program) (ops : Array Oper) (Q : Exit → Act → World → Prop) (S : World → Prop) (N : List Nat) (rest : Sg) (o : Oper) (a : Act) (w : World) : Prop :=
  ∃ v,S w ∧ YieldsIf P ops S o v a ∧ wpSg P ops Q S N rest (a.put o.dst v) w
theorem sg_q {S : World → Prop} {o : Oper} (ho : ops[i]? = some o) (h : wpQG P ops Q S N rest o a w) : wpSg P ops Q S N (.q i rest) a w := by
  obtain ⟨v,h1,h2,h3⟩ := h
  exact ⟨o,v,ho,h1,h2,h3⟩
/-- The call that is Qeu next, written out. -/
def wpPG (P : Program) (ops : Array Oper) (Q : Exit → Act → World → Prop) (S : World → Prop) (N : List Nat) (rest : Sg) (o : Oper) (a : Act) (w : World) : Prop :=
  ∃ v,S w ∧ CallsTo P ops o v a ∧ wpSg P ops Q S N rest (a.put o.dst v) w
theorem sg_p {S : World → Prop} {o : Oper} (ho : ops[i]? = some o) (h : wpPG P ops Q S N rest o a w) : wpSg P ops Q S N (.p i rest) a w := by
  obtain ⟨v,h1,h2,h3⟩ := h
  exact ⟨o,v,ho,h1,h2,h3⟩
/-- The operation that alone may come up, written out. -/
def wpLG (P : Program) (ops : Array Oper) (Q : Exit → Act → World → Prop) (S : World → Prop) (N : List Nat) (i : Nat) (rest : Sg) (o : Oper) (a : Act) (w : World) : Prop :=
  ∀ w1,Keep [] w w1 → if Region.wanted o (yielded ops a.tmps) = true then o.wp P a w1 (fun a' w' => (i ∉ N → S w') ∧ wpSg P ops Q S N rest a' w') Q else (i ∉ N → S w1) ∧ wpSg P ops Q S N rest (a.put o.dst undef) w1
theorem wp_of_wpL {S : World → Prop} {o : Oper} (ho : ops[i]? = some o) (h : wpLG P ops Q S N i rest o a w) : ∀ w1,Keep [] w w1 → wpOp P ops Q i (fun a' w' => (i ∉ N → S w') ∧ wpSg P ops Q S N rest a' w') a w1 := by
  intro w1 hk
  have h := h w1 hk
  simp only [wpOp,ho]
  split at h
  · rename_i hw;rw [if_pos hw];exact .inl h
  · rename_i hw;rw [if_neg hw];exact h
theorem sg_l {S : World → Prop} {o : Oper} (ho : ops[i]? = some o) (h : wpLG P ops Q S N i rest o a w) : wpSg P ops Q S N (.l i rest) a w := wp_of_wpL ho h
theorem sg_alt {S : World → Prop} {t u : Sg} (h1 : wpSg P ops Q S N (.l i t) a w) (h2 : wpSg P ops Q S N u a w) : wpSg P ops Q S N (.alt i t u) a w := ⟨h1,h2⟩
/-- What needs no memory. -/
theorem Qjo {o : Oper} {v : Value} (hp : Hp X w0 H w) (hw : Region.wanted o (yielded ops a.tmps) = true) (hv : ∀ w,(execOp a.eval o).run P w = .ok (.value v) w)
    (hk : wpSg P ops Q (Hp X w0 H) N rest (a.put o.dst v) w) : wpQG P ops Q (Hp X w0 H) N rest o a w :=
  ⟨v,hp,.inl ⟨hw,fun w _ => hv w⟩,hk⟩
theorem Qga {x : Operand} {v : Value} (hp : Hp X w0 H w) (hv : a.eval x = v) (hk : wpSg P ops Q (Hp X w0 H) N rest (a.put (some d) v) w) : wpQG P ops Q (Hp X w0 H) N rest ⟨some d,.move x,tp,pos,af,none⟩ a w :=
  Qjo hp rfl (fun w => by subst hv;rfl) hk
theorem Qdq (hp : Hp X w0 H w) (hw : Region.wanted ⟨some d,.load ty (.tmp p),tp,pos,af,gd⟩ (yielded ops a.tmps) = true)
    (hx : a.eval (.tmp p) = .pointer (some ⟨g,off,none⟩)) (h : Has H g t cs) (ht : AggTy P ty n) (hle : off + n ≤ cs.length) {vs : List Value} (hvs : (cs.drop off).take n = vs)
    (hk : wpSg P ops Q (Hp X w0 H) N rest (a.put (some d) (.agg vs.toArray)) w) : wpQG P ops Q (Hp X w0 H) N rest ⟨some d,.load ty (.tmp p),tp,pos,af,gd⟩ a w := by
  subst hvs
  refine ⟨.agg ((cs.drop off).take n).toArray,hp,.inl ⟨hw,fun w hp => ?_⟩,hk⟩
  simp only [execOp,hx,Instr.loadAt,Instr.sureAddr,Sem.run_bind,Sem.run_pure,Result.andThen_ok,Qac hp hle]
/-- One operation that alone may come up. -/
theorem sg_loud {S : World → Prop} {o : Oper} (hw : Region.wanted o (yielded ops a.tmps) = true)
    (h : ∀ w1,Keep [] w w1 → o.wp P a w1 (fun a' w' => (i ∉ N → S w') ∧ wpSg P ops Q S N rest a' w') Q) : wpLG P ops Q S N i rest o a w := by
  intro w1 hk
  rw [if_pos hw]
  exact h w1 hk
/-- A call that is Qeu ahead of its turn. -/
theorem Qfj {c : Call} {f : FuncId} {args : Array Value} {v : Value} (hp : Hp X w0 H w) (hw : Region.wanted ⟨some d,.call c,tp,pos,af,gd⟩ (yielded ops a.tmps) = true)
    (he : ∀ w,(execOp a.eval ⟨some d,.call c,tp,pos,af,gd⟩).run P w = .ok (.enter f args) w) (hc : ∀ w,Calls P f args w (Ret v w))
    (hk : wpSg P ops Q (Hp X w0 H) N rest (a.put (some d) v) w) : wpPG P ops Q (Hp X w0 H) N rest ⟨some d,.call c,tp,pos,af,gd⟩ a w :=
  ⟨v,hp,.inl ⟨hw,f,args,he,hc⟩,hk⟩
theorem Qgu {z : Value} (hq : Hp X w0 Hq w) (hs : List.Sublist H Hq) (hw : Region.wanted ⟨some d,.alloc ty,tp,pos,af,gd⟩ (yielded ops a.tmps) = true) (hz : ZeroTy P ty z) {vs : List Value} (hv : z.cells = vs.toArray)
    (hk : ∀ g w1,Hp X w0 H w1 → Hp X w0 (⟨g,ty,vs⟩ :: Hq) w1 → wpSg P ops Q (Hp X w0 H) N rest (a.put (some d) (.pointer (some ⟨g,0,none⟩))) w1) : wpLG P ops Q (Hp X w0 H) N i rest ⟨some d,.alloc ty,tp,pos,af,gd⟩ a w := by
  refine sg_loud hw fun w1 hk1 => ?_
  have hq := hq.call hk1
  unfold Oper.wp
  have hr : (Instr.alloc ty true (.tuple #[])).run P w1 = .ok (.pointer (some ⟨w1.heap.size,0,none⟩)) (w1.alloc (.cells vs.toArray ty)) := by
    simp [Instr.alloc,newVar,newRow,hv,hz.zero]
  simp only [execOp,Sem.run_bind,Result.andThen_ok,hr]
  have h1 := hq.alloc ty vs
  have h2 : Hp X w0 H (w1.alloc (.cells vs.toArray ty)) := h1.sub (hs.cons _)
  exact ⟨fun _ => h2,hk _ _ h2 h1⟩
/-- A store that is among N: behind it S is not asked any more. -/
theorem Qja {x : Operand} {S : World → Prop} (hq : Hp X w0 Hq w) (hw : Region.wanted ⟨none,.store ty (.tmp p) x,tp,pos,af,gd⟩ (yielded ops a.tmps) = true)
    (hx : a.eval (.tmp p) = .pointer (some ⟨g,off,none⟩)) {v : Value} (hxv : a.eval x = v) {vs : List Value} (hv : v.cells = vs.toArray) (hn : ∀ w,(sizeOf ty).run P w = .ok n w) (hvn : vs.length = n)
    {cs' : List Value} (_h0 : Has Hq g t cs) (hcs : cs.take off ++ vs ++ cs.drop (off + n) = cs') (hle : off + n ≤ cs.length) (h1 : vs.all (·.oneCell') = true) (h : Upd Hq g t cs cs' H') (hN : N.contains i = true)
    (hk : ∀ w1,Hp X w0 H' w1 → wpSg P ops Q S N rest a w1) : wpLG P ops Q S N i rest ⟨none,.store ty (.tmp p) x,tp,pos,af,gd⟩ a w := by
  subst hcs
  refine sg_loud hw fun w9 hk9 => ?_
  have hq := hq.call hk9
  obtain ⟨w1,hr,hp1⟩ := Qdv (P := P) hq (off := off) hv hn hvn hle h1 (h := h)
  unfold Oper.wp
  simp only [execOp,hx,hxv,Instr.storeAt,Instr.sureAddr,Sem.run_bind,Sem.run_pure,Result.andThen_ok,hr]
  exact ⟨fun hn => absurd (by simpa using hN) hn,hk w1 hp1⟩
/-- A store into a block that S does not name. -/
theorem Qdw {x : Operand} (hq : Hp X w0 Hq w) (hw : Region.wanted ⟨none,.store ty (.tmp p) x,tp,pos,af,gd⟩ (yielded ops a.tmps) = true)
    (hx : a.eval (.tmp p) = .pointer (some ⟨g,off,none⟩)) {v : Value} (hxv : a.eval x = v) {vs : List Value} (hv : v.cells = vs.toArray) (hn : ∀ w,(sizeOf ty).run P w = .ok n w) (hvn : vs.length = n)
    {cs' : List Value} (_h0 : Has Hq g t cs) (hcs : cs.take off ++ vs ++ cs.drop (off + n) = cs') (hle : off + n ≤ cs.length) (h1 : vs.all (·.oneCell') = true) (h : Upd Hq g t cs cs' H') (hs : List.Sublist H H')
    (hk : ∀ w1,Hp X w0 H w1 → Hp X w0 H' w1 → wpSg P ops Q (Hp X w0 H) N rest a w1) : wpLG P ops Q (Hp X w0 H) N i rest ⟨none,.store ty (.tmp p) x,tp,pos,af,gd⟩ a w := by
  subst hcs
  refine sg_loud hw fun w9 hk9 => ?_
  have hq := hq.call hk9
  obtain ⟨w1,hr,hp1⟩ := Qdv (P := P) hq (off := off) hv hn hvn hle h1 (h := h)
  unfold Oper.wp
  simp only [execOp,hx,hxv,Instr.storeAt,Instr.sureAddr,Sem.run_bind,Sem.run_pure,Result.andThen_ok,hr]
  exact ⟨fun _ => hp1.sub hs,hk w1 (hp1.sub hs) hp1⟩
theorem Qcs {z : Nat × Nat} {N : List Nat} {rest : Sg} {gd : Option (Nat × Bool)} (hp : Hp [] w0 H w) (hw : Region.wanted ⟨some d,.load ty (.tmp p),tp,pos,af,gd⟩ (yielded ops a.tmps) = true)
    (hx : a.eval (.tmp p) = .pointer (some ⟨g,off,none⟩)) (hb : w0.heap[g]? = some (.cells cs.toArray t z)) (ht : AggTy P ty n) {vs : List Value} (hvs : (cs.drop off).take n = vs) (hle : off + n ≤ cs.length)
    (hk : wpSg P ops Q (Hp [] w0 H) N rest (a.put (some d) (.agg vs.toArray)) w) : wpQG P ops Q (Hp [] w0 H) N rest ⟨some d,.load ty (.tmp p),tp,pos,af,gd⟩ a w := by
  refine ⟨.agg vs.toArray,hp,.inl ⟨hw,fun w hp => ?_⟩,hk⟩
  simp only [execOp,hx,Instr.loadAt,Instr.sureAddr,Sem.run_bind,Sem.run_pure,Result.andThen_ok,Qes hp.keep hb hle hvs]
theorem Qob {z : Nat × Nat} {N : List Nat} {rest : Sg} {gd : Option (Nat × Bool)} (hp : Hp [] w0 H w) (hw : Region.wanted ⟨some d,.load ty (.tmp p),tp,pos,af,gd⟩ (yielded ops a.tmps) = true)
    (hx : a.eval (.tmp p) = .pointer (some ⟨g,off,none⟩)) (hb : w0.heap[g]? = some (.cells cs.toArray t z)) (ht : OneTy P ty) {v : Value} (hv : cs[off]? = some v)
    (hk : wpSg P ops Q (Hp [] w0 H) N rest (a.put (some d) v) w) : wpQG P ops Q (Hp [] w0 H) N rest ⟨some d,.load ty (.tmp p),tp,pos,af,gd⟩ a w := by
  refine ⟨v,hp,.inl ⟨hw,fun w hp => ?_⟩,hk⟩
  simp only [execOp,hx,Instr.loadAt,Instr.sureAddr,Sem.run_bind,Sem.run_pure,Result.andThen_ok,Qeb hp.keep hb hv]
theorem Qcj {X : List Nat} {N : List Nat} {rest : Sg} {gd : Option (Nat × Bool)} {x y : Operand} {e : TypeId} {m len cap : Nat} {k : Int} (hp : Hp X w0 H w) (hw : Region.wanted ⟨some d,.indexAddr t x y,tp,pos,af,gd⟩ (yielded ops a.tmps) = true) (hx : a.eval x = .slice (some ⟨g,off,none⟩) len cap) (hy : a.eval y = .int .i64 k) (ht : Qfk P t e) (hs : ∀ w,(sizeOf e).run P w = .ok m w) (h0 : 0 ≤ k) (h1 : k < len)
    {off' : Nat} (ho : off + k.toNat * m = off') (hk : wpSg P ops Q (Hp X w0 H) N rest (a.put (some d) (.pointer (some ⟨g,off',none⟩))) w) : wpQG P ops Q (Hp X w0 H) N rest ⟨some d,.indexAddr t x y,tp,pos,af,gd⟩ a w := by
  subst ho
  refine Qjo hp hw (fun w => ?_) hk
  simp only [execOp,hx,hy,Sem.run_bind,Sem.run_pure,Result.andThen_ok,Qdi hs h0 h1]
end
end Go.Proofs.YtdfdmeoalbpcdaaGreat
