/-
  The nearest point of a body of points: there is one, and but one; what is found by choices in order (plain).
-/
import Derived.Test.YtdfdmeoalbpcdaaGreatPa
import Derived.Test.YtdfdmeoalbpcdaaGreatBk
set_option linter.unusedSimpArgs false
set_option linter.unusedVariables false
set_option linter.unusedSectionVars false
namespace Go.Proofs.YtdfdmeoalbpcdaaGreat
open Go Go.RowKit
/-! ### Points, added -/
theorem Qcr {a b : P3} (h1 : a.x = b.x) (h2 : a.y = b.y) (h3 : a.z = b.z) : a = b := by
  obtain ⟨_,_,_⟩ := a;obtain ⟨_,_,_⟩ := b;simp only at *;subst h1;subst h2;subst h3;rfl
theorem dotc (a b : P3) : a.dot b = b.dot a := by simp only [P3.dot];grind
theorem dotA (a b c : P3) : a.dot (b.add c) = a.dot b + a.dot c := by simp only [P3.dot,P3.add];grind
theorem dotB (a b c : P3) : (a.add b).dot c = a.dot c + b.dot c := by simp only [P3.dot,P3.add];grind
theorem dotS (k : Int) (a b : P3) : a.dot (b.scale k) = k * a.dot b := by simp only [P3.dot,P3.scale];grind
theorem dotT (k : Int) (a b : P3) : (a.scale k).dot b = k * a.dot b := by simp only [P3.dot,P3.scale];grind
theorem dotU (a b c : P3) : a.dot (b.sub c) = a.dot b - a.dot c := by simp only [P3.dot,P3.sub];grind
theorem dotV (a b c : P3) : (a.sub b).dot c = a.dot c - b.dot c := by simp only [P3.dot,P3.sub];grind
theorem dotO (a : P3) : a.dot ⟨0,0,0⟩ = 0 := by simp [P3.dot]
theorem dot_zero {n : P3} (h : n.dot n = 0) : n = ⟨0,0,0⟩ := by
  have sq : ∀ x : Int,0 ≤ x * x := fun x => by
    rcases Int.le_total 0 x with h|h
    · exact Int.mul_nonneg h h
    · have := Int.mul_nonneg (Int.neg_nonneg_of_nonpos h) (Int.neg_nonneg_of_nonpos h);rw [Int.neg_mul_neg] at this;exact this
  have h1 := sq n.x;have h2 := sq n.y;have h3 := sq n.z
  unfold P3.dot at h
  have e : ∀ x : Int,x * x = 0 → x = 0 := fun x hx => by rcases Int.mul_eq_zero.1 hx with h|h <;> exact h
  exact Qcr (e _ (by omega)) (e _ (by omega)) (e _ (by omega))
/-! ### Points by weights -/
/-- The sum of points by weights. -/
def cmb : List Int → List P3 → P3
  | w :: ws,p :: ps => (p.scale w).add (cmb ws ps)
  | _,_ => ⟨0,0,0⟩
def tot : List Int → Int
  | [] => 0
  | w :: ws => w + tot ws
theorem Qje (m : P3) (w : Int) (ws : List Int) (p : P3) (ps : List P3) : m.dot (cmb (w :: ws) (p :: ps)) = w * m.dot p + m.dot (cmb ws ps) := by
  rw [cmb,dotA,dotS]
theorem Qii : ∀ (va : List Int) (A : List P3) (vb : List Int) (B : List P3),va.length = A.length → cmb (va ++ vb) (A ++ B) = (cmb va A).add (cmb vb B)
  | [],[],vb,B,_ => by simp [cmb,P3.add]
  | v :: va,a :: A,vb,B,h => by
    have := Qii va A vb B (by simpa using h)
    simp only [List.cons_append,cmb,this]
    apply Qcr <;> simp only [P3.add] <;> omega
  | [],_ :: _,_,_,h => by simp at h
  | _ :: _,[],_,_,h => by simp at h
theorem Qjp : ∀ va vb : List Int,tot (va ++ vb) = tot va + tot vb
  | [],vb => by simp [tot]
  | v :: va,vb => by simp only [List.cons_append,tot,Qjp va vb];omega
theorem Qib : ∀ {ws : List Int},(∀ w ∈ ws,0 ≤ w) → 0 ≤ tot ws
  | [],_ => Int.le_refl _
  | w :: ws,h => by
    have := Qib (ws := ws) (fun x hx => h x (List.mem_cons_of_mem _ hx))
    have := h w (List.mem_cons_self ..)
    unfold tot;omega
/-- What holds of all points, with weights from 0 on, holds of their sum. -/
theorem cmb_ge {m : P3} {a k : Int} : ∀ {ws : List Int} {S : List P3},ws.length = S.length → (∀ w ∈ ws,0 ≤ w) → (∀ p ∈ S,a ≤ k * m.dot p) → tot ws * a ≤ k * m.dot (cmb ws S)
  | [],[],_,_,_ => by simp [tot,cmb,dotO]
  | w :: ws,p :: S,hl,hw,hp => by
    have ih := cmb_ge (m := m) (a := a) (k := k) (ws := ws) (S := S) (by simpa using hl) (fun x hx => hw x (List.mem_cons_of_mem _ hx)) (fun x hx => hp x (List.mem_cons_of_mem _ hx))
    have h1 := Int.mul_le_mul_of_nonneg_left (hp p (List.mem_cons_self ..)) (hw w (List.mem_cons_self ..))
    rw [Qje,tot]
    have e1 : (w + tot ws) * a = w * a + tot ws * a := by grind
    have e2 : k * (w * m.dot p + m.dot (cmb ws S)) = w * (k * m.dot p) + k * m.dot (cmb ws S) := by grind
    omega
  | [],_ :: _,h,_,_ => by simp at h
  | _ :: _,[],h,_,_ => by simp at h
theorem cmb_eq {m : P3} {a k : Int} : ∀ {ws : List Int} {S : List P3},ws.length = S.length → (∀ p ∈ S,k * m.dot p = a) → k * m.dot (cmb ws S) = tot ws * a
  | [],[],_,_ => by simp [tot,cmb,dotO]
  | w :: ws,p :: S,hl,hp => by
    have ih := cmb_eq (m := m) (a := a) (k := k) (ws := ws) (S := S) (by simpa using hl) (fun x hx => hp x (List.mem_cons_of_mem _ hx))
    have h1 := hp p (List.mem_cons_self ..)
    rw [Qje,tot]
    grind
  | [],_ :: _,h,_ => by simp at h
  | _ :: _,[],h,_ => by simp at h
/-- None of the points is past X by d. -/
def Nopast (X : P3) (d : Int) (l : List P3) : Prop := ∀ p ∈ l,X.dot X ≤ d * X.dot p
/-! ### The nearest one of a plane -/
def Spn : List P3 → P3 → Prop
  | [],u => u = ⟨0,0,0⟩
  | e :: E,u => ∃ c : Int,Spn E (u.sub (e.scale c))
theorem Spn.lin : ∀ {E : List P3} {u v : P3} (a b : Int),Spn E u → Spn E v → Spn E ((u.scale a).add (v.scale b))
  | [],u,v,a,b,hu,hv => by
    unfold Spn at *;subst hu;subst hv;simp [P3.scale,P3.add]
  | e :: E,u,v,a,b,⟨c,hc⟩,⟨d,hd⟩ => by
    refine ⟨a * c + b * d,?_⟩
    have := Spn.lin a b hc hd
    have e1 : (((u.sub (e.scale c)).scale a).add ((v.sub (e.scale d)).scale b)) = ((u.scale a).add (v.scale b)).sub (e.scale (a * c + b * d)) := by
      apply Qcr <;> simp only [P3.add,P3.sub,P3.scale] <;> grind
    rwa [e1] at this
theorem Spn.orth : ∀ {E : List P3} {u v : P3},(∀ e ∈ E,v.dot e = 0) → Spn E u → v.dot u = 0
  | [],u,v,_,hu => by unfold Spn at hu;subst hu;exact dotO v
  | e :: E,u,v,h,⟨c,hc⟩ => by
    have := Spn.orth (fun x hx => h x (List.mem_cons_of_mem _ hx)) hc
    rw [dotU,dotS,h e (List.mem_cons_self ..)] at this
    omega
theorem Spn.zero : ∀ E : List P3,Spn E ⟨0,0,0⟩
  | [] => rfl
  | e :: E => ⟨0,by
    have : (⟨0,0,0⟩ : P3).sub (e.scale 0) = ⟨0,0,0⟩ := by simp [P3.sub,P3.scale]
    rw [this];exact Spn.zero E⟩
theorem proj : ∀ (E : List P3) (v : P3),∃ (L : Int) (u : P3),0 < L ∧ Spn E u ∧ ∀ e ∈ E,((v.scale L).add u).dot e = 0
  | [],v => ⟨1,⟨0,0,0⟩,by omega,rfl,by simp⟩
  | e :: E,v => by
    obtain ⟨L1,u1,hL1,hu1,h1⟩ := proj E v
    obtain ⟨L2,u2,hL2,hu2,h2⟩ := proj E e
    have o1 := Spn.orth h1 hu2
    have o2 := Spn.orth h2 hu2
    by_cases hs : ((e.scale L2).add u2).dot ((e.scale L2).add u2) = 0
    · have hz := dot_zero hs
      refine ⟨L1,u1,hL1,⟨0,?_⟩,?_⟩
      · have : u1.sub (e.scale 0) = u1 := by apply Qcr <;> simp [P3.sub,P3.scale]
        rwa [this]
      · intro x hx
        rcases List.mem_cons.1 hx with rfl|hx
        · have h3 : ((v.scale L1).add u1).dot ((x.scale L2).add u2) = 0 := by rw [hz,dotO]
          rw [dotA,o1,dotS] at h3
          rcases Int.mul_eq_zero.1 (show L2 * ((v.scale L1).add u1).dot x = 0 by omega) with h|h
          · omega
          · exact h
        · exact h1 x hx
    · have hpos : 0 < ((e.scale L2).add u2).dot ((e.scale L2).add u2) := by
        have := Qej ((e.scale L2).add u2);omega
      generalize hs' : ((e.scale L2).add u2).dot ((e.scale L2).add u2) = s at *
      generalize ht' : ((v.scale L1).add u1).dot ((e.scale L2).add u2) = t at *
      have hv'' : ((v.scale (s * L1)).add (((u1.scale s).add (u2.scale (-t))).sub (e.scale (t * L2)))) = (((v.scale L1).add u1).scale s).sub (((e.scale L2).add u2).scale t) := by
        apply Qcr <;> simp only [P3.add,P3.sub,P3.scale] <;> grind
      refine ⟨s * L1,((u1.scale s).add (u2.scale (-t))).sub (e.scale (t * L2)),Int.mul_pos hpos hL1,⟨-(t * L2),?_⟩,?_⟩
      · have : (((u1.scale s).add (u2.scale (-t))).sub (e.scale (t * L2))).sub (e.scale (-(t * L2))) = (u1.scale s).add (u2.scale (-t)) := by
          apply Qcr <;> simp only [P3.add,P3.sub,P3.scale] <;> grind
        rw [this]
        exact Spn.lin s (-t) hu1 hu2
      · rw [hv'']
        intro x hx
        rcases List.mem_cons.1 hx with rfl|hx
        · have h3 : ((((v.scale L1).add u1).scale s).sub (((x.scale L2).add u2).scale t)).dot ((x.scale L2).add u2) = 0 := by
            rw [dotV,dotT,dotT,ht',hs'];grind
          have h4 : ((((v.scale L1).add u1).scale s).sub (((x.scale L2).add u2).scale t)).dot u2 = 0 := by
            rw [dotV,dotT,dotT,o1,o2];grind
          rw [dotA,h4,dotS] at h3
          rcases Int.mul_eq_zero.1 (show L2 * ((((v.scale L1).add u1).scale s).sub (((x.scale L2).add u2).scale t)).dot x = 0 by omega) with h|h
          · omega
          · exact h
        · rw [dotV,dotT,dotT,h1 x hx,h2 x hx];grind
theorem Spn.weights (p0 : P3) : ∀ (T : List P3) (u : P3),Spn (T.map (·.sub p0)) u → ∃ cs : List Int,cs.length = T.length ∧ u = (cmb cs T).sub (p0.scale (tot cs))
  | [],u,h => ⟨[],rfl,by simp only [List.map_nil,Spn] at h;subst h;simp [cmb,tot,P3.sub,P3.scale]⟩
  | p :: T,u,h => by
    simp only [List.map_cons,Spn] at h
    obtain ⟨c,hc⟩ := h
    obtain ⟨cs,hl,e⟩ := Spn.weights p0 T _ hc
    refine ⟨c :: cs,by simp [hl],?_⟩
    simp only [P3.sub,P3.scale,P3.mk.injEq] at e
    apply Qcr <;> simp only [cmb,tot,P3.add,P3.sub,P3.scale] <;> grind
/-- The nearest one of the plane of any points. -/
theorem plane_min : ∀ (T : List P3),T ≠ [] → ∃ ls : List Int,ls.length = T.length ∧ 0 < tot ls ∧ ∀ p ∈ T,tot ls * (cmb ls T).dot p = (cmb ls T).dot (cmb ls T)
  | [],h => absurd rfl h
  | p0 :: T,_ => by
    obtain ⟨L,u,hL,hu,ho⟩ := proj (T.map (·.sub p0)) p0
    obtain ⟨cs,hl,e⟩ := Spn.weights p0 T u hu
    have ht : tot ((L - tot cs) :: cs) = L := by simp only [tot];omega
    have hZ : cmb ((L - tot cs) :: cs) (p0 :: T) = (p0.scale L).add u := by
      rw [e];apply Qcr <;> simp only [cmb,P3.add,P3.sub,P3.scale] <;> grind
    have hc : ∀ p ∈ p0 :: T,1 * ((p0.scale L).add u).dot p = ((p0.scale L).add u).dot p0 := by
      intro p hp
      rcases List.mem_cons.1 hp with rfl|hp
      · omega
      · have := ho (p.sub p0) (List.mem_map_of_mem hp)
        rw [dotU] at this
        omega
    have hq := cmb_eq (ws := (L - tot cs) :: cs) (by simp [hl]) hc
    rw [hZ,ht] at hq
    refine ⟨(L - tot cs) :: cs,by simp [hl],by omega,?_⟩
    intro p hp
    have := hc p hp
    rw [ht,hZ]
    rw [Int.one_mul] at this hq
    rw [this,hq]
/-! ### Going until a weight is none -/
theorem Qma (a b : Int) : a < b ∨ b ≤ a := by omega
/-- Weights from 0 on, changed by others until one is 0. -/
def mix (a b : Int) : List Int → List Int → List Int
  | w :: ws,l :: ls => (a * w + b * l) :: mix a b ws ls
  | _,_ => []
theorem Qjj (a b : Int) : ∀ {ws ls : List Int} {n : Nat},ws.length = n → ls.length = n → (mix a b ws ls).length = n
  | [],[],n,h,_ => h
  | w :: ws,l :: ls,n + 1,h,h' => by
    have := Qjj a b (ws := ws) (ls := ls) (n := n) (by simpa using h) (by simpa using h')
    simp [mix,this]
  | w :: ws,l :: ls,0,h,_ => by simp at h
  | [],_ :: _,n,h,h' => by simp at h h';omega
  | _ :: _,[],n,h,h' => by simp at h h';omega
theorem Qnn (a b : Int) : ∀ {ws ls : List Int},ws.length = ls.length → tot (mix a b ws ls) = a * tot ws + b * tot ls
  | [],[],_ => by simp [mix,tot]
  | w :: ws,l :: ls,h => by
    have := Qnn a b (ws := ws) (ls := ls) (by simpa using h)
    simp only [mix,tot,this];grind
  | [],_ :: _,h => by simp at h
  | _ :: _,[],h => by simp at h
theorem Qmx (a b : Int) : ∀ {ws ls : List Int} {S : List P3},ws.length = S.length → ls.length = S.length → cmb (mix a b ws ls) S = ((cmb ws S).scale a).add ((cmb ls S).scale b)
  | [],[],[],_,_ => by simp [mix,cmb,P3.scale,P3.add]
  | w :: ws,l :: ls,p :: S,h,h' => by
    have := Qmx a b (ws := ws) (ls := ls) (S := S) (by simpa using h) (by simpa using h')
    simp only [mix,cmb,this]
    apply Qcr <;> simp only [P3.add,P3.scale] <;> grind
  | [],_ :: _,_,h,h' => by simp at h h';omega
  | _ :: _,[],_,h,h' => by simp at h h';omega
  | [],[],_ :: _,h,h' => by simp at h
  | _ :: _,_ :: _,[],h,h' => by simp at h
theorem mix_app (a b : Int) : ∀ (wa la : List Int) (wb lb' : List Int),wa.length = la.length → mix a b (wa ++ wb) (la ++ lb') = mix a b wa la ++ mix a b wb lb'
  | [],[],wb,lb',_ => rfl
  | w :: wa,l :: la,wb,lb',h => by
    have := mix_app a b wa la wb lb' (by simpa using h)
    simp only [List.cons_append,mix,this]
  | [],_ :: _,_,_,h => by simp at h
  | _ :: _,[],_,_,h => by simp at h
theorem div_ray {w m w' m' v l : Int} (hv : 0 ≤ v) (hm : m < 0) (hm' : m' < 0) (hw' : 0 ≤ w) (h : w * -m' ≤ w' * -m) (h1 : 0 ≤ v * -m' + w' * l) : 0 ≤ v * -m + w * l := by
  rcases Int.le_total 0 l with hl|hl
  · have := Int.mul_nonneg hw' hl
    have := Int.mul_nonneg hv (show 0 ≤ -m by omega)
    omega
  · have a1 := Int.mul_le_mul_of_nonneg_right h (show 0 ≤ -l by omega)
    have a2 := Int.mul_nonneg h1 (show 0 ≤ -m by omega)
    have e1 : (v * -m' + w' * l) * -m = -m' * (v * -m) - w' * -m * -l := by grind
    have e2 : w * -m' * -l = -(-m' * (w * l)) := by grind
    have a3 : 0 ≤ -m' * (v * -m + w * l) := by
      rw [Int.mul_add];omega
    rcases Qma (v * -m + w * l) 0 with h|h
    · have := Int.mul_neg_of_pos_of_neg (show 0 < -m' by omega) h
      omega
    · exact h
theorem ray : ∀ {ws ls : List Int},ws.length = ls.length → (∀ w ∈ ws,0 ≤ w) → (∃ l ∈ ls,l < 0) → ∃ wa w wb la l lb',ws = wa ++ w :: wb ∧ ls = la ++ l :: lb' ∧ wa.length = la.length ∧ 0 ≤ w ∧ l < 0 ∧ ∀ v ∈ mix (-l) w ws ls,0 ≤ v
  | [],[],_,_,h => by obtain ⟨l,h,_⟩ := h;simp at h
  | w :: ws,l :: ls,hl,hw,hn => by
    have hw0 := hw w (List.mem_cons_self ..)
    by_cases ht : ∃ l ∈ ls,l < 0
    · obtain ⟨wa,w',wb,la,l',lb',e1,e2,e3,hw',hl',hall⟩ := ray (ws := ws) (ls := ls) (by simpa using hl) (fun x hx => hw x (List.mem_cons_of_mem _ hx)) ht
      by_cases hc : l < 0 ∧ w * -l' ≤ w' * -l
      · refine ⟨[],w,ws,[],l,ls,rfl,rfl,rfl,hw0,hc.1,?_⟩
        intro v hv
        have key : ∀ {xs ys : List Int},(∀ x ∈ xs,0 ≤ x) → (∀ v ∈ mix (-l') w' xs ys,0 ≤ v) → ∀ v ∈ mix (-l) w xs ys,0 ≤ v := by
          intro xs
          induction xs with
          | nil => intro ys _ _ v hv;simp [mix] at hv
          | cons x xs ih =>
            intro ys hx h v hv
            cases ys with
            | nil => simp [mix] at hv
            | cons y ys =>
              simp only [mix,List.mem_cons] at hv h
              rcases hv with rfl|hv
              · have := h _ (Or.inl rfl)
                have := div_ray (hx x (List.mem_cons_self ..)) hc.1 hl' hw0 hc.2 (show 0 ≤ x * -l' + w' * y by rw [Int.mul_comm x];exact this)
                rw [Int.mul_comm (-l)];exact this
              · exact ih (fun z hz => hx z (List.mem_cons_of_mem _ hz)) (fun z hz => h z (Or.inr hz)) v hv
        simp only [mix,List.mem_cons] at hv
        rcases hv with rfl|hv
        · have : -l * w + w * l = 0 := by grind
          omega
        · exact key (fun x hx => hw x (List.mem_cons_of_mem _ hx)) hall v hv
      · refine ⟨w :: wa,w',wb,l :: la,l',lb',by rw [e1];rfl,by rw [e2];rfl,by simp [e3],hw',hl',?_⟩
        intro v hv
        simp only [mix,List.mem_cons] at hv
        rcases hv with rfl|hv
        · rcases Qma l 0 with h|h
          · have h' : ¬ (w * -l' ≤ w' * -l) := fun h' => hc ⟨h,h'⟩
            have e1 : w' * -l = -(w' * l) := by grind
            have e2 : -l' * w = w * -l' := Int.mul_comm _ _
            omega
          · have := Int.mul_nonneg (show 0 ≤ -l' by omega) hw0
            have := Int.mul_nonneg hw' h
            omega
        · exact hall v hv
    · have hl0 : l < 0 := by
        obtain ⟨x,hx,hx0⟩ := hn
        rcases List.mem_cons.1 hx with rfl|hx
        · exact hx0
        · exact absurd ⟨x,hx,hx0⟩ ht
      refine ⟨[],w,ws,[],l,ls,rfl,rfl,rfl,hw0,hl0,?_⟩
      have key : ∀ {xs ys : List Int},(∀ x ∈ xs,0 ≤ x) → (∀ y ∈ ys,0 ≤ y) → ∀ v ∈ mix (-l) w xs ys,0 ≤ v := by
        intro xs
        induction xs with
        | nil => intro ys _ _ v hv;simp [mix] at hv
        | cons x xs ih =>
          intro ys hx h v hv
          cases ys with
          | nil => simp [mix] at hv
          | cons y ys =>
            simp only [mix,List.mem_cons] at hv
            rcases hv with rfl|hv
            · have := Int.mul_nonneg (show 0 ≤ -l by omega) (hx x (List.mem_cons_self ..))
              have := Int.mul_nonneg hw0 (h y (List.mem_cons_self ..))
              omega
            · exact ih (fun z hz => hx z (List.mem_cons_of_mem _ hz)) (fun z hz => h z (List.mem_cons_of_mem _ hz)) v hv
      intro v hv
      simp only [mix,List.mem_cons] at hv
      rcases hv with rfl|hv
      · have : -l * w + w * l = 0 := by grind
        omega
      · exact key (fun x hx => hw x (List.mem_cons_of_mem _ hx)) (fun y hy => by
          rcases Qma y 0 with h|h
          · exact absurd ⟨y,hy,h⟩ ht
          · exact h) v hv
  | [],_ :: _,h,_,_ => by simp at h
  | _ :: _,[],h,_,_ => by simp at h
/-! ### There is a nearest one -/
/-- Weights of a nearest one of T. -/
structure Kkt (T : List P3) (ws : List Int) : Prop where
  len : ws.length = T.length
  pos : ∀ w ∈ ws,0 ≤ w
  tpos : 0 < tot ws
  no : Nopast (cmb ws T) (tot ws) T
theorem far_norm {X V : P3} {d t : Int} (ht : 0 ≤ t) (h : t * X.dot X ≤ d * X.dot V) : t * t * X.dot X ≤ d * d * V.dot V := by
  have h0 := Qej ((V.scale d).sub (X.scale t))
  have e0 : ((V.scale d).sub (X.scale t)).dot ((V.scale d).sub (X.scale t)) = d * d * V.dot V - 2 * (t * (d * X.dot V)) + t * (t * X.dot X) := by
    simp only [dotU,dotV,dotS,dotT,dotc V X];grind
  have h1 := Int.mul_le_mul_of_nonneg_left h ht
  have e1 : t * t * X.dot X = t * (t * X.dot X) := by grind
  omega
theorem argmin (F : Nat → Int) (D : Nat → Int) (hD : ∀ i,0 < D i) : ∀ n : Nat,∃ i,i < n + 1 ∧ ∀ j,j < n + 1 → F i * D j ≤ F j * D i
  | 0 => ⟨0,by omega,fun j hj => by rw [show j = 0 by omega];exact Int.le_refl _⟩
  | n + 1 => by
    obtain ⟨i,hi,h⟩ := argmin F D hD n
    by_cases hc : F i * D (n + 1) ≤ F (n + 1) * D i
    · refine ⟨i,by omega,fun j hj => ?_⟩
      rcases Nat.lt_or_ge j (n + 1) with h' | h'
      · exact h j h'
      · rw [show j = n + 1 by omega];exact hc
    · refine ⟨n + 1,by omega,fun j hj => ?_⟩
      rcases Nat.lt_or_ge j (n + 1) with h' | h'
      · have a1 := Int.mul_le_mul_of_nonneg_right (h j h') (Int.le_of_lt (hD (n + 1)))
        have a2 := Int.mul_le_mul_of_nonneg_right (Int.le_of_lt (Int.not_le.1 hc)) (Int.le_of_lt (hD j))
        have e1 : F (n + 1) * D i * D j = D i * (F (n + 1) * D j) := by grind
        have e2 : F i * D (n + 1) * D j = F i * D j * D (n + 1) := by grind
        have e3 : F j * D i * D (n + 1) = D i * (F j * D (n + 1)) := by grind
        exact Int.le_of_mul_le_mul_left (show D i * (F (n + 1) * D j) ≤ D i * (F j * D (n + 1)) by omega) (hD i)
      · rw [show j = n + 1 by omega];exact Int.le_refl _
theorem Qmv {T : List P3} {i : Nat} (h : i < T.length) : ∃ A p B,T = A ++ p :: B ∧ A.length = i ∧ T.eraseIdx i = A ++ B :=
  ⟨T.take i,T[i],T.drop (i + 1),by rw [List.getElem_cons_drop,List.take_append_drop],by simp;omega,List.eraseIdx_eq_take_drop_succ ..⟩
/-- Weights with 0 put in. -/
theorem put_zero {A B : List P3} {p : P3} {ws : List Int} (h : ws.length = (A ++ B).length) (c : Int) : ∃ va vb,ws = va ++ vb ∧ va.length = A.length ∧ vb.length = B.length ∧ (va ++ c :: vb).length = (A ++ p :: B).length ∧ tot (va ++ c :: vb) = tot ws + c ∧ cmb (va ++ c :: vb) (A ++ p :: B) = (cmb ws (A ++ B)).add (p.scale c) := by
  have hl : ws.length = A.length + B.length := by simpa using h
  have e : ws = ws.take A.length ++ ws.drop A.length := (List.take_append_drop ..).symm
  have h1 : (ws.take A.length).length = A.length := by simp;omega
  have h2 : (ws.drop A.length).length = B.length := by simp;omega
  generalize ws.take A.length = va at *
  generalize ws.drop A.length = vb at *
  subst e
  refine ⟨va,vb,rfl,h1,h2,by simp [h1,h2],by simp only [Qjp,tot];omega,?_⟩
  rw [Qii _ _ _ _ h1,Qii _ _ _ _ h1]
  apply Qcr <;> simp only [cmb,P3.add,P3.scale] <;> omega
/-- The step to a point that is past. -/
theorem step_past {X p : P3} {d : Int} (hd : 0 < d) (h : d * X.dot p < X.dot X) : ∃ a : Int,0 < a ∧ d * d * ((X.scale a).add p).dot ((X.scale a).add p) < X.dot X * ((a * d + 1) * (a * d + 1)) := by
  refine ⟨d * p.dot p + 1,?_,?_⟩
  · have := Int.mul_nonneg (Int.le_of_lt hd) (Qej p);omega
  · have hpp := Int.mul_nonneg (Int.le_of_lt hd) (Qej p)
    have hxx := Qej X
    have e0 : ((X.scale (d * p.dot p + 1)).add p).dot ((X.scale (d * p.dot p + 1)).add p) = (d * p.dot p + 1) * (d * p.dot p + 1) * X.dot X + 2 * (d * p.dot p + 1) * X.dot p + p.dot p := by
      simp only [dotA,dotB,dotS,dotT,dotc p X];grind
    rw [e0]
    generalize X.dot X = xx at *
    generalize X.dot p = xp at *
    have hq := Qej p
    generalize p.dot p = pp at *
    generalize ha : d * pp + 1 = a at *
    have e1 : xx * ((a * d + 1) * (a * d + 1)) - d * d * (a * a * xx + 2 * a * xp + pp) = 2 * (a * d * (xx - d * xp)) + xx - d * (d * pp) := by grind
    have h1 : a * d * 1 ≤ a * d * (xx - d * xp) := Int.mul_le_mul_of_nonneg_left (by omega) (Int.mul_nonneg (by omega) (by omega))
    have h2 : a * d = d * (d * pp) + d := by rw [← ha];grind
    have h3 := Int.mul_nonneg (Int.le_of_lt hd) hpp
    omega
theorem Qme : ∀ (n : Nat) (T : List P3),T.length = n + 1 → ∃ ws,Kkt T ws
  | 0,T,h => by
    match T,h with
    | [p],_ => exact ⟨[1],rfl,by simp,by simp [tot],by
        intro q hq
        simp only [List.mem_singleton] at hq
        subst hq
        have : cmb [1] [q] = q := by apply Qcr <;> simp [cmb,P3.scale,P3.add]
        rw [this];simp [tot]⟩
  | n + 1,T,h => by
    have ih : ∀ i,∃ ws,i < T.length → Kkt (T.eraseIdx i) ws := fun i => by
      by_cases hi : i < T.length
      · obtain ⟨ws,hws⟩ := Qme n (T.eraseIdx i) (by rw [List.length_eraseIdx_of_lt hi];omega)
        exact ⟨ws,fun _ => hws⟩
      · exact ⟨[],fun h => absurd h hi⟩
    obtain ⟨f,hf⟩ := Classical.axiomOfChoice ih
    by_cases hex : ∃ i,i < T.length ∧ ∃ p,T[i]? = some p ∧ (cmb (f i) (T.eraseIdx i)).dot (cmb (f i) (T.eraseIdx i)) ≤ tot (f i) * (cmb (f i) (T.eraseIdx i)).dot p
    · obtain ⟨i,hi,p,hp,hle⟩ := hex
      have hk := hf i hi
      obtain ⟨A,q,B,e,hA,eE⟩ := Qmv hi
      rw [eE] at hk hle
      have hqp : q = p := by
        rw [e,List.getElem?_append_right (by omega),hA] at hp
        simpa using hp
      subst hqp
      obtain ⟨va,vb,ew,h1,h2,h3,h4,h5⟩ := put_zero (p := q) hk.len 0
      rw [Int.add_zero] at h4
      have h5' : cmb (va ++ 0 :: vb) (A ++ q :: B) = cmb (f i) (A ++ B) := by
        rw [h5];apply Qcr <;> simp [P3.add,P3.scale]
      refine ⟨va ++ 0 :: vb,?_⟩
      rw [e]
      refine ⟨h3,?_,by rw [h4];exact hk.tpos,?_⟩
      · intro w hw
        have := hk.pos w
        rw [ew] at this
        simp only [List.mem_append,List.mem_cons] at hw this
        rcases hw with h|rfl|h
        · exact this (Or.inl h)
        · omega
        · exact this (Or.inr h)
      · intro x hx
        rw [h4,h5']
        have := hk.no x
        simp only [List.mem_append,List.mem_cons] at hx this
        rcases hx with h|rfl|h
        · exact this (Or.inl h)
        · exact hle
        · exact this (Or.inr h)
    · have hpast : ∀ i,i < T.length → ∀ p,T[i]? = some p → tot (f i) * (cmb (f i) (T.eraseIdx i)).dot p < (cmb (f i) (T.eraseIdx i)).dot (cmb (f i) (T.eraseIdx i)) := fun i hi p hp => Int.not_le.1 fun h => hex ⟨i,hi,p,hp,h⟩
      obtain ⟨i0,hi0,hmin⟩ := argmin (fun i => (cmb (f i) (T.eraseIdx i)).dot (cmb (f i) (T.eraseIdx i))) (fun i => if i < T.length then tot (f i) * tot (f i) else 1) (fun i => by
        split
        · rename_i hi;exact Int.mul_pos (hf i hi).tpos (hf i hi).tpos
        · omega) (n + 1)
      rw [← h] at hi0 hmin
      have hk := hf i0 hi0
      obtain ⟨A,p,B,e,hA,eE⟩ := Qmv hi0
      have hp0 : T[i0]? = some p := by rw [e,List.getElem?_append_right (by omega),hA];simp
      have hpp := hpast i0 hi0 p hp0
      obtain ⟨a,ha,hstep⟩ := step_past hk.tpos hpp
      -- the point on the way
      have hk' := hk
      rw [eE] at hk'
      have hmlen : (mix a 0 (f i0) (f i0)).length = (A ++ B).length := Qjj a 0 hk'.len hk'.len
      obtain ⟨va,vb,ew,h1,h2,h3,h4,h5⟩ := put_zero (p := p) hmlen 1
      rw [Qnn a 0 rfl] at h4
      rw [Qmx a 0 hk'.len hk'.len] at h5
      have hY : cmb (va ++ 1 :: vb) (A ++ p :: B) = ((cmb (f i0) (A ++ B)).scale a).add p := by
        rw [h5];apply Qcr <;> simp [P3.add,P3.scale]
      have hD : tot (va ++ 1 :: vb) = a * tot (f i0) + 1 := by rw [h4];omega
      have hypos : ∀ w ∈ va ++ 1 :: vb,0 ≤ w := by
        have hm : ∀ w ∈ mix a 0 (f i0) (f i0),0 ≤ w := by
          have : ∀ {xs ys : List Int},(∀ x ∈ xs,0 ≤ x) → ∀ w ∈ mix a 0 xs ys,0 ≤ w := by
            intro xs
            induction xs with
            | nil => intro ys _ w hw;simp [mix] at hw
            | cons x xs ihx =>
              intro ys hx w hw
              cases ys with
              | nil => simp [mix] at hw
              | cons y ys =>
                simp only [mix,List.mem_cons,Int.zero_mul,Int.add_zero] at hw
                rcases hw with rfl|hw
                · exact Int.mul_nonneg (Int.le_of_lt ha) (hx x (List.mem_cons_self ..))
                · exact ihx (fun z hz => hx z (List.mem_cons_of_mem _ hz)) w hw
          exact this hk'.pos
        intro w hw
        rw [ew] at hm
        simp only [List.mem_append,List.mem_cons] at hw hm
        rcases hw with h|rfl|h
        · exact hm w (Or.inl h)
        · omega
        · exact hm w (Or.inr h)
      obtain ⟨ls,hll,hL,hZ⟩ := plane_min T (by intro h0;rw [h0] at h;simp at h)
      by_cases hneg : ∃ l ∈ ls,l < 0
      · exfalso
        rw [← e] at hY h3
        generalize hws : va ++ 1 :: vb = wy at *
        obtain ⟨wa,w,wb,la,m,lb',e1,e2,e3,hw,hm,hall⟩ := ray (h3.trans hll.symm) hypos hneg
        have hmix := mix_app (-m) w wa la (w :: wb) (m :: lb') e3
        rw [← e1,← e2] at hmix
        have hz0 : mix (-m) w (w :: wb) (m :: lb') = 0 :: mix (-m) w wb lb' := by
          simp only [mix];rw [show -m * w + w * m = 0 by grind]
        rw [hz0] at hmix
        have hVt := Qnn (-m) w (h3.trans hll.symm)
        have hV := Qmx (-m) w h3 hll
        have hVlen := Qjj (-m) w h3 hll
        rw [hmix] at hVt hV hVlen hall
        have hj : wa.length < T.length := by
          have := congrArg List.length e1
          rw [h3] at this
          simp at this;omega
        obtain ⟨A',p',B',e',hA',eE'⟩ := Qmv hj
        have hkj := hf _ hj
        have hminj := hmin _ hj
        have hmva : (mix (-m) w wa la).length = A'.length := by rw [Qjj (-m) w rfl e3.symm,hA']
        have hmvb : (mix (-m) w wb lb').length = B'.length := by
          rw [e'] at hVlen
          simp at hVlen;omega
        rw [e',Qii _ _ _ _ hmva] at hV
        rw [Qjp] at hVt
        simp only [tot,cmb] at hVt hV
        have hge := cmb_ge (m := cmb (f wa.length) (T.eraseIdx wa.length)) (a := (cmb (f wa.length) (T.eraseIdx wa.length)).dot (cmb (f wa.length) (T.eraseIdx wa.length))) (k := tot (f wa.length)) (ws := mix (-m) w wa la ++ mix (-m) w wb lb') (S := T.eraseIdx wa.length) (by rw [eE'];simp [hmva,hmvb]) (by
          intro v hv
          refine hall v ?_
          simp only [List.mem_append,List.mem_cons] at hv ⊢
          rcases hv with h|h
          · exact Or.inl h
          · exact Or.inr (Or.inr h)) hkj.no
        have hVc : cmb (mix (-m) w wa la ++ mix (-m) w wb lb') (T.eraseIdx wa.length) = ((cmb wy T).scale (-m)).add ((cmb ls T).scale w) := by
          rw [eE',Qii _ _ _ _ hmva,e',← hV]
          apply Qcr <;> simp [P3.add,P3.scale]
        have hVtt : tot (mix (-m) w wa la ++ mix (-m) w wb lb') = -m * tot wy + w * tot ls := by
          rw [Qjp,← hVt];omega
        rw [hVc,hVtt] at hge
        have hDpos : 0 < tot wy := by rw [hD];have := Int.mul_pos ha hk.tpos;omega
        have hmD := Int.mul_pos (show 0 < -m by omega) hDpos
        have hwL := Int.mul_nonneg hw (Int.le_of_lt hL)
        have hfar := far_norm (by omega) hge
        -- the plane's nearest one is nearer
        have hZY := cmb_eq (ws := wy) h3 hZ
        have hb2 : tot wy * tot wy * (((cmb wy T).scale (-m)).add ((cmb ls T).scale w)).dot (((cmb wy T).scale (-m)).add ((cmb ls T).scale w)) ≤ (cmb wy T).dot (cmb wy T) * ((-m * tot wy + w * tot ls) * (-m * tot wy + w * tot ls)) := by
          have hfz := far_norm (X := cmb ls T) (V := cmb wy T) (d := tot ls) (t := tot wy) (by omega) (by omega)
          have e0 : (((cmb wy T).scale (-m)).add ((cmb ls T).scale w)).dot (((cmb wy T).scale (-m)).add ((cmb ls T).scale w)) = m * m * (cmb wy T).dot (cmb wy T) + 2 * (-m * w) * (cmb ls T).dot (cmb wy T) + w * w * (cmb ls T).dot (cmb ls T) := by
            simp only [dotA,dotB,dotS,dotT,dotc (cmb wy T) (cmb ls T)];grind
          rw [e0]
          generalize (cmb wy T).dot (cmb wy T) = YY at *
          generalize (cmb ls T).dot (cmb ls T) = ZZ at *
          generalize (cmb ls T).dot (cmb wy T) = ZY at *
          generalize tot wy = D at *
          generalize tot ls = L at *
          -- D * ZY ≤ L * YY
          have k1 : D * ZY ≤ L * YY := by
            have : L * (D * ZY) ≤ L * (L * YY) := by
              have : L * (D * ZY) = D * (L * ZY) := by grind
              rw [this,hZY]
              have e1 : D * (D * ZZ) = D * D * ZZ := by grind
              have e2 : L * (L * YY) = L * L * YY := by grind
              omega
            exact Int.le_of_mul_le_mul_left this hL
          have k2 := Int.mul_le_mul_of_nonneg_left k1 (show 0 ≤ 2 * ((-m * w) * D) by
            have := Int.mul_nonneg (Int.mul_nonneg (show 0 ≤ -m by omega) hw) (Int.le_of_lt hDpos);omega)
          have k3 := Int.mul_le_mul_of_nonneg_left hfz (Int.mul_nonneg hw hw)
          have e2 : D * D * (m * m * YY + 2 * (-m * w) * ZY + w * w * ZZ) = D * D * (m * m * YY) + 2 * ((-m * w) * D) * (D * ZY) + w * w * (D * D * ZZ) := by grind
          have e3 : YY * ((-m * D + w * L) * (-m * D + w * L)) = D * D * (m * m * YY) + 2 * ((-m * w) * D) * (L * YY) + w * w * (L * L * YY) := by grind
          omega
        rw [← eE] at hY
        rw [← hY,← hD] at hstep
        simp only [hi0,hj,if_true] at hminj
        -- the chain
        generalize (((cmb wy T).scale (-m)).add ((cmb ls T).scale w)).dot (((cmb wy T).scale (-m)).add ((cmb ls T).scale w)) = VV at *
        have hVpos : 0 < -m * tot wy + w * tot ls := by omega
        generalize -m * tot wy + w * tot ls = V at *
        generalize (cmb (f i0) (T.eraseIdx i0)).dot (cmb (f i0) (T.eraseIdx i0)) = X0 at *
        generalize (cmb (f wa.length) (T.eraseIdx wa.length)).dot (cmb (f wa.length) (T.eraseIdx wa.length)) = Xj at *
        have p0 := hk.tpos
        have pj := hkj.tpos
        generalize tot (f i0) = d0 at *
        generalize tot (f wa.length) = dj at *
        generalize (cmb wy T).dot (cmb wy T) = YY at *
        generalize tot wy = D at *
        have q0 := Int.mul_pos p0 p0
        have qj := Int.mul_pos pj pj
        have qV := Int.mul_pos hVpos hVpos
        have qD := Int.mul_pos hDpos hDpos
        generalize d0 * d0 = d02 at *
        generalize dj * dj = dj2 at *
        generalize V * V = V2 at *
        generalize D * D = D2 at *
        -- hfar: V2 * Xj ≤ dj2 * VV ;hb2 : D2 * VV ≤ YY * V2 ;hstep : d02 * YY < X0 * D2 ;hminj : X0 * dj2 ≤ Xj * d02
        have c1 := Int.mul_le_mul_of_nonneg_left hfar (Int.le_of_lt (Int.mul_pos qD q0))
        have c2 := Int.mul_le_mul_of_nonneg_left hb2 (Int.le_of_lt (Int.mul_pos qj q0))
        have c3 := Int.mul_lt_mul_of_pos_left hstep (Int.mul_pos qV qj)
        have c4 := Int.mul_le_mul_of_nonneg_left hminj (Int.le_of_lt (Int.mul_pos qD qV))
        have f1 : D2 * d02 * (dj2 * VV) = dj2 * d02 * (D2 * VV) := by grind
        have f2 : dj2 * d02 * (YY * V2) = V2 * dj2 * (d02 * YY) := by grind
        have f3 : V2 * dj2 * (X0 * D2) = D2 * V2 * (X0 * dj2) := by grind
        have f4 : D2 * V2 * (Xj * d02) = D2 * d02 * (V2 * Xj) := by grind
        omega
      · refine ⟨ls,hll,?_,hL,?_⟩
        · intro l hl
          rcases Qma l 0 with h|h
          · exact absurd ⟨l,hl,h⟩ hneg
          · exact h
        · intro q hq
          rw [hZ q hq];exact Int.le_refl _
/-! ### Simplices, and their weights -/
def Simp : List P3 → Prop
  | [_] => True
  | [a,b] => b ≠ a
  | [a,b,c] => (b.sub a).cross (c.sub a) ≠ ⟨0,0,0⟩
  | [a,b,c,d] => P3.det (b.sub a) (c.sub a) (d.sub a) ≠ 0
  | _ => False
def dt2 (a b c d : Int) : Int := a * d - b * c
def dt3 (a b c d e f g h i : Int) : Int := a * dt2 e f h i - b * dt2 d f g i + c * dt2 d e g h
/-- The weights but the first, and the divisor. -/
def wv : List P3 → List Int × Int
  | [_] => ([],1)
  | [a,b] => ([-(b.sub a).dot a],(b.sub a).dot (b.sub a))
  | [a,b,c] =>
    let e := b.sub a
    let f := c.sub a
    ([dt2 (-e.dot a) (e.dot f) (-f.dot a) (f.dot f),dt2 (e.dot e) (-e.dot a) (f.dot e) (-f.dot a)],dt2 (e.dot e) (e.dot f) (f.dot e) (f.dot f))
  | [a,b,c,d] =>
    let e := b.sub a
    let f := c.sub a
    let g := d.sub a
    ([dt3 (-e.dot a) (e.dot f) (e.dot g) (-f.dot a) (f.dot f) (f.dot g) (-g.dot a) (g.dot f) (g.dot g),
      dt3 (e.dot e) (-e.dot a) (e.dot g) (f.dot e) (-f.dot a) (f.dot g) (g.dot e) (-g.dot a) (g.dot g),
      dt3 (e.dot e) (e.dot f) (-e.dot a) (f.dot e) (f.dot f) (-f.dot a) (g.dot e) (g.dot f) (-g.dot a)],
      dt3 (e.dot e) (e.dot f) (e.dot g) (f.dot e) (f.dot f) (f.dot g) (g.dot e) (g.dot f) (g.dot g))
  | _ => ([],0)
def wd (S : List P3) : Int := (wv S).2
def cw (S : List P3) : List Int := ((wv S).2 - tot (wv S).1) :: (wv S).1
theorem cw_tot (S : List P3) : tot (cw S) = wd S := by unfold cw wd tot;omega
theorem Qim {S : List P3} (h : Simp S) : (cw S).length = S.length := by
  match S,h with
  | [_],_ => rfl
  | [_,_],_ => rfl
  | [_,_,_],_ => rfl
  | [_,_,_,_],_ => rfl
theorem Qhm {S : List P3} (h : Simp S) : 1 ≤ S.length ∧ S.length ≤ 4 := by
  match S,h with
  | [_],_ => simp
  | [_,_],_ => simp
  | [_,_,_],_ => simp
  | [_,_,_,_],_ => simp
theorem Qhx {n : P3} (h : n ≠ ⟨0,0,0⟩) : 0 < n.dot n := by
  have := Qej n
  rcases Int.lt_or_eq_of_le this with h' | h'
  · exact h'
  · exact absurd (dot_zero h'.symm) h
theorem gram2 (e f : P3) : dt2 (e.dot e) (e.dot f) (f.dot e) (f.dot f) = (e.cross f).dot (e.cross f) := by
  simp only [dt2,P3.dot,P3.cross];grind
theorem gram3 (e f g : P3) : dt3 (e.dot e) (e.dot f) (e.dot g) (f.dot e) (f.dot f) (f.dot g) (g.dot e) (g.dot f) (g.dot g) = P3.det e f g * P3.det e f g := by
  simp only [dt3,dt2,P3.det,P3.dot,P3.cross];grind
theorem wd_pos {S : List P3} (h : Simp S) : 0 < wd S := by
  match S,h with
  | [_],_ => exact (by decide : (0 : Int) < 1)
  | [a,b],h =>
    refine Qhx fun h0 => h ?_
    simp only [P3.sub,P3.mk.injEq] at h0
    exact Qcr (by omega) (by omega) (by omega)
  | [a,b,c],h => show 0 < dt2 _ _ _ _;rw [gram2];exact Qhx h
  | [a,b,c,d],h =>
    show 0 < dt3 _ _ _ _ _ _ _ _ _
    rw [gram3]
    have h' : P3.det (b.sub a) (c.sub a) (d.sub a) ≠ 0 := h
    rcases Int.lt_or_gt_of_ne h' with h1|h1
    · exact Int.mul_pos_of_neg_of_neg h1 h1
    · exact Int.mul_pos h1 h1
/-- The sum by weights, from the first point on. -/
theorem Qmk (m a : P3) : ∀ (ws : List Int) (S : List P3),ws.length = S.length → m.dot (cmb ws S) = tot ws * m.dot a + m.dot (cmb ws (S.map (·.sub a)))
  | [],[],_ => by simp [cmb,tot,dotO]
  | w :: ws,p :: S,h => by
    have := Qmk m a ws S (by simpa using h)
    rw [List.map_cons,Qje,Qje,this,tot,dotU];grind
  | [],_ :: _,h => by simp at h
  | _ :: _,[],h => by simp at h
theorem Qki (a : P3) : a.sub a = ⟨0,0,0⟩ := by simp [P3.sub]
theorem cramer2 (a b c d x y t p q : Int) (h1 : a * x + b * y = t * p) (h2 : c * x + d * y = t * q) : dt2 a b c d * x = t * dt2 p b q d ∧ dt2 a b c d * y = t * dt2 a p c q := by
  unfold dt2
  constructor <;> grind
theorem cramer3 (a b c d e f g h i x y z t p q r : Int) (h1 : a * x + b * y + c * z = t * p) (h2 : d * x + e * y + f * z = t * q) (h3 : g * x + h * y + i * z = t * r) :
    dt3 a b c d e f g h i * x = t * dt3 p b c q e f r h i ∧ dt3 a b c d e f g h i * y = t * dt3 a p c d q f g r i ∧ dt3 a b c d e f g h i * z = t * dt3 a b p d e q g h r := by
  have k1 : dt3 a b c d e f g h i * x = dt2 e f h i * (a * x + b * y + c * z) - dt2 b c h i * (d * x + e * y + f * z) + dt2 b c e f * (g * x + h * y + i * z) := by unfold dt3 dt2;grind
  have k2 : dt3 a b c d e f g h i * y = - dt2 d f g i * (a * x + b * y + c * z) + dt2 a c g i * (d * x + e * y + f * z) - dt2 a c d f * (g * x + h * y + i * z) := by unfold dt3 dt2;grind
  have k3 : dt3 a b c d e f g h i * z = dt2 d e g h * (a * x + b * y + c * z) - dt2 a b g h * (d * x + e * y + f * z) + dt2 a b d e * (g * x + h * y + i * z) := by unfold dt3 dt2;grind
  rw [h1,h2,h3] at k1 k2 k3
  refine ⟨k1.trans ?_,k2.trans ?_,k3.trans ?_⟩ <;> unfold dt3 dt2 <;> grind
/-- The weights are the only ones. -/
theorem cw_only : ∀ {S : List P3} (h : Simp S) {ws : List Int} (hl : ws.length = S.length) (hv : ∀ p ∈ S,1 * (cmb ws S).dot p = (cmb ws S).dot (S.headD ⟨0,0,0⟩)),ws.map (wd S * ·) = (cw S).map (tot ws * ·) := by
  intro S h ws hl hv
  have key : ∀ a : P3,S.headD ⟨0,0,0⟩ = a → ∀ p ∈ S,tot ws * (p.sub a).dot a + (p.sub a).dot (cmb ws (S.map (·.sub a))) = 0 := by
    intro a ha p hp
    have := hv p hp
    rw [ha,dotc _ p,dotc _ a] at this
    rw [← Qmk _ a _ _ hl,dotV];omega
  clear hv
  match S,ws,h,hl,key with
  | [a],[w],_,_,_ => simp [cw,wd,wv,tot]
  | [a,b],[w,x],h,_,key =>
    have k1 := key a rfl b (by simp)
    simp only [List.map_cons,List.map_nil,cmb,dotA,dotS,dotO,Qki] at k1
    simp only [cw,wd,wv,tot,List.map_cons,List.map_nil,List.cons.injEq,and_true] at k1 ⊢
    constructor <;> grind
  | [a,b,c],[w,x,y],h,_,key =>
    have k1 := key a rfl b (by simp)
    have k2 := key a rfl c (by simp)
    simp only [List.map_cons,List.map_nil,cmb,dotA,dotS,dotO,Qki] at k1 k2
    obtain ⟨r1,r2⟩ := cramer2 ((b.sub a).dot (b.sub a)) ((b.sub a).dot (c.sub a)) ((c.sub a).dot (b.sub a)) ((c.sub a).dot (c.sub a)) x y (tot [w,x,y]) (-(b.sub a).dot a) (-(c.sub a).dot a) (by grind) (by grind)
    simp only [cw,wd,wv,List.map_cons,List.map_nil,List.cons.injEq,and_true]
    refine ⟨?_,r1,r2⟩
    generalize dt2 _ _ _ _ = D at *
    generalize dt2 _ _ _ _ = X at *
    generalize dt2 _ _ _ _ = Y at *
    simp only [tot] at *
    grind
  | [a,b,c,d],[w,x,y,z],h,_,key =>
    have k1 := key a rfl b (by simp)
    have k2 := key a rfl c (by simp)
    have k3 := key a rfl d (by simp)
    simp only [List.map_cons,List.map_nil,cmb,dotA,dotS,dotO,Qki] at k1 k2 k3
    obtain ⟨r1,r2,r3⟩ := cramer3 ((b.sub a).dot (b.sub a)) ((b.sub a).dot (c.sub a)) ((b.sub a).dot (d.sub a)) ((c.sub a).dot (b.sub a)) ((c.sub a).dot (c.sub a)) ((c.sub a).dot (d.sub a)) ((d.sub a).dot (b.sub a)) ((d.sub a).dot (c.sub a)) ((d.sub a).dot (d.sub a)) x y z (tot [w,x,y,z]) (-(b.sub a).dot a) (-(c.sub a).dot a) (-(d.sub a).dot a) (by grind) (by grind) (by grind)
    simp only [cw,wd,wv,List.map_cons,List.map_nil,List.cons.injEq,and_true]
    refine ⟨?_,r1,r2,r3⟩
    clear k1 k2 k3
    generalize dt3 _ _ _ _ _ _ _ _ _ = D at *
    generalize dt3 _ _ _ _ _ _ _ _ _ = X at *
    generalize dt3 _ _ _ _ _ _ _ _ _ = Y at *
    generalize dt3 _ _ _ _ _ _ _ _ _ = Z at *
    simp only [tot] at *
    grind
/-! ### What is found -/
/-- S carries the nearest one of l. -/
def Good (l S : List P3) : Prop := ∃ ws : List Int,ws.length = S.length ∧ S ≠ [] ∧ (∀ w ∈ ws,0 < w) ∧ Nopast (cmb ws S) (tot ws) l
/-- What the program asks of a choice. -/
def Succ (l S : List P3) : Prop := Simp S ∧ (∀ w ∈ cw S,0 < w) ∧ Nopast (cmb (cw S) S) (wd S) l
theorem tot_pos : ∀ {ws : List Int},(∀ w ∈ ws,0 < w) → ws ≠ [] → 0 < tot ws
  | w :: ws,h,_ => by
    have := Qib (ws := ws) (fun x hx => Int.le_of_lt (h x (List.mem_cons_of_mem _ hx)))
    have := h w (List.mem_cons_self ..)
    unfold tot;omega
/-- Where a sum of weights above 0 is as small as it can be, so is each. -/
theorem each_eq {m : P3} {a k : Int} : ∀ {ws : List Int} {S : List P3},ws.length = S.length → (∀ w ∈ ws,0 < w) → (∀ p ∈ S,a ≤ k * m.dot p) → k * m.dot (cmb ws S) ≤ tot ws * a → ∀ p ∈ S,k * m.dot p = a
  | [],[],_,_,_,_ => by simp
  | w :: ws,p :: S,hl,hw,hp,hle => by
    have hl' : ws.length = S.length := by simpa using hl
    have hw' : ∀ x ∈ ws,0 < x := fun x hx => hw x (List.mem_cons_of_mem _ hx)
    have hp' : ∀ x ∈ S,a ≤ k * m.dot x := fun x hx => hp x (List.mem_cons_of_mem _ hx)
    have h1 := hp p (List.mem_cons_self ..)
    have h0 := hw w (List.mem_cons_self ..)
    have ge := cmb_ge hl' (fun x hx => Int.le_of_lt (hw' x hx)) hp'
    rw [Qje,tot] at hle
    have e1 : (w + tot ws) * a = w * a + tot ws * a := by grind
    have e2 : k * (w * m.dot p + m.dot (cmb ws S)) = w * (k * m.dot p) + k * m.dot (cmb ws S) := by grind
    have m1 := Int.mul_le_mul_of_nonneg_left h1 (Int.le_of_lt h0)
    have hwa : w * (k * m.dot p) = w * a := by omega
    have hkp : k * m.dot p = a := Int.eq_of_mul_eq_mul_left (by omega) hwa
    intro q hq
    rcases List.mem_cons.1 hq with rfl|hq
    · exact hkp
    · exact each_eq hl' hw' hp' (by omega) q hq
  | [],_ :: _,h,_,_,_ => by simp at h
  | _ :: _,[],h,_,_,_ => by simp at h
theorem Qfy {X Y : P3} {d e a b : Int} {l : List P3} (hb : 0 < b) (h : X.scale a = Y.scale b) (hd : d * a = e * b) (hn : Nopast X d l) : Nopast Y e l := by
  intro p hp
  have h1 := hn p hp
  have q1 : a * a * X.dot X = b * b * Y.dot Y := by
    have : (X.scale a).dot (X.scale a) = (Y.scale b).dot (Y.scale b) := by rw [h]
    simp only [dotS,dotT] at this;grind
  have q2 : a * X.dot p = b * Y.dot p := by
    have : (X.scale a).dot p = (Y.scale b).dot p := by rw [h]
    simpa only [dotT] using this
  have ha : 0 ≤ a * a := by
    rcases Int.le_total 0 a with h|h
    · exact Int.mul_nonneg h h
    · have := Int.mul_nonneg (Int.neg_nonneg_of_nonpos h) (Int.neg_nonneg_of_nonpos h);rw [Int.neg_mul_neg] at this;exact this
  have h2 := Int.mul_le_mul_of_nonneg_left h1 ha
  have e1 : a * a * (d * X.dot p) = d * a * (a * X.dot p) := by grind
  rw [e1,q1,q2,hd] at h2
  have e2 : e * b * (b * Y.dot p) = b * b * (e * Y.dot p) := by grind
  rw [e2] at h2
  exact Int.le_of_mul_le_mul_left h2 (Int.mul_pos hb hb)
theorem good_level {l S : List P3} {ws : List Int} (hl : ws.length = S.length) (hw : ∀ w ∈ ws,0 < w) (hn : Nopast (cmb ws S) (tot ws) l) (hS : ∀ p ∈ S,p ∈ l) : ∀ p ∈ S,tot ws * (cmb ws S).dot p = (cmb ws S).dot (cmb ws S) :=
  each_eq hl hw (fun p hp => hn p (hS p hp)) (Int.le_refl _)
theorem map_cmb (k : Int) : ∀ (ws : List Int) (S : List P3),cmb (ws.map (k * ·)) S = (cmb ws S).scale k
  | [],S => by cases S <;> simp [cmb,P3.scale]
  | w :: ws,[] => by simp [cmb,P3.scale]
  | w :: ws,p :: S => by
    simp only [List.map_cons,cmb,map_cmb k ws S]
    apply Qcr <;> simp only [P3.add,P3.scale] <;> grind
theorem Qmj {a b : Int} (ha : 0 < a) (h : 0 < a * b) : 0 < b := by
  rcases Qma 0 b with h' | h'
  · exact h'
  · have := Int.mul_nonneg (Int.le_of_lt ha) (show 0 ≤ -b by omega)
    rw [Int.mul_neg] at this;omega
theorem succ_iff {l S : List P3} (hS : ∀ p ∈ S,p ∈ l) : Succ l S ↔ Simp S ∧ Good l S := by
  constructor
  · rintro ⟨h1,h2,h3⟩
    refine ⟨h1,cw S,Qim h1,?_,h2,by rw [cw_tot];exact h3⟩
    intro h0;rw [h0] at h1;exact h1
  · rintro ⟨h1,ws,hl,hne,hw,hn⟩
    have hlev := good_level hl hw hn hS
    have ht := tot_pos hw (by intro h0;rw [h0] at hl;exact hne (List.length_eq_zero_iff.1 hl.symm))
    have hd := wd_pos h1
    have hhead : S.headD ⟨0,0,0⟩ ∈ S := by
      match S,hne with
      | a :: S,_ => exact List.mem_cons_self ..
    have heq := cw_only h1 hl (fun p hp => by
      have e1 := hlev p hp
      have e2 := hlev _ hhead
      rw [Int.one_mul]
      exact Int.eq_of_mul_eq_mul_left (show tot ws ≠ 0 by omega) (e1.trans e2.symm))
    refine ⟨h1,?_,?_⟩
    · have : ∀ (xs ys : List Int),(∀ w ∈ xs,0 < w) → xs.map (wd S * ·) = ys.map (tot ws * ·) → ∀ y ∈ ys,0 < y := by
        intro xs
        induction xs with
        | nil => intro ys _ h y hy;cases ys with
          | nil => simp at hy
          | cons => simp at h
        | cons x xs ih =>
          intro ys hx h y hy
          cases ys with
          | nil => simp at h
          | cons z ys =>
            simp only [List.map_cons,List.cons.injEq] at h
            rcases List.mem_cons.1 hy with rfl|hy
            · have := Int.mul_pos hd (hx x (List.mem_cons_self ..))
              rw [h.1] at this
              exact Qmj ht this
            · exact ih ys (fun w hw => hx w (List.mem_cons_of_mem _ hw)) h.2 y hy
      exact this ws (cw S) hw heq
    · refine Qfy (a := wd S) (b := tot ws) ht ?_ (Int.mul_comm _ _) hn
      rw [← map_cmb,← map_cmb,heq]
/-! ### Choices of places -/
def chs : Nat → List (List Nat)
  | 1 => [[0]]
  | 2 => [[0],[1],[0,1]]
  | 3 => [[0],[1],[2],[0,1],[0,2],[1,2],[0,1,2]]
  | 4 => [[0],[1],[2],[3],[0,1],[0,2],[0,3],[1,2],[1,3],[2,3],[0,1,2],[0,1,3],[0,2,3],[1,2,3],[0,1,2,3]]
  | _ => []
def pts (l : List P3) (ks : List Nat) : List P3 := ks.map (pt l)
def subs : List Nat → List (List Nat)
  | [] => [[]]
  | a :: l => subs l ++ (subs l).map (a :: ·)
theorem Qnj : ∀ {l s : List Nat},s.Sublist l → s ∈ subs l
  | _,_,.slnil => by simp [subs]
  | _,_,.cons a h => by
    unfold subs
    exact List.mem_append_left _ (Qnj h)
  | _,_,.cons_cons a h => by
    unfold subs
    exact List.mem_append_right _ (List.mem_map_of_mem (Qnj h))
theorem mem_chs {n : Nat} {s : List Nat} (h1 : 1 ≤ n) (h4 : n ≤ 4) (h : s.Sublist (List.range n)) (hne : s ≠ []) : s ∈ chs n := by
  have hm := Qnj h
  have h' : n = 1 ∨ n = 2 ∨ n = 3 ∨ n = 4 := by omega
  have key : ∀ n,n = 1 ∨ n = 2 ∨ n = 3 ∨ n = 4 → ∀ s ∈ subs (List.range n),s ≠ [] → s ∈ chs n := by
    intro n hn
    rcases hn with rfl|rfl|rfl|rfl <;> decide
  exact key n h' s hm hne
theorem chs_sub {n : Nat} {s : List Nat} (h : s ∈ chs n) : s.Sublist (List.range n) ∧ s ≠ [] ∧ 1 ≤ n ∧ n ≤ 4 := by
  match n,h with
  | 0,h => simp [chs] at h
  | 1,h => exact ⟨(by decide : ∀ s ∈ chs 1,s.Sublist (List.range 1)) s h,(by decide : ∀ s ∈ chs 1,s ≠ []) s h,by omega,by omega⟩
  | 2,h => exact ⟨(by decide : ∀ s ∈ chs 2,s.Sublist (List.range 2)) s h,(by decide : ∀ s ∈ chs 2,s ≠ []) s h,by omega,by omega⟩
  | 3,h => exact ⟨(by decide : ∀ s ∈ chs 3,s.Sublist (List.range 3)) s h,(by decide : ∀ s ∈ chs 3,s ≠ []) s h,by omega,by omega⟩
  | 4,h => exact ⟨(by decide : ∀ s ∈ chs 4,s.Sublist (List.range 4)) s h,(by decide : ∀ s ∈ chs 4,s ≠ []) s h,by omega,by omega⟩
  | n + 5,h => simp [chs] at h
theorem chs_sorted : ∀ n,(chs n).Pairwise (fun a b => a.length ≤ b.length)
  | 0 => List.Pairwise.nil
  | 1 => by decide
  | 2 => by decide
  | 3 => by decide
  | 4 => by decide
  | _ + 5 => List.Pairwise.nil
theorem Qjr (l : List P3) : pts l (List.range l.length) = l := by
  unfold pts
  apply List.ext_getElem
  · simp
  · intro i h1 h2
    simp only [List.getElem_map,List.getElem_range,pt,List.getD_eq_getElem?_getD,List.getElem?_eq_getElem h2]
    rfl
theorem pts_mem {l : List P3} {ks : List Nat} (h : ks.Sublist (List.range l.length)) : ∀ p ∈ pts l ks,p ∈ l := by
  intro p hp
  have := (h.map (pt l)).subset hp
  have e := Qjr l
  unfold pts at e
  rwa [e] at this
theorem pts_sub {l S : List P3} (h : S.Sublist l) : ∃ ks : List Nat,ks.Sublist (List.range l.length) ∧ S = pts l ks := by
  rw [← Qjr l] at h
  unfold pts at h
  obtain ⟨ks,h1,h2⟩ := List.sublist_map_iff.1 h
  exact ⟨ks,h1,h2⟩
theorem Qdu (l : List P3) (ks : List Nat) : (pts l ks).length = ks.length := List.length_map ..
/-! ### A choice of few -/
theorem Qni (g : Nat → P3) : ∀ (ks : List Nat) (ws : List Int),ks.length = ws.length → (∀ w ∈ ws,0 ≤ w) → ∃ (ks' : List Nat) (ws' : List Int),ks'.length = ws'.length ∧ ks'.Sublist ks ∧ (∀ w ∈ ws',0 < w) ∧ tot ws' = tot ws ∧ cmb ws' (ks'.map g) = cmb ws (ks.map g) ∧ ((0 : Int) ∈ ws → ks'.length < ks.length)
  | [],[],_,_ => ⟨[],[],rfl,List.Sublist.refl _,by simp,rfl,rfl,by simp⟩
  | k :: ks,w :: ws,hl,hw => by
    obtain ⟨ks',ws',h1,h2,h3,h4,h5,h6⟩ := Qni g ks ws (by simpa using hl) (fun x hx => hw x (List.mem_cons_of_mem _ hx))
    have h0 := hw w (List.mem_cons_self ..)
    by_cases hz : w = 0
    · subst hz
      refine ⟨ks',ws',h1,h2.cons k,h3,by rw [h4,tot];omega,?_,?_⟩
      · rw [h5,List.map_cons,cmb];apply Qcr <;> simp [P3.add,P3.scale]
      · intro _
        have := h2.length_le
        simp only [List.length_cons];omega
    · refine ⟨k :: ks',w :: ws',by simp [h1],h2.cons_cons k,?_,by simp only [tot,h4],?_,?_⟩
      · intro x hx
        rcases List.mem_cons.1 hx with rfl|hx
        · omega
        · exact h3 x hx
      · simp only [List.map_cons,cmb,h5]
      · intro hm
        rcases List.mem_cons.1 hm with h|h
        · exact absurd h.symm hz
        · have := h6 h;simp only [List.length_cons];omega
  | [],_ :: _,h,_ => by simp at h
  | _ :: _,[],h,_ => by simp at h
theorem some_neg : ∀ {ls : List Int},tot ls = 0 → (∃ l ∈ ls,0 < l) → ∃ l ∈ ls,l < 0 := by
  intro ls h ⟨l,hl,h0⟩
  by_cases hc : ∃ l ∈ ls,l < 0
  · exact hc
  · exfalso
    have hn : ∀ w ∈ ls,0 ≤ w := fun w hw => by
      rcases Qma w 0 with h' | h'
      · exact absurd ⟨w,hw,h'⟩ hc
      · exact h'
    have : ∀ (xs : List Int),(∀ w ∈ xs,0 ≤ w) → ∀ y ∈ xs,y ≤ tot xs := by
      intro xs
      induction xs with
      | nil => intro _ y hy;simp at hy
      | cons x xs ih =>
        intro hx y hy
        have h1 := hx x (List.mem_cons_self ..)
        have h2 := Qib (ws := xs) (fun w hw => hx w (List.mem_cons_of_mem _ hw))
        unfold tot
        rcases List.mem_cons.1 hy with rfl|hy
        · omega
        · have := ih (fun w hw => hx w (List.mem_cons_of_mem _ hw)) y hy
          omega
    have := this ls hn l hl
    omega
theorem dep_two (e f : P3) (h : e.cross f = ⟨0,0,0⟩) (hx : e.dot e ≠ 0 ∨ e = ⟨0,0,0⟩) : ∃ x y : Int,(e.scale x).add (f.scale y) = ⟨0,0,0⟩ ∧ (0 < x ∨ 0 < y) := by
  by_cases he : e = ⟨0,0,0⟩
  · exact ⟨1,0,by rw [he];simp [P3.scale,P3.add],Or.inl (by omega)⟩
  · refine ⟨-(e.dot f),e.dot e,?_,Or.inr (Qhx he)⟩
    simp only [P3.cross,P3.mk.injEq] at h
    obtain ⟨h1,h2,h3⟩ := h
    apply Qcr <;> simp only [P3.add,P3.scale,P3.dot] <;> grind
theorem dep_three (e f g : P3) (h : P3.det e f g = 0) : ∃ x y z : Int,((e.scale x).add (f.scale y)).add (g.scale z) = ⟨0,0,0⟩ ∧ (0 < x ∨ 0 < y ∨ 0 < z) := by
  by_cases hc : e.cross f = ⟨0,0,0⟩
  · obtain ⟨x,y,h1,h2⟩ := dep_two e f hc (by by_cases he : e = ⟨0,0,0⟩;exact Or.inr he;exact Or.inl (by have := Qhx he;omega))
    refine ⟨x,y,0,?_,by rcases h2 with h|h <;> simp [h]⟩
    rw [h1];simp [P3.scale,P3.add]
  · refine ⟨-(e.cross f).dot (g.cross f),-(e.cross f).dot (e.cross g),(e.cross f).dot (e.cross f),?_,Or.inr (Or.inr (Qhx hc))⟩
    have hd : (e.cross f).dot g = 0 := by rw [← h];simp only [P3.det,P3.dot,P3.cross];grind
    have gx : (e.cross f).dot (e.cross f) * g.x = (e.cross f).dot (g.cross f) * e.x + (e.cross f).dot (e.cross g) * f.x + (e.cross f).dot g * (e.cross f).x := by simp only [P3.dot,P3.cross];grind
    have gy : (e.cross f).dot (e.cross f) * g.y = (e.cross f).dot (g.cross f) * e.y + (e.cross f).dot (e.cross g) * f.y + (e.cross f).dot g * (e.cross f).y := by simp only [P3.dot,P3.cross];grind
    have gz : (e.cross f).dot (e.cross f) * g.z = (e.cross f).dot (g.cross f) * e.z + (e.cross f).dot (e.cross g) * f.z + (e.cross f).dot g * (e.cross f).z := by simp only [P3.dot,P3.cross];grind
    rw [hd] at gx gy gz
    apply Qcr <;> simp only [P3.add,P3.scale]
    · rw [gx];grind
    · rw [gy];grind
    · rw [gz];grind
theorem dependent : ∀ {S : List P3},S ≠ [] → S.length ≤ 4 → ¬Simp S → ∃ ls : List Int,ls.length = S.length ∧ tot ls = 0 ∧ cmb ls S = ⟨0,0,0⟩ ∧ ∃ l ∈ ls,l < 0
  | [],h,_,_ => absurd rfl h
  | [_],_,_,h => absurd trivial h
  | [a,b],_,_,h => by
    have h : b = a := Classical.not_not.1 h
    subst h
    exact ⟨[-1,1],rfl,rfl,by apply Qcr <;> simp only [cmb,P3.add,P3.scale] <;> omega,-1,by simp,by omega⟩
  | [a,b,c],_,_,h => by
    have h : (b.sub a).cross (c.sub a) = ⟨0,0,0⟩ := Classical.not_not.1 h
    obtain ⟨x,y,h1,h2⟩ := dep_two _ _ h (by by_cases he : b.sub a = ⟨0,0,0⟩;exact Or.inr he;exact Or.inl (by have := Qhx he;omega))
    have ht : tot [-(x + y),x,y] = 0 := by simp only [tot];omega
    refine ⟨[-(x + y),x,y],rfl,ht,?_,some_neg ht (by rcases h2 with h|h;exact ⟨x,by simp,h⟩;exact ⟨y,by simp,h⟩)⟩
    simp only [P3.add,P3.scale,P3.sub,P3.mk.injEq] at h1
    apply Qcr <;> simp only [cmb,P3.add,P3.scale] <;> grind
  | [a,b,c,d],_,_,h => by
    have h : P3.det (b.sub a) (c.sub a) (d.sub a) = 0 := Classical.not_not.1 h
    obtain ⟨x,y,z,h1,h2⟩ := dep_three _ _ _ h
    have ht : tot [-(x + y + z),x,y,z] = 0 := by simp only [tot];omega
    refine ⟨[-(x + y + z),x,y,z],rfl,ht,?_,some_neg ht (by rcases h2 with h|h|h;exact ⟨x,by simp,h⟩;exact ⟨y,by simp,h⟩;exact ⟨z,by simp,h⟩)⟩
    simp only [P3.add,P3.scale,P3.sub,P3.mk.injEq] at h1
    apply Qcr <;> simp only [cmb,P3.add,P3.scale] <;> grind
  | _ :: _ :: _ :: _ :: _ :: _,_,h,_ => by simp at h
theorem good_drop {l : List P3} {ks : List Nat} (h4 : ks.length ≤ 4) (hg : Good l (pts l ks)) (hs : ¬Simp (pts l ks)) : ∃ ks' : List Nat,ks'.Sublist ks ∧ ks'.length < ks.length ∧ Good l (pts l ks') := by
  obtain ⟨ws,hl,hne,hw,hn⟩ := hg
  obtain ⟨ls,hll,ht,hc,hneg⟩ := dependent hne (by rw [Qdu];exact h4) hs
  have hw0 : ∀ w ∈ ws,0 ≤ w := fun w h => Int.le_of_lt (hw w h)
  obtain ⟨wa,w,wb,la,m,lb',e1,e2,e3,hw',hm,hall⟩ := ray (hl.trans hll.symm) hw0 hneg
  have hml := Qjj (-m) w hl hll
  have hmt := Qnn (-m) w (hl.trans hll.symm)
  have hmc := Qmx (-m) w hl hll
  have hz : (0 : Int) ∈ mix (-m) w ws ls := by
    rw [e1,e2,mix_app _ _ _ _ _ _ e3]
    simp only [mix]
    rw [show -m * w + w * m = 0 by grind]
    simp
  rw [Qdu] at hml
  obtain ⟨ks',ws',h1,h2,h3,h5,h6,h7⟩ := Qni (pt l) ks _ hml.symm hall
  have hwpos := tot_pos hw (by intro h0;rw [h0] at hl;exact hne (List.length_eq_zero_iff.1 hl.symm))
  refine ⟨ks',h2,h7 hz,ws',by rw [Qdu];exact h1.symm,?_,h3,?_⟩
  · intro h0
    have : ks' = [] := by unfold pts at h0;exact List.map_eq_nil_iff.1 h0
    subst this
    have : ws' = [] := List.length_eq_zero_iff.1 h1.symm
    subst this
    rw [hmt,ht] at h5
    have := Int.mul_pos (show 0 < -m by omega) hwpos
    simp only [tot] at h5;omega
  · refine Qfy (a := -m) (b := 1) (by omega) ?_ ?_ hn
    · show _ = (cmb ws' (ks'.map (pt l))).scale 1
      rw [h6]
      show _ = (cmb (mix (-m) w ws ls) (pts l ks)).scale 1
      rw [hmc,hc]
      apply Qcr <;> simp [P3.add,P3.scale]
    · rw [h5,hmt,ht];grind
theorem Qol {l : List P3} : ∀ (n : Nat) {ks : List Nat},ks.length ≤ n → ks.length ≤ 4 → Good l (pts l ks) → ∃ ks' : List Nat,ks'.Sublist ks ∧ Good l (pts l ks') ∧ Simp (pts l ks')
  | n,ks,hn,h4,hg => by
    by_cases hs : Simp (pts l ks)
    · exact ⟨ks,List.Sublist.refl _,hg,hs⟩
    · obtain ⟨ks',h1,h2,h3⟩ := good_drop h4 hg hs
      match n with
      | 0 => omega
      | n + 1 =>
        obtain ⟨ks'',g1,g2,g3⟩ := Qol n (by omega) (by omega) h3
        exact ⟨ks'',g1.trans h1,g2,g3⟩
theorem good_exists {l : List P3} (h1 : 1 ≤ l.length) : ∃ ks : List Nat,ks.Sublist (List.range l.length) ∧ Good l (pts l ks) := by
  obtain ⟨ws,hk⟩ := Qme (l.length - 1) l (by omega)
  have e := Qjr l
  obtain ⟨ks',ws',g1,g2,g3,g5,g6,g7⟩ := Qni (pt l) (List.range l.length) ws (by rw [List.length_range,hk.len]) hk.pos
  unfold pts at e
  rw [e] at g6
  refine ⟨ks',g2,ws',by rw [Qdu];exact g1.symm,?_,g3,?_⟩
  · intro h0
    have : ks' = [] := by unfold pts at h0;exact List.map_eq_nil_iff.1 h0
    subst this
    have : ws' = [] := List.length_eq_zero_iff.1 g1.symm
    subst this
    have := hk.tpos
    simp only [tot] at g5;omega
  · unfold pts;rw [g5,g6];exact hk.no
/-! ### The first choice -/
instance : ∀ S : List P3,Decidable (Simp S)
  | [] => isFalse id
  | [_] => isTrue trivial
  | [a,b] => inferInstanceAs (Decidable (b ≠ a))
  | [a,b,c] => inferInstanceAs (Decidable ((b.sub a).cross (c.sub a) ≠ ⟨0,0,0⟩))
  | [a,b,c,d] => inferInstanceAs (Decidable (P3.det (b.sub a) (c.sub a) (d.sub a) ≠ 0))
  | _ :: _ :: _ :: _ :: _ :: _ => isFalse id
instance (X : P3) (d : Int) (l : List P3) : Decidable (Nopast X d l) := inferInstanceAs (Decidable (∀ p ∈ l,X.dot X ≤ d * X.dot p))
instance (l S : List P3) : Decidable (Succ l S) := inferInstanceAs (Decidable (_ ∧ _ ∧ _))
def Qgv (l : List P3) : Option (List Nat) := (chs l.length).find? fun ks => decide (Succ l (pts l ks))
/-- What is found. -/
structure Found (l : List P3) (ks : List Nat) : Prop where
  ch : ks ∈ chs l.length
  ok : Succ l (pts l ks)
  few : ∀ S : List P3,S.Sublist l → Good l S → ks.length ≤ S.length
theorem near_found {l : List P3} (h1 : 1 ≤ l.length) (h4 : l.length ≤ 4) : ∃ ks,Qgv l = some ks ∧ Found l ks := by
  have hex : ∀ ks : List Nat,ks.Sublist (List.range l.length) → Good l (pts l ks) → ∃ ks',ks'.Sublist ks ∧ ks' ∈ chs l.length ∧ Succ l (pts l ks') := by
    intro ks hs hg
    have hkl : ks.length ≤ 4 := by have := hs.length_le;rw [List.length_range] at this;omega
    obtain ⟨ks',g1,g2,g3⟩ := Qol ks.length (Nat.le_refl _) hkl hg
    refine ⟨ks',g1,mem_chs h1 h4 (g1.trans hs) ?_,(succ_iff (pts_mem (g1.trans hs))).2 ⟨g3,g2⟩⟩
    rintro rfl
    exact g3
  obtain ⟨ks0,s0,g0⟩ := good_exists h1
  obtain ⟨ks1,_,m1,o1⟩ := hex ks0 s0 g0
  cases hf : Qgv l with
  | none =>
    unfold Qgv at hf
    have := List.find?_eq_none.1 hf ks1 m1
    simp only [decide_eq_true_eq] at this
    exact absurd o1 this
  | some ks =>
    refine ⟨ks,rfl,?_⟩
    unfold Qgv at hf
    obtain ⟨hp,xa,xb,heq,hno⟩ := List.find?_eq_some_iff_append.1 hf
    refine ⟨by rw [heq];simp,by simpa using hp,?_⟩
    intro S hS hG
    obtain ⟨ks2,s2,rfl⟩ := pts_sub hS
    obtain ⟨ks3,s3,dt3',o3⟩ := hex ks2 s2 hG
    have hle : ks.length ≤ ks3.length := by
      have hso := chs_sorted l.length
      rw [heq] at hso dt3'
      rcases List.mem_append.1 dt3' with h|h
      · have := hno ks3 h
        simp only [o3,decide_true,Bool.not_true] at this
        exact absurd this (by decide)
      · rcases List.mem_cons.1 h with rfl|h
        · exact Nat.le_refl _
        · exact (List.pairwise_cons.1 (List.pairwise_append.1 hso).2.1).1 ks3 h
    have := s3.length_le
    rw [Qdu];omega
/-! ### What follows -/
theorem Found.sub {l : List P3} {ks : List Nat} (h : Found l ks) : ks.Sublist (List.range l.length) := (chs_sub h.ch).1
theorem Found.mem {l : List P3} {ks : List Nat} (h : Found l ks) : ∀ p ∈ pts l ks,p ∈ l := pts_mem h.sub
theorem Nopast.mono {X : P3} {d : Int} {l m : List P3} (h : Nopast X d l) (hs : ∀ p ∈ m,p ∈ l) : Nopast X d m := fun p hp => h p (hs p hp)
/-! ### Points twice as far, or turned over -/
/-! ### By no divisor more -/
def gc (X : P3) (d : Int) : Nat := Nat.gcd (Nat.gcd (Nat.gcd d.natAbs X.x.natAbs) X.y.natAbs) X.z.natAbs
/-- The least numbers. -/
def nrm (X : P3) (d : Int) : P3 × Int := (⟨X.x / gc X d,X.y / gc X d,X.z / gc X d⟩,d / gc X d)
theorem gc_dvd (X : P3) (d : Int) : (gc X d : Int) ∣ X.x ∧ (gc X d : Int) ∣ X.y ∧ (gc X d : Int) ∣ X.z ∧ (gc X d : Int) ∣ d := by
  simp only [Int.ofNat_dvd_left]
  refine ⟨?_,?_,?_,?_⟩ <;> unfold gc
  · exact Nat.dvd_trans (Nat.gcd_dvd_left _ _) (Nat.dvd_trans (Nat.gcd_dvd_left _ _) (Nat.gcd_dvd_right _ _))
  · exact Nat.dvd_trans (Nat.gcd_dvd_left _ _) (Nat.gcd_dvd_right _ _)
  · exact Nat.gcd_dvd_right _ _
  · exact Nat.dvd_trans (Nat.gcd_dvd_left _ _) (Nat.dvd_trans (Nat.gcd_dvd_left _ _) (Nat.gcd_dvd_left _ _))
theorem Qpa {X : P3} {d : Int} (hd : 0 < d) : 0 < gc X d := by
  unfold gc
  exact Nat.gcd_pos_of_pos_left _ (Nat.gcd_pos_of_pos_left _ (Nat.gcd_pos_of_pos_left _ (by omega)))
theorem nrm_eq (X : P3) {d : Int} (hd : 0 < d) : X = (nrm X d).1.scale (gc X d) ∧ d = (gc X d) * (nrm X d).2 ∧ 0 < (nrm X d).2 := by
  obtain ⟨h1,h2,h3,h4⟩ := gc_dvd X d
  have e : d = gc X d * (nrm X d).2 := (Int.mul_ediv_cancel' h4).symm
  refine ⟨Qcr ?_ ?_ ?_,e,?_⟩
  · exact (Int.mul_ediv_cancel' h1).symm
  · exact (Int.mul_ediv_cancel' h2).symm
  · exact (Int.mul_ediv_cancel' h3).symm
  · exact Qmj (a := (gc X d : Int)) (by have := Qpa (X := X) hd;omega) (by omega)
/-- Past, of the least numbers. -/
theorem nrm_past (X : P3) {d : Int} (hd : 0 < d) (l : List P3) : Nopast (nrm X d).1 (nrm X d).2 l ↔ Nopast X d l := by
  obtain ⟨a1,a2,a3⟩ := nrm_eq X hd
  have hg := Qpa (X := X) hd
  have e1 : (nrm X d).1.scale (gc X d) = X.scale 1 := by rw [← a1];apply Qcr <;> simp [P3.scale]
  constructor
  · exact Qfy (by omega) e1 (by rw [Int.mul_comm,← a2];omega)
  · exact Qfy (by omega) e1.symm (by rw [Int.mul_comm _ (gc X d : Int),← a2];omega)
/-! ### The rank tells a simplex -/
theorem simp_raised : ∀ {S : List P3},1 ≤ S.length → S.length ≤ 4 → (Raised [] S ↔ Simp S)
  | [_],_,_ => ⟨fun _ => trivial,fun _ => by simp [Raised,Qbz]⟩
  | [a,b],_,_ => raised_two
  | [a,b,c],_,_ => raised_three.trans ⟨fun h => h.2,fun h => ⟨Qju h,h⟩⟩
  | [a,b,c,d],_,_ => raised_four.trans ⟨fun h => h.2.2,fun h => by
      have hc : (b.sub a).cross (c.sub a) ≠ ⟨0,0,0⟩ := fun h0 => h (by rw [det_rot];exact Qeq h0)
      exact ⟨Qju hc,hc,h⟩⟩
theorem Qko {S : List P3} (hf : Qdf S = true) (h1 : 1 ≤ S.length) (h4 : S.length ≤ 4) : (Qft S).2 = 0 ∧ ((Qft S).1 = S.length - 1 ↔ Simp S) := by
  have he : (Qft S).2 = 0 := by
    have hs : Qcq S = (Qcd S,0) := by
      unfold Qcq
      rw [if_neg (by rw [hf];simp),if_neg (by omega)]
    unfold Qft
    rw [hs]
    rfl
  refine ⟨he,?_⟩
  rw [← simp_raised h1 h4]
  constructor
  · intro h
    exact (Qln (ps := S) (by unfold Qgt;simp only [decide_eq_true_eq];exact ⟨h1,h4,he,h⟩)).2.2.2
  · intro h
    have := simplex_of hf h1 h4 h
    unfold Qgt at this
    simp only [decide_eq_true_eq] at this
    exact this.2.2.2
end Go.Proofs.YtdfdmeoalbpcdaaGreat
