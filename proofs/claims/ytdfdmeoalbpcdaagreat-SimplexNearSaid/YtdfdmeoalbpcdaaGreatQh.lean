/-
  Package simplex: sum and Past at points that may be; nearest (contracts).
-/
import Derived.Test.YtdfdmeoalbpcdaaGreatQf
set_option linter.unusedSimpArgs false
set_option linter.unusedVariables false
set_option maxRecDepth 100000
namespace Go.Proofs.YtdfdmeoalbpcdaaGreat
open Go Go.RowKit
attribute [local irreducible] wpList
def BW : Int := 64 * B3
def BP : Int := BW * 268435456
theorem Qgh : 0 ≤ BW := by unfold BW B3 B2 B1;decide
theorem Qnc : 0 ≤ BP := by unfold BP BW B3 B2 B1;decide
theorem BP_lt : 16 * BP < M511 := by unfold BP BW B3 B2 B1 M511;decide
theorem BWP : BW ≤ BP := by unfold BP BW B3 B2 B1;decide
theorem Qmg {p : P3} (h : p.may) : Bd 268435456 p.x ∧ Bd 268435456 p.y ∧ Bd 268435456 p.z := h
theorem cmb_bd : ∀ {ws : List Int} {S : List P3},(∀ x ∈ ws,Bd BW x) → (∀ p ∈ S,p.may) → Bd (ws.length * BP) (cmb ws S).x ∧ Bd (ws.length * BP) (cmb ws S).y ∧ Bd (ws.length * BP) (cmb ws S).z
  | [],S,_,_ => by cases S <;> simp [cmb,Bd]
  | w :: ws,[],_,_ => by
    have := Qnc
    have h := Int.mul_nonneg (Int.natCast_nonneg (w :: ws).length) this
    simp only [cmb,Bd]
    exact ⟨⟨by omega,h⟩,⟨by omega,h⟩,⟨by omega,h⟩⟩
  | w :: ws,p :: S,hw,hp => by
    obtain ⟨a,b,c⟩ := cmb_bd (ws := ws) (S := S) (fun x hx => hw x (List.mem_cons_of_mem _ hx)) (fun x hx => hp x (List.mem_cons_of_mem _ hx))
    obtain ⟨px,py,pz⟩ := Qmg (hp p (List.mem_cons_self ..))
    have hw0 := hw w (List.mem_cons_self ..)
    have mx : Bd BP (w * p.x) := bdm Qgh hw0 px
    have my : Bd BP (w * p.y) := bdm Qgh hw0 py
    have mz : Bd BP (w * p.z) := bdm Qgh hw0 pz
    simp only [cmb,P3.add,P3.scale,List.length_cons]
    have e : ((ws.length + 1 : Nat) : Int) * BP = ws.length * BP + BP := by rw [Int.natCast_add,Int.add_mul];omega
    rw [e]
    obtain ⟨a1,a2⟩ := a
    obtain ⟨b1,b2⟩ := b
    obtain ⟨c1,c2⟩ := c
    obtain ⟨x1,x2⟩ := mx
    obtain ⟨y1,y2⟩ := my
    obtain ⟨z1',z2⟩ := mz
    exact ⟨⟨by omega,by omega⟩,⟨by omega,by omega⟩,⟨by omega,by omega⟩⟩
theorem Qkr {ws : List Int} {S : List P3} (h4 : ws.length ≤ 4) (hw : ∀ x ∈ ws,Bd BW x) (hp : ∀ p ∈ S,p.may) : Bd (4 * BP) (cmb ws S).x ∧ Bd (4 * BP) (cmb ws S).y ∧ Bd (4 * BP) (cmb ws S).z := by
  obtain ⟨⟨a1,a2⟩,⟨b1,b2⟩,c1,c2⟩ := cmb_bd hw hp
  have h : (ws.length : Int) * BP ≤ 4 * BP := Int.mul_le_mul_of_nonneg_right (by omega) Qnc
  exact ⟨⟨by omega,by omega⟩,⟨by omega,by omega⟩,⟨by omega,by omega⟩⟩
theorem Qke (x : Int) : (ab x).toNat = x.natAbs := by unfold ab;split <;> omega
theorem axG_gc {d : Int} (hd : 0 ≤ d) (X : P3) : axG d X 3 = gc X d := by
  show cg (cg (cg d (ab X.x)) (ab X.y)) (ab X.z) = _
  unfold cg gc
  rw [Int.toNat_natCast,Int.toNat_natCast,Qke,Qke,Qke,show d.toNat = d.natAbs by omega]
theorem axG_le {d : Int} (hd : 0 < d) (X : P3) : ∀ k,0 < axG d X k ∧ axG d X k ≤ d := by
  have step : ∀ a b : Int,0 < a → 0 < cg a b ∧ cg a b ≤ a := by
    intro a b ha
    unfold cg
    have h1 := Nat.gcd_pos_of_pos_left b.toNat (show 0 < a.toNat by omega)
    have h2 := Nat.gcd_le_left b.toNat (show 0 < a.toNat by omega)
    omega
  have s1 := step d (ab X.x) hd
  have s2 := step _ (ab X.y) s1.1
  have s3 := step _ (ab X.z) s2.1
  intro k
  match k with
  | 0 => exact ⟨hd,Int.le_refl _⟩
  | 1 => exact s1
  | 2 => exact ⟨s2.1,Int.le_trans s2.2 s1.2⟩
  | k + 3 => exact ⟨s3.1,Int.le_trans s3.2 (Int.le_trans s2.2 s1.2)⟩
theorem dvq_div {a g : Int} (ha : Fit a) (hg : 0 < g) (hd : g ∣ a) : dvq a g = a / g := by
  obtain ⟨q,rfl⟩ := hd
  have e : g * q / g = q := Int.mul_ediv_cancel_left _ (by omega)
  have hf : fq (g * q) g = q := (Qfh (q := q) (r := 0) (by rw [Int.mul_comm];omega) (.inl ⟨hg,by omega,by omega⟩)).1
  have hq : Fit q := by
    have h1 : q.natAbs ≤ (g * q).natAbs := by
      rw [Int.natAbs_mul]
      exact Nat.le_mul_of_pos_left _ (by omega)
    unfold Fit M511 at *
    rcases Int.le_total 0 q with h|h
    · have := Int.mul_nonneg (Int.le_of_lt hg) h;omega
    · have := Int.mul_nonneg (Int.le_of_lt hg) (show 0 ≤ -q by omega);rw [Int.mul_neg] at this;omega
  unfold dvq
  rw [if_pos ⟨by omega,by rw [hf];exact hq⟩,hf,e]
/-- What sum comes to. -/
theorem sum_any {S : List P3} {ws : List Int} {d : Int} (h1 : 1 ≤ S.length) (h4 : S.length ≤ 4) (hm : ∀ p ∈ S,p.may) (hl : ws.length = S.length) (hw : ∀ x ∈ ws,Bd BW x) (hd : 0 < d) (hdb : d ≤ BW) {v vw : Value} (w : World) (h : PSl w v S) (h' : FSl WL 8 w vw ws) :
    Calls Tryz.prog 26 #[v,vw,W d] w (Ret (NrV (nrm (cmb ws S) d).1.x (nrm (cmb ws S) d).1.y (nrm (cmb ws S) d).1.z (nrm (cmb ws S) d).2 (.slice none 0 0)) w) := by
  rcases h with ⟨rfl,rfl⟩|⟨g0,off,cap,bc,t0,u0,rfl,hb,hv⟩
  · simp at h1
  obtain ⟨g1,off1,cap1,bw,t1,u1,rfl,hbw,hvw⟩ := h'.some (by intro h0;rw [h0] at hl;simp at hl;omega)
  have hr := (Qdg hv).resolve_left (by intro h0;rw [h0] at h1;simp at h1)
  rw [hl]
  have hlt := BP_lt
  have hnn := Qnc
  have hwp := BWP
  have hwnn := Qgh
  have hN := Qkr (by omega) hw hm
  have hNk : ∀ k,Bd (4 * BP) (psm ws S k).x ∧ Bd (4 * BP) (psm ws S k).y ∧ Bd (4 * BP) (psm ws S k).z := fun k => Qkr (by rw [List.length_take];omega) (fun x hx => hw x (List.mem_of_mem_take hx)) (fun p hp => hm p (List.mem_of_mem_take hp))
  have fb : ∀ {B x : Int},B ≤ 8 * BP → Bd B x → Fit x := fun hB h => Qcz (by omega) h
  have hx4 : ∀ {x : Int},Bd (4 * BP) x → Fit x ∧ Fit (-x) := fun {x} h => ⟨fb (B := 4 * BP) (by omega) h,fb (B := 4 * BP) (by omega) ⟨by have := h.2;omega,by have := h.1;omega⟩⟩
  have hdf : Fit d := fb (B := BW) (by omega) ⟨by omega,hdb⟩
  have hfull : psm ws S S.length = cmb ws S := by unfold psm;rw [List.take_of_length_le (by omega),List.take_of_length_le (Nat.le_refl _)]
  have key : ∀ (k : Nat) (x : Int) (p : P3),ws[k]? = some x → S[k]? = some p → p.may ∧ Bd BW x := fun k x p hx hp => ⟨hm p (List.mem_of_getElem? hp),hw x (List.mem_of_getElem? hx)⟩
  have hgd := gc_dvd (cmb ws S) d
  have hgle := axG_le hd (cmb ws S)
  have hgc := axG_gc (Int.le_of_lt hd) (cmb ws S)
  have hg0 : 0 < (gc (cmb ws S) d : Int) := by have := Qpa (X := cmb ws S) hd;omega
  refine sum_core S ws (cmb ws S) d _ _ _ _ S.length g0 off cap g1 off1 cap1 bc bw t0 t1 u0 u1 w hb hbw ⟨rfl,hl,hfull⟩ (by omega) ?_ ?_ ?_ ?_ ?_ ⟨Int.le_of_lt hd,hdf⟩ ⟨hx4 hN.1,hx4 hN.2.1,hx4 hN.2.2⟩ ?_ ?_
  · intro k p hk
    refine ⟨Qfm hv hk,?_⟩
    have : k < S.length := by
      rcases Nat.lt_or_ge k S.length with h|h
      · exact h
      · rw [List.getElem?_eq_none h] at hk;cases hk
    omega
  · intro k x hk
    have hkl : k < ws.length := by
      rcases Nat.lt_or_ge k ws.length with h|h
      · exact h
      · rw [List.getElem?_eq_none h] at hk;cases hk
    rw [List.getElem?_eq_getElem hkl] at hk
    cases hk
    exact fl_at (m := 8) (by omega) Qdd hvw hkl
  · intro k x p hx hp w1
    obtain ⟨hpm,_⟩ := key k x p hx hp
    have hi := Qaz (Qew hpm)
    exact ⟨Qnv _ hi.1.1 (by have := hi.1.2;omega) w1,Qnv _ hi.2.1.1 (by have := hi.2.1.2;omega) w1,Qnv _ hi.2.2.1 (by have := hi.2.2.2;omega) w1⟩
  · intro k x p hx hp w1
    obtain ⟨hpm,hxb⟩ := key k x p hx hp
    have hco := Qmg hpm
    have hi := Qaz (Qew hpm)
    have fx : Fit x := fb (B := BW) (by omega) hxb
    have one : ∀ c : Int,I64 c → Bd 268435456 c → Calls Tryz.prog 18 #[W x,W c] w1 (Ret (W (x * c)) w1) := fun c hc hb => by
      have := Qch x c fx (Qdj hc) w1
      rwa [Qfc (B := BP) (by omega) (bdm Qgh hxb hb)] at this
    exact ⟨one _ hi.1 hco.1,one _ hi.2.1 hco.2.1,one _ hi.2.2 hco.2.2⟩
  · intro k x p hx hp w1
    obtain ⟨hpm,hxb⟩ := key k x p hx hp
    have hco := Qmg hpm
    have hn1 := hNk k
    have hn2 := hNk (k + 1)
    have e := psm_succ hx hp hl
    have one : ∀ a b c : Int,Bd (4 * BP) a → Bd BP b → Bd (4 * BP) c → c = a + b → Calls Tryz.prog 40 #[W a,W b] w1 (Ret (W c) w1) := fun a b c ha hb hc e => by
      have := Qhn a b (fb (B := 4 * BP) (by omega) ha) (fb (B := BP) (by omega) hb) w1
      rwa [← e,Qfc (B := 4 * BP) (by omega) hc] at this
    exact ⟨one _ _ _ hn1.1 (bdm Qgh hxb hco.1) hn2.1 (by rw [e];simp only [P3.add,P3.scale]),one _ _ _ hn1.2.1 (bdm Qgh hxb hco.2.1) hn2.2.1 (by rw [e];simp only [P3.add,P3.scale]),one _ _ _ hn1.2.2 (bdm Qgh hxb hco.2.2) hn2.2.2 (by rw [e];simp only [P3.add,P3.scale])⟩
  · intro k
    have := hgle k
    exact fb (B := BW) (by omega) ⟨by omega,by omega⟩
  · intro gb w1 hgb
    rw [hgc] at hgb
    have hgf : Fit (gc (cmb ws S) d : Int) := by
      have := hgle 3
      rw [hgc] at this
      exact fb (B := BW) (by omega) ⟨by omega,by omega⟩
    have one : ∀ a : Int,Fit a → (gc (cmb ws S) d : Int) ∣ a → Calls Tryz.prog 56 #[W a,.pointer (some ⟨gb,0,none⟩)] w1 (Ret (W (a / (gc (cmb ws S) d : Int))) w1) := fun a ha hd => by
      have := by_any a _ ha hgf gb w1 hgb
      rwa [dvq_div ha hg0 hd] at this
    exact ⟨one _ (hx4 hN.1).1 hgd.1,one _ (hx4 hN.2.1).1 hgd.2.1,one _ (hx4 hN.2.2).1 hgd.2.2.1,one _ hdf hgd.2.2.2⟩
end Go.Proofs.YtdfdmeoalbpcdaaGreat
