/-
  ninepinref15.Sum at points that may be (contract).
  ninepinref15: try and Near at any points; Same; SimplexNear (the law).
  ninepinref15.Same; SimplexNear (the walk of the law).
  SimplexNear: the contract of the law.
-/
import Derived.Test.YtdfdmeoalbpcdaaGreatNk
import Derived.Test.YtdfdmeoalbpcdaaGreatNl
import Derived.Test.YtdfdmeoalbpcdaaGreatNm
import Derived.Test.YtdfdmeoalbpcdaaGreatNj
import Derived.Test.YtdfdmeoalbpcdaaGreatBk
import Derived.Test.YtdfdmeoalbpcdaaGreatQt
set_option linter.unusedSimpArgs false
set_option linter.unusedVariables false
set_option maxRecDepth 100000
namespace Go.Proofs.YtdfdmeoalbpcdaaGreat
open Go Go.RowKit
theorem sum15_any {S : List P3} {ws : List Int} {d : Int} (h1 : 1 ≤ S.length) (h4 : S.length ≤ 4) (hm : ∀ p ∈ S,p.may) (hl : ws.length = S.length) (hw : ∀ x ∈ ws,Bd BW x) (hd : 0 < d) (hdb : d ≤ BW) {v vw : Value} (w : World) (h : PSl w v S) (h' : FSl WL 8 w vw ws) :
    Calls Tryz.prog 32 #[v,vw,W d] w (Ret (.tuple #[Sv (nrm (cmb ws S) d).1.x (nrm (cmb ws S) d).1.y (nrm (cmb ws S) d).1.z,W (nrm (cmb ws S) d).2]) w) := by
  rcases h with ⟨rfl,rfl⟩|⟨g0,off,cap,bc,t0,u0,rfl,hb,hv⟩
  · simp at h1
  obtain ⟨g1,off1,cap1,bw,t1,u1,rfl,hbw,hvw⟩ := h'.some (by intro h0;rw [h0] at hl;simp at hl;omega)
  have hr := (Qdg hv).resolve_left (by intro h0;rw [h0] at h1;simp at h1)
  rw [hl]
  have hlt := BP_lt
  have hnn := Qnc
  have hwp := BWP
  have hwnn := Qgh
  have hN := Qkr (by omega) hw hm
  have hNk : ∀ k,Bd (4 * BP) (psm ws S k).x ∧ Bd (4 * BP) (psm ws S k).y ∧ Bd (4 * BP) (psm ws S k).z := fun k => Qkr (by rw [List.length_take];omega) (fun x hx => hw x (List.mem_of_mem_take hx)) (fun p hp => hm p (List.mem_of_mem_take hp))
  have fb : ∀ {B x : Int},B ≤ 8 * BP → Bd B x → Fit x := fun hB h => Qcz (by omega) h
  have hx4 : ∀ {x : Int},Bd (4 * BP) x → Fit x ∧ Fit (-x) := fun {x} h => ⟨fb (B := 4 * BP) (by omega) h,fb (B := 4 * BP) (by omega) ⟨by have := h.2;omega,by have := h.1;omega⟩⟩
  have hdf : Fit d := fb (B := BW) (by omega) ⟨by omega,hdb⟩
  have hfull : psm ws S S.length = cmb ws S := by unfold psm;rw [List.take_of_length_le (by omega),List.take_of_length_le (Nat.le_refl _)]
  have key : ∀ (k : Nat) (x : Int) (p : P3),ws[k]? = some x → S[k]? = some p → p.may ∧ Bd BW x := fun k x p hx hp => ⟨hm p (List.mem_of_getElem? hp),hw x (List.mem_of_getElem? hx)⟩
  have hgd := gc_dvd (cmb ws S) d
  have hgle := axG_le hd (cmb ws S)
  have hgc := axG_gc (Int.le_of_lt hd) (cmb ws S)
  have hg0 : 0 < (gc (cmb ws S) d : Int) := by have := Qpa (X := cmb ws S) hd;omega
  have hgf : ∀ k,Fit (axG d (cmb ws S) k) := fun k => by
    have := hgle k
    exact fb (B := BW) (by omega) ⟨by omega,by omega⟩
  have hab : ∀ {x : Int},Bd (4 * BP) x → Fit (ab x) ∧ 0 ≤ ab x := fun {x} h => by
    obtain ⟨h1,h2⟩ := hx4 h
    unfold ab
    split
    · exact ⟨h2,by omega⟩
    · exact ⟨h1,by omega⟩
  have dv : ∀ (a : Int) (w1 : World),Fit a → (gc (cmb ws S) d : Int) ∣ a → Calls Tryz.prog 70 #[W a,W (axG d (cmb ws S) 3)] w1 (Ret (.tuple #[W (a / (gc (cmb ws S) d : Int)),W (dvr a (axG d (cmb ws S) 3)),.bool (decide (dvok a (axG d (cmb ws S) 3)))]) w1) := fun a w1 ha hd => by
    have := rdiv_any a (axG d (cmb ws S) 3) ha (hgf 3) w1
    rwa [show dvq a (axG d (cmb ws S) 3) = a / (gc (cmb ws S) d : Int) by rw [hgc];exact dvq_div ha hg0 hd] at this
  refine sum15_core S ws (cmb ws S) d _ _ _ _ _ _ _ _ _ _ _ _ S.length g0 off cap g1 off1 cap1 bc bw t0 t1 u0 u1 w hb hbw ⟨rfl,hl,hfull⟩ (by omega) ?_ ?_ ?_ ?_ ?_ ?_ ?_ ?_ (fun w1 => dv _ w1 (hx4 hN.1).1 hgd.1) (fun w1 => dv _ w1 (hx4 hN.2.1).1 hgd.2.1) (fun w1 => dv _ w1 (hx4 hN.2.2).1 hgd.2.2.1) (fun w1 => dv _ w1 hdf hgd.2.2.2)
  · intro k p hk
    refine ⟨Qfm hv hk,?_⟩
    have : k < S.length := by
      rcases Nat.lt_or_ge k S.length with h|h
      · exact h
      · rw [List.getElem?_eq_none h] at hk;cases hk
    omega
  · intro k x hk
    have hkl : k < ws.length := by
      rcases Nat.lt_or_ge k ws.length with h|h
      · exact h
      · rw [List.getElem?_eq_none h] at hk;cases hk
    rw [List.getElem?_eq_getElem hkl] at hk
    cases hk
    exact fl_at (m := 8) (by omega) Qdd hvw hkl
  · intro k p hp w1
    exact ⟨Qhd p 0 (.inl rfl) w1,Qhd p 1 (.inr (.inl rfl)) w1,Qhd p 2 (.inr (.inr rfl)) w1⟩
  · intro k p hp w1
    have hi := Qaz (Qew (hm p (List.mem_of_getElem? hp)))
    exact ⟨Qcw _ hi.1 w1,Qcw _ hi.2.1 w1,Qcw _ hi.2.2 w1⟩
  · intro k x p hx hp w1
    obtain ⟨hpm,hxb⟩ := key k x p hx hp
    have hco := Qmg hpm
    have hi := Qaz (Qew hpm)
    have fx : Fit x := fb (B := BW) (by omega) hxb
    have one : ∀ c : Int,I64 c → Bd 268435456 c → Calls Tryz.prog 65 #[W x,W c] w1 (Ret (W (x * c)) w1) := fun c hc hb => by
      have := Qca x c fx (Qdj hc) w1
      rwa [Qfc (B := BP) (by omega) (bdm Qgh hxb hb)] at this
    exact ⟨one _ hi.1 hco.1,one _ hi.2.1 hco.2.1,one _ hi.2.2 hco.2.2⟩
  · intro k x p hx hp w1
    obtain ⟨hpm,hxb⟩ := key k x p hx hp
    have hco := Qmg hpm
    have hn1 := hNk k
    have hn2 := hNk (k + 1)
    have e := psm_succ hx hp hl
    have one : ∀ a b c : Int,Bd (4 * BP) a → Bd BP b → Bd (4 * BP) c → c = a + b → Calls Tryz.prog 64 #[W a,W b] w1 (Ret (W c) w1) := fun a b c ha hb hc e => by
      have := Qfw a b (fb (B := 4 * BP) (by omega) ha) (fb (B := BP) (by omega) hb) w1
      rwa [← e,Qfc (B := 4 * BP) (by omega) hc] at this
    exact ⟨one _ _ _ hn1.1 (bdm Qgh hxb hco.1) hn2.1 (by rw [e];simp only [P3.add,P3.scale]),one _ _ _ hn1.2.1 (bdm Qgh hxb hco.2.1) hn2.2.1 (by rw [e];simp only [P3.add,P3.scale]),one _ _ _ hn1.2.2 (bdm Qgh hxb hco.2.2) hn2.2.2 (by rw [e];simp only [P3.add,P3.scale])⟩
  · intro w1
    exact ⟨Qhh _ (hx4 hN.1).1 (hx4 hN.1).2 w1,Qhh _ (hx4 hN.2.1).1 (hx4 hN.2.1).2 w1,Qhh _ (hx4 hN.2.2).1 (hx4 hN.2.2).2 w1⟩
  · intro w1
    have nn := axG_nn (Int.le_of_lt hd) (cmb ws S)
    exact ⟨Qgz _ _ (hgf 0) (hab hN.1).1 (nn 0) (hab hN.1).2 w1,Qgz _ _ (hgf 1) (hab hN.2.1).1 (nn 1) (hab hN.2.1).2 w1,Qgz _ _ (hgf 2) (hab hN.2.2).1 (nn 2) (hab hN.2.2).2 w1⟩
end Go.Proofs.YtdfdmeoalbpcdaaGreat

set_option linter.unusedSimpArgs false
set_option linter.unusedVariables false
set_option maxRecDepth 100000
namespace Go.Proofs.YtdfdmeoalbpcdaaGreat
open Go Go.RowKit
attribute [local irreducible] wpList
theorem Qkq {l : List P3} {k : Nat} (h : k < l.length) : l[k]? = some (pt l k) := by
  simp [pt,List.getD_eq_getElem?_getD,List.getElem?_eq_getElem h]
theorem places_at {l : List P3} {ks : List Nat} (h : ∀ k ∈ ks,k < l.length) : ∀ (i : Nat) (n : Int),(ks.map fun k : Nat => (k : Int))[i]? = some n → 0 ≤ n ∧ n < l.length ∧ (pts l ks)[i]? = l[n.toNat]? := by
  intro i n hn
  rw [List.getElem?_map] at hn
  cases hk : ks[i]? with
  | none => rw [hk] at hn;cases hn
  | some k =>
    rw [hk] at hn
    obtain rfl : (k : Int) = n := by simpa using hn
    have hlt := h k (List.mem_of_getElem? hk)
    refine ⟨by omega,by omega,?_⟩
    unfold pts
    rw [List.getElem?_map,hk,Int.toNat_natCast,Qkq hlt]
    rfl
theorem spread_simp {S : List P3} (hf : Qdf S = true) (h1 : 1 ≤ S.length) (h4 : S.length ≤ 4) : ((Qcd S).length : Int) - 1 = S.length - 1 ↔ Simp S := by
  have hs : Qcq S = (Qcd S,0) := by
    unfold Qcq
    rw [if_neg (by rw [hf];simp),if_neg (by omega)]
  have := (Qko hf h1 h4).2
  unfold Qft at this
  rw [hs] at this
  exact this
theorem try_any {l : List P3} (hl1 : 1 ≤ l.length) (hl4 : l.length ≤ 4) (hml : ∀ p ∈ l,p.may) {ks : List Nat} (hne : ks ≠ []) (hk4 : ks.length ≤ 4) (hkl : ∀ k ∈ ks,k < l.length) (g0 off cap : Nat) (bc : List Value) (t0 : TypeId) (u0 : Nat × Nat) (w : World) (hb : w.heap[g0]? = some (.cells bc.toArray t0 u0)) (hv : (bc.drop off).take (l.length * 3) = pcs l)
    (g cap1 : Nat) (hg : w.heap[g]? = some (.cells (ks.map fun k : Nat => Value.int .i64 (k : Int)).toArray 3 (0,0))) :
    Calls Tryz.prog 15 #[.slice (some ⟨g0,off,none⟩) l.length cap,.slice (some ⟨g,0,none⟩) ks.length cap1] w (Ret (.tuple #[if decide (Succ l (pts l ks)) = true then NrV (xnv l ks).1.x (xnv l ks).1.y (xnv l ks).1.z (xnv l ks).2 (.slice (some ⟨g,0,none⟩) ks.length cap1) else NrZ,.bool (decide (Succ l (pts l ks)))]) w) := by
  have hk1 : 1 ≤ ks.length := by
    cases ks with
    | nil => exact absurd rfl hne
    | cons a l => simp
  have hr := (Qdg hv).resolve_left (by intro h0;rw [h0] at hl1;simp at hl1)
  have hlen : (pts l ks).length = ks.length := Qdu ..
  have hmem : ∀ p ∈ pts l ks,p ∈ l := fun p hp => by
    obtain ⟨k,hk,rfl⟩ := List.mem_map.1 hp
    exact List.mem_of_getElem? (Qkq (hkl k hk))
  have hm : ∀ p ∈ pts l ks,p.may := fun p hp => hml p (hmem p hp)
  have hf : Qdf (pts l ks) = true := by
    unfold Qdf
    rw [List.all_eq_true]
    intro p hp
    simpa using hm p hp
  have CH : ∀ w1,Keep [] w w1 → Calls Tryz.prog 28 #[.slice (some ⟨g0,off,none⟩) l.length cap,.slice (some ⟨g,0,none⟩) ks.length cap1] w1 (RetP (pts l ks) w1) := fun w1 hk =>
    chosen_core l (pts l ks) l.length ks.length (Lib.hid rfl) hk4 hk1 (ks.map fun k : Nat => (k : Int)) (Lib.hid ⟨List.length_map ..,hlen⟩) (Lib.hid (places_at hkl)) g0 off cap g cap1 bc _ t0 _ u0 _ w1 (Qal hk hb) (Qal hk hg) (Lib.hid hv) (Lib.hid ⟨[],by simp⟩)
  have OF : ∀ v1 w1,PSl w1 v1 (pts l ks) → Calls Tryz.prog 29 #[v1] w1 (Ret (.int .i64 (((Qcd (pts l ks)).length : Int) - 1)) w1) := fun v1 w1 h => rOf_any _ hm (by unfold maxLen;omega) v1 w1 h
  have hsi := spread_simp hf (by omega) (by omega)
  by_cases hs : Simp (pts l ks)
  · rw [hsi.2 hs,hlen] at OF
    obtain ⟨h1,h4⟩ := Qhm hs
    obtain ⟨hb1,hb2⟩ := cw_bd h1 h4 hm
    have hwd := wd_pos hs
    have hN := nrm_nb (S := pts l ks) (ws := cw (pts l ks)) (d := wd (pts l ks)) (by rw [Qim hs];exact h4) hm hb1 hwd hb2.2
    have hX : xnv l ks = nrm (cmb (cw (pts l ks)) (pts l ks)) (wd (pts l ks)) := rfl
    rw [← hX] at hN
    generalize xnv l ks = X at *
    have hsucc : decide (Succ l (pts l ks)) = true ↔ decide (∀ x ∈ cw (pts l ks),0 < x) = true ∧ ∀ k : Nat,k < l.length → (!decide (Nopast X.1 X.2 [pt l k])) = false := by
      rw [decide_eq_true_iff,decide_eq_true_iff]
      have hnp : Nopast (cmb (cw (pts l ks)) (pts l ks)) (wd (pts l ks)) l ↔ ∀ k : Nat,k < l.length → (!decide (Nopast X.1 X.2 [pt l k])) = false := by
        rw [← nrm_past _ hwd,← hX,Qmf]
        constructor
        · intro h k hk
          rw [decide_eq_true (h k _ (Qkq hk))];rfl
        · intro h k p hk
          have hkl : k < l.length := by
            rcases Nat.lt_or_ge k l.length with h|h
            · exact h
            · rw [List.getElem?_eq_none h] at hk;cases hk
          have e := h k hkl
          rw [Qkq hkl] at hk
          cases hk
          simpa using e
      unfold Succ
      rw [hnp]
      exact ⟨fun h => h.2,fun h => ⟨hs,h⟩⟩
    refine try_core l (pts l ks) (cw (pts l ks)) (wd (pts l ks)) X.1.x X.1.y X.1.z X.2 (decide (Succ l (pts l ks))) (decide (∀ x ∈ cw (pts l ks),0 < x)) _ (fun k => !decide (Nopast X.1 X.2 [pt l k])) l.length ks.length g0 off cap _ bc t0 u0 w hb (Lib.hid rfl) (by omega) (Lib.hid hlen) hk1 hk4 (Lib.hid ((Qim hs).trans hlen)) ?_ CH OF ?_ ?_ ?_ ?_ ?_ hsucc ?_ ?_ (some ⟨g,0,none⟩) cap1 rfl
    · intro k p hk
      refine ⟨Qfm hv hk,?_⟩
      have : k < l.length := by
        rcases Nat.lt_or_ge k l.length with h|h
        · exact h
        · rw [List.getElem?_eq_none h] at hk;cases hk
      omega
    · exact fun v1 w1 h => Qna h1 h4 hm w1 h
    · intro k x hx w1
      have hx' := hb1 x (List.mem_of_getElem? hx)
      have := BP_lt
      have := BWP
      exact Qgm x (Qcz (B := BW) (by have := Qnc;omega) hx') w1
    · exact decide_eq_true_iff
    · intro hpos v1 v2 w1 hP hF
      have := sum15_any (ws := cw (pts l ks)) (d := wd (pts l ks)) h1 h4 hm (Qim hs) hb1 hwd hb2.2 w1 hP hF
      rw [← hX] at this
      exact this
    · intro hpos k p hk w1
      have hkl : k < l.length := by
        rcases Nat.lt_or_ge k l.length with h|h
        · exact h
        · rw [List.getElem?_eq_none h] at hk;cases hk
      have hpm := hml p (List.mem_of_getElem? hk)
      rw [Qkq hkl] at hk
      cases hk
      exact r15past_any hN hpm w1
    · intro h
      rw [if_pos h]
    · intro h
      rw [if_neg (by rw [h];decide)]
  · have hno : decide (Succ l (pts l ks)) = false := decide_eq_false fun h => hs h.1
    rw [hno,if_neg (by decide)]
    exact try_flat _ _ (pts l ks) ks.length hlen hk1 hk4 _ (by
      have : ¬ (((Qcd (pts l ks)).length : Int) - 1 = (ks.length : Int) - 1) := fun h => hs (hsi.1 (by rw [hlen];exact h))
      simpa using this) w CH OF
set_option maxHeartbeats 2000000 in
theorem near15_arg (b : Option Addr) (n c : Nat) (h : (n : Int) < 1 ∨ ¬ (n : Int) < 1 ∧ 4 < (n : Int)) (w : World) : Calls Tryz.prog 6 #[.slice b n c] w (Qfi ⟨0,0,0⟩ 0 [] 2 w) := by
  refine (?_ : Calls Tryz.prog 6 #[.slice b n c] w (Ret (.tuple #[NrZ,.int .i64 2]) w)).mono ?_
  · rcases h with h|⟨h,h2⟩
    all_goals
      go_enter Tryz.func6,Tryz.ntmps6
      have hp := Hp.start [] w
      go_wp2_with (first|((with_reducible apply Qag hp);exact ii;exact rfl;clear hp;(try clear w1);intro g w1 hp;simp only [zp,zq,z0,z1])|((with_reducible apply Qae hp);exact zt rfl;exact za rfl;exact rfl;(exact AggTy.size);exact rfl;exact ii;(simp only [n0,Nat.reduceAdd,nn];try rfl);(exact zl rfl);exact rfl;exact ii;clear hp;(try clear w1);intro w1 hp)|((with_reducible apply Qbm);exact rfl))
      exact bodyPost_ret (Qan rfl ⟨_,rfl,Qac hp (Nat.le_of_ble_eq_true rfl)⟩ rfl) rfl ⟨rfl,hp.keep⟩
  · rintro e w1 ⟨rfl,hk⟩
    exact ⟨.slice none 0 0,by rw [NrZ_eq],hk,.inl ⟨rfl,rfl⟩,fun g o n c e => by cases e⟩
set_option maxHeartbeats 2000000 in
theorem Qph (b : Option Addr) (n c : Nat) (h : ¬ (n : Int) < 1) (h4 : ¬ 4 < (n : Int)) (w : World) (FN : Hid (∀ w1,Keep [] w w1 → Calls Tryz.prog 14 #[.slice b n c] w1 (Ret (.bool false) w1))) : Calls Tryz.prog 6 #[.slice b n c] w (Qfi ⟨0,0,0⟩ 0 [] 7 w) := by
  refine (?_ : Calls Tryz.prog 6 #[.slice b n c] w (Ret (.tuple #[NrZ,.int .i64 7]) w)).mono ?_
  · skip
    go_enter Tryz.func6,Tryz.ntmps6
    have hp := Hp.start [] w
    go_wp2_with (first|((with_reducible apply Qag hp);exact ii;exact rfl;clear hp;(try clear w1);intro g w1 hp;simp only [zp,zq,z0,z1])|((with_reducible apply Qae hp);exact zt rfl;exact za rfl;exact rfl;(exact AggTy.size);exact rfl;exact ii;(simp only [n0,Nat.reduceAdd,nn];try rfl);(exact zl rfl);exact rfl;exact ii;clear hp;(try clear w1);intro w1 hp)|((with_reducible refine Qaf hp (FN.out _ hp.keep) ?_);clear hp;(try clear w1);intro w1 hp)|((with_reducible apply Qbm);exact rfl))
    exact bodyPost_ret (Qan rfl ⟨_,rfl,Qac hp (Nat.le_of_ble_eq_true rfl)⟩ rfl) rfl ⟨rfl,hp.keep⟩
  · rintro e w1 ⟨rfl,hk⟩
    exact ⟨.slice none 0 0,by rw [NrZ_eq],hk,.inl ⟨rfl,rfl⟩,fun g o n c e => by cases e⟩
theorem near15_any {l : List P3} (hlen : l.length ≤ maxLen) {v : Value} (w : World) (h : PSl w v l) : Calls Tryz.prog 6 #[v] w (Qfi (Qdt l).1 (Qdt l).2 (Qda l) (Qea l) w) := by
  by_cases h14 : (l.length : Int) < 1 ∨ 4 < (l.length : Int)
  · have e : Qea l = 2 := if_pos h14
    have eN : Qdt l = (⟨0,0,0⟩,0) := by unfold Qdt;rw [if_neg (by rw [e];decide)]
    have eK : Qda l = [] := by unfold Qda;rw [if_neg (by rw [e];decide)]
    rw [e,eN,eK]
    obtain ⟨b,c,rfl⟩ := h.shape
    exact near15_arg b l.length c (by omega) w
  · by_cases hf : Qdf l = true
    · have e : Qea l = 0 := nearE_zero.2 ⟨by omega,by omega,hf⟩
      obtain ⟨_,hF,hN⟩ := Qnh e
      have FN : ∀ w1,Keep [] w w1 → Calls Tryz.prog 14 #[v] w1 (Ret (.bool true) w1) := fun w1 hk => by
        have := Qpc hlen w1 (h.keep hk)
        rwa [hf] at this
      rcases h with ⟨rfl,rfl⟩|⟨g,off,cap,bc,t,z,rfl,hb,hv⟩
      · simp at h14
      rw [e]
      refine near15_core l l.length (Lib.hid rfl) (by omega) (by omega) g off cap w (fun ks => decide (Succ l (pts l ks))) (Lib.hid ⟨e,fun ks h => h⟩) (Lib.hid ⟨_,hF⟩) (Lib.hid FN) (Lib.hid fun ks g1 cap1 w1 k1 k2 k3 hk hg => ?_)
      exact try_any (by omega) (by omega) (Qms hf) k1 k2 k3 g off cap bc t z w1 (Qal hk hb) hv g1 cap1 hg
    · have e : Qea l = 7 := by
        unfold Qea
        rw [if_neg h14,if_pos (by simpa using hf)]
      have eN : Qdt l = (⟨0,0,0⟩,0) := by unfold Qdt;rw [if_neg (by rw [e];decide)]
      have eK : Qda l = [] := by unfold Qda;rw [if_neg (by rw [e];decide)]
      have FN : ∀ w1,Keep [] w w1 → Calls Tryz.prog 14 #[v] w1 (Ret (.bool false) w1) := fun w1 hk => by
        have := Qpc hlen w1 (h.keep hk)
        rwa [show Qdf l = false by simpa using hf] at this
      rw [e,eN,eK]
      obtain ⟨b,c,rfl⟩ := h.shape
      exact Qph b l.length c (by omega) (by omega) w FN
end Go.Proofs.YtdfdmeoalbpcdaaGreat

set_option linter.unusedSimpArgs false
set_option linter.unusedVariables false
set_option maxRecDepth 100000
namespace Go.Proofs.YtdfdmeoalbpcdaaGreat
open Go Go.RowKit
attribute [local irreducible] wpList
set_option maxHeartbeats 4000000 in
theorem same15_none (x y z d : Int) (b1 b2 : Option Addr) (c1 c2 : Nat) (w : World) : Calls Tryz.prog 7 #[NrV x y z d (.slice b1 0 c1),NrV x y z d (.slice b2 0 c2)] w (Ret (.bool true) w) := by
  go_enter Tryz.func7,Tryz.ntmps7
  have hp := Hp.start [] w
  go_wp2_with (first|((with_reducible apply Qau hp);exact za rfl;exact rfl;clear hp;(try clear w1);intro g w1 hp;simp only [zp,zq,z0,z1])|((with_reducible apply Qab hp);exact zt rfl;exact ii;exact ii;(exact zl rfl);(simp only [n0,Nat.reduceAdd,nn];try rfl);simp only [zp,zq,z0,z1])|((with_reducible apply Qai hp);exact zt rfl;exact ii;exact ii;(exact zso rfl);simp only [zp,zq,z0,z1])|((with_reducible apply Qbm);exact rfl))
  apply wp_loop_once
  go_wp2_with ((with_reducible apply Qai hp);exact zt rfl;exact ii;exact ii;(exact zso rfl);simp only [zp,zq,z0,z1])
  exact bodyPost_ret (Qaa rfl rfl) rfl ⟨rfl,hp.keep⟩
set_option maxHeartbeats 8000000 in
theorem same15_eq (x y z d : Int) (l : List Int) (n : Nat) (hn : n = l.length) (hlen : n ≤ 4) (ga gb ca cb : Nat) (bca bcb : List Value) (ja jb : List Value) (w : World) (ha : w.heap[ga]? = some (.cells bca.toArray 3 (0,0))) (hb : w.heap[gb]? = some (.cells bcb.toArray 3 (0,0))) (Ha : Hid (bca = l.map (Value.int .i64) ++ ja)) (Hb : Hid (bcb = l.map (Value.int .i64) ++ jb)) :
    Calls Tryz.prog 7 #[NrV x y z d (.slice (some ⟨ga,0,none⟩) n ca),NrV x y z d (.slice (some ⟨gb,0,none⟩) n cb)] w (Ret (.bool true) w) := by
  have HN := Lib.hid hn
  clear hn
  go_enter Tryz.func7,Tryz.ntmps7
  have hp := Hp.start [] w
  go_wp2_with (first|((with_reducible apply Qau hp);exact za rfl;exact rfl;clear hp;(try clear w1);intro g w1 hp;simp only [zp,zq,z0,z1])|((with_reducible apply Qab hp);exact zt rfl;exact ii;exact ii;(exact zl rfl);(simp only [n0,Nat.reduceAdd,nn];try rfl);simp only [zp,zq,z0,z1])|((with_reducible apply Qai hp);exact zt rfl;exact ii;exact ii;(exact zso rfl);simp only [zp,zq,z0,z1])|((with_reducible apply Qbm);exact rfl))
  rename_i g2 K hK
  obtain ⟨g3,rfl⟩ : ∃ u : Nat,u = g := ⟨_,rfl⟩
  go_loopw [5] (fun i wr => ∃ k : Nat,k ≤ n ∧ i = .int .i64 k ∧ Hp [] w [⟨g3,32,[.int .u64 (lb (x) 0),.int .u64 (lb (x) 1),.int .u64 (lb (x) 2),.int .u64 (lb (x) 3),.int .u64 (lb (x) 4),.int .u64 (lb (x) 5),.int .u64 (lb (x) 6),.int .u64 (lb (x) 7),.int .u64 (lb (y) 0),.int .u64 (lb (y) 1),.int .u64 (lb (y) 2),.int .u64 (lb (y) 3),.int .u64 (lb (y) 4),.int .u64 (lb (y) 5),.int .u64 (lb (y) 6),.int .u64 (lb (y) 7),.int .u64 (lb (z) 0),.int .u64 (lb (z) 1),.int .u64 (lb (z) 2),.int .u64 (lb (z) 3),.int .u64 (lb (z) 4),.int .u64 (lb (z) 5),.int .u64 (lb (z) 6),.int .u64 (lb (z) 7),.int .u64 (lb (d) 0),.int .u64 (lb (d) 1),.int .u64 (lb (d) 2),.int .u64 (lb (d) 3),.int .u64 (lb (d) 4),.int .u64 (lb (d) 5),.int .u64 (lb (d) 6),.int .u64 (lb (d) 7),.slice (some ⟨gb,0,none⟩) n cb]⟩,⟨g2,32,[.int .u64 (lb (x) 0),.int .u64 (lb (x) 1),.int .u64 (lb (x) 2),.int .u64 (lb (x) 3),.int .u64 (lb (x) 4),.int .u64 (lb (x) 5),.int .u64 (lb (x) 6),.int .u64 (lb (x) 7),.int .u64 (lb (y) 0),.int .u64 (lb (y) 1),.int .u64 (lb (y) 2),.int .u64 (lb (y) 3),.int .u64 (lb (y) 4),.int .u64 (lb (y) 5),.int .u64 (lb (y) 6),.int .u64 (lb (y) 7),.int .u64 (lb (z) 0),.int .u64 (lb (z) 1),.int .u64 (lb (z) 2),.int .u64 (lb (z) 3),.int .u64 (lb (z) 4),.int .u64 (lb (z) 5),.int .u64 (lb (z) 6),.int .u64 (lb (z) 7),.int .u64 (lb (d) 0),.int .u64 (lb (d) 1),.int .u64 (lb (d) 2),.int .u64 (lb (d) 3),.int .u64 (lb (d) 4),.int .u64 (lb (d) 5),.int .u64 (lb (d) 6),.int .u64 (lb (d) 7),.slice (some ⟨ga,0,none⟩) n ca]⟩] wr) (fun i _ => n - (intOf i).toNat)
  case atStart => exact ⟨0,by omega,rfl,hp⟩
  case round =>
    clear hp
    obtain ⟨k,hk,rfl,hp⟩ := hrel
    by_cases hk1 : k < n
    · obtain ⟨m,hm⟩ : ∃ m,l[k]? = some m := ⟨_,List.getElem?_eq_getElem (by rw [← HN.out];exact hk1)⟩
      have hga : bca[k * 1]? = some (.int .i64 m) := by
        rw [Ha.out,Nat.mul_one,List.getElem?_append_left (by rw [List.length_map,← HN.out];exact hk1),List.getElem?_map,hm];rfl
      have hgb : bcb[k * 1]? = some (.int .i64 m) := by
        rw [Hb.out,Nat.mul_one,List.getElem?_append_left (by rw [List.length_map,← HN.out];exact hk1),List.getElem?_map,hm];rfl
      clear hm
      have hk2 : (k : Int) < n := by omega
      go_wp2_with ((with_reducible apply Qai hp);exact zt rfl;exact ii;exact ii;(exact zso rfl);simp only [zp,zq,z0,z1])
      have hq := hp
      refine Qad hp hq [] (.q 0 (.q 1 (.q 2 (.q 3 (.q 4 (.q 5 (.q 6 (.q 7 (.q 8 (.q 9 (.q 10 .nil))))))))))) (by kernel_rfl) (by kernel_rfl) ?_
      clear hp hq;(try clear w1);intro w1 hp hq
      repeat' (first|(((with_reducible apply sd_q);exact zo rfl);(first|((with_reducible apply Qba hp);exact rfl;exact zt rfl;exact ii;exact ii;(exact zso rfl);simp only [zp,zq,z0,z1])|((with_reducible apply Qbl hp);exact rfl;exact zt rfl;assumption;exact ii;(assumption);simp only [zp,zq,z0,z1])|((with_reducible apply Qaq hp);exact zi rfl;simp only [zp,zq,z0,z1])|((with_reducible apply Qas hp);exact rfl;exact zx rfl;exact zk rfl;exact ii;(exact OneTy.size);omega;omega;((try simp only [m0,Int.reduceToNat,m1,m2,Nat.reduceMul,Nat.reduceAdd,m3,m4,m5,n0]);exact rfl);simp only [zp,zq,z0,z1])|((with_reducible apply Qaj hp);exact rfl;(focus (intro _;go_simp;(try go_ints);try with_reducible rfl));simp only [zp,zq,z0,z1])))|((with_reducible apply Qao);clear hp;have hp := hq;clear hq))
      go_wp2
      go_roundw
      case rel => exact ⟨k + 1,by omega,by go_num,hp⟩
      case measure => simp [intOf];omega
    · obtain rfl : k = n := by omega
      go_wp2_with ((with_reducible apply Qai hp);exact zt rfl;exact ii;exact ii;(exact zso rfl);simp only [zp,zq,z0,z1])
      exact bodyPost_ret (Qaa rfl rfl) rfl ⟨rfl,hp.keep⟩
set_option maxHeartbeats 4000000 in
theorem near_long (b : Option Addr) (n c : Nat) (h : (300 : Int) < n) (w : World) : Calls Tryz.prog 3 #[.slice b n c] w (Ret (.bool true) w) := by
  have AW := Lib.hid awake15
  go_enter Tryz.func3,Tryz.ntmps3
  have hp := Hp.start [] w
  go_wp2_with ((with_reducible refine Qaf hp (AW.out _) ?_);clear hp;(try clear w1);intro w1 hp)
  exact bodyPost_ret (Qaa rfl rfl) rfl ⟨rfl,hp.keep⟩
set_option maxHeartbeats 4000000 in
theorem near_bad (b : Option Addr) (n c : Nat) (h : ¬ (300 : Int) < n) (e : Int) (he : e = 2 ∨ e = 7) (w : World) (NR : Hid (∀ w1,Keep [] w w1 → Calls Tryz.prog 5 #[.slice b n c] w1 (Qfi ⟨0,0,0⟩ 0 [] e w1))) (NF : Hid (∀ w1,Keep [] w w1 → Calls Tryz.prog 6 #[.slice b n c] w1 (Qfi ⟨0,0,0⟩ 0 [] e w1))) : Calls Tryz.prog 3 #[.slice b n c] w (Ret (.bool true) w) := by
  have AW := Lib.hid awake15
  have SM := Lib.hid (fun b1 b2 c1 c2 w1 => same15_none 0 0 0 0 b1 b2 c1 c2 w1)
  rcases he with rfl|rfl
  all_goals
    go_enter Tryz.func3,Tryz.ntmps3
    have hp := Hp.start [] w
    go_wp2_with (first|((with_reducible apply Qag hp);exact ii;exact rfl;clear hp;(try clear w1);intro g w1 hp;simp only [zp,zq,z0,z1])|((with_reducible apply Qab hp);exact zt rfl;exact ii;exact ii;(exact zl rfl);(simp only [n0,Nat.reduceAdd,nn];try rfl);simp only [zp,zq,z0,z1])|((with_reducible apply Qae hp);exact zt rfl;exact za rfl;exact rfl;(exact AggTy.size);exact rfl;exact ii;(simp only [n0,Nat.reduceAdd,nn];try rfl);(exact zl rfl);exact rfl;exact ii;clear hp;(try clear w1);intro w1 hp)|((with_reducible first|refine Qaf hp (AW.out _) ?_|refine Qaf hp (SM.out _ _ _ _ _) ?_);clear hp;(try clear w1);intro w1 hp)|((with_reducible first|refine Qjn hp (NR.out _ hp.keep) ?_|refine Qjn hp (NF.out _ hp.keep) ?_);clear hp;(try clear w1);intro bC cC w1 hp)|((with_reducible apply Qbm);exact rfl))
    exact bodyPost_ret (Qaa rfl rfl) rfl ⟨rfl,hp.keep⟩
set_option maxHeartbeats 4000000 in
theorem near_good (b : Option Addr) (n c : Nat) (h : ¬ (300 : Int) < n) (N : P3) (d : Int) (ks : List Nat) (hks : ks ≠ []) (out : List Int) (Ho : Hid ((ks.map fun k : Nat => Value.int .i64 (k : Int)) = out.map (Value.int .i64))) (hol : ks.length = out.length) (h4 : out.length ≤ 4) (w : World) (NR : Hid (∀ w1,Keep [] w w1 → Calls Tryz.prog 5 #[.slice b n c] w1 (Qfi N d ks 0 w1))) (NF : Hid (∀ w1,Keep [] w w1 → Calls Tryz.prog 6 #[.slice b n c] w1 (Qfi N d ks 0 w1))) : Calls Tryz.prog 3 #[.slice b n c] w (Ret (.bool true) w) := by
  have AW := Lib.hid awake15
  have HK := Lib.hid hks
  have HM := Lib.hid hol
  clear hks hol
  have SM : Hid (∀ (ga gb ca cb : Nat) (ja jb : List Value) (w1 : World),w1.heap[ga]? = some (.cells (out.map (Value.int .i64) ++ ja).toArray 3 (0,0)) → w1.heap[gb]? = some (.cells (out.map (Value.int .i64) ++ jb).toArray 3 (0,0)) → Calls Tryz.prog 7 #[NrV N.x N.y N.z d (.slice (some ⟨ga,0,none⟩) out.length ca),NrV N.x N.y N.z d (.slice (some ⟨gb,0,none⟩) out.length cb)] w1 (Ret (.bool true) w1)) := fun ga gb ca cb ja jb w1 h1 h2 => same15_eq N.x N.y N.z d out out.length rfl h4 ga gb ca cb _ _ ja jb w1 h1 h2 rfl rfl
  go_enter Tryz.func3,Tryz.ntmps3
  have hp := Hp.start [] w
  go_upto_region 5 with (first|((with_reducible apply Qag hp);exact ii;exact rfl;clear hp;(try clear w1);intro g w1 hp;simp only [zp,zq,z0,z1])|((with_reducible apply Qae hp);exact zt rfl;exact za rfl;exact rfl;(exact AggTy.size);exact rfl;exact ii;(simp only [n0,Nat.reduceAdd,nn];try rfl);(exact zl rfl);exact rfl;exact ii;clear hp;(try clear w1);intro w1 hp)|((with_reducible first|refine Qkt hp (NR.out _ hp.keep) HK.out HM.out ?_|refine Qkt hp (NF.out _ hp.keep) HK.out HM.out ?_);clear hp;(try clear w1);intro gC cC jC w1 hp))
  simp only [Ho.out] at hp
  clear NR NF
  go_wp2_with (first|((with_reducible apply Qab hp);exact zt rfl;exact ii;exact ii;(exact zl rfl);(simp only [n0,Nat.reduceAdd,nn];try rfl);simp only [zp,zq,z0,z1])|((with_reducible refine Qaf hp (AW.out _) ?_);clear hp;(try clear w1);intro w1 hp)|((with_reducible refine Qaf hp (SM.out _ _ _ _ _ _ _ hp.blk hp.blk) ?_);clear hp;(try clear w1);intro w1 hp)|((with_reducible apply Qbm);exact rfl))
  exact bodyPost_ret (Qaa rfl rfl) rfl ⟨rfl,hp.keep⟩
end Go.Proofs.YtdfdmeoalbpcdaaGreat

set_option linter.unusedSimpArgs false
set_option linter.unusedVariables false
set_option maxRecDepth 100000
namespace Go.Proofs.YtdfdmeoalbpcdaaGreat
open Go Go.RowKit
attribute [local irreducible] wpList
theorem near_law {v : Value} {w : World} (l : List P3) (hlen : l.length ≤ maxLen) (_ : ∀ q ∈ l,q.i64) (h : PSl w v l) : Calls Tryz.prog 3 #[v] w (Ret (.bool true) w) := by
  have NR : ∀ w1,Keep [] w w1 → Calls Tryz.prog 5 #[v] w1 (Qfi (Qdt l).1 (Qdt l).2 (Qda l) (Qea l) w1) := fun w1 hk => Qhp hlen w1 (h.keep hk)
  have NF : ∀ w1,Keep [] w w1 → Calls Tryz.prog 6 #[v] w1 (Qfi (Qdt l).1 (Qdt l).2 (Qda l) (Qea l) w1) := fun w1 hk => near15_any hlen w1 (h.keep hk)
  obtain ⟨b,c,rfl⟩ := h.shape
  by_cases h300 : (300 : Int) < l.length
  · exact near_long b l.length c h300 w
  by_cases hE : Qea l = 0
  · obtain ⟨hF,_,_⟩ := Qnh hE
    have hne : Qda l ≠ [] := by
      have := (Qhm hF.ok.1).1
      intro h0
      rw [h0] at this
      simp [pts] at this
    have h4 := (Qhm hF.ok.1).2
    rw [Qdu] at h4
    rw [hE] at NR NF
    exact near_good b l.length c h300 (Qdt l).1 (Qdt l).2 (Qda l) hne ((Qda l).map fun k : Nat => (k : Int)) (Lib.hid (by rw [List.map_map];rfl)) (List.length_map ..).symm (by rw [List.length_map];exact h4) w NR NF
  · have hK : Qda l = [] := by unfold Qda;rw [if_neg hE]
    have eN : Qdt l = (⟨0,0,0⟩,0) := by unfold Qdt;rw [if_neg hE]
    rw [hK,eN] at NR NF
    refine near_bad b l.length c h300 (Qea l) ?_ w NR NF
    unfold Qea at hE ⊢
    split
    · exact .inl rfl
    · rename_i h0
      split
      · exact .inr rfl
      · rename_i h2;rw [if_neg h0,if_neg h2] at hE;exact absurd rfl hE
end Go.Proofs.YtdfdmeoalbpcdaaGreat
