/-
  Package simplex: Past at what sum comes to; nearest (contracts).
-/
import Derived.Test.YtdfdmeoalbpcdaaGreatQh
set_option linter.unusedSimpArgs false
set_option linter.unusedVariables false
set_option maxRecDepth 100000
namespace Go.Proofs.YtdfdmeoalbpcdaaGreat
open Go Go.RowKit
attribute [local irreducible] wpList
/-- Numbers that Past takes. -/
structure Nb (N : P3) (d : Int) : Prop where
  x : Bd (4 * BP) N.x
  y : Bd (4 * BP) N.y
  z : Bd (4 * BP) N.z
  d0 : 0 < d
  d1 : d ≤ BW
theorem Nb.fit {N : P3} {d : Int} (h : Nb N d) : Fit N.x ∧ Fit N.y ∧ Fit N.z ∧ Fit d := by
  have := BP_lt
  have := Qnc
  have := BWP
  have := h.d0
  have := h.d1
  exact ⟨Qcz (by omega) h.x,Qcz (by omega) h.y,Qcz (by omega) h.z,Qcz (B := BW) (by omega) ⟨by omega,h.d1⟩⟩
theorem nrm_nb {S : List P3} {ws : List Int} {d : Int} (h4 : ws.length ≤ 4) (hm : ∀ p ∈ S,p.may) (hw : ∀ x ∈ ws,Bd BW x) (hd : 0 < d) (hdb : d ≤ BW) : Nb (nrm (cmb ws S) d).1 (nrm (cmb ws S) d).2 := by
  have hN := Qkr h4 hw hm
  obtain ⟨e1,e2,e3⟩ := nrm_eq (cmb ws S) hd
  have hg := Qpa (X := cmb ws S) hd
  have one : ∀ {B a b : Int},a = gc (cmb ws S) d * b → Bd B a → Bd B b := by
    intro B a b e h
    have hle : b.natAbs ≤ a.natAbs := by
      rw [e,Int.natAbs_mul]
      exact Nat.le_mul_of_pos_left _ (by omega)
    have := h.1;have := h.2
    exact ⟨by omega,by omega⟩
  have ex := congrArg P3.x e1
  have ey := congrArg P3.y e1
  have ez := congrArg P3.z e1
  refine ⟨one ex hN.1,one ey hN.2.1,one ez hN.2.2,e3,?_⟩
  exact (one (B := BW) e2 ⟨by omega,hdb⟩).2
def BD : Int := 4 * BP * 268435456
theorem BD_nn : 0 ≤ BD := by unfold BD BP BW B3 B2 B1;decide
theorem BD_lt : BW * (3 * BD) < M511 ∧ 3 * BD < M511 ∧ 3 * (4 * BP * (4 * BP)) < M511 := by unfold BD BP BW B3 B2 B1 M511;decide
theorem dot_nb {N : P3} {d : Int} (h : Nb N d) {p : P3} (hp : p.may) : Bd BD (N.x * p.x) ∧ Bd BD (N.y * p.y) ∧ Bd BD (N.z * p.z) := by
  obtain ⟨a,b,c⟩ := Qmg hp
  have := Qnc
  exact ⟨bdm (by omega) h.x a,bdm (by omega) h.y b,bdm (by omega) h.z c⟩
theorem alF_eq {N : P3} {d : Int} (h : Nb N d) {p : P3} (hp : p.may) : alF N.x N.y N.z p = N.dot p := by
  obtain ⟨⟨a1,a2⟩,⟨b1,b2⟩,c1,c2⟩ := dot_nb h hp
  have hn := BD_nn
  have hl := BD_lt.2.1
  have f : ∀ {x : Int},-(3 * BD) ≤ x → x ≤ 3 * BD → Fit x := fun h1 h2 => Qcz hl ⟨h1,h2⟩
  have s1 : step (nth N.x N.y N.z) (nth p.x p.y p.z) (some 0) 0 = some (N.x * p.x) := by
    simp only [step,nth,Option.bind_some,Int.zero_add]
    exact if_pos ⟨f (by omega) (by omega),f (by omega) (by omega)⟩
  have s2 : step (nth N.x N.y N.z) (nth p.x p.y p.z) (some (N.x * p.x)) 1 = some (N.x * p.x + N.y * p.y) := by
    simp only [step,nth,Option.bind_some]
    exact if_pos ⟨f (by omega) (by omega),f (by omega) (by omega)⟩
  have s3 : step (nth N.x N.y N.z) (nth p.x p.y p.z) (some (N.x * p.x + N.y * p.y)) 2 = some (N.x * p.x + N.y * p.y + N.z * p.z) := by
    simp only [step,nth,Option.bind_some]
    exact if_pos ⟨f (by omega) (by omega),f (by omega) (by omega)⟩
  unfold alF acc
  simp only [List.foldl_cons,List.foldl_nil,s1,s2,s3,Option.getD_some]
  rfl
theorem Qpf {N : P3} {d : Int} (h : Nb N d) : sqF N.x N.y N.z = N.dot N ∧ 0 ≤ N.dot N ∧ N.dot N < M511 := by
  have hb := Qnc
  have h1 : Bd _ (N.x * N.x) := bdm (show 0 ≤ 4 * BP by omega) h.x h.x
  have h2 : Bd _ (N.y * N.y) := bdm (show 0 ≤ 4 * BP by omega) h.y h.y
  have h3 : Bd _ (N.z * N.z) := bdm (show 0 ≤ 4 * BP by omega) h.z h.z
  have hl := BD_lt.2.2
  have n1 := Qfs N.x
  have n2 := Qfs N.y
  have n3 := Qfs N.z
  have h1' := h1.2
  have h2' := h2.2
  have h3' := h3.2
  have f : ∀ {x : Int},0 ≤ x → x ≤ 3 * (4 * BP * (4 * BP)) → fz x = x := fun a b => Qfc hl ⟨by omega,b⟩
  unfold sqF
  have g4 := f (x := N.x * N.x + N.y * N.y) (by omega) (by omega)
  rw [f n1 (by omega),f n2 (by omega),f n3 (by omega),g4,f (x := N.x * N.x + N.y * N.y + N.z * N.z) (by omega) (by omega)]
  exact ⟨by simp only [P3.dot],by simp only [P3.dot];omega,by simp only [P3.dot];omega⟩
theorem pastF_eq {N : P3} {d : Int} (h : Nb N d) {p : P3} (hp : p.may) : pastF N.x N.y N.z d p = !decide (Nopast N d [p]) := by
  have hd := dot_nb h hp
  have hn := BD_nn
  have hb : Bd (3 * BD) (N.dot p) := by
    obtain ⟨⟨a1,a2⟩,⟨b1,b2⟩,c1,c2⟩ := hd
    unfold P3.dot
    exact ⟨by omega,by omega⟩
  have hm : Bd (BW * (3 * BD)) (d * N.dot p) := bdm Qgh ⟨by have := h.d0;have := Qgh;omega,h.d1⟩ hb
  have hfz : fz (alF N.x N.y N.z p * d) = d * N.dot p := by rw [alF_eq h hp,Int.mul_comm,Qfc BD_lt.1 hm]
  unfold pastF
  rw [hfz,(Qpf h).1]
  have : Nopast N d [p] ↔ N.dot N ≤ d * N.dot p := by simp [Nopast]
  rw [decide_eq_decide.2 this]
  have hc : cmp (d * N.dot p) (N.dot N) < 0 ↔ d * N.dot p < N.dot N := by
    unfold cmp
    split
    · omega
    · split <;> omega
  rw [decide_eq_decide.2 hc]
  by_cases h : d * N.dot p < N.dot N
  · rw [decide_eq_true h,decide_eq_false (by omega)];rfl
  · rw [decide_eq_false h,decide_eq_true (by omega)];rfl
theorem Qmm {N : P3} {d : Int} (h : Nb N d) {p : P3} (hp : p.may) (s : Value) (w : World) : Calls Tryz.prog 9 #[NrV N.x N.y N.z d s,PV p] w (Ret (.bool (!decide (Nopast N d [p]))) w) := by
  have hf := h.fit
  have := spast_any N.x N.y N.z d hf.1 hf.2.1 hf.2.2.1 hf.2.2.2 p (Qaz (Qew hp)) s w
  rwa [pastF_eq h hp] at this
theorem fl_at0 {ws : List Int} {junk : List Value} {k : Nat} {x : Int} (hx : ws[k]? = some x) : ((ws.flatMap WL ++ junk).drop (k * 8)).take 8 = [.int .u64 (lb (x) 0),.int .u64 (lb (x) 1),.int .u64 (lb (x) 2),.int .u64 (lb (x) 3),.int .u64 (lb (x) 4),.int .u64 (lb (x) 5),.int .u64 (lb (x) 6),.int .u64 (lb (x) 7)] ∧ k * 8 + 8 ≤ (ws.flatMap WL ++ junk).length := by
  have hk : k < ws.length := by
    rcases Nat.lt_or_ge k ws.length with h|h
    · exact h
    · rw [List.getElem?_eq_none h] at hx;cases hx
  rw [List.getElem?_eq_getElem hk] at hx
  cases hx
  have hl := Qeo WL 8 Qdd ws
  refine ⟨?_,by rw [List.length_append,hl];omega⟩
  have := fl_at (m := 8) (bc := ws.flatMap WL ++ junk) (off := 0) (L := ws) (by omega) Qdd (by rw [List.drop_zero,← hl,List.take_left]) hk
  rw [Nat.zero_add] at this
  exact this.1
abbrev NrZ : Value := .agg ((.int .u64 0 :: .int .u64 0 :: .int .u64 0 :: .int .u64 0 :: .int .u64 0 :: .int .u64 0 :: .int .u64 0 :: .int .u64 0 :: .int .u64 0 :: .int .u64 0 :: .int .u64 0 :: .int .u64 0 :: .int .u64 0 :: .int .u64 0 :: .int .u64 0 :: .int .u64 0 :: .int .u64 0 :: .int .u64 0 :: .int .u64 0 :: .int .u64 0 :: .int .u64 0 :: .int .u64 0 :: .int .u64 0 :: .int .u64 0 :: .int .u64 0 :: .int .u64 0 :: .int .u64 0 :: .int .u64 0 :: .int .u64 0 :: .int .u64 0 :: .int .u64 0 :: .int .u64 0 :: .slice none 0 0 :: []) : List Value).toArray
set_option maxHeartbeats 8000000 in
theorem Qom (l : List P3) (ws : List Int) (d : Int) (x y z q : Int) (ok pos : Bool) (res : Value) (ps : Nat → Bool) (n g0 off cap : Nat) (b2 : Value) (bc : List Value) (t0 : TypeId) (u0 : Nat × Nat) (w : World) (hb : w.heap[g0]? = some (.cells bc.toArray t0 u0)) (Hn : Hid (n = l.length)) (hn : (n : Int) ≤ 4) (Hm4 : Hid (ws.length ≤ 4))
    (HS : Hid (∀ (k : Nat) (p : P3),l[k]? = some p → (bc.drop (off + k * 3)).take 3 = [.int .i64 p.x,.int .i64 p.y,.int .i64 p.z] ∧ off + k * 3 + 3 ≤ bc.length))
    (WT : Hid (∀ w1,Keep [] w w1 → Calls Tryz.prog 25 #[b2] w1 (RetW ws d w1)))
    (SG : Hid (∀ (k : Nat) (x : Int),ws[k]? = some x → ∀ w1,Calls Tryz.prog 21 #[W x] w1 (Ret (.int .i64 (sgn x)) w1)))
    (HP : Hid (pos = true ↔ ∀ x ∈ ws,0 < x))
    (SM : Hid (pos = true → ∀ (g cap : Nat) (junk : List Value) (w1 : World),Keep [] w w1 → w1.heap[g]? = some (.cells (ws.flatMap WL ++ junk).toArray 27 (0,0)) → Calls Tryz.prog 26 #[b2,.slice (some ⟨g,0,none⟩) ws.length cap,W d] w1 (Ret (NrV x y z q (.slice none 0 0)) w1)))
    (PA : Hid (pos = true → ∀ (k : Nat) (p : P3),l[k]? = some p → ∀ w1,Calls Tryz.prog 9 #[NrV x y z q (.slice none 0 0),PV p] w1 (Ret (.bool (ps k)) w1)))
    (Hok : Hid (ok = true ↔ pos = true ∧ ∀ k : Nat,k < n → ps k = false)) (HR1 : Hid (ok = true → res = NrV x y z q (.slice none 0 0))) (HR0 : Hid (ok = false → res = NrZ)) :
    Calls Tryz.prog 13 #[.slice (some ⟨g0,off,none⟩) n cap,b2] w (Ret (.tuple #[res,.bool ok]) w) := by
  go_enter Tryz.func13,Tryz.ntmps13
  have hp := Hp.start [] w
  go_wp2_with (first|((with_reducible apply Qag hp);exact ii;exact rfl;clear hp;(try clear w1);intro g w1 hp;simp only [zp,zq,z0,z1])|((with_reducible apply Qae hp);exact zt rfl;exact za rfl;exact rfl;(exact AggTy.size);exact rfl;exact ii;(simp only [n0,Nat.reduceAdd,nn];try rfl);(exact zl rfl);exact rfl;exact ii;clear hp;(try clear w1);intro w1 hp)|((with_reducible refine sx_callW hp (WT.out _ hp.keep) ?_);clear hp;(try clear w1);intro gw cw' junk w1 hp))
  rename_i g4 K hK
  obtain ⟨gd,rfl⟩ : ∃ z : Nat,z = g := ⟨_,rfl⟩
  obtain ⟨m,hm⟩ : ∃ m,m = ws.length := ⟨_,rfl⟩
  rw [← hm]
  have Hm := Lib.hid hm
  have hm4 : (m : Int) ≤ 4 := by have := Hm4.out;omega
  clear hm
  go_loopw [20] (fun i wr => ∃ k : Nat,(k : Int) ≤ m ∧ i = .int .i64 k ∧ Hid (∀ (j : Nat) (x : Int),j < k → ws[j]? = some x → 0 < x) ∧ Hp [] w [⟨gd,27,[.int .u64 (lb (d) 0),.int .u64 (lb (d) 1),.int .u64 (lb (d) 2),.int .u64 (lb (d) 3),.int .u64 (lb (d) 4),.int .u64 (lb (d) 5),.int .u64 (lb (d) 6),.int .u64 (lb (d) 7)]⟩,⟨gw,27,ws.flatMap WL ++ junk⟩,⟨g4,32,(.int .u64 0 :: .int .u64 0 :: .int .u64 0 :: .int .u64 0 :: .int .u64 0 :: .int .u64 0 :: .int .u64 0 :: .int .u64 0 :: .int .u64 0 :: .int .u64 0 :: .int .u64 0 :: .int .u64 0 :: .int .u64 0 :: .int .u64 0 :: .int .u64 0 :: .int .u64 0 :: .int .u64 0 :: .int .u64 0 :: .int .u64 0 :: .int .u64 0 :: .int .u64 0 :: .int .u64 0 :: .int .u64 0 :: .int .u64 0 :: .int .u64 0 :: .int .u64 0 :: .int .u64 0 :: .int .u64 0 :: .int .u64 0 :: .int .u64 0 :: .int .u64 0 :: .int .u64 0 :: .slice none 0 0 :: [])⟩] wr) (fun i _ => m - (intOf i).toNat)
  case atStart => exact ⟨0,by omega,rfl,fun j x hj => absurd hj (by omega),hp⟩
  case round =>
    clear hp
    obtain ⟨k,hk,rfl,hall,hp⟩ := hrel
    by_cases hkn : (k : Int) < m
    · obtain ⟨v,hv⟩ : ∃ v,ws[k]? = some v := ⟨_,List.getElem?_eq_getElem (by have := Hm.out;omega)⟩
      obtain ⟨f1,f2⟩ := fl_at0 (junk := junk) hv
      have k0 : (0 : Int) ≤ (k : Int) := by omega
      have HV := Lib.hid hv
      by_cases hv0 : 0 < v
      · have S1 := Lib.hid (fun w1 => by have := SG.out k v hv w1;rw [show sgn v = 1 from by unfold sgn;rw [if_neg (by omega),if_neg (by omega)]] at this;exact this)
        have HV0 := Lib.hid hv0
        clear hv hv0
        go_wp2_with (first|((with_reducible apply Qag hp);exact ii;exact rfl;clear hp;(try clear w1);intro g w1 hp;simp only [zp,zq,z0,z1])|((with_reducible apply Qab hp);exact zt rfl;exact ii;exact ii;(first|exact zl rfl|assumption);(first|assumption|(simp only [n0,Nat.reduceAdd,nn];try rfl));simp only [zp,zq,z0,z1])|((with_reducible apply Qae hp);exact zt rfl;exact za rfl;exact rfl;(exact AggTy.size);exact rfl;exact ii;(simp only [n0,Nat.reduceAdd,nn];try rfl);(exact zl rfl);exact rfl;exact ii;clear hp;(try clear w1);intro w1 hp)|((with_reducible apply Qar);exact zx rfl;exact zk rfl;exact ii;(exact AggTy.size);omega;omega;((try simp only [m0,Int.reduceToNat,m1,m2,Nat.reduceMul,Nat.reduceAdd,m3,m4,m5,n0]);exact rfl);simp only [zp,zq,z0,z1])|((with_reducible refine Qaf hp (S1.out _) ?_);clear hp;(try clear w1);intro w1 hp))
        go_roundw
        case rel =>
          refine ⟨k + 1,by omega,rfl,?_,hp.sub (List.sublist_cons_self _ _)⟩
          intro j x hj hx
          rcases Nat.lt_or_ge j k with h|h
          · exact hall.out j x h hx
          · rw [show j = k by omega,HV.out] at hx
            cases hx
            exact HV0.out
        case measure => simp [intOf];omega
      · have hpf : pos = false := by
          cases hpos : pos with
          | false => rfl
          | true => exact absurd (HP.out.1 hpos v (List.mem_of_getElem? hv)) hv0
        have hof : ok = false := by
          cases hok : ok with
          | false => rfl
          | true => rw [(Hok.out.1 hok).1] at hpf;cases hpf
        obtain rfl := HR0.out hof
        obtain ⟨sg,hsg,hs0⟩ : ∃ sg,sgn v = sg ∧ sg ≤ 0 := ⟨_,rfl,by unfold sgn;split;omega;split <;> omega⟩
        have S1 := Lib.hid (fun w1 => by have := SG.out k v hv w1;rw [hsg] at this;exact this)
        clear hv hv0 hpf hsg
        subst hof
        go_wp2_with (first|((with_reducible apply Qag hp);exact ii;exact rfl;clear hp;(try clear w1);intro g w1 hp;simp only [zp,zq,z0,z1])|((with_reducible apply Qab hp);exact zt rfl;exact ii;exact ii;(first|exact zl rfl|assumption);(first|assumption|(simp only [n0,Nat.reduceAdd,nn];try rfl));simp only [zp,zq,z0,z1])|((with_reducible apply Qae hp);exact zt rfl;exact za rfl;exact rfl;(exact AggTy.size);exact rfl;exact ii;(simp only [n0,Nat.reduceAdd,nn];try rfl);(exact zl rfl);exact rfl;exact ii;clear hp;(try clear w1);intro w1 hp)|((with_reducible apply Qar);exact zx rfl;exact zk rfl;exact ii;(exact AggTy.size);omega;omega;((try simp only [m0,Int.reduceToNat,m1,m2,Nat.reduceMul,Nat.reduceAdd,m3,m4,m5,n0]);exact rfl);simp only [zp,zq,z0,z1])|((with_reducible refine Qaf hp (S1.out _) ?_);clear hp;(try clear w1);intro w1 hp))
        exact bodyPost_ret (Qan rfl ⟨_,rfl,Qac hp (Nat.le_of_ble_eq_true rfl)⟩ rfl) rfl ⟨rfl,hp.keep⟩
    · have hpt : pos = true := HP.out.2 fun x hx => by
        obtain ⟨j,hj,e⟩ := List.mem_iff_getElem.1 hx
        exact hall.out j x (by have := Hm.out;omega) (by rw [List.getElem?_eq_getElem hj,e])
      have S1 := Lib.hid (fun g cap junk w1 hk h => by have := SM.out hpt g cap junk w1 hk h;rw [← Hm.out] at this;exact this)
      have P1 := Lib.hid (PA.out hpt)
      have HPT := Lib.hid hpt
      clear hpt hall
      go_wp2_with (first|((with_reducible apply Qag hp);exact ii;exact rfl;clear hp;(try clear w1);intro g w1 hp;simp only [zp,zq,z0,z1])|((with_reducible apply Qab hp);exact zt rfl;exact ii;exact ii;(exact zl rfl);(simp only [n0,Nat.reduceAdd,nn];try rfl);simp only [zp,zq,z0,z1])|((with_reducible apply Qae hp);exact zt rfl;exact za rfl;exact rfl;(exact AggTy.size);exact rfl;exact ii;(simp only [n0,Nat.reduceAdd,nn];try rfl);(exact zl rfl);exact rfl;exact ii;clear hp;(try clear w1);intro w1 hp)|((with_reducible refine Qaf hp (S1.out _ _ _ _ hp.keep hp.blk) ?_);clear hp;(try clear w1);intro w1 hp))
      obtain ⟨gn,rfl⟩ : ∃ z : Nat,z = g := ⟨_,rfl⟩
      obtain ⟨w3,hw3⟩ : ∃ x : World,x = wr := ⟨_,rfl⟩
      subst hw3
      go_loopw [35] (fun i wr => ∃ k : Nat,(k : Int) ≤ n ∧ i = .int .i64 k ∧ Hid (∀ j : Nat,j < k → ps j = false) ∧ Hp [] w [⟨gn,32,[.int .u64 (lb (x) 0),.int .u64 (lb (x) 1),.int .u64 (lb (x) 2),.int .u64 (lb (x) 3),.int .u64 (lb (x) 4),.int .u64 (lb (x) 5),.int .u64 (lb (x) 6),.int .u64 (lb (x) 7),.int .u64 (lb (y) 0),.int .u64 (lb (y) 1),.int .u64 (lb (y) 2),.int .u64 (lb (y) 3),.int .u64 (lb (y) 4),.int .u64 (lb (y) 5),.int .u64 (lb (y) 6),.int .u64 (lb (y) 7),.int .u64 (lb (z) 0),.int .u64 (lb (z) 1),.int .u64 (lb (z) 2),.int .u64 (lb (z) 3),.int .u64 (lb (z) 4),.int .u64 (lb (z) 5),.int .u64 (lb (z) 6),.int .u64 (lb (z) 7),.int .u64 (lb (q) 0),.int .u64 (lb (q) 1),.int .u64 (lb (q) 2),.int .u64 (lb (q) 3),.int .u64 (lb (q) 4),.int .u64 (lb (q) 5),.int .u64 (lb (q) 6),.int .u64 (lb (q) 7),.slice none 0 0]⟩,⟨gd,27,[.int .u64 (lb (d) 0),.int .u64 (lb (d) 1),.int .u64 (lb (d) 2),.int .u64 (lb (d) 3),.int .u64 (lb (d) 4),.int .u64 (lb (d) 5),.int .u64 (lb (d) 6),.int .u64 (lb (d) 7)]⟩,⟨gw,27,ws.flatMap WL ++ junk⟩,⟨g4,32,(.int .u64 0 :: .int .u64 0 :: .int .u64 0 :: .int .u64 0 :: .int .u64 0 :: .int .u64 0 :: .int .u64 0 :: .int .u64 0 :: .int .u64 0 :: .int .u64 0 :: .int .u64 0 :: .int .u64 0 :: .int .u64 0 :: .int .u64 0 :: .int .u64 0 :: .int .u64 0 :: .int .u64 0 :: .int .u64 0 :: .int .u64 0 :: .int .u64 0 :: .int .u64 0 :: .int .u64 0 :: .int .u64 0 :: .int .u64 0 :: .int .u64 0 :: .int .u64 0 :: .int .u64 0 :: .int .u64 0 :: .int .u64 0 :: .int .u64 0 :: .int .u64 0 :: .int .u64 0 :: .slice none 0 0 :: [])⟩] wr) (fun i _ => n - (intOf i).toNat)
      case atStart => exact ⟨0,by omega,rfl,fun j hj => absurd hj (by omega),hp⟩
      case round =>
        clear hp
        obtain ⟨k,hk,rfl,hall,hp⟩ := hrel
        by_cases hkn : (k : Int) < n
        · obtain ⟨p,hpk⟩ : ∃ p,l[k]? = some p := ⟨_,List.getElem?_eq_getElem (by have := Hn.out;omega)⟩
          obtain ⟨f1,f2⟩ := HS.out k p hpk
          have k0 : (0 : Int) ≤ (k : Int) := by omega
          have P2 := P1.out k p hpk
          cases hps : ps k with
          | true =>
            rw [hps] at P2
            have P2 := Lib.hid P2
            have hof : ok = false := by
              cases hok : ok with
              | false => rfl
              | true => rw [(Hok.out.1 hok).2 k (by omega)] at hps;cases hps
            obtain rfl := HR0.out hof
            clear hps hpk
            subst hof
            go_wp2_with (first|((with_reducible apply Qag hp);exact ii;exact rfl;clear hp;(try clear w1);intro g w1 hp;simp only [zp,zq,z0,z1])|((with_reducible apply Qab hp);exact zt rfl;exact ii;exact ii;(exact zl rfl);(simp only [n0,Nat.reduceAdd,nn];try rfl);simp only [zp,zq,z0,z1])|((with_reducible apply Qae hp);exact zt rfl;exact za rfl;exact rfl;(exact AggTy.size);exact rfl;exact ii;(simp only [n0,Nat.reduceAdd,nn];try rfl);(exact zl rfl);exact rfl;exact ii;clear hp;(try clear w1);intro w1 hp)|((with_reducible apply Qar);exact zx rfl;exact zk rfl;exact ii;(exact AggTy.size);omega;omega;((try simp only [m0,Int.reduceToNat,m1,m2,Nat.reduceMul,Nat.reduceAdd,m3,m4,m5,n0]);exact rfl);simp only [zp,zq,z0,z1])|((with_reducible apply Qbr hp);exact zt rfl;assumption;exact ii;assumption;(omega);simp only [zp,zq,z0,z1])|((with_reducible refine Qaf hp (P2.out _) ?_);clear hp;(try clear w1);intro w1 hp))
            exact bodyPost_ret (Qan rfl ⟨_,rfl,Qac hp (Nat.le_of_ble_eq_true rfl)⟩ rfl) rfl ⟨rfl,hp.keep⟩
          | false =>
            rw [hps] at P2
            have P2 := Lib.hid P2
            have HPS := Lib.hid hps
            clear hps hpk
            go_wp2_with (first|((with_reducible apply Qag hp);exact ii;exact rfl;clear hp;(try clear w1);intro g w1 hp;simp only [zp,zq,z0,z1])|((with_reducible apply Qab hp);exact zt rfl;exact ii;exact ii;(exact zl rfl);(simp only [n0,Nat.reduceAdd,nn];try rfl);simp only [zp,zq,z0,z1])|((with_reducible apply Qae hp);exact zt rfl;exact za rfl;exact rfl;(exact AggTy.size);exact rfl;exact ii;(simp only [n0,Nat.reduceAdd,nn];try rfl);(exact zl rfl);exact rfl;exact ii;clear hp;(try clear w1);intro w1 hp)|((with_reducible apply Qar);exact zx rfl;exact zk rfl;exact ii;(exact AggTy.size);omega;omega;((try simp only [m0,Int.reduceToNat,m1,m2,Nat.reduceMul,Nat.reduceAdd,m3,m4,m5,n0]);exact rfl);simp only [zp,zq,z0,z1])|((with_reducible apply Qbr hp);exact zt rfl;assumption;exact ii;assumption;(omega);simp only [zp,zq,z0,z1])|((with_reducible refine Qaf hp (P2.out _) ?_);clear hp;(try clear w1);intro w1 hp))
            go_roundw
            case rel =>
              refine ⟨k + 1,by omega,rfl,?_,hp.sub (List.sublist_cons_self _ _)⟩
              intro j hj
              rcases Nat.lt_or_ge j k with h|h
              · exact hall.out j h
              · rw [show j = k by omega];exact HPS.out
            case measure => simp [intOf];omega
        · have hot : ok = true := Hok.out.2 ⟨HPT.out,fun j hj => hall.out j (by omega)⟩
          obtain rfl := HR1.out hot
          subst hot
          clear hall
          go_wp2_with (first|((with_reducible apply Qab hp);exact zt rfl;exact ii;exact ii;(exact zl rfl);(simp only [n0,Nat.reduceAdd,nn];try rfl);simp only [zp,zq,z0,z1])|((with_reducible apply Qae hp);exact zt rfl;exact za rfl;exact rfl;(exact AggTy.size);exact rfl;exact ii;(simp only [n0,Nat.reduceAdd,nn];try rfl);(exact zl rfl);exact rfl;exact ii;clear hp;(try clear w1);intro w1 hp))
          exact bodyPost_ret (Qan rfl ⟨_,rfl,Qac hp (Nat.le_of_ble_eq_true rfl)⟩ rfl) rfl ⟨rfl,hp.keep⟩
/-- What nearest comes to. -/
def nrV (l S : List P3) : Value := if Succ l S then NrV (nrm (cmb (cw S) S) (wd S)).1.x (nrm (cmb (cw S) S) (wd S)).1.y (nrm (cmb (cw S) S) (wd S)).1.z (nrm (cmb (cw S) S) (wd S)).2 (.slice none 0 0) else NrZ
theorem Qmf {X : P3} {d : Int} {l : List P3} : Nopast X d l ↔ ∀ (k : Nat) (p : P3),l[k]? = some p → Nopast X d [p] := by
  constructor
  · intro h k p hk
    exact h.mono (fun q hq => by rw [List.mem_singleton.1 hq];exact List.mem_of_getElem? hk)
  · intro h p hp
    obtain ⟨k,hk,e⟩ := List.mem_iff_getElem.1 hp
    exact h k p (by rw [List.getElem?_eq_getElem hk,e]) p (by simp)
theorem nearest_any {l S : List P3} (hl1 : 1 ≤ l.length) (hl4 : l.length ≤ 4) (hml : ∀ p ∈ l,p.may) (hm : ∀ p ∈ S,p.may) (hs : Simp S) {v vs : Value} (w : World) (h : PSl w v l) (h' : PSl w vs S) : Calls Tryz.prog 13 #[v,vs] w (Ret (.tuple #[nrV l S,.bool (decide (Succ l S))]) w) := by
  obtain ⟨h1,h4⟩ := Qhm hs
  rcases h with ⟨rfl,rfl⟩|⟨g0,off,cap,bc,t0,u0,rfl,hb,hv⟩
  · simp at hl1
  have hr := (Qdg hv).resolve_left (by intro h0;rw [h0] at hl1;simp at hl1)
  obtain ⟨hb1,hb2⟩ := cw_bd h1 h4 hm
  have hwd := wd_pos hs
  have hN := nrm_nb (S := S) (ws := cw S) (d := wd S) (by rw [Qim hs];exact h4) hm hb1 hwd hb2.2
  have hPS : ∀ w1,Keep [] w w1 → PSl w1 vs S := fun w1 hk => h'.keep hk
  generalize hX : nrm (cmb (cw S) S) (wd S) = X at *
  have hsucc : decide (Succ l S) = true ↔ decide (∀ x ∈ cw S,0 < x) = true ∧ ∀ k : Nat,k < l.length → (!decide (Nopast X.1 X.2 [pt l k])) = false := by
    rw [decide_eq_true_iff,decide_eq_true_iff]
    have hnp : Nopast (cmb (cw S) S) (wd S) l ↔ ∀ k : Nat,k < l.length → (!decide (Nopast X.1 X.2 [pt l k])) = false := by
      rw [← nrm_past _ hwd,hX,Qmf]
      constructor
      · intro h k hk
        rw [decide_eq_true (h k _ (Qkg hk))];rfl
      · intro h k p hk
        have hkl : k < l.length := by
          rcases Nat.lt_or_ge k l.length with h|h
          · exact h
          · rw [List.getElem?_eq_none h] at hk;cases hk
        have e := h k hkl
        rw [Qkg hkl] at hk
        cases hk
        simpa using e
    unfold Succ
    rw [hnp]
    exact ⟨fun h => h.2,fun h => ⟨hs,h⟩⟩
  refine Qom l (cw S) (wd S) X.1.x X.1.y X.1.z X.2 (decide (Succ l S)) (decide (∀ x ∈ cw S,0 < x)) (nrV l S) (fun k => !decide (Nopast X.1 X.2 [pt l k])) l.length g0 off cap vs bc t0 u0 w hb rfl (by omega) (by rw [Qim hs];exact h4) ?_ ?_ ?_ ?_ ?_ ?_ hsucc ?_ ?_
  · intro k p hk
    refine ⟨Qfm hv hk,?_⟩
    have : k < l.length := by
      rcases Nat.lt_or_ge k l.length with h|h
      · exact h
      · rw [List.getElem?_eq_none h] at hk;cases hk
    omega
  · exact fun w1 hk => weights_any h1 h4 hm w1 (hPS w1 hk)
  · intro k x hx w1
    have hx' := hb1 x (List.mem_of_getElem? hx)
    have := BP_lt
    have := BWP
    exact Qcn x (Qcz (B := BW) (by have := Qnc;omega) hx') w1
  · exact decide_eq_true_iff
  · intro hpos g cap junk w1 hk hg
    have hd1 : wd S ≤ BW := hb2.2
    have := sum_any (ws := cw S) (d := wd S) h1 h4 hm (Qim hs) hb1 hwd hd1 w1 (hPS w1 hk) (FSl.own (cap := cap) Qdd rfl hg)
    rw [hX] at this
    exact this
  · intro hpos k p hk w1
    have hkl : k < l.length := by
      rcases Nat.lt_or_ge k l.length with h|h
      · exact h
      · rw [List.getElem?_eq_none h] at hk;cases hk
    have hpm := hml p (List.mem_of_getElem? hk)
    rw [Qkg hkl] at hk
    cases hk
    exact Qmm hN hpm _ w1
  · intro h
    unfold nrV
    rw [if_pos (decide_eq_true_iff.1 h),hX]
  · intro h
    unfold nrV
    rw [if_neg (by simpa using h)]
end Go.Proofs.YtdfdmeoalbpcdaaGreat
