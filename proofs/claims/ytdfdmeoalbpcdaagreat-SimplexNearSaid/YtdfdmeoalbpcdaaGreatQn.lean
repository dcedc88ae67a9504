/-
  Package simplex: Near at one to four points (contract).
-/
import Derived.Test.YtdfdmeoalbpcdaaGreatQm
set_option linter.unusedSimpArgs false
set_option linter.unusedVariables false
set_option maxRecDepth 100000
namespace Go.Proofs.YtdfdmeoalbpcdaaGreat
open Go Go.RowKit
attribute [local irreducible] wpList
/-- Where a round has left: the numbers lie in g2, no error in g3. -/
def NIx (l : List P3) (w : World) (g2 g3 : Nat) (pre : List Elt) (W : World) : Prop := ∃ (pre' : List Elt) (x : Elt),pre = pre' ++ [x] ∧ (∀ y ∈ pre',¬Succ l (pts l y.2)) ∧ Succ l (pts l x.2) ∧ (SlW W x.1 x.2 ∧ FrS w.heap.size x.1) ∧
  ∃ X : P3 × Int,X = nrm (cmb (cw (pts l x.2)) (pts l x.2)) (wd (pts l x.2)) ∧ Hp [] w [⟨g3,33,[.int .i64 0]⟩,⟨g2,32,(WL X.1.x ++ (WL X.1.y ++ (WL X.1.z ++ (WL X.2 ++ [x.1]))))⟩] W
theorem slw_grown {B : Nat} {W W' : World} {v : Value} {ks : List Nat} {row : Option Nat} (h : SlW W v ks) (hg : W.grownBy W' row) (hr : ∀ r,row = some r → B ≤ r ∧ ∃ o : Obj,W.heap[r]? = some o ∧ o.isCells = false) : SlW W' v ks := by
  rcases h with h|⟨g,cap,junk,h1,h2⟩
  · exact .inl h
  · exact .inr ⟨g,cap,junk,h1,Qjt rfl h2 hg hr⟩
theorem Qmw {l : List P3} {pre : List Elt} {x : Elt} {r : List (List Nat)} (h : (pre ++ [x]).map (·.2) ++ r = chs l.length) (hf : ∀ y ∈ pre,¬Succ l (pts l y.2)) (hs : Succ l (pts l x.2)) : Qgv l = some x.2 := by
  unfold Qgv
  rw [List.find?_eq_some_iff_append]
  refine ⟨decide_eq_true hs,pre.map (·.2),r,by rw [← h];simp,?_⟩
  intro y hy
  obtain ⟨z,hz,rfl⟩ := List.mem_map.1 hy
  simp [hf z hz]
set_option maxHeartbeats 16000000 in
theorem near_main (l : List P3) (n g0 off cap0 : Nat) (bc : List Value) (t0 : TypeId) (u0 : Nat × Nat) (w : World) (hb : w.heap[g0]? = some (.cells bc.toArray t0 u0)) (Hn : Hid (n = l.length)) (h1 : ¬ (n : Int) < 1) (h4 : ¬ 4 < (n : Int)) (r0 : Int) (ks : List Nat) (X : P3 × Int)
    (HS : Hid (∀ (k : Nat) (p : P3),l[k]? = some p → (bc.drop (off + k * 3)).take 3 = [.int .i64 p.x,.int .i64 p.y,.int .i64 p.z] ∧ off + k * 3 + 3 ≤ bc.length)) (HM : Hid (∀ p ∈ l,p.may)) (HV : Hid (∀ w1,w1.heap[g0]? = some (.cells bc.toArray t0 u0) → PSl w1 (.slice (some ⟨g0,off,none⟩) n cap0) l))
    (RK0 : Hid (∀ w1,Keep [] w w1 → Calls Tryz.prog 11 #[.slice (some ⟨g0,off,none⟩) n cap0] w1 (Ret (.tuple #[.int .i64 r0,.int .i64 0]) w1)))
    (HF : Hid (Qgv l = some ks ∧ X = nrm (cmb (cw (pts l ks)) (pts l ks)) (wd (pts l ks)))) :
    Calls Tryz.prog 5 #[.slice (some ⟨g0,off,none⟩) n cap0] w (Qfi X.1 X.2 ks 0 w) := by
  refine (callsIn_wide (n := 8)).1 (callsIn_of_wp_marks Tryz.func5 rfl trivial (wpIn_wide.2 ?_) rfl)
  simp only [Tryz.ntmps5,List.size_toArray,List.length_cons,List.length_nil,Nat.reduceAdd,Nat.reduceSub,Array.replicate_succ,Array.replicate_zero,List.push_toArray,List.append_toArray,List.nil_append,List.cons_append]
  have hp := Hp.start [] w
  go_wp2_with (first|((with_reducible apply Qau hp);exact zs rfl;exact rfl;clear hp;(try clear w1);intro g w1 hp;simp only [zp,zq,z0,z1])|((with_reducible apply Qag hp);exact ii;exact rfl;clear hp;(try clear w1);intro g w1 hp;simp only [zp,zq,z0,z1])|((with_reducible apply Qai hp);exact zt rfl;exact ii;exact ii;(exact zso rfl);simp only [zp,zq,z0,z1])|((with_reducible apply Qbm);exact rfl)|((with_reducible refine Qaf hp (RK0.out _ hp.keep) ?_);clear hp;(try clear w1);intro w1 hp)|((with_reducible refine Qci hp (choices_any _ _) ?_);clear hp;(try clear w1);intro g w1 hp))
  rename_i g1 g2 g3 K hK
  have hwl := hp.keep.size
  have hbn := hp.blk (g := g)
  have hp0 := hp.keep
  refine wpIn_wide.1 (Qkv (α := Elt) (show 1 ≤ 8 by omega) (g := 23) (ca := #[.pointer (some ⟨g,0,none⟩)]) rfl (Go.Proofs.enters_of Tryz.func23 (by kernel_rfl) rfl)
    (enc := fun x : Elt => x.1) (Px := fun x W => SlW W x.1 x.2 ∧ x.2 ∈ chs n ∧ FrS w.heap.size x.1) (S := fun xs => xs.map (·.2) = chs n) (Sp := fun pre => ∃ r,pre.map (·.2) ++ r = chs n) (fun W hW => Qlj 7 n w.heap.size (by omega) (by omega) g W (Nat.le_trans hwl hW.size) (hW.some hbn))
    (fun xs => ∀ y ∈ xs,¬Succ l (pts l y.2)) (NIx l w g2 g3) ?own (by simp) 6 ?asg ?body ?keep ?done ?stop)
  case own =>
    rintro pre W W' row ⟨pre',x,h1,h2,h3,h4,X,hX,hI⟩ hg hr
    exact ⟨pre',x,h1,h2,h3,⟨slw_grown h4.1 hg hr,h4.2⟩,X,hX,hI.grown hp.keep.size hg hr⟩
  case keep =>
    rintro x A l' o o' ⟨hx,hc⟩ ho hcell
    refine ⟨?_,hc⟩
    rcases hx with h|⟨g,cap,junk,h1,h2⟩
    · exact .inl h
    · refine .inr ⟨g,cap,junk,h1,(World.putObj_heap_other ?_).trans h2⟩
      rintro rfl
      rw [h2] at ho
      cases ho
      simp [Obj.isCells] at hcell
  case done =>
    rintro D xs Wr hD hS hI - -
    exfalso
    have hf := HF.out.1
    have hnl := Hn.out
    unfold Qgv at hf
    have hm := List.mem_of_find?_eq_some hf
    have hs := List.find?_some hf
    rw [← hnl,← hS] at hm
    obtain ⟨y,hy,rfl⟩ := List.mem_map.1 hm
    exact hI y hy (by simpa using hs)
  case stop =>
    rintro D pre Wr hD hw ⟨pre',x,rfl,h2,h3,h4,X',hX',hI⟩ hdef
    obtain ⟨r,hr⟩ := hw
    rw [Hn.out] at hr
    have hfe := Qmw hr h2 h3
    obtain ⟨hf,hXe⟩ := HF.out
    rw [hf] at hfe
    cases hfe
    rw [← hXe] at hX'
    subst hX'
    have HS := Lib.hid h4
    clear h2 h3 h4 hr
    refine wpIn_wide.2 ?_
    have hp := hI.self
    try dsimp only [List.map_cons,List.map_nil] at hp
    go_wp2_with (fail)
    obtain ⟨hd1,hp1⟩ := Hp.shut hwl hD hI rfl hp hdef
    refine ⟨by simp,.inl ⟨_,_,rfl,run_takeDeferred hd1,?_⟩⟩
    refine ⟨_,Qan rfl ⟨_,rfl,Qac hp1 (Nat.le_of_ble_eq_true rfl)⟩ ⟨_,rfl,Qbt hp1 rfl⟩,x.1,rfl,hp1.keep,?_,HS.out.2⟩
    rcases HS.out.1 with h|⟨g,cap,junk,h1,h2⟩
    · exact .inl h
    · refine .inr ⟨g,cap,junk,h1,(World.putObj_heap_other ?_).trans h2⟩
      rintro rfl
      rw [h2] at hdef
      cases hdef
  case asg =>
    intro l' x W K' hK'
    simp only [List.setIfInBounds_toArray,List.set_cons_zero,List.set_cons_succ] at hK' ⊢
    have hp := Hp.start [] W
    gi_wp2_with (fail)
    exact hK'
  case body =>
    rintro l' pre ⟨v,ks'⟩ W hkW hI ⟨hx,hc,hfr⟩
    dsimp only at hx hc hfr ⊢
    obtain ⟨hsub,hne,_,_⟩ := chs_sub hc
    have hlen : 1 ≤ ks'.length ∧ ks'.length ≤ 4 := by
      have h1 := hsub.length_le
      rw [List.length_range] at h1
      have h2 := List.length_pos_iff.2 hne
      omega
    obtain ⟨gk,ck,jk,rfl,hbk⟩ := hx.resolve_left fun h => hne h.2
    have hb1 := hkW.some (hp.blk (g := g1))
    have hb0 := (hp0.trans hkW).some hb
    have hb2 := hkW.some (hp.blk (g := g2))
    have hb3 := hkW.some (hp.blk (g := g3))
    have hkWw := hp0.trans hkW
    have hpW := hp.call hkW
    have hnd := hp.nd
    simp only [List.map_cons,List.map_nil,List.nodup_cons,List.mem_cons,List.not_mem_nil,or_false,not_or] at hnd
    have hz2 : w.heap.size ≤ g2 := hp.fresh (g := g2)
    have hz3 : w.heap.size ≤ g3 := hp.fresh (g := g3)
    have hl0 := Qdh hb
    have y0 : g0 ∉ [g2,g3] := by simp only [List.mem_cons,List.not_mem_nil,or_false,not_or];omega
    have y1 : g1 ∉ [g2,g3] := by
      simp only [List.mem_cons,List.not_mem_nil,or_false,not_or]
      exact ⟨fun e => hnd.2.2.1 e.symm,fun e => hnd.2.1.2 e.symm⟩
    have yk : gk ∉ [g2,g3] := by
      simp only [List.mem_cons,List.not_mem_nil,or_false,not_or]
      refine ⟨fun e => ?_,fun e => ?_⟩
      · rw [e,hb2] at hbk;simp at hbk
      · rw [e,hb3] at hbk;simp at hbk
    have yw : (∀ q ∈ [g2,g3],q < w1.heap.size) := by
      intro q hq
      simp only [List.mem_cons,List.not_mem_nil,or_false] at hq
      rcases hq with rfl|rfl
      · exact Qdh (hp.blk (g := q))
      · exact Qdh (hp.blk (g := q))
    have yzz : (∀ q ∈ [g2,g3],w.heap.size ≤ q) := by
      intro q hq
      simp only [List.mem_cons,List.not_mem_nil,or_false] at hq
      rcases hq with rfl|rfl <;> assumption
    have h23 : g3 ≠ g2 := fun e => hnd.2.1.1 e
    have hkl : ∀ k ∈ ks',k < n := fun k hk => List.mem_range.1 (hsub.subset hk)
    have hpt : ∀ k ∈ ks',((pt l k).may ∧ (bc.drop (off + k * 3)).take 3 = [.int .i64 (pt l k).x,.int .i64 (pt l k).y,.int .i64 (pt l k).z] ∧ off + k * 3 + 3 ≤ bc.length) := fun k hk => by
      have hk' := hkl k hk
      have e := Qkg (ps := l) (i := k) (by have := Hn.out;omega)
      exact ⟨HM.out _ (List.mem_of_getElem? e),(HS.out k _ e)⟩
    have hmS : ∀ p ∈ pts l ks',p.may := fun p hp => by
      obtain ⟨k,hk,rfl⟩ := List.mem_map.1 hp
      exact (hpt k hk).1
    have hfS : Qdf (pts l ks') = true := by
      unfold Qdf
      rw [List.all_eq_true]
      intro p hp
      exact decide_eq_true (hmS p hp)
    have hrk := Qko hfS (by rw [Qdu];exact hlen.1) (by rw [Qdu];exact hlen.2)
    have RK := fun (g cap : Nat) (cs : List Value) (w' : World) (h : w'.heap[g]? = some (.cells cs.toArray 39 (0,0))) (hcs : cs.take (ks'.length * 3) = pcs (pts l ks')) => Qnl (ps := pts l ks') (v := .slice (some ⟨g,0,none⟩) ks'.length cap) (by rw [Qdu];unfold maxLen;omega) w' (.inr ⟨g,0,cap,cs,_,_,by rw [Qdu],h,by rw [List.drop_zero,Qdu];exact hcs⟩)
    have NE := fun (hs : Simp (pts l ks')) (g cap : Nat) (cs : List Value) (w' : World) (hk : w'.heap[g0]? = some (.cells bc.toArray t0 u0)) (h : w'.heap[g]? = some (.cells cs.toArray 39 (0,0))) (hcs : cs.take (ks'.length * 3) = pcs (pts l ks')) => nearest_any (l := l) (S := pts l ks') (by have := Hn.out;omega) (by have := Hn.out;omega) HM.out hmS hs (v := .slice (some ⟨g0,off,none⟩) n cap0) w' (HV.out w' hk) (vs := .slice (some ⟨g,0,none⟩) ks'.length cap) (.inr ⟨g,0,cap,cs,_,_,by rw [Qdu],h,by rw [List.drop_zero,Qdu];exact hcs⟩)
    rw [hrk.1] at RK
    have hrk2 := hrk.2
    rw [Qdu] at hrk2
    clear hrk hmS hfS
    simp only [List.setIfInBounds_toArray,List.set_cons_zero,List.set_cons_succ]
    generalize hS : pts l ks' = S at *
    have HI := Lib.hid hI
    have HFR := Lib.hid hfr
    have HNE := Lib.hid hne
    clear hI hne hc hsub hx hfr
    match ks',hlen,hS,hkl,hpt,hbk,RK,NE,hrk2,HFR with
    | [k1],_,hS,hkl,hpt,hbk,RK,NE,hrk2,HFR =>
      have hk0 := hkl k1 (by simp)
      obtain ⟨_,f0,l0⟩ := hpt k1 (by simp)
      have j0 : (0 : Int) ≤ (k1 : Int) := by omega
      generalize hp0 : pt l k1 = p0 at *
      have eS : S = [p0] := by rw [← hS];simp only [pts,List.map_cons,List.map_nil,hp0]
      subst eS
      simp only [List.map_cons,List.map_nil,List.length_cons,List.length_nil,Nat.zero_add,Nat.reduceAdd,List.cons_append,List.nil_append] at hbk RK NE hrk2 ⊢
      clear hpt hkl
      have HSx := Lib.hid hS
      clear hS
      generalize hrk0 : (Qft [p0]).1 = rk at *
      have RK := Lib.hid RK
      clear hrk0
      by_cases hsm : Simp [p0]
      · have NE := NE hsm
        obtain rfl := hrk2.2 hsm
        by_cases hsu : Succ l [p0]
        · rw [decide_eq_true hsu] at NE
          obtain ⟨Y,hY⟩ : ∃ Y : P3 × Int,Y = nrm (cmb (cw [p0]) [p0]) (wd [p0]) := ⟨_,rfl⟩
          have env : nrV l [p0] = NrV Y.1.x Y.1.y Y.1.z Y.2 (.slice none 0 0) := by rw [hY];exact if_pos hsu
          rw [env] at NE
          have HY := Lib.hid hY
          clear env hrk2 hY
          generalize eyx : Y.1.x = yx at *
          generalize eyy : Y.1.y = yy at *
          generalize eyz : Y.1.z = yz at *
          generalize eyq : Y.2 = yq at *
          have EY := Lib.hid (And.intro eyx (And.intro eyy (And.intro eyz eyq)))
          clear eyx eyy eyz eyq
          have NE := Lib.hid NE
          have HSU := Lib.hid hsu
          clear hsm hsu
          have hp : Hp [g2,g3] W [⟨g3,33,[.int .i64 0]⟩,⟨g2,32,_⟩] W := ⟨Keep.refl _ _,by intro b hb;rcases List.mem_cons.1 hb with rfl|hb;exact ⟨.inl (by simp),hb3⟩;rw [List.mem_singleton.1 hb];exact ⟨.inl (by simp),hb2⟩,by simp only [List.map_cons,List.map_nil,List.nodup_cons,List.mem_cons,List.not_mem_nil,or_false,not_false_eq_true,List.nodup_nil,and_true];exact h23⟩
          gi_wp2_with (fail)
          refine wpIn_loop_rounds 2 ?_
          rw [roundsIn_succ]
          gi_wp2_with (first|((with_reducible apply Qax);exact zx rfl;exact zk rfl;exact ii;exact Sz.z;omega;omega;((try simp only [m0,Int.reduceToNat,m1,m2,Nat.reduceMul,Nat.reduceAdd,m3,m4,m5,n0]);exact rfl);simp only [zp,zq,z0,z1])|((with_reducible apply Qaw hp);exact ii;(exact AggTy.size);exact ii;exact zl rfl;decide;(exact zk1 rfl);exact rfl;(exact zm1 rfl);(intro l hl <;> simp only [List.mem_cons,List.not_mem_nil,or_false] at hl <;> rcases hl with rfl|rfl|rfl|rfl <;> rfl);exact rfl;clear hp;(try clear w1);intro g w1 hp;simp only [zp,zq,z0,z1])|((with_reducible apply Qbn hp);exact ii;exact ii;exact rfl;decide;exact (rfl : _ = Value.slice none 0 0);exact zy rfl;exact ii;exact rfl;exact rfl;decide;(unfold maxLen;decide);decide;clear hp;(try clear w1);intro g cap junk w1 hl1 hl2 hl3 hp;simp only [zp,zq,z0,z1])|((with_reducible apply Qcb hp);exact zt rfl;assumption;assumption;exact ii;assumption;(omega);simp only [zp,zq,z0,z1])|((with_reducible apply Qbi hp);exact zt rfl;assumption;assumption;exact ii;(first|exact zso rfl|exact zio rfl);simp only [zp,zq,z0,z1]))
          rw [roundsIn_succ]
          gi_wp2_with (first|((with_reducible apply Qdo hp);exact ii;exact rfl;clear hp;(try clear w1);intro g w1 hp;simp only [zp,zq,z0,z1])|((with_reducible apply Qcl hp);exact zt rfl;exact ii;exact ii;(exact zl rfl);(simp only [n0,Nat.reduceAdd,nn];try rfl);simp only [zp,zq,z0,z1])|((with_reducible apply Qdp hp);exact zt rfl;(first|exact za rfl|exact zi rfl|exact zs rfl);exact rfl;exact Sz.z;exact rfl;exact ii;(simp only [n0,Nat.reduceAdd,nn];try rfl);(exact zl rfl);exact rfl;exact ii;clear hp;(try clear w1);intro w1 hp)|((with_reducible apply Qbi hp);exact zt rfl;assumption;assumption;exact ii;(exact zso rfl);simp only [zp,zq,z0,z1])|((with_reducible refine Qby hp (RK.out _ _ _ _ hp.blk rfl) ?_);clear hp;(try clear w1);intro w1 hp)|((with_reducible refine Qby hp (NE.out _ _ _ _ (hp.farX (by assumption) (by assumption)) hp.blk rfl) ?_);clear hp;(try clear w1);intro w1 hp))
          refine ⟨⟨[g2,g3],yw,hp.keep⟩,pre,_,rfl,HI.out,?_,?_,Y,?_,?_⟩
          · dsimp only
            rw [HSx.out];exact HSU.out
          · exact ⟨.inr ⟨gk,ck,jk,rfl,hp.farX yk hbk⟩,HFR.out⟩
          · dsimp only
            rw [HSx.out];exact HY.out
          · obtain ⟨e1,e2,e3,e4⟩ := EY.out
            rw [e1,e2,e3,e4]
            exact (hpW.within' hp yzz).sub (by repeat (first|exact sb0|apply sb3))
        · rw [decide_eq_false hsu,show nrV l [p0] = NrZ from if_neg hsu] at NE
          have NE := Lib.hid NE
          have HSM := Lib.hid hsu
          clear hrk2 hsm hsu
          have hp := Hp.start [] W
          gi_wp2_with (fail)
          refine wpIn_loop_rounds 2 ?_
          rw [roundsIn_succ]
          gi_wp2_with (first|((with_reducible apply Qax);exact zx rfl;exact zk rfl;exact ii;exact Sz.z;omega;omega;((try simp only [m0,Int.reduceToNat,m1,m2,Nat.reduceMul,Nat.reduceAdd,m3,m4,m5,n0]);exact rfl);simp only [zp,zq,z0,z1])|((with_reducible apply Qbg hp);exact zt rfl;assumption;exact ii;assumption;(omega);simp only [zp,zq,z0,z1])|((with_reducible apply Qbc hp);exact zt rfl;assumption;exact ii;(first|exact zio rfl|exact zso rfl);simp only [zp,zq,z0,z1])|((with_reducible apply Qaw hp);exact ii;(exact AggTy.size);exact ii;exact zl rfl;decide;(exact zk1 rfl);exact rfl;(exact zm1 rfl);(intro l hl <;> simp only [List.mem_cons,List.not_mem_nil,or_false] at hl <;> rcases hl with rfl|rfl|rfl|rfl <;> rfl);exact rfl;clear hp;(try clear w1);intro g w1 hp;simp only [zp,zq,z0,z1])|((with_reducible apply Qbn hp);exact ii;exact ii;exact rfl;decide;exact (rfl : _ = Value.slice none 0 0);exact zy rfl;exact ii;exact rfl;exact rfl;decide;(unfold maxLen;decide);decide;clear hp;(try clear w1);intro g cap junk w1 hl1 hl2 hl3 hp;simp only [zp,zq,z0,z1]))
          rw [roundsIn_succ]
          gi_wp2_with (first|((with_reducible apply Qdo hp);exact ii;exact rfl;clear hp;(try clear w1);intro g w1 hp;simp only [zp,zq,z0,z1])|((with_reducible apply Qdp hp);exact zt rfl;(exact za rfl);exact rfl;(exact AggTy.size);exact rfl;exact ii;(simp only [n0,Nat.reduceAdd,nn];try rfl);(exact zl rfl);exact rfl;exact ii;clear hp;(try clear w1);intro w1 hp)|((with_reducible apply Qbc hp);exact zt rfl;assumption;exact ii;(exact zso rfl);simp only [zp,zq,z0,z1])|((with_reducible refine Qby hp (RK.out _ _ _ _ hp.blk rfl) ?_);clear hp;(try clear w1);intro w1 hp)|((with_reducible refine Qby hp (NE.out _ _ _ _ (hp.keep.some (by assumption)) hp.blk rfl) ?_);clear hp;(try clear w1);intro w1 hp))
          refine ⟨hp.keep,?_⟩
          intro y hy
          rcases List.mem_append.1 hy with h|h
          · exact HI.out y h
          · rw [List.mem_singleton.1 h]
            dsimp only
            rw [HSx.out]
            exact HSM.out
      · have hne : (rk == 0) = false := beq_eq_false_iff_ne.2 fun h => hsm (hrk2.1 (by omega))
        have HSM := Lib.hid (fun h : Succ l [p0] => hsm h.1)
        clear NE hrk2 hsm
        have hp := Hp.start [] W
        gi_wp2_with (fail)
        refine wpIn_loop_rounds 2 ?_
        rw [roundsIn_succ]
        gi_wp2_with (first|((with_reducible apply Qax);exact zx rfl;exact zk rfl;exact ii;exact Sz.z;omega;omega;((try simp only [m0,Int.reduceToNat,m1,m2,Nat.reduceMul,Nat.reduceAdd,m3,m4,m5,n0]);exact rfl);simp only [zp,zq,z0,z1])|((with_reducible apply Qbg hp);exact zt rfl;assumption;exact ii;assumption;(omega);simp only [zp,zq,z0,z1])|((with_reducible apply Qbc hp);exact zt rfl;assumption;exact ii;(first|exact zio rfl|exact zso rfl);simp only [zp,zq,z0,z1])|((with_reducible apply Qaw hp);exact ii;(exact AggTy.size);exact ii;exact zl rfl;decide;(exact zk1 rfl);exact rfl;(exact zm1 rfl);(intro l hl <;> simp only [List.mem_cons,List.not_mem_nil,or_false] at hl <;> rcases hl with rfl|rfl|rfl|rfl <;> rfl);exact rfl;clear hp;(try clear w1);intro g w1 hp;simp only [zp,zq,z0,z1])|((with_reducible apply Qbn hp);exact ii;exact ii;exact rfl;decide;exact (rfl : _ = Value.slice none 0 0);exact zy rfl;exact ii;exact rfl;exact rfl;decide;(unfold maxLen;decide);decide;clear hp;(try clear w1);intro g cap junk w1 hl1 hl2 hl3 hp;simp only [zp,zq,z0,z1]))
        rw [roundsIn_succ]
        gi_wp2_with ((with_reducible refine Qby hp (RK.out _ _ _ _ hp.blk rfl) ?_);clear hp;(try clear w1);intro w1 hp)
        refine ⟨hp.keep,?_⟩
        intro y hy
        rcases List.mem_append.1 hy with h|h
        · exact HI.out y h
        · rw [List.mem_singleton.1 h]
          dsimp only
          rw [HSx.out]
          exact HSM.out
    | [k1,k2],_,hS,hkl,hpt,hbk,RK,NE,hrk2,HFR =>
      have hk0 := hkl k1 (by simp)
      obtain ⟨_,f0,l0⟩ := hpt k1 (by simp)
      have j0 : (0 : Int) ≤ (k1 : Int) := by omega
      have hk1 := hkl k2 (by simp)
      obtain ⟨_,f1,l1⟩ := hpt k2 (by simp)
      have j1 : (0 : Int) ≤ (k2 : Int) := by omega
      generalize hp0 : pt l k1 = p0 at *
      generalize hp1 : pt l k2 = p1 at *
      have eS : S = [p0,p1] := by rw [← hS];simp only [pts,List.map_cons,List.map_nil,hp0,hp1]
      subst eS
      simp only [List.map_cons,List.map_nil,List.length_cons,List.length_nil,Nat.zero_add,Nat.reduceAdd,List.cons_append,List.nil_append] at hbk RK NE hrk2 ⊢
      clear hpt hkl
      have HSx := Lib.hid hS
      clear hS
      generalize hrk0 : (Qft [p0,p1]).1 = rk at *
      have RK := Lib.hid RK
      clear hrk0
      by_cases hsm : Simp [p0,p1]
      · have NE := NE hsm
        obtain rfl := hrk2.2 hsm
        by_cases hsu : Succ l [p0,p1]
        · rw [decide_eq_true hsu] at NE
          obtain ⟨Y,hY⟩ : ∃ Y : P3 × Int,Y = nrm (cmb (cw [p0,p1]) [p0,p1]) (wd [p0,p1]) := ⟨_,rfl⟩
          have env : nrV l [p0,p1] = NrV Y.1.x Y.1.y Y.1.z Y.2 (.slice none 0 0) := by rw [hY];exact if_pos hsu
          rw [env] at NE
          have HY := Lib.hid hY
          clear env hrk2 hY
          generalize eyx : Y.1.x = yx at *
          generalize eyy : Y.1.y = yy at *
          generalize eyz : Y.1.z = yz at *
          generalize eyq : Y.2 = yq at *
          have EY := Lib.hid (And.intro eyx (And.intro eyy (And.intro eyz eyq)))
          clear eyx eyy eyz eyq
          have NE := Lib.hid NE
          have HSU := Lib.hid hsu
          clear hsm hsu
          have hp : Hp [g2,g3] W [⟨g3,33,[.int .i64 0]⟩,⟨g2,32,_⟩] W := ⟨Keep.refl _ _,by intro b hb;rcases List.mem_cons.1 hb with rfl|hb;exact ⟨.inl (by simp),hb3⟩;rw [List.mem_singleton.1 hb];exact ⟨.inl (by simp),hb2⟩,by simp only [List.map_cons,List.map_nil,List.nodup_cons,List.mem_cons,List.not_mem_nil,or_false,not_false_eq_true,List.nodup_nil,and_true];exact h23⟩
          gi_wp2_with (fail)
          refine wpIn_loop_rounds 3 ?_
          rw [roundsIn_succ]
          gi_wp2_with (first|((with_reducible apply Qax);exact zx rfl;exact zk rfl;exact ii;exact Sz.z;omega;omega;((try simp only [m0,Int.reduceToNat,m1,m2,Nat.reduceMul,Nat.reduceAdd,m3,m4,m5,n0]);exact rfl);simp only [zp,zq,z0,z1])|((with_reducible apply Qaw hp);exact ii;(exact AggTy.size);exact ii;exact zl rfl;decide;(exact zk1 rfl);exact rfl;(exact zm1 rfl);(intro l hl <;> simp only [List.mem_cons,List.not_mem_nil,or_false] at hl <;> rcases hl with rfl|rfl|rfl|rfl <;> rfl);exact rfl;clear hp;(try clear w1);intro g w1 hp;simp only [zp,zq,z0,z1])|((with_reducible apply Qbn hp);exact ii;exact ii;exact rfl;decide;exact (rfl : _ = Value.slice none 0 0);exact zy rfl;exact ii;exact rfl;exact rfl;decide;(unfold maxLen;decide);decide;clear hp;(try clear w1);intro g cap junk w1 hl1 hl2 hl3 hp;simp only [zp,zq,z0,z1])|((with_reducible apply Qcb hp);exact zt rfl;assumption;assumption;exact ii;assumption;(omega);simp only [zp,zq,z0,z1])|((with_reducible apply Qbi hp);exact zt rfl;assumption;assumption;exact ii;(first|exact zso rfl|exact zio rfl);simp only [zp,zq,z0,z1]))
          rw [roundsIn_succ]
          gi_wp2_with (first|((with_reducible apply Qax);exact zx rfl;exact zk rfl;exact ii;exact Sz.z;omega;omega;((try simp only [m0,Int.reduceToNat,m1,m2,Nat.reduceMul,Nat.reduceAdd,m3,m4,m5,n0]);exact rfl);simp only [zp,zq,z0,z1])|((with_reducible apply Qaw hp);exact ii;(exact AggTy.size);exact ii;exact zl rfl;decide;(exact zk1 rfl);exact rfl;(exact zm1 rfl);(intro l hl <;> simp only [List.mem_cons,List.not_mem_nil,or_false] at hl <;> rcases hl with rfl|rfl|rfl|rfl <;> rfl);exact rfl;clear hp;(try clear w1);intro g w1 hp;simp only [zp,zq,z0,z1])|((with_reducible apply Qbu hp);exact ii;exact ii;exact rfl;decide;exact zy rfl;(exact pm1);(exact rfl);assumption;assumption;assumption;exact zy rfl;exact ii;exact rfl;exact rfl;decide;(unfold maxLen;omega);omega;clear hp;(try clear w1);intro g cap junk w1 hl1 hl2 hl3 hp;(try dsimp only [List.cons_append,List.nil_append] at hp);simp only [zp,zq,z0,z1])|((with_reducible apply Qcb hp);exact zt rfl;assumption;assumption;exact ii;assumption;(omega);simp only [zp,zq,z0,z1])|((with_reducible apply Qbi hp);exact zt rfl;assumption;assumption;exact ii;(first|exact zso rfl|exact zio rfl);simp only [zp,zq,z0,z1]))
          rw [roundsIn_succ]
          gi_wp2_with (first|((with_reducible apply Qdo hp);exact ii;exact rfl;clear hp;(try clear w1);intro g w1 hp;simp only [zp,zq,z0,z1])|((with_reducible apply Qcl hp);exact zt rfl;exact ii;exact ii;(exact zl rfl);(simp only [n0,Nat.reduceAdd,nn];try rfl);simp only [zp,zq,z0,z1])|((with_reducible apply Qdp hp);exact zt rfl;(first|exact za rfl|exact zi rfl|exact zs rfl);exact rfl;exact Sz.z;exact rfl;exact ii;(simp only [n0,Nat.reduceAdd,nn];try rfl);(exact zl rfl);exact rfl;exact ii;clear hp;(try clear w1);intro w1 hp)|((with_reducible apply Qbi hp);exact zt rfl;assumption;assumption;exact ii;(exact zso rfl);simp only [zp,zq,z0,z1])|((with_reducible refine Qby hp (RK.out _ _ _ _ hp.blk rfl) ?_);clear hp;(try clear w1);intro w1 hp)|((with_reducible refine Qby hp (NE.out _ _ _ _ (hp.farX (by assumption) (by assumption)) hp.blk rfl) ?_);clear hp;(try clear w1);intro w1 hp))
          refine ⟨⟨[g2,g3],yw,hp.keep⟩,pre,_,rfl,HI.out,?_,?_,Y,?_,?_⟩
          · dsimp only
            rw [HSx.out];exact HSU.out
          · exact ⟨.inr ⟨gk,ck,jk,rfl,hp.farX yk hbk⟩,HFR.out⟩
          · dsimp only
            rw [HSx.out];exact HY.out
          · obtain ⟨e1,e2,e3,e4⟩ := EY.out
            rw [e1,e2,e3,e4]
            exact (hpW.within' hp yzz).sub (by repeat (first|exact sb0|apply sb3))
        · rw [decide_eq_false hsu,show nrV l [p0,p1] = NrZ from if_neg hsu] at NE
          have NE := Lib.hid NE
          have HSM := Lib.hid hsu
          clear hrk2 hsm hsu
          have hp := Hp.start [] W
          gi_wp2_with (fail)
          refine wpIn_loop_rounds 3 ?_
          rw [roundsIn_succ]
          gi_wp2_with (first|((with_reducible apply Qax);exact zx rfl;exact zk rfl;exact ii;exact Sz.z;omega;omega;((try simp only [m0,Int.reduceToNat,m1,m2,Nat.reduceMul,Nat.reduceAdd,m3,m4,m5,n0]);exact rfl);simp only [zp,zq,z0,z1])|((with_reducible apply Qbg hp);exact zt rfl;assumption;exact ii;assumption;(omega);simp only [zp,zq,z0,z1])|((with_reducible apply Qbc hp);exact zt rfl;assumption;exact ii;(first|exact zio rfl|exact zso rfl);simp only [zp,zq,z0,z1])|((with_reducible apply Qaw hp);exact ii;(exact AggTy.size);exact ii;exact zl rfl;decide;(exact zk1 rfl);exact rfl;(exact zm1 rfl);(intro l hl <;> simp only [List.mem_cons,List.not_mem_nil,or_false] at hl <;> rcases hl with rfl|rfl|rfl|rfl <;> rfl);exact rfl;clear hp;(try clear w1);intro g w1 hp;simp only [zp,zq,z0,z1])|((with_reducible apply Qbn hp);exact ii;exact ii;exact rfl;decide;exact (rfl : _ = Value.slice none 0 0);exact zy rfl;exact ii;exact rfl;exact rfl;decide;(unfold maxLen;decide);decide;clear hp;(try clear w1);intro g cap junk w1 hl1 hl2 hl3 hp;simp only [zp,zq,z0,z1]))
          rw [roundsIn_succ]
          gi_wp2_with (first|((with_reducible apply Qax);exact zx rfl;exact zk rfl;exact ii;exact Sz.z;omega;omega;((try simp only [m0,Int.reduceToNat,m1,m2,Nat.reduceMul,Nat.reduceAdd,m3,m4,m5,n0]);exact rfl);simp only [zp,zq,z0,z1])|((with_reducible apply Qbg hp);exact zt rfl;assumption;exact ii;assumption;(omega);simp only [zp,zq,z0,z1])|((with_reducible apply Qbc hp);exact zt rfl;assumption;exact ii;(first|exact zio rfl|exact zso rfl);simp only [zp,zq,z0,z1])|((with_reducible apply Qaw hp);exact ii;(exact AggTy.size);exact ii;exact zl rfl;decide;(exact zk1 rfl);exact rfl;(exact zm1 rfl);(intro l hl <;> simp only [List.mem_cons,List.not_mem_nil,or_false] at hl <;> rcases hl with rfl|rfl|rfl|rfl <;> rfl);exact rfl;clear hp;(try clear w1);intro g w1 hp;simp only [zp,zq,z0,z1])|((with_reducible apply Qbu hp);exact ii;exact ii;exact rfl;decide;exact zy rfl;(exact pm1);(exact rfl);assumption;assumption;assumption;exact zy rfl;exact ii;exact rfl;exact rfl;decide;(unfold maxLen;omega);omega;clear hp;(try clear w1);intro g cap junk w1 hl1 hl2 hl3 hp;(try dsimp only [List.cons_append,List.nil_append] at hp);simp only [zp,zq,z0,z1]))
          rw [roundsIn_succ]
          gi_wp2_with (first|((with_reducible apply Qdo hp);exact ii;exact rfl;clear hp;(try clear w1);intro g w1 hp;simp only [zp,zq,z0,z1])|((with_reducible apply Qdp hp);exact zt rfl;(exact za rfl);exact rfl;(exact AggTy.size);exact rfl;exact ii;(simp only [n0,Nat.reduceAdd,nn];try rfl);(exact zl rfl);exact rfl;exact ii;clear hp;(try clear w1);intro w1 hp)|((with_reducible apply Qbc hp);exact zt rfl;assumption;exact ii;(exact zso rfl);simp only [zp,zq,z0,z1])|((with_reducible refine Qby hp (RK.out _ _ _ _ hp.blk rfl) ?_);clear hp;(try clear w1);intro w1 hp)|((with_reducible refine Qby hp (NE.out _ _ _ _ (hp.keep.some (by assumption)) hp.blk rfl) ?_);clear hp;(try clear w1);intro w1 hp))
          refine ⟨hp.keep,?_⟩
          intro y hy
          rcases List.mem_append.1 hy with h|h
          · exact HI.out y h
          · rw [List.mem_singleton.1 h]
            dsimp only
            rw [HSx.out]
            exact HSM.out
      · have hne : (rk == 1) = false := beq_eq_false_iff_ne.2 fun h => hsm (hrk2.1 (by omega))
        have HSM := Lib.hid (fun h : Succ l [p0,p1] => hsm h.1)
        clear NE hrk2 hsm
        have hp := Hp.start [] W
        gi_wp2_with (fail)
        refine wpIn_loop_rounds 3 ?_
        rw [roundsIn_succ]
        gi_wp2_with (first|((with_reducible apply Qax);exact zx rfl;exact zk rfl;exact ii;exact Sz.z;omega;omega;((try simp only [m0,Int.reduceToNat,m1,m2,Nat.reduceMul,Nat.reduceAdd,m3,m4,m5,n0]);exact rfl);simp only [zp,zq,z0,z1])|((with_reducible apply Qbg hp);exact zt rfl;assumption;exact ii;assumption;(omega);simp only [zp,zq,z0,z1])|((with_reducible apply Qbc hp);exact zt rfl;assumption;exact ii;(first|exact zio rfl|exact zso rfl);simp only [zp,zq,z0,z1])|((with_reducible apply Qaw hp);exact ii;(exact AggTy.size);exact ii;exact zl rfl;decide;(exact zk1 rfl);exact rfl;(exact zm1 rfl);(intro l hl <;> simp only [List.mem_cons,List.not_mem_nil,or_false] at hl <;> rcases hl with rfl|rfl|rfl|rfl <;> rfl);exact rfl;clear hp;(try clear w1);intro g w1 hp;simp only [zp,zq,z0,z1])|((with_reducible apply Qbn hp);exact ii;exact ii;exact rfl;decide;exact (rfl : _ = Value.slice none 0 0);exact zy rfl;exact ii;exact rfl;exact rfl;decide;(unfold maxLen;decide);decide;clear hp;(try clear w1);intro g cap junk w1 hl1 hl2 hl3 hp;simp only [zp,zq,z0,z1]))
        rw [roundsIn_succ]
        gi_wp2_with (first|((with_reducible apply Qax);exact zx rfl;exact zk rfl;exact ii;exact Sz.z;omega;omega;((try simp only [m0,Int.reduceToNat,m1,m2,Nat.reduceMul,Nat.reduceAdd,m3,m4,m5,n0]);exact rfl);simp only [zp,zq,z0,z1])|((with_reducible apply Qbg hp);exact zt rfl;assumption;exact ii;assumption;(omega);simp only [zp,zq,z0,z1])|((with_reducible apply Qbc hp);exact zt rfl;assumption;exact ii;(first|exact zio rfl|exact zso rfl);simp only [zp,zq,z0,z1])|((with_reducible apply Qaw hp);exact ii;(exact AggTy.size);exact ii;exact zl rfl;decide;(exact zk1 rfl);exact rfl;(exact zm1 rfl);(intro l hl <;> simp only [List.mem_cons,List.not_mem_nil,or_false] at hl <;> rcases hl with rfl|rfl|rfl|rfl <;> rfl);exact rfl;clear hp;(try clear w1);intro g w1 hp;simp only [zp,zq,z0,z1])|((with_reducible apply Qbu hp);exact ii;exact ii;exact rfl;decide;exact zy rfl;(exact pm1);(exact rfl);assumption;assumption;assumption;exact zy rfl;exact ii;exact rfl;exact rfl;decide;(unfold maxLen;omega);omega;clear hp;(try clear w1);intro g cap junk w1 hl1 hl2 hl3 hp;(try dsimp only [List.cons_append,List.nil_append] at hp);simp only [zp,zq,z0,z1]))
        rw [roundsIn_succ]
        gi_wp2_with ((with_reducible refine Qby hp (RK.out _ _ _ _ hp.blk rfl) ?_);clear hp;(try clear w1);intro w1 hp)
        refine ⟨hp.keep,?_⟩
        intro y hy
        rcases List.mem_append.1 hy with h|h
        · exact HI.out y h
        · rw [List.mem_singleton.1 h]
          dsimp only
          rw [HSx.out]
          exact HSM.out
    | [k1,k2,k3],_,hS,hkl,hpt,hbk,RK,NE,hrk2,HFR =>
      have hk0 := hkl k1 (by simp)
      obtain ⟨_,f0,l0⟩ := hpt k1 (by simp)
      have j0 : (0 : Int) ≤ (k1 : Int) := by omega
      have hk1 := hkl k2 (by simp)
      obtain ⟨_,f1,l1⟩ := hpt k2 (by simp)
      have j1 : (0 : Int) ≤ (k2 : Int) := by omega
      have hk2 := hkl k3 (by simp)
      obtain ⟨_,f2,l2⟩ := hpt k3 (by simp)
      have j2 : (0 : Int) ≤ (k3 : Int) := by omega
      generalize hp0 : pt l k1 = p0 at *
      generalize hp1 : pt l k2 = p1 at *
      generalize hp2 : pt l k3 = p2 at *
      have eS : S = [p0,p1,p2] := by rw [← hS];simp only [pts,List.map_cons,List.map_nil,hp0,hp1,hp2]
      subst eS
      simp only [List.map_cons,List.map_nil,List.length_cons,List.length_nil,Nat.zero_add,Nat.reduceAdd,List.cons_append,List.nil_append] at hbk RK NE hrk2 ⊢
      clear hpt hkl
      have HSx := Lib.hid hS
      clear hS
      generalize hrk0 : (Qft [p0,p1,p2]).1 = rk at *
      have RK := Lib.hid RK
      clear hrk0
      by_cases hsm : Simp [p0,p1,p2]
      · have NE := NE hsm
        obtain rfl := hrk2.2 hsm
        by_cases hsu : Succ l [p0,p1,p2]
        · rw [decide_eq_true hsu] at NE
          obtain ⟨Y,hY⟩ : ∃ Y : P3 × Int,Y = nrm (cmb (cw [p0,p1,p2]) [p0,p1,p2]) (wd [p0,p1,p2]) := ⟨_,rfl⟩
          have env : nrV l [p0,p1,p2] = NrV Y.1.x Y.1.y Y.1.z Y.2 (.slice none 0 0) := by rw [hY];exact if_pos hsu
          rw [env] at NE
          have HY := Lib.hid hY
          clear env hrk2 hY
          generalize eyx : Y.1.x = yx at *
          generalize eyy : Y.1.y = yy at *
          generalize eyz : Y.1.z = yz at *
          generalize eyq : Y.2 = yq at *
          have EY := Lib.hid (And.intro eyx (And.intro eyy (And.intro eyz eyq)))
          clear eyx eyy eyz eyq
          have NE := Lib.hid NE
          have HSU := Lib.hid hsu
          clear hsm hsu
          have hp : Hp [g2,g3] W [⟨g3,33,[.int .i64 0]⟩,⟨g2,32,_⟩] W := ⟨Keep.refl _ _,by intro b hb;rcases List.mem_cons.1 hb with rfl|hb;exact ⟨.inl (by simp),hb3⟩;rw [List.mem_singleton.1 hb];exact ⟨.inl (by simp),hb2⟩,by simp only [List.map_cons,List.map_nil,List.nodup_cons,List.mem_cons,List.not_mem_nil,or_false,not_false_eq_true,List.nodup_nil,and_true];exact h23⟩
          gi_wp2_with (fail)
          refine wpIn_loop_rounds 4 ?_
          rw [roundsIn_succ]
          gi_wp2_with (first|((with_reducible apply Qax);exact zx rfl;exact zk rfl;exact ii;exact Sz.z;omega;omega;((try simp only [m0,Int.reduceToNat,m1,m2,Nat.reduceMul,Nat.reduceAdd,m3,m4,m5,n0]);exact rfl);simp only [zp,zq,z0,z1])|((with_reducible apply Qaw hp);exact ii;(exact AggTy.size);exact ii;exact zl rfl;decide;(exact zk1 rfl);exact rfl;(exact zm1 rfl);(intro l hl <;> simp only [List.mem_cons,List.not_mem_nil,or_false] at hl <;> rcases hl with rfl|rfl|rfl|rfl <;> rfl);exact rfl;clear hp;(try clear w1);intro g w1 hp;simp only [zp,zq,z0,z1])|((with_reducible apply Qbn hp);exact ii;exact ii;exact rfl;decide;exact (rfl : _ = Value.slice none 0 0);exact zy rfl;exact ii;exact rfl;exact rfl;decide;(unfold maxLen;decide);decide;clear hp;(try clear w1);intro g cap junk w1 hl1 hl2 hl3 hp;simp only [zp,zq,z0,z1])|((with_reducible apply Qcb hp);exact zt rfl;assumption;assumption;exact ii;assumption;(omega);simp only [zp,zq,z0,z1])|((with_reducible apply Qbi hp);exact zt rfl;assumption;assumption;exact ii;(first|exact zso rfl|exact zio rfl);simp only [zp,zq,z0,z1]))
          rw [roundsIn_succ]
          gi_wp2_with (first|((with_reducible apply Qax);exact zx rfl;exact zk rfl;exact ii;exact Sz.z;omega;omega;((try simp only [m0,Int.reduceToNat,m1,m2,Nat.reduceMul,Nat.reduceAdd,m3,m4,m5,n0]);exact rfl);simp only [zp,zq,z0,z1])|((with_reducible apply Qaw hp);exact ii;(exact AggTy.size);exact ii;exact zl rfl;decide;(exact zk1 rfl);exact rfl;(exact zm1 rfl);(intro l hl <;> simp only [List.mem_cons,List.not_mem_nil,or_false] at hl <;> rcases hl with rfl|rfl|rfl|rfl <;> rfl);exact rfl;clear hp;(try clear w1);intro g w1 hp;simp only [zp,zq,z0,z1])|((with_reducible apply Qbu hp);exact ii;exact ii;exact rfl;decide;exact zy rfl;(exact pm1);(exact rfl);assumption;assumption;assumption;exact zy rfl;exact ii;exact rfl;exact rfl;decide;(unfold maxLen;omega);omega;clear hp;(try clear w1);intro g cap junk w1 hl1 hl2 hl3 hp;(try dsimp only [List.cons_append,List.nil_append] at hp);simp only [zp,zq,z0,z1])|((with_reducible apply Qcb hp);exact zt rfl;assumption;assumption;exact ii;assumption;(omega);simp only [zp,zq,z0,z1])|((with_reducible apply Qbi hp);exact zt rfl;assumption;assumption;exact ii;(first|exact zso rfl|exact zio rfl);simp only [zp,zq,z0,z1]))
          rw [roundsIn_succ]
          gi_wp2_with (first|((with_reducible apply Qax);exact zx rfl;exact zk rfl;exact ii;exact Sz.z;omega;omega;((try simp only [m0,Int.reduceToNat,m1,m2,Nat.reduceMul,Nat.reduceAdd,m3,m4,m5,n0]);exact rfl);simp only [zp,zq,z0,z1])|((with_reducible apply Qaw hp);exact ii;(exact AggTy.size);exact ii;exact zl rfl;decide;(exact zk1 rfl);exact rfl;(exact zm1 rfl);(intro l hl <;> simp only [List.mem_cons,List.not_mem_nil,or_false] at hl <;> rcases hl with rfl|rfl|rfl|rfl <;> rfl);exact rfl;clear hp;(try clear w1);intro g w1 hp;simp only [zp,zq,z0,z1])|((with_reducible apply Qbu hp);exact ii;exact ii;exact rfl;decide;exact zy rfl;(exact pm1);(exact rfl);assumption;assumption;assumption;exact zy rfl;exact ii;exact rfl;exact rfl;decide;(unfold maxLen;omega);omega;clear hp;(try clear w1);intro g cap junk w1 hl1 hl2 hl3 hp;(try dsimp only [List.cons_append,List.nil_append] at hp);simp only [zp,zq,z0,z1])|((with_reducible apply Qcb hp);exact zt rfl;assumption;assumption;exact ii;assumption;(omega);simp only [zp,zq,z0,z1])|((with_reducible apply Qbi hp);exact zt rfl;assumption;assumption;exact ii;(first|exact zso rfl|exact zio rfl);simp only [zp,zq,z0,z1]))
          rw [roundsIn_succ]
          gi_wp2_with (first|((with_reducible apply Qdo hp);exact ii;exact rfl;clear hp;(try clear w1);intro g w1 hp;simp only [zp,zq,z0,z1])|((with_reducible apply Qcl hp);exact zt rfl;exact ii;exact ii;(exact zl rfl);(simp only [n0,Nat.reduceAdd,nn];try rfl);simp only [zp,zq,z0,z1])|((with_reducible apply Qdp hp);exact zt rfl;(first|exact za rfl|exact zi rfl|exact zs rfl);exact rfl;exact Sz.z;exact rfl;exact ii;(simp only [n0,Nat.reduceAdd,nn];try rfl);(exact zl rfl);exact rfl;exact ii;clear hp;(try clear w1);intro w1 hp)|((with_reducible apply Qbi hp);exact zt rfl;assumption;assumption;exact ii;(exact zso rfl);simp only [zp,zq,z0,z1])|((with_reducible refine Qby hp (RK.out _ _ _ _ hp.blk rfl) ?_);clear hp;(try clear w1);intro w1 hp)|((with_reducible refine Qby hp (NE.out _ _ _ _ (hp.farX (by assumption) (by assumption)) hp.blk rfl) ?_);clear hp;(try clear w1);intro w1 hp))
          refine ⟨⟨[g2,g3],yw,hp.keep⟩,pre,_,rfl,HI.out,?_,?_,Y,?_,?_⟩
          · dsimp only
            rw [HSx.out];exact HSU.out
          · exact ⟨.inr ⟨gk,ck,jk,rfl,hp.farX yk hbk⟩,HFR.out⟩
          · dsimp only
            rw [HSx.out];exact HY.out
          · obtain ⟨e1,e2,e3,e4⟩ := EY.out
            rw [e1,e2,e3,e4]
            exact (hpW.within' hp yzz).sub (by repeat (first|exact sb0|apply sb3))
        · rw [decide_eq_false hsu,show nrV l [p0,p1,p2] = NrZ from if_neg hsu] at NE
          have NE := Lib.hid NE
          have HSM := Lib.hid hsu
          clear hrk2 hsm hsu
          have hp := Hp.start [] W
          gi_wp2_with (fail)
          refine wpIn_loop_rounds 4 ?_
          rw [roundsIn_succ]
          gi_wp2_with (first|((with_reducible apply Qax);exact zx rfl;exact zk rfl;exact ii;exact Sz.z;omega;omega;((try simp only [m0,Int.reduceToNat,m1,m2,Nat.reduceMul,Nat.reduceAdd,m3,m4,m5,n0]);exact rfl);simp only [zp,zq,z0,z1])|((with_reducible apply Qbg hp);exact zt rfl;assumption;exact ii;assumption;(omega);simp only [zp,zq,z0,z1])|((with_reducible apply Qbc hp);exact zt rfl;assumption;exact ii;(first|exact zio rfl|exact zso rfl);simp only [zp,zq,z0,z1])|((with_reducible apply Qaw hp);exact ii;(exact AggTy.size);exact ii;exact zl rfl;decide;(exact zk1 rfl);exact rfl;(exact zm1 rfl);(intro l hl <;> simp only [List.mem_cons,List.not_mem_nil,or_false] at hl <;> rcases hl with rfl|rfl|rfl|rfl <;> rfl);exact rfl;clear hp;(try clear w1);intro g w1 hp;simp only [zp,zq,z0,z1])|((with_reducible apply Qbn hp);exact ii;exact ii;exact rfl;decide;exact (rfl : _ = Value.slice none 0 0);exact zy rfl;exact ii;exact rfl;exact rfl;decide;(unfold maxLen;decide);decide;clear hp;(try clear w1);intro g cap junk w1 hl1 hl2 hl3 hp;simp only [zp,zq,z0,z1]))
          rw [roundsIn_succ]
          gi_wp2_with (first|((with_reducible apply Qax);exact zx rfl;exact zk rfl;exact ii;exact Sz.z;omega;omega;((try simp only [m0,Int.reduceToNat,m1,m2,Nat.reduceMul,Nat.reduceAdd,m3,m4,m5,n0]);exact rfl);simp only [zp,zq,z0,z1])|((with_reducible apply Qbg hp);exact zt rfl;assumption;exact ii;assumption;(omega);simp only [zp,zq,z0,z1])|((with_reducible apply Qbc hp);exact zt rfl;assumption;exact ii;(first|exact zio rfl|exact zso rfl);simp only [zp,zq,z0,z1])|((with_reducible apply Qaw hp);exact ii;(exact AggTy.size);exact ii;exact zl rfl;decide;(exact zk1 rfl);exact rfl;(exact zm1 rfl);(intro l hl <;> simp only [List.mem_cons,List.not_mem_nil,or_false] at hl <;> rcases hl with rfl|rfl|rfl|rfl <;> rfl);exact rfl;clear hp;(try clear w1);intro g w1 hp;simp only [zp,zq,z0,z1])|((with_reducible apply Qbu hp);exact ii;exact ii;exact rfl;decide;exact zy rfl;(exact pm1);(exact rfl);assumption;assumption;assumption;exact zy rfl;exact ii;exact rfl;exact rfl;decide;(unfold maxLen;omega);omega;clear hp;(try clear w1);intro g cap junk w1 hl1 hl2 hl3 hp;(try dsimp only [List.cons_append,List.nil_append] at hp);simp only [zp,zq,z0,z1]))
          rw [roundsIn_succ]
          gi_wp2_with (first|((with_reducible apply Qax);exact zx rfl;exact zk rfl;exact ii;exact Sz.z;omega;omega;((try simp only [m0,Int.reduceToNat,m1,m2,Nat.reduceMul,Nat.reduceAdd,m3,m4,m5,n0]);exact rfl);simp only [zp,zq,z0,z1])|((with_reducible apply Qbg hp);exact zt rfl;assumption;exact ii;assumption;(omega);simp only [zp,zq,z0,z1])|((with_reducible apply Qbc hp);exact zt rfl;assumption;exact ii;(first|exact zio rfl|exact zso rfl);simp only [zp,zq,z0,z1])|((with_reducible apply Qaw hp);exact ii;(exact AggTy.size);exact ii;exact zl rfl;decide;(exact zk1 rfl);exact rfl;(exact zm1 rfl);(intro l hl <;> simp only [List.mem_cons,List.not_mem_nil,or_false] at hl <;> rcases hl with rfl|rfl|rfl|rfl <;> rfl);exact rfl;clear hp;(try clear w1);intro g w1 hp;simp only [zp,zq,z0,z1])|((with_reducible apply Qbu hp);exact ii;exact ii;exact rfl;decide;exact zy rfl;(exact pm1);(exact rfl);assumption;assumption;assumption;exact zy rfl;exact ii;exact rfl;exact rfl;decide;(unfold maxLen;omega);omega;clear hp;(try clear w1);intro g cap junk w1 hl1 hl2 hl3 hp;(try dsimp only [List.cons_append,List.nil_append] at hp);simp only [zp,zq,z0,z1]))
          rw [roundsIn_succ]
          gi_wp2_with (first|((with_reducible apply Qdo hp);exact ii;exact rfl;clear hp;(try clear w1);intro g w1 hp;simp only [zp,zq,z0,z1])|((with_reducible apply Qdp hp);exact zt rfl;(exact za rfl);exact rfl;(exact AggTy.size);exact rfl;exact ii;(simp only [n0,Nat.reduceAdd,nn];try rfl);(exact zl rfl);exact rfl;exact ii;clear hp;(try clear w1);intro w1 hp)|((with_reducible apply Qbc hp);exact zt rfl;assumption;exact ii;(exact zso rfl);simp only [zp,zq,z0,z1])|((with_reducible refine Qby hp (RK.out _ _ _ _ hp.blk rfl) ?_);clear hp;(try clear w1);intro w1 hp)|((with_reducible refine Qby hp (NE.out _ _ _ _ (hp.keep.some (by assumption)) hp.blk rfl) ?_);clear hp;(try clear w1);intro w1 hp))
          refine ⟨hp.keep,?_⟩
          intro y hy
          rcases List.mem_append.1 hy with h|h
          · exact HI.out y h
          · rw [List.mem_singleton.1 h]
            dsimp only
            rw [HSx.out]
            exact HSM.out
      · have hne : (rk == 2) = false := beq_eq_false_iff_ne.2 fun h => hsm (hrk2.1 (by omega))
        have HSM := Lib.hid (fun h : Succ l [p0,p1,p2] => hsm h.1)
        clear NE hrk2 hsm
        have hp := Hp.start [] W
        gi_wp2_with (fail)
        refine wpIn_loop_rounds 4 ?_
        rw [roundsIn_succ]
        gi_wp2_with (first|((with_reducible apply Qax);exact zx rfl;exact zk rfl;exact ii;exact Sz.z;omega;omega;((try simp only [m0,Int.reduceToNat,m1,m2,Nat.reduceMul,Nat.reduceAdd,m3,m4,m5,n0]);exact rfl);simp only [zp,zq,z0,z1])|((with_reducible apply Qbg hp);exact zt rfl;assumption;exact ii;assumption;(omega);simp only [zp,zq,z0,z1])|((with_reducible apply Qbc hp);exact zt rfl;assumption;exact ii;(first|exact zio rfl|exact zso rfl);simp only [zp,zq,z0,z1])|((with_reducible apply Qaw hp);exact ii;(exact AggTy.size);exact ii;exact zl rfl;decide;(exact zk1 rfl);exact rfl;(exact zm1 rfl);(intro l hl <;> simp only [List.mem_cons,List.not_mem_nil,or_false] at hl <;> rcases hl with rfl|rfl|rfl|rfl <;> rfl);exact rfl;clear hp;(try clear w1);intro g w1 hp;simp only [zp,zq,z0,z1])|((with_reducible apply Qbn hp);exact ii;exact ii;exact rfl;decide;exact (rfl : _ = Value.slice none 0 0);exact zy rfl;exact ii;exact rfl;exact rfl;decide;(unfold maxLen;decide);decide;clear hp;(try clear w1);intro g cap junk w1 hl1 hl2 hl3 hp;simp only [zp,zq,z0,z1]))
        rw [roundsIn_succ]
        gi_wp2_with (first|((with_reducible apply Qax);exact zx rfl;exact zk rfl;exact ii;exact Sz.z;omega;omega;((try simp only [m0,Int.reduceToNat,m1,m2,Nat.reduceMul,Nat.reduceAdd,m3,m4,m5,n0]);exact rfl);simp only [zp,zq,z0,z1])|((with_reducible apply Qbg hp);exact zt rfl;assumption;exact ii;assumption;(omega);simp only [zp,zq,z0,z1])|((with_reducible apply Qbc hp);exact zt rfl;assumption;exact ii;(first|exact zio rfl|exact zso rfl);simp only [zp,zq,z0,z1])|((with_reducible apply Qaw hp);exact ii;(exact AggTy.size);exact ii;exact zl rfl;decide;(exact zk1 rfl);exact rfl;(exact zm1 rfl);(intro l hl <;> simp only [List.mem_cons,List.not_mem_nil,or_false] at hl <;> rcases hl with rfl|rfl|rfl|rfl <;> rfl);exact rfl;clear hp;(try clear w1);intro g w1 hp;simp only [zp,zq,z0,z1])|((with_reducible apply Qbu hp);exact ii;exact ii;exact rfl;decide;exact zy rfl;(exact pm1);(exact rfl);assumption;assumption;assumption;exact zy rfl;exact ii;exact rfl;exact rfl;decide;(unfold maxLen;omega);omega;clear hp;(try clear w1);intro g cap junk w1 hl1 hl2 hl3 hp;(try dsimp only [List.cons_append,List.nil_append] at hp);simp only [zp,zq,z0,z1]))
        rw [roundsIn_succ]
        gi_wp2_with (first|((with_reducible apply Qax);exact zx rfl;exact zk rfl;exact ii;exact Sz.z;omega;omega;((try simp only [m0,Int.reduceToNat,m1,m2,Nat.reduceMul,Nat.reduceAdd,m3,m4,m5,n0]);exact rfl);simp only [zp,zq,z0,z1])|((with_reducible apply Qbg hp);exact zt rfl;assumption;exact ii;assumption;(omega);simp only [zp,zq,z0,z1])|((with_reducible apply Qbc hp);exact zt rfl;assumption;exact ii;(first|exact zio rfl|exact zso rfl);simp only [zp,zq,z0,z1])|((with_reducible apply Qaw hp);exact ii;(exact AggTy.size);exact ii;exact zl rfl;decide;(exact zk1 rfl);exact rfl;(exact zm1 rfl);(intro l hl <;> simp only [List.mem_cons,List.not_mem_nil,or_false] at hl <;> rcases hl with rfl|rfl|rfl|rfl <;> rfl);exact rfl;clear hp;(try clear w1);intro g w1 hp;simp only [zp,zq,z0,z1])|((with_reducible apply Qbu hp);exact ii;exact ii;exact rfl;decide;exact zy rfl;(exact pm1);(exact rfl);assumption;assumption;assumption;exact zy rfl;exact ii;exact rfl;exact rfl;decide;(unfold maxLen;omega);omega;clear hp;(try clear w1);intro g cap junk w1 hl1 hl2 hl3 hp;(try dsimp only [List.cons_append,List.nil_append] at hp);simp only [zp,zq,z0,z1]))
        rw [roundsIn_succ]
        gi_wp2_with ((with_reducible refine Qby hp (RK.out _ _ _ _ hp.blk rfl) ?_);clear hp;(try clear w1);intro w1 hp)
        refine ⟨hp.keep,?_⟩
        intro y hy
        rcases List.mem_append.1 hy with h|h
        · exact HI.out y h
        · rw [List.mem_singleton.1 h]
          dsimp only
          rw [HSx.out]
          exact HSM.out
    | [k1,k2,k3,k4],_,hS,hkl,hpt,hbk,RK,NE,hrk2,HFR =>
      have hk0 := hkl k1 (by simp)
      obtain ⟨_,f0,l0⟩ := hpt k1 (by simp)
      have j0 : (0 : Int) ≤ (k1 : Int) := by omega
      have hk1 := hkl k2 (by simp)
      obtain ⟨_,f1,l1⟩ := hpt k2 (by simp)
      have j1 : (0 : Int) ≤ (k2 : Int) := by omega
      have hk2 := hkl k3 (by simp)
      obtain ⟨_,f2,l2⟩ := hpt k3 (by simp)
      have j2 : (0 : Int) ≤ (k3 : Int) := by omega
      have hk3 := hkl k4 (by simp)
      obtain ⟨_,f3,l3⟩ := hpt k4 (by simp)
      have j3 : (0 : Int) ≤ (k4 : Int) := by omega
      generalize hp0 : pt l k1 = p0 at *
      generalize hp1 : pt l k2 = p1 at *
      generalize hp2 : pt l k3 = p2 at *
      generalize hp3 : pt l k4 = p3 at *
      have eS : S = [p0,p1,p2,p3] := by rw [← hS];simp only [pts,List.map_cons,List.map_nil,hp0,hp1,hp2,hp3]
      subst eS
      simp only [List.map_cons,List.map_nil,List.length_cons,List.length_nil,Nat.zero_add,Nat.reduceAdd,List.cons_append,List.nil_append] at hbk RK NE hrk2 ⊢
      clear hpt hkl
      have HSx := Lib.hid hS
      clear hS
      generalize hrk0 : (Qft [p0,p1,p2,p3]).1 = rk at *
      have RK := Lib.hid RK
      clear hrk0
      by_cases hsm : Simp [p0,p1,p2,p3]
      · have NE := NE hsm
        obtain rfl := hrk2.2 hsm
        by_cases hsu : Succ l [p0,p1,p2,p3]
        · rw [decide_eq_true hsu] at NE
          obtain ⟨Y,hY⟩ : ∃ Y : P3 × Int,Y = nrm (cmb (cw [p0,p1,p2,p3]) [p0,p1,p2,p3]) (wd [p0,p1,p2,p3]) := ⟨_,rfl⟩
          have env : nrV l [p0,p1,p2,p3] = NrV Y.1.x Y.1.y Y.1.z Y.2 (.slice none 0 0) := by rw [hY];exact if_pos hsu
          rw [env] at NE
          have HY := Lib.hid hY
          clear env hrk2 hY
          generalize eyx : Y.1.x = yx at *
          generalize eyy : Y.1.y = yy at *
          generalize eyz : Y.1.z = yz at *
          generalize eyq : Y.2 = yq at *
          have EY := Lib.hid (And.intro eyx (And.intro eyy (And.intro eyz eyq)))
          clear eyx eyy eyz eyq
          have NE := Lib.hid NE
          have HSU := Lib.hid hsu
          clear hsm hsu
          have hp : Hp [g2,g3] W [⟨g3,33,[.int .i64 0]⟩,⟨g2,32,_⟩] W := ⟨Keep.refl _ _,by intro b hb;rcases List.mem_cons.1 hb with rfl|hb;exact ⟨.inl (by simp),hb3⟩;rw [List.mem_singleton.1 hb];exact ⟨.inl (by simp),hb2⟩,by simp only [List.map_cons,List.map_nil,List.nodup_cons,List.mem_cons,List.not_mem_nil,or_false,not_false_eq_true,List.nodup_nil,and_true];exact h23⟩
          gi_wp2_with (fail)
          refine wpIn_loop_rounds 5 ?_
          rw [roundsIn_succ]
          gi_wp2_with (first|((with_reducible apply Qax);exact zx rfl;exact zk rfl;exact ii;exact Sz.z;omega;omega;((try simp only [m0,Int.reduceToNat,m1,m2,Nat.reduceMul,Nat.reduceAdd,m3,m4,m5,n0]);exact rfl);simp only [zp,zq,z0,z1])|((with_reducible apply Qaw hp);exact ii;(exact AggTy.size);exact ii;exact zl rfl;decide;(exact zk1 rfl);exact rfl;(exact zm1 rfl);(intro l hl <;> simp only [List.mem_cons,List.not_mem_nil,or_false] at hl <;> rcases hl with rfl|rfl|rfl|rfl <;> rfl);exact rfl;clear hp;(try clear w1);intro g w1 hp;simp only [zp,zq,z0,z1])|((with_reducible apply Qbn hp);exact ii;exact ii;exact rfl;decide;exact (rfl : _ = Value.slice none 0 0);exact zy rfl;exact ii;exact rfl;exact rfl;decide;(unfold maxLen;decide);decide;clear hp;(try clear w1);intro g cap junk w1 hl1 hl2 hl3 hp;simp only [zp,zq,z0,z1])|((with_reducible apply Qcb hp);exact zt rfl;assumption;assumption;exact ii;assumption;(omega);simp only [zp,zq,z0,z1])|((with_reducible apply Qbi hp);exact zt rfl;assumption;assumption;exact ii;(first|exact zso rfl|exact zio rfl);simp only [zp,zq,z0,z1]))
          rw [roundsIn_succ]
          gi_wp2_with (first|((with_reducible apply Qax);exact zx rfl;exact zk rfl;exact ii;exact Sz.z;omega;omega;((try simp only [m0,Int.reduceToNat,m1,m2,Nat.reduceMul,Nat.reduceAdd,m3,m4,m5,n0]);exact rfl);simp only [zp,zq,z0,z1])|((with_reducible apply Qaw hp);exact ii;(exact AggTy.size);exact ii;exact zl rfl;decide;(exact zk1 rfl);exact rfl;(exact zm1 rfl);(intro l hl <;> simp only [List.mem_cons,List.not_mem_nil,or_false] at hl <;> rcases hl with rfl|rfl|rfl|rfl <;> rfl);exact rfl;clear hp;(try clear w1);intro g w1 hp;simp only [zp,zq,z0,z1])|((with_reducible apply Qbu hp);exact ii;exact ii;exact rfl;decide;exact zy rfl;(exact pm1);(exact rfl);assumption;assumption;assumption;exact zy rfl;exact ii;exact rfl;exact rfl;decide;(unfold maxLen;omega);omega;clear hp;(try clear w1);intro g cap junk w1 hl1 hl2 hl3 hp;(try dsimp only [List.cons_append,List.nil_append] at hp);simp only [zp,zq,z0,z1])|((with_reducible apply Qcb hp);exact zt rfl;assumption;assumption;exact ii;assumption;(omega);simp only [zp,zq,z0,z1])|((with_reducible apply Qbi hp);exact zt rfl;assumption;assumption;exact ii;(first|exact zso rfl|exact zio rfl);simp only [zp,zq,z0,z1]))
          rw [roundsIn_succ]
          gi_wp2_with (first|((with_reducible apply Qax);exact zx rfl;exact zk rfl;exact ii;exact Sz.z;omega;omega;((try simp only [m0,Int.reduceToNat,m1,m2,Nat.reduceMul,Nat.reduceAdd,m3,m4,m5,n0]);exact rfl);simp only [zp,zq,z0,z1])|((with_reducible apply Qaw hp);exact ii;(exact AggTy.size);exact ii;exact zl rfl;decide;(exact zk1 rfl);exact rfl;(exact zm1 rfl);(intro l hl <;> simp only [List.mem_cons,List.not_mem_nil,or_false] at hl <;> rcases hl with rfl|rfl|rfl|rfl <;> rfl);exact rfl;clear hp;(try clear w1);intro g w1 hp;simp only [zp,zq,z0,z1])|((with_reducible apply Qbu hp);exact ii;exact ii;exact rfl;decide;exact zy rfl;(exact pm1);(exact rfl);assumption;assumption;assumption;exact zy rfl;exact ii;exact rfl;exact rfl;decide;(unfold maxLen;omega);omega;clear hp;(try clear w1);intro g cap junk w1 hl1 hl2 hl3 hp;(try dsimp only [List.cons_append,List.nil_append] at hp);simp only [zp,zq,z0,z1])|((with_reducible apply Qcb hp);exact zt rfl;assumption;assumption;exact ii;assumption;(omega);simp only [zp,zq,z0,z1])|((with_reducible apply Qbi hp);exact zt rfl;assumption;assumption;exact ii;(first|exact zso rfl|exact zio rfl);simp only [zp,zq,z0,z1]))
          rw [roundsIn_succ]
          gi_wp2_with (first|((with_reducible apply Qax);exact zx rfl;exact zk rfl;exact ii;exact Sz.z;omega;omega;((try simp only [m0,Int.reduceToNat,m1,m2,Nat.reduceMul,Nat.reduceAdd,m3,m4,m5,n0]);exact rfl);simp only [zp,zq,z0,z1])|((with_reducible apply Qaw hp);exact ii;(exact AggTy.size);exact ii;exact zl rfl;decide;(exact zk1 rfl);exact rfl;(exact zm1 rfl);(intro l hl <;> simp only [List.mem_cons,List.not_mem_nil,or_false] at hl <;> rcases hl with rfl|rfl|rfl|rfl <;> rfl);exact rfl;clear hp;(try clear w1);intro g w1 hp;simp only [zp,zq,z0,z1])|((with_reducible apply Qbu hp);exact ii;exact ii;exact rfl;decide;exact zy rfl;(exact pm1);(exact rfl);assumption;assumption;assumption;exact zy rfl;exact ii;exact rfl;exact rfl;decide;(unfold maxLen;omega);omega;clear hp;(try clear w1);intro g cap junk w1 hl1 hl2 hl3 hp;(try dsimp only [List.cons_append,List.nil_append] at hp);simp only [zp,zq,z0,z1])|((with_reducible apply Qcb hp);exact zt rfl;assumption;assumption;exact ii;assumption;(omega);simp only [zp,zq,z0,z1])|((with_reducible apply Qbi hp);exact zt rfl;assumption;assumption;exact ii;(first|exact zso rfl|exact zio rfl);simp only [zp,zq,z0,z1]))
          rw [roundsIn_succ]
          gi_wp2_with (first|((with_reducible apply Qdo hp);exact ii;exact rfl;clear hp;(try clear w1);intro g w1 hp;simp only [zp,zq,z0,z1])|((with_reducible apply Qcl hp);exact zt rfl;exact ii;exact ii;(exact zl rfl);(simp only [n0,Nat.reduceAdd,nn];try rfl);simp only [zp,zq,z0,z1])|((with_reducible apply Qdp hp);exact zt rfl;(first|exact za rfl|exact zi rfl|exact zs rfl);exact rfl;exact Sz.z;exact rfl;exact ii;(simp only [n0,Nat.reduceAdd,nn];try rfl);(exact zl rfl);exact rfl;exact ii;clear hp;(try clear w1);intro w1 hp)|((with_reducible apply Qbi hp);exact zt rfl;assumption;assumption;exact ii;(exact zso rfl);simp only [zp,zq,z0,z1])|((with_reducible refine Qby hp (RK.out _ _ _ _ hp.blk rfl) ?_);clear hp;(try clear w1);intro w1 hp)|((with_reducible refine Qby hp (NE.out _ _ _ _ (hp.farX (by assumption) (by assumption)) hp.blk rfl) ?_);clear hp;(try clear w1);intro w1 hp))
          refine ⟨⟨[g2,g3],yw,hp.keep⟩,pre,_,rfl,HI.out,?_,?_,Y,?_,?_⟩
          · dsimp only
            rw [HSx.out];exact HSU.out
          · exact ⟨.inr ⟨gk,ck,jk,rfl,hp.farX yk hbk⟩,HFR.out⟩
          · dsimp only
            rw [HSx.out];exact HY.out
          · obtain ⟨e1,e2,e3,e4⟩ := EY.out
            rw [e1,e2,e3,e4]
            exact (hpW.within' hp yzz).sub (by repeat (first|exact sb0|apply sb3))
        · rw [decide_eq_false hsu,show nrV l [p0,p1,p2,p3] = NrZ from if_neg hsu] at NE
          have NE := Lib.hid NE
          have HSM := Lib.hid hsu
          clear hrk2 hsm hsu
          have hp := Hp.start [] W
          gi_wp2_with (fail)
          refine wpIn_loop_rounds 5 ?_
          rw [roundsIn_succ]
          gi_wp2_with (first|((with_reducible apply Qax);exact zx rfl;exact zk rfl;exact ii;exact Sz.z;omega;omega;((try simp only [m0,Int.reduceToNat,m1,m2,Nat.reduceMul,Nat.reduceAdd,m3,m4,m5,n0]);exact rfl);simp only [zp,zq,z0,z1])|((with_reducible apply Qbg hp);exact zt rfl;assumption;exact ii;assumption;(omega);simp only [zp,zq,z0,z1])|((with_reducible apply Qbc hp);exact zt rfl;assumption;exact ii;(first|exact zio rfl|exact zso rfl);simp only [zp,zq,z0,z1])|((with_reducible apply Qaw hp);exact ii;(exact AggTy.size);exact ii;exact zl rfl;decide;(exact zk1 rfl);exact rfl;(exact zm1 rfl);(intro l hl <;> simp only [List.mem_cons,List.not_mem_nil,or_false] at hl <;> rcases hl with rfl|rfl|rfl|rfl <;> rfl);exact rfl;clear hp;(try clear w1);intro g w1 hp;simp only [zp,zq,z0,z1])|((with_reducible apply Qbn hp);exact ii;exact ii;exact rfl;decide;exact (rfl : _ = Value.slice none 0 0);exact zy rfl;exact ii;exact rfl;exact rfl;decide;(unfold maxLen;decide);decide;clear hp;(try clear w1);intro g cap junk w1 hl1 hl2 hl3 hp;simp only [zp,zq,z0,z1]))
          rw [roundsIn_succ]
          gi_wp2_with (first|((with_reducible apply Qax);exact zx rfl;exact zk rfl;exact ii;exact Sz.z;omega;omega;((try simp only [m0,Int.reduceToNat,m1,m2,Nat.reduceMul,Nat.reduceAdd,m3,m4,m5,n0]);exact rfl);simp only [zp,zq,z0,z1])|((with_reducible apply Qbg hp);exact zt rfl;assumption;exact ii;assumption;(omega);simp only [zp,zq,z0,z1])|((with_reducible apply Qbc hp);exact zt rfl;assumption;exact ii;(first|exact zio rfl|exact zso rfl);simp only [zp,zq,z0,z1])|((with_reducible apply Qaw hp);exact ii;(exact AggTy.size);exact ii;exact zl rfl;decide;(exact zk1 rfl);exact rfl;(exact zm1 rfl);(intro l hl <;> simp only [List.mem_cons,List.not_mem_nil,or_false] at hl <;> rcases hl with rfl|rfl|rfl|rfl <;> rfl);exact rfl;clear hp;(try clear w1);intro g w1 hp;simp only [zp,zq,z0,z1])|((with_reducible apply Qbu hp);exact ii;exact ii;exact rfl;decide;exact zy rfl;(exact pm1);(exact rfl);assumption;assumption;assumption;exact zy rfl;exact ii;exact rfl;exact rfl;decide;(unfold maxLen;omega);omega;clear hp;(try clear w1);intro g cap junk w1 hl1 hl2 hl3 hp;(try dsimp only [List.cons_append,List.nil_append] at hp);simp only [zp,zq,z0,z1]))
          rw [roundsIn_succ]
          gi_wp2_with (first|((with_reducible apply Qax);exact zx rfl;exact zk rfl;exact ii;exact Sz.z;omega;omega;((try simp only [m0,Int.reduceToNat,m1,m2,Nat.reduceMul,Nat.reduceAdd,m3,m4,m5,n0]);exact rfl);simp only [zp,zq,z0,z1])|((with_reducible apply Qbg hp);exact zt rfl;assumption;exact ii;assumption;(omega);simp only [zp,zq,z0,z1])|((with_reducible apply Qbc hp);exact zt rfl;assumption;exact ii;(first|exact zio rfl|exact zso rfl);simp only [zp,zq,z0,z1])|((with_reducible apply Qaw hp);exact ii;(exact AggTy.size);exact ii;exact zl rfl;decide;(exact zk1 rfl);exact rfl;(exact zm1 rfl);(intro l hl <;> simp only [List.mem_cons,List.not_mem_nil,or_false] at hl <;> rcases hl with rfl|rfl|rfl|rfl <;> rfl);exact rfl;clear hp;(try clear w1);intro g w1 hp;simp only [zp,zq,z0,z1])|((with_reducible apply Qbu hp);exact ii;exact ii;exact rfl;decide;exact zy rfl;(exact pm1);(exact rfl);assumption;assumption;assumption;exact zy rfl;exact ii;exact rfl;exact rfl;decide;(unfold maxLen;omega);omega;clear hp;(try clear w1);intro g cap junk w1 hl1 hl2 hl3 hp;(try dsimp only [List.cons_append,List.nil_append] at hp);simp only [zp,zq,z0,z1]))
          rw [roundsIn_succ]
          gi_wp2_with (first|((with_reducible apply Qax);exact zx rfl;exact zk rfl;exact ii;exact Sz.z;omega;omega;((try simp only [m0,Int.reduceToNat,m1,m2,Nat.reduceMul,Nat.reduceAdd,m3,m4,m5,n0]);exact rfl);simp only [zp,zq,z0,z1])|((with_reducible apply Qbg hp);exact zt rfl;assumption;exact ii;assumption;(omega);simp only [zp,zq,z0,z1])|((with_reducible apply Qbc hp);exact zt rfl;assumption;exact ii;(first|exact zio rfl|exact zso rfl);simp only [zp,zq,z0,z1])|((with_reducible apply Qaw hp);exact ii;(exact AggTy.size);exact ii;exact zl rfl;decide;(exact zk1 rfl);exact rfl;(exact zm1 rfl);(intro l hl <;> simp only [List.mem_cons,List.not_mem_nil,or_false] at hl <;> rcases hl with rfl|rfl|rfl|rfl <;> rfl);exact rfl;clear hp;(try clear w1);intro g w1 hp;simp only [zp,zq,z0,z1])|((with_reducible apply Qbu hp);exact ii;exact ii;exact rfl;decide;exact zy rfl;(exact pm1);(exact rfl);assumption;assumption;assumption;exact zy rfl;exact ii;exact rfl;exact rfl;decide;(unfold maxLen;omega);omega;clear hp;(try clear w1);intro g cap junk w1 hl1 hl2 hl3 hp;(try dsimp only [List.cons_append,List.nil_append] at hp);simp only [zp,zq,z0,z1]))
          rw [roundsIn_succ]
          gi_wp2_with (first|((with_reducible apply Qdo hp);exact ii;exact rfl;clear hp;(try clear w1);intro g w1 hp;simp only [zp,zq,z0,z1])|((with_reducible apply Qdp hp);exact zt rfl;(exact za rfl);exact rfl;(exact AggTy.size);exact rfl;exact ii;(simp only [n0,Nat.reduceAdd,nn];try rfl);(exact zl rfl);exact rfl;exact ii;clear hp;(try clear w1);intro w1 hp)|((with_reducible apply Qbc hp);exact zt rfl;assumption;exact ii;(exact zso rfl);simp only [zp,zq,z0,z1])|((with_reducible refine Qby hp (RK.out _ _ _ _ hp.blk rfl) ?_);clear hp;(try clear w1);intro w1 hp)|((with_reducible refine Qby hp (NE.out _ _ _ _ (hp.keep.some (by assumption)) hp.blk rfl) ?_);clear hp;(try clear w1);intro w1 hp))
          refine ⟨hp.keep,?_⟩
          intro y hy
          rcases List.mem_append.1 hy with h|h
          · exact HI.out y h
          · rw [List.mem_singleton.1 h]
            dsimp only
            rw [HSx.out]
            exact HSM.out
      · have hne : (rk == 3) = false := beq_eq_false_iff_ne.2 fun h => hsm (hrk2.1 (by omega))
        have HSM := Lib.hid (fun h : Succ l [p0,p1,p2,p3] => hsm h.1)
        clear NE hrk2 hsm
        have hp := Hp.start [] W
        gi_wp2_with (fail)
        refine wpIn_loop_rounds 5 ?_
        rw [roundsIn_succ]
        gi_wp2_with (first|((with_reducible apply Qax);exact zx rfl;exact zk rfl;exact ii;exact Sz.z;omega;omega;((try simp only [m0,Int.reduceToNat,m1,m2,Nat.reduceMul,Nat.reduceAdd,m3,m4,m5,n0]);exact rfl);simp only [zp,zq,z0,z1])|((with_reducible apply Qbg hp);exact zt rfl;assumption;exact ii;assumption;(omega);simp only [zp,zq,z0,z1])|((with_reducible apply Qbc hp);exact zt rfl;assumption;exact ii;(first|exact zio rfl|exact zso rfl);simp only [zp,zq,z0,z1])|((with_reducible apply Qaw hp);exact ii;(exact AggTy.size);exact ii;exact zl rfl;decide;(exact zk1 rfl);exact rfl;(exact zm1 rfl);(intro l hl <;> simp only [List.mem_cons,List.not_mem_nil,or_false] at hl <;> rcases hl with rfl|rfl|rfl|rfl <;> rfl);exact rfl;clear hp;(try clear w1);intro g w1 hp;simp only [zp,zq,z0,z1])|((with_reducible apply Qbn hp);exact ii;exact ii;exact rfl;decide;exact (rfl : _ = Value.slice none 0 0);exact zy rfl;exact ii;exact rfl;exact rfl;decide;(unfold maxLen;decide);decide;clear hp;(try clear w1);intro g cap junk w1 hl1 hl2 hl3 hp;simp only [zp,zq,z0,z1]))
        rw [roundsIn_succ]
        gi_wp2_with (first|((with_reducible apply Qax);exact zx rfl;exact zk rfl;exact ii;exact Sz.z;omega;omega;((try simp only [m0,Int.reduceToNat,m1,m2,Nat.reduceMul,Nat.reduceAdd,m3,m4,m5,n0]);exact rfl);simp only [zp,zq,z0,z1])|((with_reducible apply Qbg hp);exact zt rfl;assumption;exact ii;assumption;(omega);simp only [zp,zq,z0,z1])|((with_reducible apply Qbc hp);exact zt rfl;assumption;exact ii;(first|exact zio rfl|exact zso rfl);simp only [zp,zq,z0,z1])|((with_reducible apply Qaw hp);exact ii;(exact AggTy.size);exact ii;exact zl rfl;decide;(exact zk1 rfl);exact rfl;(exact zm1 rfl);(intro l hl <;> simp only [List.mem_cons,List.not_mem_nil,or_false] at hl <;> rcases hl with rfl|rfl|rfl|rfl <;> rfl);exact rfl;clear hp;(try clear w1);intro g w1 hp;simp only [zp,zq,z0,z1])|((with_reducible apply Qbu hp);exact ii;exact ii;exact rfl;decide;exact zy rfl;(exact pm1);(exact rfl);assumption;assumption;assumption;exact zy rfl;exact ii;exact rfl;exact rfl;decide;(unfold maxLen;omega);omega;clear hp;(try clear w1);intro g cap junk w1 hl1 hl2 hl3 hp;(try dsimp only [List.cons_append,List.nil_append] at hp);simp only [zp,zq,z0,z1]))
        rw [roundsIn_succ]
        gi_wp2_with (first|((with_reducible apply Qax);exact zx rfl;exact zk rfl;exact ii;exact Sz.z;omega;omega;((try simp only [m0,Int.reduceToNat,m1,m2,Nat.reduceMul,Nat.reduceAdd,m3,m4,m5,n0]);exact rfl);simp only [zp,zq,z0,z1])|((with_reducible apply Qbg hp);exact zt rfl;assumption;exact ii;assumption;(omega);simp only [zp,zq,z0,z1])|((with_reducible apply Qbc hp);exact zt rfl;assumption;exact ii;(first|exact zio rfl|exact zso rfl);simp only [zp,zq,z0,z1])|((with_reducible apply Qaw hp);exact ii;(exact AggTy.size);exact ii;exact zl rfl;decide;(exact zk1 rfl);exact rfl;(exact zm1 rfl);(intro l hl <;> simp only [List.mem_cons,List.not_mem_nil,or_false] at hl <;> rcases hl with rfl|rfl|rfl|rfl <;> rfl);exact rfl;clear hp;(try clear w1);intro g w1 hp;simp only [zp,zq,z0,z1])|((with_reducible apply Qbu hp);exact ii;exact ii;exact rfl;decide;exact zy rfl;(exact pm1);(exact rfl);assumption;assumption;assumption;exact zy rfl;exact ii;exact rfl;exact rfl;decide;(unfold maxLen;omega);omega;clear hp;(try clear w1);intro g cap junk w1 hl1 hl2 hl3 hp;(try dsimp only [List.cons_append,List.nil_append] at hp);simp only [zp,zq,z0,z1]))
        rw [roundsIn_succ]
        gi_wp2_with (first|((with_reducible apply Qax);exact zx rfl;exact zk rfl;exact ii;exact Sz.z;omega;omega;((try simp only [m0,Int.reduceToNat,m1,m2,Nat.reduceMul,Nat.reduceAdd,m3,m4,m5,n0]);exact rfl);simp only [zp,zq,z0,z1])|((with_reducible apply Qbg hp);exact zt rfl;assumption;exact ii;assumption;(omega);simp only [zp,zq,z0,z1])|((with_reducible apply Qbc hp);exact zt rfl;assumption;exact ii;(first|exact zio rfl|exact zso rfl);simp only [zp,zq,z0,z1])|((with_reducible apply Qaw hp);exact ii;(exact AggTy.size);exact ii;exact zl rfl;decide;(exact zk1 rfl);exact rfl;(exact zm1 rfl);(intro l hl <;> simp only [List.mem_cons,List.not_mem_nil,or_false] at hl <;> rcases hl with rfl|rfl|rfl|rfl <;> rfl);exact rfl;clear hp;(try clear w1);intro g w1 hp;simp only [zp,zq,z0,z1])|((with_reducible apply Qbu hp);exact ii;exact ii;exact rfl;decide;exact zy rfl;(exact pm1);(exact rfl);assumption;assumption;assumption;exact zy rfl;exact ii;exact rfl;exact rfl;decide;(unfold maxLen;omega);omega;clear hp;(try clear w1);intro g cap junk w1 hl1 hl2 hl3 hp;(try dsimp only [List.cons_append,List.nil_append] at hp);simp only [zp,zq,z0,z1]))
        rw [roundsIn_succ]
        gi_wp2_with ((with_reducible refine Qby hp (RK.out _ _ _ _ hp.blk rfl) ?_);clear hp;(try clear w1);intro w1 hp)
        refine ⟨hp.keep,?_⟩
        intro y hy
        rcases List.mem_append.1 hy with h|h
        · exact HI.out y h
        · rw [List.mem_singleton.1 h]
          dsimp only
          rw [HSx.out]
          exact HSM.out
end Go.Proofs.YtdfdmeoalbpcdaaGreat
