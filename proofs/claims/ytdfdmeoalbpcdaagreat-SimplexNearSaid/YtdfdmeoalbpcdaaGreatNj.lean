/-
  ninepinref15: det behind rows; Weights (contract).
  ninepinref15.chosen (contract).
-/
import Derived.Test.YtdfdmeoalbpcdaaGreatNh
import Derived.Test.YtdfdmeoalbpcdaaGreatNf
set_option linter.unusedSimpArgs false
set_option linter.unusedVariables false
set_option maxRecDepth 100000
namespace Go.Proofs.YtdfdmeoalbpcdaaGreat
open Go Go.RowKit
attribute [local irreducible] wpList
/-- The determinant, with a column in the place of one. -/
def dvv (S : List P3) (wi : Int) : Int :=
  match S with
  | [_] => 1
  | [_,_] => gmv S wi 1 1
  | [_,_,_] => dt2 (gmv S wi 1 1) (gmv S wi 1 2) (gmv S wi 2 1) (gmv S wi 2 2)
  | [_,_,_,_] => dt3 (gmv S wi 1 1) (gmv S wi 1 2) (gmv S wi 1 3) (gmv S wi 2 1) (gmv S wi 2 2) (gmv S wi 2 3) (gmv S wi 3 1) (gmv S wi 3 2) (gmv S wi 3 3)
  | _ => 0
theorem pt_may {S : List P3} (hm : ∀ p ∈ S,p.may) {k : Nat} (hk : k < S.length) : (pt S k).may := by
  have : S[k]? = some (pt S k) := by
    simp [pt,List.getD_eq_getElem?_getD,List.getElem?_eq_getElem hk]
  exact hm _ (List.mem_of_getElem? this)
theorem gmv_bd {S : List P3} (hm : ∀ p ∈ S,p.may) (wi : Int) {i k : Nat} (hi : i < S.length) (hk : k < S.length) : Bd B1 (gmv S wi i k) := by
  have h0 := pt_may hm (k := 0) (by omega)
  have he := Qev (pt_may hm hi) h0
  unfold gmv
  split
  · exact (Qcf (Qay he (Qew h0))).2
  · exact Qay he (Qev (pt_may hm hk) h0)
theorem WLs.heap {Bs : List Bk} {v : Value} {r : List Int} {w : World} (h : WLs Bs v r) (hr : r ≠ []) (hp : ∀ b ∈ Bs,w.heap[b.g]? = some (.cells b.cs.toArray b.t (0,0))) : ∃ (g cap : Nat) (cs : List Value) (t : TypeId),v = .slice (some ⟨g,0,none⟩) r.length cap ∧ w.heap[g]? = some (.cells cs.toArray t (0,0)) ∧ ∃ junk,cs = r.flatMap WL ++ junk := by
  rcases h with ⟨_,h⟩|⟨b,cap,junk,h1,h2,h3,h4⟩
  · exact absurd h hr
  · exact ⟨b.g,cap,b.cs,b.t,h3,hp b h1,junk,h4⟩
theorem Qic (r : List Int) (j : List Value) : r.length * 8 ≤ (r.flatMap WL ++ j).length := by
  rw [List.length_append,Qeo WL 8 Qdd];omega
theorem Qfo {x : Int} (h : Bd B1 x) : Fit x := Qcz (by have := B1_lt;have := Qhf;omega) h
theorem det_rows {S : List P3} (h1 : 1 ≤ S.length) (h4 : S.length ≤ 4) (hm : ∀ p ∈ S,p.may) (wi : Int) (v : Value) (H : List Bk) (w w' : World) (hO : OW v (rwsv S wi S.length (S.length - 1)) H) (hp : Hp [] w H w') : Calls Tryz.prog 60 #[v] w' (Ret (W (dvv S wi)) w') := by
  have G := fun (i k : Nat) (hi : i < S.length) (hk : k < S.length) => gmv_bd hm wi hi hk
  match S,h1,h4,hm,hO,G with
  | [_],_,_,_,hO,_ =>
    rcases hO with ⟨rfl,_,_⟩|⟨g,cap,vs,junk,Bs,rfl,_,_,_,hW,_⟩
    · exact det15_0 _ _ w'
    · have : vs.length = 0 := hW.1
      rw [this]
      exact det15_0 _ _ w'
  | [qa,qb],_,_,_,hO,G =>
    rcases hO with ⟨_,hR,_⟩|⟨g,cap,vs,junk,Bs,rfl,_,_,_,hW,hH⟩
    · exact absurd (congrArg List.length hR) (by rw [Qiu];simp)
    · obtain ⟨hl,hv⟩ := hW
      match vs,hl,hv with
      | [v0],_,hv =>
        have hb := fun b hb => (hp.own b (by rw [hH];exact List.mem_cons_of_mem _ hb)).2
        have ho := (hp.own ⟨g,66,[v0] ++ junk⟩ (by rw [hH];exact List.mem_cons_self ..)).2
        obtain ⟨ga,ca,ba,ta,e,ha,ja,ea⟩ := (hv 0 v0 [gmv [qa,qb] wi 1 1] rfl rfl).heap (by simp) hb
        subst e
        subst ea
        exact det15_1 _ g cap ga ca _ _ _ _ _ _ w' ho ha rfl (Nat.le_trans (by simp) (Qic _ _)) rfl
  | [qa,qb,qc],_,_,_,hO,G =>
    rcases hO with ⟨_,hR,_⟩|⟨g,cap,vs,junk,Bs,rfl,_,_,_,hW,hH⟩
    · exact absurd (congrArg List.length hR) (by rw [Qiu];simp)
    · obtain ⟨hl,hv⟩ := hW
      match vs,hl,hv with
      | [v0,v1],_,hv =>
        have hb := fun b hb => (hp.own b (by rw [hH];exact List.mem_cons_of_mem _ hb)).2
        have ho := (hp.own ⟨g,66,[v0,v1] ++ junk⟩ (by rw [hH];exact List.mem_cons_self ..)).2
        obtain ⟨ga,ca,ba,ta,e,ha,ja,ea⟩ := (hv 0 v0 [gmv [qa,qb,qc] wi 1 1,gmv [qa,qb,qc] wi 1 2] rfl rfl).heap (by simp) hb
        obtain ⟨gb,cb,bb,tb,e',hb',jb,eb⟩ := (hv 1 v1 [gmv [qa,qb,qc] wi 2 1,gmv [qa,qb,qc] wi 2 2] rfl rfl).heap (by simp) hb
        subst e
        subst e'
        subst ea
        subst eb
        have g11 := G 1 1 (by simp) (by simp)
        have g12 := G 1 2 (by simp) (by simp)
        have g21 := G 2 1 (by simp) (by simp)
        have g22 := G 2 2 (by simp) (by simp)
        have := det15_2 _ _ _ _ (Qfo g11) (Qfo g12) (Qfo g21) (Qfo g22) g cap ga ca gb cb _ _ _ _ _ _ _ _ _ w' ho ha hb' rfl rfl (Nat.le_trans (by simp) (Qic _ _)) (Nat.le_trans (by simp) (Qic _ _)) rfl rfl rfl rfl
        rw [(Qec g11 g22 g12 g21).1] at this
        exact this
  | [qa,qb,qc,qd],_,_,_,hO,G =>
    rcases hO with ⟨_,hR,_⟩|⟨g,cap,vs,junk,Bs,rfl,_,_,_,hW,hH⟩
    · exact absurd (congrArg List.length hR) (by rw [Qiu];simp)
    · obtain ⟨hl,hv⟩ := hW
      match vs,hl,hv with
      | [v0,v1,v2],_,hv =>
        have hb := fun b hb => (hp.own b (by rw [hH];exact List.mem_cons_of_mem _ hb)).2
        have ho := (hp.own ⟨g,66,[v0,v1,v2] ++ junk⟩ (by rw [hH];exact List.mem_cons_self ..)).2
        obtain ⟨ga,ca,ba,ta,e,ha,ja,ea⟩ := (hv 0 v0 [gmv [qa,qb,qc,qd] wi 1 1,gmv [qa,qb,qc,qd] wi 1 2,gmv [qa,qb,qc,qd] wi 1 3] rfl rfl).heap (by simp) hb
        obtain ⟨gb,cb,bb,tb,e',hb',jb,eb⟩ := (hv 1 v1 [gmv [qa,qb,qc,qd] wi 2 1,gmv [qa,qb,qc,qd] wi 2 2,gmv [qa,qb,qc,qd] wi 2 3] rfl rfl).heap (by simp) hb
        obtain ⟨gc,cc,bd,tc,e'',hc',jc,ec⟩ := (hv 2 v2 [gmv [qa,qb,qc,qd] wi 3 1,gmv [qa,qb,qc,qd] wi 3 2,gmv [qa,qb,qc,qd] wi 3 3] rfl rfl).heap (by simp) hb
        subst e
        subst e'
        subst e''
        subst ea
        subst eb
        subst ec
        have g11 := G 1 1 (by simp) (by simp)
        have g12 := G 1 2 (by simp) (by simp)
        have g13 := G 1 3 (by simp) (by simp)
        have g21 := G 2 1 (by simp) (by simp)
        have g22 := G 2 2 (by simp) (by simp)
        have g23 := G 2 3 (by simp) (by simp)
        have g31 := G 3 1 (by simp) (by simp)
        have g32 := G 3 2 (by simp) (by simp)
        have g33 := G 3 3 (by simp) (by simp)
        refine det15_3 _ g cap ga ca gb cb gc cc _ _ _ w' ho rfl rfl rfl ?_
        intro w1 hk
        have := Qoc _ _ _ _ _ _ _ _ _ (Qfo g11) (Qfo g12) (Qfo g13) (Qfo g21) (Qfo g22) (Qfo g23) (Qfo g31) (Qfo g32) (Qfo g33) ga ca gb cb gc cc _ _ _ _ _ _ _ _ _ w1 (Qal hk ha) (Qal hk hb') (Qal hk hc') (Nat.le_trans (by simp) (Qic _ _)) (Nat.le_trans (by simp) (Qic _ _)) (Nat.le_trans (by simp) (Qic _ _)) rfl rfl rfl rfl rfl rfl rfl rfl rfl
        have t1 := Qec g22 g33 g23 g32
        have t2 := Qec g21 g33 g23 g31
        have t3 := Qec g21 g32 g22 g31
        rw [t1.1,t2.1,t3.1,(Qot g11 g12 g13 t1.2 t2.2 t3.2).1] at this
        exact this
/-- The first weight, so far. -/
def hdv (S : List P3) : Nat → Int
  | 0 => dvv S (-1)
  | j + 1 => hdv S j - dvv S ((j + 1 : Nat) : Int)
def xsv (S : List P3) (j : Nat) : List Int := (List.range j).map fun t => dvv S ((t + 1 : Nat) : Int)
theorem xsv_succ (S : List P3) (j : Nat) : xsv S (j + 1) = xsv S j ++ [dvv S ((j + 1 : Nat) : Int)] := by
  unfold xsv
  rw [List.range_succ,List.map_append];rfl
theorem xsv_len (S : List P3) (j : Nat) : (xsv S j).length = j := by unfold xsv;simp
set_option maxHeartbeats 8000000 in
theorem weights15 (S : List P3) (n : Nat) (Hn : Hid (n = S.length)) (h1 : 1 ≤ n) (h4 : n ≤ 4) (v : Value) (b0 : Option Addr) (cap0 : Nat) (hv : v = .slice b0 n cap0) (w : World)
    (RW : Hid (∀ wi w1,Keep [] w w1 → Calls Tryz.prog 61 #[v,.int .i64 wi] w1 (RetRows (rwsv S wi n (n - 1)) w1)))
    (DT : Hid (∀ wi v1 H w1 w2,OW v1 (rwsv S wi n (n - 1)) H → Hp [] w1 H w2 → Calls Tryz.prog 60 #[v1] w2 (Ret (W (dvv S wi)) w2)))
    (LS : Hid (∀ (j : Nat) w1,j + 1 < n → Calls Tryz.prog 62 #[W (hdv S j),W (dvv S ((j + 1 : Nat) : Int))] w1 (Ret (W (hdv S (j + 1))) w1))) :
    Calls Tryz.prog 30 #[v] w (RetW (hdv S (n - 1) :: xsv S (n - 1)) (dvv S (-1)) w) := by
  subst hv
  go_enter Tryz.func30,Tryz.ntmps30
  have hp := Hp.start [] w
  go_wp2_with (first|((with_reducible apply Qag hp);exact ii;exact rfl;clear hp;(try clear w1);intro g w1 hp;simp only [zp,zq,z0,z1])|((with_reducible apply Qab hp);exact zt rfl;exact ii;exact ii;(exact zl rfl);(simp only [n0,Nat.reduceAdd,nn];try rfl);simp only [zp,zq,z0,z1])|((with_reducible apply Qae hp);exact zt rfl;exact za rfl;exact rfl;(exact AggTy.size);exact rfl;exact ii;(simp only [n0,Nat.reduceAdd,nn];try rfl);(exact zl rfl);exact rfl;exact ii;clear hp;(try clear w1);intro w1 hp)|((with_reducible apply Qav hp);exact ii;(exact AggTy.size);exact ii;exact zl rfl;decide;(exact zk1 rfl);exact rfl;(exact zm1 rfl);(intro l hl <;> simp only [List.mem_cons,List.not_mem_nil,or_false] at hl <;> rcases hl with rfl|rfl|rfl|rfl <;> rfl);exact rfl;clear hp;(try clear w1);intro g w1 hp;simp only [zp,zq,z0,z1])|((with_reducible refine (RW.out _ _ hp.keep).mono ?_);rintro e' w2 ⟨v9,H9,rfl,hOW9,hp9⟩;have DD := Lib.hid (DT.out _ _ _ _ _ hOW9 hp9);have hp' := hp.call hp9.keep;clear hp hOW9 hp9;(try clear w1);have hp := hp';clear hp')|((with_reducible refine Qaf hp DD.out ?_);clear hp DD;(try clear w1);intro w1 hp))
  rename_i g3 g4 K9 hK9
  obtain ⟨gw0,rfl⟩ : ∃ z : Nat,z = g := ⟨_,rfl⟩
  go_loopw [5,6] (fun wv iv wr => ∃ (j : Nat) (c : Int) (gw cap : Nat) (junk : List Value),j + 1 ≤ n ∧ c = j + 1 ∧ iv = .int .i64 c ∧ wv = .slice (some ⟨gw,0,none⟩) (j + 1) cap ∧ ((hdv S j :: xsv S j).flatMap WL ++ junk).length = cap * 8 ∧ j + 1 ≤ cap ∧ cap ≤ maxLen ∧ Hp [] w [⟨gw,27,(hdv S j :: xsv S j).flatMap WL ++ junk⟩,⟨g4,27,[.int .u64 (lb (dvv S (-1)) 0),.int .u64 (lb (dvv S (-1)) 1),.int .u64 (lb (dvv S (-1)) 2),.int .u64 (lb (dvv S (-1)) 3),.int .u64 (lb (dvv S (-1)) 4),.int .u64 (lb (dvv S (-1)) 5),.int .u64 (lb (dvv S (-1)) 6),.int .u64 (lb (dvv S (-1)) 7)]⟩,⟨g3,27,[.int .u64 0,.int .u64 0,.int .u64 0,.int .u64 0,.int .u64 0,.int .u64 0,.int .u64 0,.int .u64 0]⟩] wr) (fun _ i _ => n - (intOf i).toNat)
  case atStart => exact ⟨0,1,_,1,[],by omega,rfl,rfl,rfl,rfl,by omega,by unfold maxLen;decide,hp⟩
  case round =>
    clear hp
    obtain ⟨j,c,gw,cap,junk,hj,hc,rfl,rfl,hl,hcap,hmx,hp⟩ := hrel
    by_cases hcn : c < n
    · have LSj := Lib.hid (fun w1 => LS.out j w1 (by omega))
      have hcj : ((j + 1 : Nat) : Int) = (j : Int) + 1 := by omega
      have hX := xsv_succ S j
      rw [hcj] at LSj hX
      have HX := Lib.hid hX
      have hxl : ((hdv S j :: xsv S j).flatMap WL).length = (j + 1) * 8 := by rw [Qeo WL 8 Qdd,List.length_cons,xsv_len]
      clear hX hcj
      generalize hdv S j = h0 at *
      generalize xsv S j = r at *
      go_upto_region 8 with (first|((with_reducible apply Qdn hp);exact ii;exact ii;exact rfl;decide;exact zy rfl;(exact pm2);assumption;assumption;assumption;assumption;exact zy rfl;exact ii;exact rfl;exact rfl;decide;(unfold maxLen;omega);omega;clear hp;(try clear w1);intro g cap junk w1 hl1 hl2 hl3 hp;(try dsimp only [List.cons_append,List.nil_append] at hp);simp only [zp,zq,z0,z1])|((with_reducible apply Qag hp);exact ii;exact rfl;clear hp;(try clear w1);intro g w1 hp;simp only [zp,zq,z0,z1])|((with_reducible apply Qab hp);exact zt rfl;exact ii;exact ii;(exact zl rfl);(simp only [n0,Nat.reduceAdd,nn];try rfl);simp only [zp,zq,z0,z1])|((with_reducible apply Qae hp);exact zt rfl;exact za rfl;exact rfl;(exact AggTy.size);exact rfl;exact ii;(simp only [n0,Nat.reduceAdd,nn];try rfl);(exact zl rfl);exact rfl;exact ii;clear hp;(try clear w1);intro w1 hp)|((with_reducible apply Qav hp);exact ii;(exact AggTy.size);exact ii;exact zl rfl;decide;(exact zk1 rfl);exact rfl;(exact zm1 rfl);(intro l hl <;> simp only [List.mem_cons,List.not_mem_nil,or_false] at hl <;> rcases hl with rfl|rfl|rfl|rfl <;> rfl);exact rfl;clear hp;(try clear w1);intro g w1 hp;simp only [zp,zq,z0,z1])|((with_reducible refine (RW.out _ _ hp.keep).mono ?_);rintro e' w2 ⟨v9,H9,rfl,hOW9,hp9⟩;have DD := Lib.hid (DT.out _ _ _ _ _ hOW9 hp9);have hp' := hp.call hp9.keep;clear hp hOW9 hp9;(try clear w1);have hp := hp';clear hp')|((with_reducible refine Qaf hp DD.out ?_);clear hp DD;(try clear w1);intro w1 hp))
      have hq := hp.sub (List.Sublist.cons_cons _ ((List.Sublist.refl _).cons _))
      clear hp
      have e8 : List.flatMap WL (h0 :: r) ++ ([[.int .u64 (lb (dvv S ((j : Int) + 1)) 0),.int .u64 (lb (dvv S ((j : Int) + 1)) 1),.int .u64 (lb (dvv S ((j : Int) + 1)) 2),.int .u64 (lb (dvv S ((j : Int) + 1)) 3),.int .u64 (lb (dvv S ((j : Int) + 1)) 4),.int .u64 (lb (dvv S ((j : Int) + 1)) 5),.int .u64 (lb (dvv S ((j : Int) + 1)) 6),.int .u64 (lb (dvv S ((j : Int) + 1)) 7)]] : List (List Value)).flatten ++ junk = Value.int .u64 (lb h0 0) :: Value.int .u64 (lb h0 1) :: Value.int .u64 (lb h0 2) :: Value.int .u64 (lb h0 3) :: Value.int .u64 (lb h0 4) :: Value.int .u64 (lb h0 5) :: Value.int .u64 (lb h0 6) :: Value.int .u64 (lb h0 7) :: ((r ++ [(dvv S ((j : Int) + 1))]).flatMap WL ++ junk) := by simp [List.flatMap_cons,List.flatMap_append,WL]
      have e9 : ∀ y : Int,((y :: (r ++ [(dvv S ((j : Int) + 1))])).flatMap WL ++ junk).length = (List.flatMap WL (h0 :: r) ++ ([[.int .u64 (lb (dvv S ((j : Int) + 1)) 0),.int .u64 (lb (dvv S ((j : Int) + 1)) 1),.int .u64 (lb (dvv S ((j : Int) + 1)) 2),.int .u64 (lb (dvv S ((j : Int) + 1)) 3),.int .u64 (lb (dvv S ((j : Int) + 1)) 4),.int .u64 (lb (dvv S ((j : Int) + 1)) 5),.int .u64 (lb (dvv S ((j : Int) + 1)) 6),.int .u64 (lb (dvv S ((j : Int) + 1)) 7)]] : List (List Value)).flatten ++ junk).length := fun y => by
        simp only [List.length_append,Qeo WL 8 Qdd,List.length_cons,List.length_nil,List.length_flatten,List.map_cons,List.map_nil,List.sum_cons,List.sum_nil]
        omega
      have E9 := Lib.hid e9
      rw [e8] at hq
      clear e8 e9
      have hp := hq.sub ((List.Sublist.refl _).cons _)
      refine Qad hp hq [7] (.q 0 (.q 1 (.q 2 (.q 4 (.l 3 (.l 5 (.q 6 (.l 7 .nil)))))))) (by kernel_rfl) (by kernel_rfl) ?_
      clear hp hq;(try clear w1);intro w1 hp hq
      repeat' (first|(((with_reducible apply sd_q);exact zo rfl);(first|((with_reducible apply Qah hp);exact rfl;exact zt rfl;exact ii;exact ii;(exact zl rfl);(simp only [n0,Nat.reduceAdd,nn];try rfl);simp only [zp,zq,z0,z1])|((with_reducible apply Qaq hp);exact zs rfl;simp only [zp,zq,z0,z1])|((with_reducible apply Qas hp);exact rfl;exact zx rfl;exact zk rfl;exact ii;(exact AggTy.size);omega;omega;((try simp only [m0,Int.reduceToNat,m1,m2,Nat.reduceMul,Nat.reduceAdd,m3,m4,m5,n0]);exact rfl);simp only [zp,zq,z0,z1])))|(((with_reducible apply sd_l);exact zo rfl);(first|((with_reducible apply Qap hp);exact rfl;(focus (intro _;go_simp;try first|with_reducible rfl|exact ⟨rfl,rfl⟩));(with_reducible exact fun w => LSj.out w);exact hq;clear hp hq;(try clear w1);intro w1 hp hq;simp only [zp,zq,z0,z1])|((with_reducible apply Qam hq);exact rfl;exact zt rfl;(exact za rfl);exact rfl;(exact AggTy.size);exact rfl;exact ii;(simp only [n0,Nat.reduceAdd,nn];try rfl);(exact zl rfl);exact rfl;exact ii;(repeat (first|exact sb0|apply sb3));clear hp hq;(try clear w1);intro w1 hp hq)|((with_reducible apply Qbo hp hq);exact rfl;exact zt rfl;exact ii;exact ii;(exact zl rfl);(simp only [n0,Nat.reduceAdd,nn];try rfl);simp only [zp,zq,z0,z1])))|((with_reducible apply Qao);clear hp;have hp := hq;clear hq))
      go_wp2_with (fail)
      all_goals
        go_roundw
        case rel =>
          refine ⟨j + 1,(j : Int) + 1 + 1,_,_,junk,by omega,by omega,rfl,rfl,?_,by assumption,by assumption,?_⟩
          · rw [HX.out,E9.out];assumption
          · rw [HX.out];exact hp.sub (by repeat (first|exact sb0|apply sb2|apply sb3))
        case measure => simp [intOf];omega
    · have hjn : j = n - 1 := by omega
      subst hjn
      go_upto_region 9 with (fail)
      have hq := hp
      have hp := hq.sub (List.nil_sublist _)
      refine Qad hp hq [3] (.q 0 (.q 2 (.l 1 (.l 3 .nil)))) (by kernel_rfl) (by kernel_rfl) ?_
      clear hp hq;(try clear w1);intro w1 hp hq
      repeat' (first|(((with_reducible apply sd_q);exact zo rfl);(first|((with_reducible apply Qaq hp);exact zs rfl;simp only [zp,zq,z0,z1])|((with_reducible apply Qat hp);exact zs rfl;simp only [zp,zq,z0,z1])))|(((with_reducible apply sd_l);exact zo rfl);(first|((with_reducible apply Qam hq);exact rfl;exact zt rfl;(exact za rfl);exact rfl;(exact AggTy.size);exact rfl;exact ii;(simp only [n0,Nat.reduceAdd,nn];try rfl);(exact zl rfl);exact rfl;exact ii;(repeat (exact sb1));clear hp hq;(try clear w1);intro w1 hp hq)|((with_reducible apply Qbo hp hq);exact rfl;exact zt rfl;exact ii;exact ii;(exact zl rfl);(simp only [n0,Nat.reduceAdd,nn];try rfl);simp only [zp,zq,z0,z1])))|((with_reducible apply Qao);clear hp;have hp := hq;clear hq))
      go_wp2
      have e9 : (hdv S (n - 1) :: xsv S (n - 1)).length = n := by rw [List.length_cons,xsv_len];omega
      exact bodyPost_ret (Qan rfl rfl ⟨_,rfl,Qac hp (Nat.le_of_ble_eq_true rfl)⟩) rfl ⟨gw,cap,junk,by rw [e9];rfl,hp.keep,hp.fresh,hp.blk⟩
theorem hdv_tot (S : List P3) : ∀ j,hdv S j = dvv S (-1) - tot (xsv S j)
  | 0 => by unfold hdv xsv;simp [tot]
  | j + 1 => by
    rw [xsv_succ,Qjp]
    unfold hdv
    rw [hdv_tot S j]
    simp [tot]
    omega
theorem dvv_wv {S : List P3} (h1 : 1 ≤ S.length) (h4 : S.length ≤ 4) : dvv S (-1) = wd S ∧ xsv S (S.length - 1) = (wv S).1 := by
  match S,h1,h4 with
  | [_],_,_ => exact ⟨rfl,rfl⟩
  | [a,b],_,_ => exact ⟨rfl,rfl⟩
  | [a,b,c],_,_ => exact ⟨rfl,rfl⟩
  | [a,b,c,d],_,_ => exact ⟨rfl,rfl⟩
theorem tot_bd {B : Int} : ∀ {ws : List Int},(∀ x ∈ ws,Bd B x) → Bd (ws.length * B) (tot ws)
  | [],_ => by simp [tot,Bd]
  | x :: ws,h => by
    have h1 := h x (List.mem_cons_self ..)
    have h2 := tot_bd (B := B) (ws := ws) fun y hy => h y (List.mem_cons_of_mem _ hy)
    rw [List.length_cons,Int.natCast_add,Int.add_mul]
    unfold tot
    have := h1.1;have := h1.2;have := h2.1;have := h2.2
    exact ⟨by omega,by omega⟩
theorem B256 : 4 * BW < M511 := by unfold BW B3 B2 B1 M511;decide
theorem Qna {S : List P3} (h1 : 1 ≤ S.length) (h4 : S.length ≤ 4) (hm : ∀ p ∈ S,p.may) {v : Value} (w : World) (h : PSl w v S) : Calls Tryz.prog 30 #[v] w (RetW (cw S) (wd S) w) := by
  rcases h with ⟨rfl,rfl⟩|⟨g0,off,cap,bc,t0,u0,rfl,hb,hv⟩
  · simp at h1
  obtain ⟨d1,d2⟩ := dvv_wv h1 h4
  obtain ⟨b1,b2⟩ := cw_bd h1 h4 hm
  have hx : ∀ x ∈ xsv S (S.length - 1),Bd BW x := fun x hx => b1 x (by unfold cw;rw [← d2];exact List.mem_cons_of_mem _ hx)
  have hbw := Qgh
  have := weights15 S S.length (Lib.hid rfl) h1 h4 _ (some ⟨g0,off,none⟩) cap rfl w (Lib.hid fun wi w1 hk => rows_any S S.length (Lib.hid rfl) h1 h4 wi g0 off cap bc t0 u0 w1 (Qal hk hb) (Lib.hid hv) (Lib.hid hm)) (Lib.hid fun wi v1 H w1 w2 hO hp => det_rows h1 h4 hm wi v1 H w1 w2 hO hp) (Lib.hid fun j w1 hj => ?_)
  · have e : hdv S (S.length - 1) :: xsv S (S.length - 1) = cw S := by
      rw [hdv_tot,d1,d2];rfl
    rw [e,d1] at this
    exact this
  · have hin : ∀ i,i + 1 < S.length → dvv S ((i + 1 : Nat) : Int) ∈ xsv S (S.length - 1) := fun i hi => by
      unfold xsv
      exact List.mem_map_of_mem (f := fun t => dvv S ((t + 1 : Nat) : Int)) (List.mem_range.2 (by omega))
    have hsub : ∀ i,i < S.length → Bd (4 * BW) (hdv S i) := fun i hi => by
      rw [hdv_tot,d1]
      have t1 := tot_bd (B := BW) (ws := xsv S i) fun x hx' => hx x (by
        unfold xsv at hx' ⊢
        obtain ⟨t,ht,rfl⟩ := List.mem_map.1 hx'
        exact List.mem_map_of_mem (f := fun t => dvv S ((t + 1 : Nat) : Int)) (List.mem_range.2 (by have := List.mem_range.1 ht;omega)))
      rw [xsv_len] at t1
      have b2' : Bd BW (wd S) := b2
      have hi3 : i = 0 ∨ i = 1 ∨ i = 2 ∨ i = 3 := by omega
      have := t1.1;have := t1.2;have := b2'.1;have := b2'.2
      rcases hi3 with rfl|rfl|rfl|rfl <;> exact ⟨by omega,by omega⟩
    have f1 := Qcz B256 (hsub j (by omega))
    have hb2 := hx _ (hin j hj)
    have f2 := Qcz (B := BW) (by have := B256;omega) hb2
    have := Qfb _ _ f1 f2 w1
    rw [show fz (hdv S j - dvv S ((j + 1 : Nat) : Int)) = hdv S (j + 1) from Qfc B256 (hsub (j + 1) hj)] at this
    exact this
end Go.Proofs.YtdfdmeoalbpcdaaGreat

set_option linter.unusedSimpArgs false
set_option linter.unusedVariables false
set_option maxRecDepth 100000
namespace Go.Proofs.YtdfdmeoalbpcdaaGreat
open Go Go.RowKit
attribute [local irreducible] wpList
/-- A new slice of points. -/
def RetP (L : List P3) (w : World) (e : Ending) (w' : World) : Prop := ∃ (g cap : Nat) (junk : List Value),e = .returned (.slice (some ⟨g,0,none⟩) L.length cap) ∧ Keep [] w w' ∧ w.heap.size ≤ g ∧ w'.heap[g]? = some (.cells (pcs L ++ junk).toArray 39 (0,0))
theorem sx_callP {P : Program} {X : List Nat} {w0 w : World} {H : List Bk} {f : FuncId} {args : Array Value} {L : List P3} {R : Ending → World → Prop} {n : Nat} (hp : Hp X w0 H w) (hc : Calls P f args w (RetP L w)) (hn : L.length = n)
    (hk : ∀ g cap junk w1,Hp X w0 (⟨g,39,pcs L ++ junk⟩ :: H) w1 → R (.returned (.slice (some ⟨g,0,none⟩) n cap)) w1) : Calls P f args w R :=
  hc.mono fun e w1 ⟨g,cap,junk,he,hw,hg,hb⟩ => by subst he;subst hn;exact hk g cap junk w1 (hp.add hw hg hb)
theorem Qnr {w : World} {g cap : Nat} {t : TypeId} {L : List P3} {n : Nat} {junk : List Value} (hn : L.length = n) (h : w.heap[g]? = some (.cells (pcs L ++ junk).toArray t (0,0))) : PSl w (.slice (some ⟨g,0,none⟩) n cap) L := by
  subst hn
  refine .inr ⟨g,0,cap,_,_,_,rfl,h,?_⟩
  rw [List.drop_zero,← Qdx,List.take_left']
  rfl
theorem sx_callWn {P : Program} {X : List Nat} {w0 w : World} {H : List Bk} {f : FuncId} {args : Array Value} {ws : List Int} {d : Int} {n : Nat} {R : Ending → World → Prop} (hp : Hp X w0 H w) (hc : Calls P f args w (RetW ws d w)) (hn : ws.length = n)
    (hk : ∀ g cap junk w1,Hp X w0 (⟨g,27,ws.flatMap WL ++ junk⟩ :: H) w1 → R (.returned (.tuple #[.slice (some ⟨g,0,none⟩) n cap,W d])) w1) : Calls P f args w R :=
  hc.mono fun e w1 ⟨g,cap,junk,he,hw,hg,hb⟩ => by subst he;subst hn;exact hk g cap junk w1 (hp.add hw hg hb)
/-- Memory between two rounds: k points are Qeu. -/
def SpC (w : World) (L : List Bk) (tk : List P3) (k : Nat) (tv : Value) (wr : World) : Prop :=
  (k = 0 ∧ tv = .slice none 0 0 ∧ Hp [] w L wr) ∨
  ∃ ga ca ja,0 < k ∧ tv = .slice (some ⟨ga,0,none⟩) (tk.take k).length ca ∧ (pcs (tk.take k) ++ ja).length = ca * 3 ∧ (tk.take k).length ≤ ca ∧ ca ≤ maxLen ∧ Hp [] w (⟨ga,39,pcs (tk.take k) ++ ja⟩ :: L) wr
set_option maxHeartbeats 8000000 in
theorem chosen_core (l tk : List P3) (n m : Nat) (Hn : Hid (n = l.length)) (hm4 : m ≤ 4) (hm1 : 1 ≤ m) (out : List Int) (Hm : Hid (out.length = m ∧ tk.length = m)) (Hpl : Hid (∀ (i : Nat) (k : Int),out[i]? = some k → 0 ≤ k ∧ k < l.length ∧ tk[i]? = l[k.toNat]?))
    (g0 off cap g1 cap1 : Nat) (bc bk : List Value) (t0 t1 : TypeId) (u0 u1 : Nat × Nat) (w : World) (hb : w.heap[g0]? = some (.cells bc.toArray t0 u0)) (hbk : w.heap[g1]? = some (.cells bk.toArray t1 u1)) (Hv : Hid ((bc.drop off).take (l.length * 3) = pcs l)) (Hbk : Hid (∃ j,bk = out.map (Value.int .i64) ++ j)) :
    Calls Tryz.prog 28 #[.slice (some ⟨g0,off,none⟩) n cap,.slice (some ⟨g1,0,none⟩) m cap1] w (RetP tk w) := by
  go_enter Tryz.func28,Tryz.ntmps28
  have hp := Hp.start [] w
  go_wp2_with (fail)
  go_loopw [5,6] (fun tv i wr => ∃ k : Nat,k ≤ m ∧ i = .int .i64 k ∧ SpC w [] tk k tv wr) (fun _ i _ => m - (intOf i).toNat)
  case atStart => exact ⟨0,by omega,rfl,.inl ⟨rfl,rfl,hp⟩⟩
  case round =>
    clear hp
    obtain ⟨k,hk,rfl,hI⟩ := hrel
    by_cases hk1 : k < m
    · obtain ⟨r,hr⟩ : ∃ r,out[k]? = some r := ⟨_,List.getElem?_eq_getElem (by rw [Hm.out.1];exact hk1)⟩
      obtain ⟨hr0,hr1,hrq⟩ := Hpl.out k r hr
      have hk2 : (k : Int) < m := by omega
      have hrn : r < n := by rw [Hn.out];exact hr1
      obtain ⟨q,hq⟩ : ∃ q,tk[k]? = some q := ⟨_,List.getElem?_eq_getElem (by rw [Hm.out.2];exact hk1)⟩
      have hpq : l[r.toNat]? = some q := by rw [← hrq];exact hq
      have hat := Qfm Hv.out hpq
      have hroom : off + r.toNat * 3 + 3 ≤ bc.length := by
        rcases Qdg Hv.out with h|h
        · subst h;simp at hpq
        · rw [← Hn.out] at h;omega
      have hget : bk[k * 1]? = some (.int .i64 r) := by
        obtain ⟨j,e⟩ := Hbk.out
        rw [e,Nat.mul_one,List.getElem?_append_left (by rw [List.length_map,Hm.out.1];exact hk1),List.getElem?_map,hr];rfl
      have htake : tk.take (k + 1) = tk.take k ++ [q] := by rw [List.take_add_one,hq];rfl
      have HT := Lib.hid htake
      clear htake hpq hq hrq hr hr1
      rcases hI with ⟨rfl,rfl,hp⟩|⟨ga,ca,ja,hk0,rfl,hja,hca,hcam,hp⟩
      · rw [show (((0 : Nat)) : Int) = 0 from rfl]
        rw [Nat.zero_mul] at hget
        go_wp2_with (first|((with_reducible apply Qar);exact zx rfl;exact zk rfl;exact ii;exact Sz.z;omega;omega;((try simp only [m0,Int.reduceToNat,m1,m2,Nat.reduceMul,Nat.reduceAdd,m3,m4,m5,n0]);exact rfl);simp only [zp,zq,z0,z1])|((with_reducible apply Qbr hp);exact zt rfl;assumption;exact ii;assumption;(omega);simp only [zp,zq,z0,z1])|((with_reducible apply Qbf hp);exact zt rfl;assumption;exact ii;(assumption);simp only [zp,zq,z0,z1])|((with_reducible apply Qav hp);exact ii;(exact AggTy.size);exact ii;exact zl rfl;decide;(exact zk1 rfl);exact rfl;(exact zm1 rfl);(intro l hl <;> simp only [List.mem_cons,List.not_mem_nil,or_false] at hl <;> rcases hl with rfl|rfl|rfl|rfl <;> rfl);exact rfl;clear hp;(try clear w1);intro g w1 hp;simp only [zp,zq,z0,z1])|((with_reducible apply Qbq hp);exact ii;exact ii;exact rfl;decide;exact (rfl : _ = Value.slice none 0 0);exact zy rfl;exact ii;exact rfl;exact rfl;decide;(unfold maxLen;decide);decide;clear hp;(try clear w1);intro g cap junk w1 hl1 hl2 hl3 hp;simp only [zp,zq,z0,z1]))
        go_roundw
        case rel =>
          have e1 : tk.take 1 = [q] := by simpa using HT.out
          refine ⟨1,by omega,rfl,?_⟩
          unfold SpC
          rw [e1]
          exact .inr ⟨_,_,_,by omega,rfl,by assumption,by assumption,by assumption,hp.sub (by repeat (first|exact sb1|apply sb2))⟩
        case measure => simp [intOf];omega
      · have hl4 : (tk.take k).length ≤ 4 := by rw [List.length_take];omega
        generalize tk.take k = tkk at *
        go_wp2_with (first|((with_reducible apply Qar);exact zx rfl;exact zk rfl;exact ii;exact Sz.z;omega;omega;((try simp only [m0,Int.reduceToNat,m1,m2,Nat.reduceMul,Nat.reduceAdd,m3,m4,m5,n0]);exact rfl);simp only [zp,zq,z0,z1])|((with_reducible apply Qbr hp);exact zt rfl;assumption;exact ii;assumption;(omega);simp only [zp,zq,z0,z1])|((with_reducible apply Qbf hp);exact zt rfl;assumption;exact ii;(assumption);simp only [zp,zq,z0,z1])|((with_reducible apply Qav hp);exact ii;(exact AggTy.size);exact ii;exact zl rfl;decide;(exact zk1 rfl);exact rfl;(exact zm1 rfl);(intro l hl <;> simp only [List.mem_cons,List.not_mem_nil,or_false] at hl <;> rcases hl with rfl|rfl|rfl|rfl <;> rfl);exact rfl;clear hp;(try clear w1);intro g w1 hp;simp only [zp,zq,z0,z1])|((with_reducible apply Qdn hp);exact ii;exact ii;exact rfl;decide;exact zy rfl;(exact pm1);(exact Qdx _);assumption;assumption;assumption;exact zy rfl;exact ii;exact rfl;exact rfl;decide;(unfold maxLen;omega);omega;clear hp;(try clear w1);intro g cap junk w1 hl1 hl2 hl3 hp;(try dsimp only [List.cons_append,List.nil_append] at hp);simp only [zp,zq,z0,z1]))
        go_roundw
        case rel =>
          have e1 : pcs (tkk ++ [q]) = pcs tkk ++ [Value.int .i64 q.x,.int .i64 q.y,.int .i64 q.z] := by rw [Qij];rfl
          have e2 : (tkk ++ [q]).length = tkk.length + 1 := by simp
          refine ⟨k + 1,by omega,by go_num,?_⟩
          unfold SpC
          rw [HT.out,e1,e2]
          exact .inr ⟨_,_,_,by omega,rfl,by assumption,by assumption,by assumption,hp.sub (by repeat (first|exact sb1|apply sb2))⟩
        case measure => simp [intOf];omega
    · obtain rfl : m = k := by omega
      have htk : tk.take m = tk := List.take_of_length_le (by rw [Hm.out.2];exact Nat.le_refl _)
      rcases hI with ⟨h0,_,_⟩|⟨ga,ca,ja,hk0,rfl,hja,hca,hcam,hp⟩
      · omega
      rw [htk] at hp
      rw [htk]
      clear hja hca
      go_wp2_with (fail)
      exact bodyPost_ret (Qaa rfl rfl) rfl ⟨_,_,_,rfl,hp.keep,hp.fresh,hp.blk⟩
end Go.Proofs.YtdfdmeoalbpcdaaGreat
