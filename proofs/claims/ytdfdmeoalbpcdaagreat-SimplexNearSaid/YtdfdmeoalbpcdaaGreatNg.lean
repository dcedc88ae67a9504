/-
  ninepinref15.rows (contract; printed by gen_ng.py).
-/
import Derived.Test.YtdfdmeoalbpcdaaGreatNf
import Derived.Test.YtdfdmeoalbpcdaaGreatBi
set_option linter.unusedSimpArgs false
set_option linter.unusedVariables false
set_option maxRecDepth 100000
namespace Go.Proofs.YtdfdmeoalbpcdaaGreat
open Go Go.RowKit
attribute [local irreducible] wpList
/-- The products of edges; in a column's place those with the first point. -/
def gmv (S : List P3) (wi : Int) (i k : Nat) : Int := if (k : Int) = wi then -(((pt S i).sub (pt S 0)).dot (pt S 0)) else ((pt S i).sub (pt S 0)).dot ((pt S k).sub (pt S 0))
def rwv (S : List P3) (wi : Int) (i j : Nat) : List Int := (List.range j).map fun t => gmv S wi i (t + 1)
theorem Qir (S : List P3) (wi : Int) (i j : Nat) : rwv S wi i (j + 1) = rwv S wi i j ++ [gmv S wi i (j + 1)] := by
  unfold rwv
  rw [List.range_succ,List.map_append];rfl
theorem rwv_len (S : List P3) (wi : Int) (i j : Nat) : (rwv S wi i j).length = j := by unfold rwv;simp
def rwsv (S : List P3) (wi : Int) (n j : Nat) : List (List Int) := (List.range j).map fun t => rwv S wi (t + 1) (n - 1)
theorem rwsv_succ (S : List P3) (wi : Int) (n j : Nat) : rwsv S wi n (j + 1) = rwsv S wi n j ++ [rwv S wi (j + 1) (n - 1)] := by
  unfold rwsv
  rw [List.range_succ,List.map_append];rfl
theorem Qiu (S : List P3) (wi : Int) (n j : Nat) : (rwsv S wi n j).length = j := by unfold rwsv;simp
/-- A slice of wide numbers that lies in one of the blocks. -/
def WLs (Bs : List Bk) (v : Value) (r : List Int) : Prop := (v = .slice none 0 0 ∧ r = []) ∨ ∃ (b : Bk) (cap : Nat) (junk : List Value),b ∈ Bs ∧ b.t = 27 ∧ v = .slice (some ⟨b.g,0,none⟩) r.length cap ∧ b.cs = r.flatMap WL ++ junk
theorem WLs.mono {Bs Cs : List Bk} {v : Value} {r : List Int} (h : WLs Bs v r) (hs : ∀ b ∈ Bs,b ∈ Cs) : WLs Cs v r := by
  rcases h with h|⟨b,cap,junk,h1,h2⟩
  · exact .inl h
  · exact .inr ⟨b,cap,junk,hs b h1,h2⟩
def WLL (Bs : List Bk) (vs : List Value) (R : List (List Int)) : Prop := vs.length = R.length ∧ ∀ (i : Nat) (v : Value) (r : List Int),vs[i]? = some v → R[i]? = some r → WLs Bs v r
theorem WLL.nil {Bs : List Bk} : WLL Bs [] [] := ⟨rfl,fun i v r h => by simp at h⟩
theorem WLL.snoc {Bs Cs : List Bk} {vs : List Value} {R : List (List Int)} {v : Value} {r : List Int} (h : WLL Bs vs R) (hs : ∀ b ∈ Bs,b ∈ Cs) (hv : WLs Cs v r) : WLL Cs (vs ++ [v]) (R ++ [r]) := by
  obtain ⟨h1,h2⟩ := h
  refine ⟨by simp [h1],fun i u q hu hq => ?_⟩
  rcases Nat.lt_or_ge i vs.length with hi|hi
  · rw [List.getElem?_append_left hi] at hu
    rw [List.getElem?_append_left (by omega)] at hq
    exact (h2 i u q hu hq).mono hs
  · rw [List.getElem?_append_right hi] at hu
    rw [List.getElem?_append_right (by omega)] at hq
    have h0 : i - vs.length = 0 := by
      rcases Nat.eq_zero_or_pos (i - vs.length) with h|h
      · exact h
      · rw [List.getElem?_eq_none (by simp;omega)] at hu;cases hu
    rw [h0] at hu
    rw [← h1,h0] at hq
    simp at hu hq
    subst hu
    subst hq
    exact hv
def OW (ov : Value) (R : List (List Int)) (H : List Bk) : Prop := (ov = .slice none 0 0 ∧ R = [] ∧ H = []) ∨ ∃ (g cap : Nat) (vs junk : List Value) (Bs : List Bk),ov = .slice (some ⟨g,0,none⟩) vs.length cap ∧ (vs ++ junk).length = cap * 1 ∧ vs.length ≤ cap ∧ cap ≤ maxLen ∧ WLL Bs vs R ∧ H = ⟨g,66,vs ++ junk⟩ :: Bs
def LW (lv : Value) (r : List Int) (H0 H : List Bk) : Prop := (lv = .slice none 0 0 ∧ r = [] ∧ H = H0) ∨ ∃ (g cap : Nat) (junk : List Value),lv = .slice (some ⟨g,0,none⟩) r.length cap ∧ (r.flatMap WL ++ junk).length = cap * 8 ∧ r.length ≤ cap ∧ cap ≤ maxLen ∧ H = ⟨g,27,r.flatMap WL ++ junk⟩ :: H0
def RetRows (R : List (List Int)) (w : World) (e : Ending) (w' : World) : Prop := ∃ (v : Value) (H : List Bk),e = .returned v ∧ OW v R H ∧ Hp [] w H w'
theorem LW.wls {lv : Value} {r : List Int} {H0 H : List Bk} (h : LW lv r H0 H) : WLs H lv r ∧ ∀ b ∈ H0,b ∈ H := by
  rcases h with ⟨rfl,rfl,rfl⟩|⟨g,cap,junk,rfl,_,_,_,rfl⟩
  · exact ⟨.inl ⟨rfl,rfl⟩,fun b h => h⟩
  · exact ⟨.inr ⟨_,cap,junk,List.mem_cons_self ..,rfl,rfl,rfl⟩,fun b h => List.mem_cons_of_mem _ h⟩
theorem pt_at {S : List P3} {k : Nat} {q : P3} (h : S[k]? = some q) : pt S k = q := by
  simp [pt,List.getD_eq_getElem?_getD,h]
set_option maxHeartbeats 16000000 in
theorem rows_any (S : List P3) (n : Nat) (Hn : Hid (n = S.length)) (h1 : 1 ≤ n) (h4 : n ≤ 4) (wi : Int) (g0 off cap0 : Nat) (bc : List Value) (t0 : TypeId) (u0 : Nat × Nat) (w : World) (hb : w.heap[g0]? = some (.cells bc.toArray t0 u0)) (Hv : Hid ((bc.drop off).take (S.length * 3) = pcs S)) (HM : Hid (∀ p ∈ S,p.may)) :
    Calls Tryz.prog 61 #[.slice (some ⟨g0,off,none⟩) n cap0,.int .i64 wi] w (RetRows (rwsv S wi n (n - 1)) w) := by
  have HAT : ∀ (k : Nat),k < n → ∃ p,S[k]? = some p ∧ p.may ∧ (bc.drop (off + k * 3)).take 3 = [.int .i64 p.x,.int .i64 p.y,.int .i64 p.z] ∧ off + k * 3 + 3 ≤ bc.length := by
    intro k hk
    obtain ⟨p,hp⟩ : ∃ p,S[k]? = some p := ⟨_,List.getElem?_eq_getElem (by rw [← Hn.out];exact hk)⟩
    refine ⟨p,hp,HM.out p (List.mem_of_getElem? hp),Qfm Hv.out hp,?_⟩
    rcases Qdg Hv.out with h|h
    · rw [h] at hp;simp at hp
    · rw [← Hn.out] at h;omega
  have HA := Lib.hid HAT
  clear HAT
  obtain ⟨p0,hp0,hm0,hat0,hroom0⟩ := HA.out 0 (by omega)
  rw [Nat.zero_mul,Nat.add_zero] at hat0 hroom0
  have HP0 := Lib.hid (And.intro (pt_at hp0) hm0)
  clear hp0 hm0
  go_enter Tryz.func61,Tryz.ntmps61
  have hp := Hp.start [] w
  go_wp2_with (fail)
  go_loopw [5,6] (fun ov iv wr => ∃ (j : Nat) (c : Int) (H : List Bk),j + 1 ≤ n ∧ c = j + 1 ∧ iv = .int .i64 c ∧ Hid (OW ov (rwsv S wi n j) H) ∧ Hp [] w H wr) (fun _ i _ => n - (intOf i).toNat)
  case atStart => exact ⟨0,1,[],by omega,rfl,rfl,.inl ⟨rfl,rfl,rfl⟩,hp⟩
  case round =>
    clear hp
    obtain ⟨j,c,H,hj,hc,rfl,hOW,hp⟩ := hrel
    by_cases hcn : c < n
    · obtain ⟨q,hq,hqm,hat,hroom⟩ := HA.out (j + 1) (by omega)
      have hjc : j + 1 = c.toNat := by omega
      rw [hjc] at hat hroom
      have HQ := pt_at hq
      obtain ⟨e,he⟩ : ∃ e,e = q.sub p0 := ⟨_,rfl⟩
      have hebd : e.bd := by rw [he];exact Qev hqm HP0.out.2
      have LS1 := Lib.hid (fun w1 => by have := Qei q p0 (by rw [← he];exact Qaz hebd) w1;rw [← he] at this;exact this)
      have HE : Hid ((pt S (j + 1)).sub (pt S 0) = e ∧ pt S 0 = p0 ∧ e.bd) := ⟨by rw [HQ,HP0.out.1,he],HP0.out.1,hebd⟩
      clear hq hqm HQ he hebd hjc
      have hc0 : 0 ≤ c := by omega
      go_wp2_with (fail)
      have hq := hp
      refine Qcc hp hq [9] (.q 0 (.q 1 (.q 2 (.q 3 (.q 4 (.q 5 (.q 6 (.p 7 (.l 8 (.l 9 .nil)))))))))) (by kernel_rfl) (by kernel_rfl) ?_
      clear hp hq;(try clear w1);intro w1 hp hq
      repeat' (first|(((with_reducible apply sg_q);exact zo rfl);(first|((with_reducible apply Qcs hp);exact rfl;exact zt rfl;assumption;exact ii;assumption;(omega);simp only [zp,zq,z0,z1])|((with_reducible apply Qga hp);(first|exact zi rfl|exact zs rfl);simp only [zp,zq,z0,z1])|((with_reducible apply Qcj hp);exact rfl;exact zx rfl;exact zk rfl;exact ii;(exact AggTy.size);omega;omega;((try simp only [m0,Int.reduceToNat,m1,m2,Nat.reduceMul,Nat.reduceAdd,m3,m4,m5,n0]);exact rfl);simp only [zp,zq,z0,z1])))|(((with_reducible apply sg_p);exact zo rfl);((with_reducible apply Qfj hp);exact rfl;(focus (intro _;go_simp;try first|with_reducible rfl|exact ⟨rfl,rfl⟩));(with_reducible first|exact fun w => LS1.out w);simp only [zp,zq,z0,z1]))|(((with_reducible apply sg_l);exact zo rfl);(first|((with_reducible apply Qgu hq);(repeat (exact sb0));exact rfl;exact ii;exact rfl;clear hp hq;(try clear w1);intro g w1 hp hq;simp only [zp,zq,z0,z1])|((with_reducible apply Qdw hq);exact rfl;exact zt rfl;(exact za rfl);exact rfl;(exact AggTy.size);exact rfl;exact ii;(simp only [n0,Nat.reduceAdd,nn];try rfl);(exact zl rfl);exact rfl;exact ii;(repeat (first|exact sb0|apply sb3));clear hp hq;(try clear w1);intro w1 hp hq)))|((with_reducible apply Qgw hq);clear hp hq;(try clear w1);intro w1 hp))
      obtain ⟨g8,rfl⟩ : ∃ z : Nat,z = g := ⟨_,rfl⟩
      go_wp2_with (fail)
      clear LS1 hat hroom
      obtain ⟨w3,hw3⟩ : ∃ x : World,x = wr := ⟨_,rfl⟩
      subst hw3
      go_loopw [7,9] (fun lv kv wr => ∃ (i : Nat) (b : Int) (H1 : List Bk),i + 1 ≤ n ∧ b = i + 1 ∧ kv = .int .i64 b ∧ Hid (LW lv (rwv S wi (j + 1) i) (⟨g8,39,[.int .i64 e.x,.int .i64 e.y,.int .i64 e.z]⟩ :: H) H1) ∧ Hp [] w H1 wr) (fun _ i _ => n - (intOf i).toNat)
      case atStart => exact ⟨0,1,_,by omega,rfl,rfl,.inl ⟨rfl,rfl,rfl⟩,hp⟩
      case round =>
        clear hp
        obtain ⟨i,b,H1,hi,hbi,rfl,hLW,hp⟩ := hrel
        by_cases hbn : b < n
        · obtain ⟨q2,hq2,hqm2,hat2,hroom2⟩ := HA.out (i + 1) (by omega)
          have hib : i + 1 = b.toNat := by omega
          rw [hib] at hat2 hroom2
          have HQ2 := pt_at hq2
          obtain ⟨e2,he2⟩ : ∃ e2,e2 = q2.sub p0 := ⟨_,rfl⟩
          have hebd2 : e2.bd := by rw [he2];exact Qev hqm2 HP0.out.2
          have LS2 := Lib.hid (fun w1 => by have := Qei q2 p0 (by rw [← he2];exact Qaz hebd2) w1;rw [← he2] at this;exact this)
          have DT := Lib.hid (fun w1 => Qly e e2 (Qaz HE.out.2.2) (Qaz hebd2) w1)
          have DT0 := Lib.hid (fun w1 => Qly e p0 (Qaz HE.out.2.2) (Qaz (Qew HP0.out.2)) w1)
          have L0 := Lib.hid (fun w1 => by have := Qfb 0 (e.dot p0) Qbp (Qdl (Qaz HE.out.2.2) (Qaz (Qew HP0.out.2))) w1;rw [show fz (0 - e.dot p0) = -(e.dot p0) by rw [Int.zero_sub];exact (Qcf (Qay HE.out.2.2 (Qew HP0.out.2))).1] at this;simp only [W,Qcy] at this;exact this)
          have HG : Hid ((pt S (j + 1)).sub (pt S 0) = e ∧ pt S 0 = p0 ∧ (pt S (i + 1)).sub p0 = e2) := ⟨HE.out.1,HE.out.2.1,by rw [HQ2,he2]⟩
          clear hq2 hqm2 HQ2 he2 hebd2 hib
          have hb0 : 0 ≤ b := by omega
          by_cases hwi : b = wi
          · have hbw : (b == wi) = true := by simpa using hwi
            have hx : Hid (gmv S wi (j + 1) (i + 1) = -(e.dot p0)) := by have := HG.out;show _ = _;unfold gmv;rw [if_pos (by omega),this.1,this.2.1]
            clear hwi
            rcases hLW.out with ⟨rfl,hr,rfl⟩|⟨gl,capl,junkl,rfl,hl4,hl5,hl6,rfl⟩
            · have HR := Lib.hid hr
              clear hr
              clear hLW
              go_wp2_with (fail)
              have hq := hp
              refine Qcc hp hq [11] (.q 0 (.q 1 (.q 2 (.q 3 (.q 4 (.q 5 (.q 6 (.q 7 (.p 8 (.p 9 (.l 10 (.l 11 .nil)))))))))))) (by kernel_rfl) (by kernel_rfl) ?_
              clear hp hq;(try clear w1);intro w1 hp hq
              repeat' (first|(((with_reducible apply sg_q);exact zo rfl);(first|((with_reducible apply Qdq hp);exact rfl;exact zt rfl;exact ii;exact ii;(exact zl rfl);(simp only [n0,Nat.reduceAdd,nn];try rfl);simp only [zp,zq,z0,z1])|((with_reducible apply Qcs hp);exact rfl;exact zt rfl;assumption;exact ii;assumption;(omega);simp only [zp,zq,z0,z1])|((with_reducible apply Qga hp);(first|exact zi rfl|exact zs rfl);simp only [zp,zq,z0,z1])|((with_reducible apply Qcj hp);exact rfl;exact zx rfl;exact zk rfl;exact ii;(exact AggTy.size);omega;omega;((try simp only [m0,Int.reduceToNat,m1,m2,Nat.reduceMul,Nat.reduceAdd,m3,m4,m5,n0]);exact rfl);simp only [zp,zq,z0,z1])))|(((with_reducible apply sg_p);exact zo rfl);((with_reducible apply Qfj hp);exact rfl;(focus (intro _;go_simp;try first|with_reducible rfl|exact ⟨rfl,rfl⟩));(with_reducible first|exact fun w => LS2.out w|exact fun w => DT.out w);simp only [zp,zq,z0,z1]))|(((with_reducible apply sg_l);exact zo rfl);(first|((with_reducible apply Qgu hq);(repeat (exact sb0));exact rfl;exact ii;exact rfl;clear hp hq;(try clear w1);intro g w1 hp hq;simp only [zp,zq,z0,z1])|((with_reducible apply Qdw hq);exact rfl;exact zt rfl;(exact za rfl);exact rfl;(exact AggTy.size);exact rfl;exact ii;(simp only [n0,Nat.reduceAdd,nn];try rfl);(exact zl rfl);exact rfl;exact ii;(repeat (first|exact sb0|apply sb3));clear hp hq;(try clear w1);intro w1 hp hq)))|((with_reducible apply Qgw hq);clear hp hq;(try clear w1);intro w1 hp))
              go_wp2_with (fail)
              have hq := hp
              refine Qcc hp hq [7] (.q 0 (.q 1 (.q 2 (.q 3 (.q 4 (.p 5 (.p 6 (.l 7 .nil)))))))) (by kernel_rfl) (by kernel_rfl) ?_
              clear hp hq;(try clear w1);intro w1 hp hq
              repeat' (first|(((with_reducible apply sg_q);exact zo rfl);(first|((with_reducible apply Qdq hp);exact rfl;exact zt rfl;exact ii;exact ii;(exact zl rfl);(simp only [n0,Nat.reduceAdd,nn];try rfl);simp only [zp,zq,z0,z1])|((with_reducible apply Qcs hp);exact rfl;exact zt rfl;assumption;exact ii;assumption;(omega);simp only [zp,zq,z0,z1])|((with_reducible apply Qga hp);exact zs rfl;simp only [zp,zq,z0,z1])|((with_reducible apply Qcj hp);exact rfl;exact zx rfl;exact zk rfl;exact ii;(exact AggTy.size);omega;omega;((try simp only [m0,Int.reduceToNat,m1,m2,Nat.reduceMul,Nat.reduceAdd,m3,m4,m5,n0]);exact rfl);simp only [zp,zq,z0,z1])|((with_reducible apply Qjo hp);exact rfl;(focus (intro _;go_simp;(try go_ints);try with_reducible rfl));simp only [zp,zq,z0,z1])))|(((with_reducible apply sg_p);exact zo rfl);((with_reducible apply Qfj hp);exact rfl;(focus (intro _;go_simp;try first|with_reducible rfl|exact ⟨rfl,rfl⟩));(with_reducible first|exact fun w => DT0.out w|exact fun w => L0.out w);simp only [zp,zq,z0,z1]))|(((with_reducible apply sg_l);exact zo rfl);((with_reducible apply Qja hq);exact rfl;exact zt rfl;(exact za rfl);exact rfl;(exact AggTy.size);exact rfl;exact ii;(simp only [n0,Nat.reduceAdd,nn];try rfl);(exact zl rfl);exact rfl;exact ii;exact rfl;clear hp hq;(try clear w1);intro w1 hq;have hp := True.intro))|((with_reducible apply Qgw hq);clear hp hq;(try clear w1);intro w1 hp))
              go_wp2_with (first|((with_reducible apply Qab hp);exact zt rfl;exact ii;exact ii;(exact zl rfl);(simp only [n0,Nat.reduceAdd,nn];try rfl);simp only [zp,zq,z0,z1])|((with_reducible apply Qav hp);exact ii;(exact AggTy.size);exact ii;exact zl rfl;decide;(exact zk1 rfl);exact rfl;(exact zm1 rfl);(intro l hl <;> simp only [List.mem_cons,List.not_mem_nil,or_false] at hl <;> rcases hl with rfl|rfl|rfl|rfl <;> rfl);exact rfl;clear hp;(try clear w1);intro g w1 hp;simp only [zp,zq,z0,z1])|((with_reducible apply Qbq hp);exact ii;exact ii;exact rfl;decide;exact (rfl : _ = Value.slice none 0 0);exact zy rfl;exact ii;exact rfl;exact rfl;decide;(unfold maxLen;decide);decide;clear hp;(try clear w1);intro g cap junk w1 hl1 hl2 hl3 hp;simp only [zp,zq,z0,z1]))
              go_roundw
              case rel =>
                refine ⟨i + 1,(i : Int) + 1 + 1,⟨g,27,[.int .u64 (lb ((-(e.dot p0))) 0),.int .u64 (lb ((-(e.dot p0))) 1),.int .u64 (lb ((-(e.dot p0))) 2),.int .u64 (lb ((-(e.dot p0))) 3),.int .u64 (lb ((-(e.dot p0))) 4),.int .u64 (lb ((-(e.dot p0))) 5),.int .u64 (lb ((-(e.dot p0))) 6),.int .u64 (lb ((-(e.dot p0))) 7)] ++ junk⟩ :: ⟨g8,39,[.int .i64 e.x,.int .i64 e.y,.int .i64 e.z]⟩ :: H,by omega,by omega,rfl,?_,hp.sub (by repeat (first|exact sb0|apply sb2|apply sb3))⟩
                have e9 : rwv S wi (j + 1) (i + 1) = [(-(e.dot p0))] := by rw [Qir,HR.out,hx.out];rfl
                rw [e9]
                exact .inr ⟨g,cap,junk,rfl,hl1,hl2,hl3,rfl⟩
              case measure => simp [intOf];omega
            · have HR0 : Hid ((rwv S wi (j + 1) i).length = i) := rwv_len ..
              have hsucc := Lib.hid (Qir S wi (j + 1) i)
              generalize rwv S wi (j + 1) i = r at *
              have hr4 : r.length ≤ 4 := by have := HR0.out;omega
              have hr8 : (r.flatMap WL).length = r.length * 8 := Qeo WL 8 Qdd r
              clear hLW
              go_wp2_with (fail)
              have hq := hp
              refine Qcc hp hq [11] (.q 0 (.q 1 (.q 2 (.q 3 (.q 4 (.q 5 (.q 6 (.q 7 (.p 8 (.p 9 (.l 10 (.l 11 .nil)))))))))))) (by kernel_rfl) (by kernel_rfl) ?_
              clear hp hq;(try clear w1);intro w1 hp hq
              repeat' (first|(((with_reducible apply sg_q);exact zo rfl);(first|((with_reducible apply Qdq hp);exact rfl;exact zt rfl;exact ii;exact ii;(exact zl rfl);(simp only [n0,Nat.reduceAdd,nn];try rfl);simp only [zp,zq,z0,z1])|((with_reducible apply Qcs hp);exact rfl;exact zt rfl;assumption;exact ii;assumption;(omega);simp only [zp,zq,z0,z1])|((with_reducible apply Qga hp);(first|exact zi rfl|exact zs rfl);simp only [zp,zq,z0,z1])|((with_reducible apply Qcj hp);exact rfl;exact zx rfl;exact zk rfl;exact ii;(exact AggTy.size);omega;omega;((try simp only [m0,Int.reduceToNat,m1,m2,Nat.reduceMul,Nat.reduceAdd,m3,m4,m5,n0]);exact rfl);simp only [zp,zq,z0,z1])))|(((with_reducible apply sg_p);exact zo rfl);((with_reducible apply Qfj hp);exact rfl;(focus (intro _;go_simp;try first|with_reducible rfl|exact ⟨rfl,rfl⟩));(with_reducible first|exact fun w => LS2.out w|exact fun w => DT.out w);simp only [zp,zq,z0,z1]))|(((with_reducible apply sg_l);exact zo rfl);(first|((with_reducible apply Qgu hq);(repeat (exact sb0));exact rfl;exact ii;exact rfl;clear hp hq;(try clear w1);intro g w1 hp hq;simp only [zp,zq,z0,z1])|((with_reducible apply Qdw hq);exact rfl;exact zt rfl;(exact za rfl);exact rfl;(exact AggTy.size);exact rfl;exact ii;(simp only [n0,Nat.reduceAdd,nn];try rfl);(exact zl rfl);exact rfl;exact ii;(repeat (first|exact sb0|apply sb3));clear hp hq;(try clear w1);intro w1 hp hq)))|((with_reducible apply Qgw hq);clear hp hq;(try clear w1);intro w1 hp))
              go_wp2_with (fail)
              have hq := hp
              refine Qcc hp hq [7] (.q 0 (.q 1 (.q 2 (.q 3 (.q 4 (.p 5 (.p 6 (.l 7 .nil)))))))) (by kernel_rfl) (by kernel_rfl) ?_
              clear hp hq;(try clear w1);intro w1 hp hq
              repeat' (first|(((with_reducible apply sg_q);exact zo rfl);(first|((with_reducible apply Qdq hp);exact rfl;exact zt rfl;exact ii;exact ii;(exact zl rfl);(simp only [n0,Nat.reduceAdd,nn];try rfl);simp only [zp,zq,z0,z1])|((with_reducible apply Qcs hp);exact rfl;exact zt rfl;assumption;exact ii;assumption;(omega);simp only [zp,zq,z0,z1])|((with_reducible apply Qga hp);exact zs rfl;simp only [zp,zq,z0,z1])|((with_reducible apply Qcj hp);exact rfl;exact zx rfl;exact zk rfl;exact ii;(exact AggTy.size);omega;omega;((try simp only [m0,Int.reduceToNat,m1,m2,Nat.reduceMul,Nat.reduceAdd,m3,m4,m5,n0]);exact rfl);simp only [zp,zq,z0,z1])|((with_reducible apply Qjo hp);exact rfl;(focus (intro _;go_simp;(try go_ints);try with_reducible rfl));simp only [zp,zq,z0,z1])))|(((with_reducible apply sg_p);exact zo rfl);((with_reducible apply Qfj hp);exact rfl;(focus (intro _;go_simp;try first|with_reducible rfl|exact ⟨rfl,rfl⟩));(with_reducible first|exact fun w => DT0.out w|exact fun w => L0.out w);simp only [zp,zq,z0,z1]))|(((with_reducible apply sg_l);exact zo rfl);((with_reducible apply Qja hq);exact rfl;exact zt rfl;(exact za rfl);exact rfl;(exact AggTy.size);exact rfl;exact ii;(simp only [n0,Nat.reduceAdd,nn];try rfl);(exact zl rfl);exact rfl;exact ii;exact rfl;clear hp hq;(try clear w1);intro w1 hq;have hp := True.intro))|((with_reducible apply Qgw hq);clear hp hq;(try clear w1);intro w1 hp))
              go_wp2_with (first|((with_reducible apply Qdn hp);exact ii;exact ii;exact rfl;decide;exact zy rfl;(exact pm2);assumption;assumption;assumption;assumption;exact zy rfl;exact ii;exact rfl;exact rfl;decide;(unfold maxLen;omega);omega;clear hp;(try clear w1);intro g cap junk w1 hl1 hl2 hl3 hp;(try dsimp only [List.cons_append,List.nil_append] at hp);simp only [zp,zq,z0,z1])|((with_reducible apply Qab hp);exact zt rfl;exact ii;exact ii;(exact zl rfl);(simp only [n0,Nat.reduceAdd,nn];try rfl);simp only [zp,zq,z0,z1])|((with_reducible apply Qav hp);exact ii;(exact AggTy.size);exact ii;exact zl rfl;decide;(exact zk1 rfl);exact rfl;(exact zm1 rfl);(intro l hl <;> simp only [List.mem_cons,List.not_mem_nil,or_false] at hl <;> rcases hl with rfl|rfl|rfl|rfl <;> rfl);exact rfl;clear hp;(try clear w1);intro g w1 hp;simp only [zp,zq,z0,z1]))
              go_roundw
              case rel =>
                have e2' : (r ++ [(-(e.dot p0))]).flatMap WL = r.flatMap WL ++ [[.int .u64 (lb ((-(e.dot p0))) 0),.int .u64 (lb ((-(e.dot p0))) 1),.int .u64 (lb ((-(e.dot p0))) 2),.int .u64 (lb ((-(e.dot p0))) 3),.int .u64 (lb ((-(e.dot p0))) 4),.int .u64 (lb ((-(e.dot p0))) 5),.int .u64 (lb ((-(e.dot p0))) 6),.int .u64 (lb ((-(e.dot p0))) 7)]].flatten := by rw [List.flatMap_append];rfl
                refine ⟨i + 1,(i : Int) + 1 + 1,⟨g,27,(r.flatMap WL ++ [[.int .u64 (lb ((-(e.dot p0))) 0),.int .u64 (lb ((-(e.dot p0))) 1),.int .u64 (lb ((-(e.dot p0))) 2),.int .u64 (lb ((-(e.dot p0))) 3),.int .u64 (lb ((-(e.dot p0))) 4),.int .u64 (lb ((-(e.dot p0))) 5),.int .u64 (lb ((-(e.dot p0))) 6),.int .u64 (lb ((-(e.dot p0))) 7)]].flatten) ++ junk⟩ :: ⟨g8,39,[.int .i64 e.x,.int .i64 e.y,.int .i64 e.z]⟩ :: H,by omega,by omega,rfl,?_,hp.sub (by repeat (first|exact sb0|apply sb2|apply sb3))⟩
                rw [hsucc.out,hx.out]
                refine .inr ⟨g,cap,junk,by simp,by rw [e2'];exact hl1,by simpa using hl2,hl3,by rw [e2']⟩
              case measure => simp [intOf];omega
          · have hbw : (b == wi) = false := by simpa using hwi
            have hx : Hid (gmv S wi (j + 1) (i + 1) = e.dot e2) := by have := HG.out;show _ = _;unfold gmv;rw [if_neg (by omega),this.1,this.2.1,this.2.2]
            clear hwi
            rcases hLW.out with ⟨rfl,hr,rfl⟩|⟨gl,capl,junkl,rfl,hl4,hl5,hl6,rfl⟩
            · have HR := Lib.hid hr
              clear hr
              clear hLW
              go_wp2_with (fail)
              have hq := hp
              refine Qcc hp hq [11] (.q 0 (.q 1 (.q 2 (.q 3 (.q 4 (.q 5 (.q 6 (.q 7 (.p 8 (.p 9 (.l 10 (.l 11 .nil)))))))))))) (by kernel_rfl) (by kernel_rfl) ?_
              clear hp hq;(try clear w1);intro w1 hp hq
              repeat' (first|(((with_reducible apply sg_q);exact zo rfl);(first|((with_reducible apply Qdq hp);exact rfl;exact zt rfl;exact ii;exact ii;(exact zl rfl);(simp only [n0,Nat.reduceAdd,nn];try rfl);simp only [zp,zq,z0,z1])|((with_reducible apply Qcs hp);exact rfl;exact zt rfl;assumption;exact ii;assumption;(omega);simp only [zp,zq,z0,z1])|((with_reducible apply Qga hp);(first|exact zi rfl|exact zs rfl);simp only [zp,zq,z0,z1])|((with_reducible apply Qcj hp);exact rfl;exact zx rfl;exact zk rfl;exact ii;(exact AggTy.size);omega;omega;((try simp only [m0,Int.reduceToNat,m1,m2,Nat.reduceMul,Nat.reduceAdd,m3,m4,m5,n0]);exact rfl);simp only [zp,zq,z0,z1])))|(((with_reducible apply sg_p);exact zo rfl);((with_reducible apply Qfj hp);exact rfl;(focus (intro _;go_simp;try first|with_reducible rfl|exact ⟨rfl,rfl⟩));(with_reducible first|exact fun w => LS2.out w|exact fun w => DT.out w);simp only [zp,zq,z0,z1]))|(((with_reducible apply sg_l);exact zo rfl);(first|((with_reducible apply Qgu hq);(repeat (exact sb0));exact rfl;exact ii;exact rfl;clear hp hq;(try clear w1);intro g w1 hp hq;simp only [zp,zq,z0,z1])|((with_reducible apply Qdw hq);exact rfl;exact zt rfl;(exact za rfl);exact rfl;(exact AggTy.size);exact rfl;exact ii;(simp only [n0,Nat.reduceAdd,nn];try rfl);(exact zl rfl);exact rfl;exact ii;(repeat (first|exact sb0|apply sb3));clear hp hq;(try clear w1);intro w1 hp hq)))|((with_reducible apply Qgw hq);clear hp hq;(try clear w1);intro w1 hp))
              go_wp2_with (first|((with_reducible apply Qab hp);exact zt rfl;exact ii;exact ii;(exact zl rfl);(simp only [n0,Nat.reduceAdd,nn];try rfl);simp only [zp,zq,z0,z1])|((with_reducible apply Qav hp);exact ii;(exact AggTy.size);exact ii;exact zl rfl;decide;(exact zk1 rfl);exact rfl;(exact zm1 rfl);(intro l hl <;> simp only [List.mem_cons,List.not_mem_nil,or_false] at hl <;> rcases hl with rfl|rfl|rfl|rfl <;> rfl);exact rfl;clear hp;(try clear w1);intro g w1 hp;simp only [zp,zq,z0,z1])|((with_reducible apply Qbq hp);exact ii;exact ii;exact rfl;decide;exact (rfl : _ = Value.slice none 0 0);exact zy rfl;exact ii;exact rfl;exact rfl;decide;(unfold maxLen;decide);decide;clear hp;(try clear w1);intro g cap junk w1 hl1 hl2 hl3 hp;simp only [zp,zq,z0,z1]))
              go_roundw
              case rel =>
                refine ⟨i + 1,(i : Int) + 1 + 1,⟨g,27,[.int .u64 (lb ((e.dot e2)) 0),.int .u64 (lb ((e.dot e2)) 1),.int .u64 (lb ((e.dot e2)) 2),.int .u64 (lb ((e.dot e2)) 3),.int .u64 (lb ((e.dot e2)) 4),.int .u64 (lb ((e.dot e2)) 5),.int .u64 (lb ((e.dot e2)) 6),.int .u64 (lb ((e.dot e2)) 7)] ++ junk⟩ :: ⟨g8,39,[.int .i64 e.x,.int .i64 e.y,.int .i64 e.z]⟩ :: H,by omega,by omega,rfl,?_,hp.sub (by repeat (first|exact sb0|apply sb2|apply sb3))⟩
                have e9 : rwv S wi (j + 1) (i + 1) = [(e.dot e2)] := by rw [Qir,HR.out,hx.out];rfl
                rw [e9]
                exact .inr ⟨g,cap,junk,rfl,hl1,hl2,hl3,rfl⟩
              case measure => simp [intOf];omega
            · have HR0 : Hid ((rwv S wi (j + 1) i).length = i) := rwv_len ..
              have hsucc := Lib.hid (Qir S wi (j + 1) i)
              generalize rwv S wi (j + 1) i = r at *
              have hr4 : r.length ≤ 4 := by have := HR0.out;omega
              have hr8 : (r.flatMap WL).length = r.length * 8 := Qeo WL 8 Qdd r
              clear hLW
              go_wp2_with (fail)
              have hq := hp
              refine Qcc hp hq [11] (.q 0 (.q 1 (.q 2 (.q 3 (.q 4 (.q 5 (.q 6 (.q 7 (.p 8 (.p 9 (.l 10 (.l 11 .nil)))))))))))) (by kernel_rfl) (by kernel_rfl) ?_
              clear hp hq;(try clear w1);intro w1 hp hq
              repeat' (first|(((with_reducible apply sg_q);exact zo rfl);(first|((with_reducible apply Qdq hp);exact rfl;exact zt rfl;exact ii;exact ii;(exact zl rfl);(simp only [n0,Nat.reduceAdd,nn];try rfl);simp only [zp,zq,z0,z1])|((with_reducible apply Qcs hp);exact rfl;exact zt rfl;assumption;exact ii;assumption;(omega);simp only [zp,zq,z0,z1])|((with_reducible apply Qga hp);(first|exact zi rfl|exact zs rfl);simp only [zp,zq,z0,z1])|((with_reducible apply Qcj hp);exact rfl;exact zx rfl;exact zk rfl;exact ii;(exact AggTy.size);omega;omega;((try simp only [m0,Int.reduceToNat,m1,m2,Nat.reduceMul,Nat.reduceAdd,m3,m4,m5,n0]);exact rfl);simp only [zp,zq,z0,z1])))|(((with_reducible apply sg_p);exact zo rfl);((with_reducible apply Qfj hp);exact rfl;(focus (intro _;go_simp;try first|with_reducible rfl|exact ⟨rfl,rfl⟩));(with_reducible first|exact fun w => LS2.out w|exact fun w => DT.out w);simp only [zp,zq,z0,z1]))|(((with_reducible apply sg_l);exact zo rfl);(first|((with_reducible apply Qgu hq);(repeat (exact sb0));exact rfl;exact ii;exact rfl;clear hp hq;(try clear w1);intro g w1 hp hq;simp only [zp,zq,z0,z1])|((with_reducible apply Qdw hq);exact rfl;exact zt rfl;(exact za rfl);exact rfl;(exact AggTy.size);exact rfl;exact ii;(simp only [n0,Nat.reduceAdd,nn];try rfl);(exact zl rfl);exact rfl;exact ii;(repeat (first|exact sb0|apply sb3));clear hp hq;(try clear w1);intro w1 hp hq)))|((with_reducible apply Qgw hq);clear hp hq;(try clear w1);intro w1 hp))
              go_wp2_with (first|((with_reducible apply Qdn hp);exact ii;exact ii;exact rfl;decide;exact zy rfl;(exact pm2);assumption;assumption;assumption;assumption;exact zy rfl;exact ii;exact rfl;exact rfl;decide;(unfold maxLen;omega);omega;clear hp;(try clear w1);intro g cap junk w1 hl1 hl2 hl3 hp;(try dsimp only [List.cons_append,List.nil_append] at hp);simp only [zp,zq,z0,z1])|((with_reducible apply Qab hp);exact zt rfl;exact ii;exact ii;(exact zl rfl);(simp only [n0,Nat.reduceAdd,nn];try rfl);simp only [zp,zq,z0,z1])|((with_reducible apply Qav hp);exact ii;(exact AggTy.size);exact ii;exact zl rfl;decide;(exact zk1 rfl);exact rfl;(exact zm1 rfl);(intro l hl <;> simp only [List.mem_cons,List.not_mem_nil,or_false] at hl <;> rcases hl with rfl|rfl|rfl|rfl <;> rfl);exact rfl;clear hp;(try clear w1);intro g w1 hp;simp only [zp,zq,z0,z1]))
              go_roundw
              case rel =>
                have e2' : (r ++ [(e.dot e2)]).flatMap WL = r.flatMap WL ++ [[.int .u64 (lb ((e.dot e2)) 0),.int .u64 (lb ((e.dot e2)) 1),.int .u64 (lb ((e.dot e2)) 2),.int .u64 (lb ((e.dot e2)) 3),.int .u64 (lb ((e.dot e2)) 4),.int .u64 (lb ((e.dot e2)) 5),.int .u64 (lb ((e.dot e2)) 6),.int .u64 (lb ((e.dot e2)) 7)]].flatten := by rw [List.flatMap_append];rfl
                refine ⟨i + 1,(i : Int) + 1 + 1,⟨g,27,(r.flatMap WL ++ [[.int .u64 (lb ((e.dot e2)) 0),.int .u64 (lb ((e.dot e2)) 1),.int .u64 (lb ((e.dot e2)) 2),.int .u64 (lb ((e.dot e2)) 3),.int .u64 (lb ((e.dot e2)) 4),.int .u64 (lb ((e.dot e2)) 5),.int .u64 (lb ((e.dot e2)) 6),.int .u64 (lb ((e.dot e2)) 7)]].flatten) ++ junk⟩ :: ⟨g8,39,[.int .i64 e.x,.int .i64 e.y,.int .i64 e.z]⟩ :: H,by omega,by omega,rfl,?_,hp.sub (by repeat (first|exact sb0|apply sb2|apply sb3))⟩
                rw [hsucc.out,hx.out]
                refine .inr ⟨g,cap,junk,by simp,by rw [e2'];exact hl1,by simpa using hl2,hl3,by rw [e2']⟩
              case measure => simp [intOf];omega
        · have hin : i = n - 1 := by omega
          have HIN := Lib.hid hin
          have hsucc := Lib.hid (rwsv_succ S wi n j)
          have hRl : Hid ((rwsv S wi n j).length = j) := Qiu ..
          have HL2 : Hid (LW u7 (rwv S wi (j + 1) (n - 1)) (⟨g8,39,[.int .i64 e.x,.int .i64 e.y,.int .i64 e.z]⟩ :: H) H1) := by rw [← hin];exact hLW
          clear hin hLW
          have hlv : ∃ b nn c,u7 = Value.slice b nn c := by
            rcases HL2.out with ⟨rfl,_⟩|⟨g,cap,junk,rfl,_⟩
            · exact ⟨none,0,0,rfl⟩
            · exact ⟨_,_,_,rfl⟩
          obtain ⟨b0,nn,c9,rfl⟩ := hlv
          rcases hOW.out with ⟨rfl,hR,rfl⟩|⟨g,cap,vs,junk,Bs,rfl,hl1,hl2,hl3,hWL,rfl⟩
          · have HR := Lib.hid hR
            clear hR hOW
            go_wp2_with (first|((with_reducible apply Qav hp);exact ii;(exact OneTy.size);exact ii;exact zl rfl;decide;(exact zk1 rfl);exact rfl;(exact zm1 rfl);(intro l hl <;> simp only [List.mem_cons,List.not_mem_nil,or_false] at hl <;> rcases hl with rfl|rfl|rfl|rfl <;> rfl);exact rfl;clear hp;(try clear w1);intro g w1 hp;simp only [zp,zq,z0,z1])|((with_reducible apply Qbq hp);exact ii;exact ii;exact rfl;decide;exact (rfl : _ = Value.slice none 0 0);exact zy rfl;exact ii;exact rfl;exact rfl;decide;(unfold maxLen;decide);decide;clear hp;(try clear w1);intro g cap junk w1 hl1 hl2 hl3 hp;simp only [zp,zq,z0,z1]))
            go_roundw
            case rel =>
              refine ⟨j + 1,(j : Int) + 1 + 1,⟨g,66,[Value.slice b0 nn c9] ++ junk⟩ :: H1,by omega,by omega,rfl,?_,hp.sub (by repeat (first|exact sb0|apply sb2|apply sb3))⟩
              rw [hsucc.out,HR.out]
              exact .inr ⟨g,cap,[Value.slice b0 nn c9],junk,H1,rfl,hl1,hl2,hl3,WLL.snoc (Bs := []) WLL.nil (fun b h => nomatch h) HL2.out.wls.1,rfl⟩
            case measure => simp [intOf];omega
          · have hv4 : vs.length ≤ 4 := by rw [hWL.1,hRl.out];omega
            have HWL := Lib.hid hWL
            clear hWL hOW
            rcases HL2.out with ⟨h9,hr,rfl⟩|⟨gl,capl,junkl,h9,hl4,hl5,hl6,rfl⟩
            · have HR := Lib.hid hr
              have H9 := Lib.hid h9
              clear hr h9
              go_wp2_with (first|((with_reducible apply Qav hp);exact ii;(exact OneTy.size);exact ii;exact zl rfl;decide;(exact zk1 rfl);exact rfl;(exact zm1 rfl);(intro l hl <;> simp only [List.mem_cons,List.not_mem_nil,or_false] at hl <;> rcases hl with rfl|rfl|rfl|rfl <;> rfl);exact rfl;clear hp;(try clear w1);intro g w1 hp;simp only [zp,zq,z0,z1])|((with_reducible apply Qdn hp);exact ii;exact ii;exact rfl;decide;exact zy rfl;(exact pm2);(simp only [List.length_map,Nat.mul_one]);assumption;assumption;assumption;exact zy rfl;exact ii;exact rfl;exact rfl;decide;(unfold maxLen;omega);omega;clear hp;(try clear w1);intro g cap junk w1 hl1 hl2 hl3 hp;(try dsimp only [List.cons_append,List.nil_append] at hp);simp only [zp,zq,z0,z1]))
              go_roundw
              case rel =>
                refine ⟨j + 1,(j : Int) + 1 + 1,⟨g,66,(vs ++ [Value.slice b0 nn c9]) ++ junk⟩ :: Bs,by omega,by omega,rfl,?_,hp.sub (by repeat (first|exact sb0|apply sb2|apply sb3))⟩
                rw [hsucc.out]
                exact .inr ⟨g,cap,vs ++ [Value.slice b0 nn c9],junk,Bs,by simp,hl1,by simpa using hl2,hl3,WLL.snoc HWL.out (fun b h => h) (.inl ⟨H9.out,HR.out⟩),rfl⟩
              case measure => simp [intOf];omega
            · have H9 := Lib.hid h9
              clear h9
              generalize rwv S wi (j + 1) (n - 1) = r at *
              clear hl4 hl5 hl6
              go_wp2_with (first|((with_reducible apply Qav hp);exact ii;(exact OneTy.size);exact ii;exact zl rfl;decide;(exact zk1 rfl);exact rfl;(exact zm1 rfl);(intro l hl <;> simp only [List.mem_cons,List.not_mem_nil,or_false] at hl <;> rcases hl with rfl|rfl|rfl|rfl <;> rfl);exact rfl;clear hp;(try clear w1);intro g w1 hp;simp only [zp,zq,z0,z1])|((with_reducible apply Qdn hp);exact ii;exact ii;exact rfl;decide;exact zy rfl;(exact pm3);(simp only [List.length_map,Nat.mul_one]);assumption;assumption;assumption;exact zy rfl;exact ii;exact rfl;exact rfl;decide;(unfold maxLen;omega);omega;clear hp;(try clear w1);intro g cap junk w1 hl1 hl2 hl3 hp;(try dsimp only [List.cons_append,List.nil_append] at hp);simp only [zp,zq,z0,z1]))
              go_roundw
              case rel =>
                refine ⟨j + 1,(j : Int) + 1 + 1,⟨g,66,(vs ++ [Value.slice b0 nn c9]) ++ junk⟩ :: ⟨gl,27,r.flatMap WL ++ junkl⟩ :: Bs,by omega,by omega,rfl,?_,hp.sub (by repeat (first|exact sb0|apply sb2|apply sb3))⟩
                rw [hsucc.out]
                exact .inr ⟨g,cap,vs ++ [Value.slice b0 nn c9],junk,⟨gl,27,r.flatMap WL ++ junkl⟩ :: Bs,by simp,hl1,by simpa using hl2,hl3,WLL.snoc HWL.out (fun b h => List.mem_cons_of_mem _ h) (.inr ⟨_,capl,junkl,List.mem_cons_self ..,rfl,H9.out,rfl⟩),rfl⟩
              case measure => simp [intOf];omega
    · have hjn : j = n - 1 := by omega
      have hR9 : Hid (OW u5 (rwsv S wi n (n - 1)) H) := by rw [← hjn];exact hOW
      clear hOW hjn
      go_wp2_with (fail)
      exact bodyPost_ret (Qaa rfl rfl) rfl ⟨_,_,rfl,hR9.out,hp⟩
end Go.Proofs.YtdfdmeoalbpcdaaGreat
