/-
  SimplexDouble (the walk).
-/
import Derived.Test.YtdfdmeoalbpcdaaQ6
import Derived.Test.YtdfdmeoalbpcdaaQ8
import Derived.Test.YtdfdmeoalbpcdaaNa
set_option linter.unusedSimpArgs false
set_option linter.unusedVariables false
set_option maxRecDepth 100000
namespace Go.Proofs.Ytdfdmeoalbpcdaa
open Go Go.RowKit
attribute [local irreducible] wpList
set_option maxHeartbeats 4000000 in
theorem Qpi (b : Option Addr) (n c : Nat) (h : (4 : Int) < n) (w : World) : Calls Try.prog 6 #[.slice b n c] w (Ret (.bool true) w) := by
  have AW := Lib.hid Qkq
  go_enter Try.func6,Try.ntmps6
  have hp := Hp.start [] w
  go_wp2_with ((with_reducible refine Qah hp (AW.out _) ?_);clear hp;(try clear w1);intro w1 hp)
  exact bodyPost_ret (Qab rfl rfl) rfl ⟨rfl,hp.keep⟩
set_option maxHeartbeats 4000000 in
theorem double_none (b : Option Addr) (c : Nat) (w : World) (NR : Hid (∀ w1,Keep [] w w1 → Calls Try.prog 8 #[.slice b 0 c] w1 (Qeg ⟨0,0,0⟩ 0 [] 2 w1)))
    (NN : Hid (∀ w1,Calls Try.prog 8 #[.slice none 0 0] w1 (Qeg ⟨0,0,0⟩ 0 [] 2 w1))) : Calls Try.prog 6 #[.slice b 0 c] w (Ret (.bool true) w) := by
  have AW := Lib.hid Qkq
  go_enter Try.func6,Try.ntmps6
  have hp := Hp.start [] w
  go_wp2_with (fail)
  apply wp_loop_once
  go_wp2_with (first|((with_reducible apply Qae hp);exact ii;exact rfl;clear hp;(try clear w1);intro g w1 hp;simp only [zp,zq,z0,z1])|((with_reducible apply Qad hp);exact zt rfl;exact za rfl;exact rfl;(exact AggTy.size);exact rfl;exact ii;(simp only [n0,Nat.reduceAdd,nn];try rfl);(exact zl rfl);exact rfl;exact ii;clear hp;(try clear w1);intro w1 hp)|((with_reducible refine Qah hp (AW.out _) ?_);clear hp;(try clear w1);intro w1 hp)|((with_reducible first|refine Qgz hp (NN.out _) ?_|refine Qgz hp (NR.out _ hp.keep) ?_);clear hp;(try clear w1);intro bC cC w1 hp)|((with_reducible apply Qcc);exact rfl))
  exact bodyPost_ret (Qab rfl rfl) rfl ⟨rfl,hp.keep⟩
/-- Memory between two rounds: k points are taken twice as far, and turned over. -/
def DbL (w : World) (tk : List P3) (k : Nat) (mv bv : Value) (wr : World) : Prop :=
  (k = 0 ∧ mv = .slice none 0 0 ∧ bv = .slice none 0 0 ∧ Hp [] w [] wr) ∨
  ∃ ga ca ja gb cb jb,0 < k ∧ mv = .slice (some ⟨ga,0,none⟩) (tk.take k).length ca ∧ bv = .slice (some ⟨gb,0,none⟩) (tk.take k).length cb ∧
    (pcs ((tk.take k).map (·.scale 2)) ++ ja).length = ca * 3 ∧ (tk.take k).length ≤ ca ∧ ca ≤ maxLen ∧ (pcs ((tk.take k).map (·.scale (-1))) ++ jb).length = cb * 3 ∧ (tk.take k).length ≤ cb ∧ cb ≤ maxLen ∧
    Hp [] w [⟨gb,24,pcs ((tk.take k).map (·.scale (-1))) ++ jb⟩,⟨ga,24,pcs ((tk.take k).map (·.scale 2)) ++ ja⟩] wr
theorem pcs_two (tk : List P3) (x y z : Int) : pcs ((tk ++ [(⟨x,y,z⟩ : P3)]).map (·.scale 2)) = pcs (tk.map (·.scale 2)) ++ [[Value.int .i64 (2 * x),.int .i64 (2 * y),.int .i64 (2 * z)]].flatten := by
  rw [List.map_append,Qeq];rfl
theorem pcs_back (tk : List P3) (x y z : Int) : pcs ((tk ++ [(⟨x,y,z⟩ : P3)]).map (·.scale (-1))) = pcs (tk.map (·.scale (-1))) ++ [[Value.int .i64 (-x),.int .i64 (-y),.int .i64 (-z)]].flatten := by
  rw [List.map_append,Qeq]
  simp [pcs,P3.scale]
set_option maxHeartbeats 8000000 in
theorem double_good (l : List P3) (n : Nat) (Hn : Hid (n = l.length)) (hn4 : n ≤ 4) (hn1 : 1 ≤ n) (N M O : P3) (d e : Int) (ks : List Nat) (hks : ks ≠ []) (out : List Int) (Ho : Hid ((ks.map fun k : Nat => Value.int .i64 (k : Int)) = out.map (Value.int .i64))) (hol : ks.length = out.length) (h4 : out.length ≤ 4)
    (g0 off cap : Nat) (bc : List Value) (t : TypeId) {z : Nat × Nat} (w : World) (hb : w.heap[g0]? = some (.cells bc.toArray t z)) (Hv : Hid ((bc.drop off).take (l.length * 3) = pcs l))
    (NR : Hid ((∀ p ∈ l,p.near) → ∀ w1,Keep [] w w1 → Calls Try.prog 8 #[.slice (some ⟨g0,off,none⟩) n cap] w1 (Qeg N d ks 0 w1)))
    (NM : Hid ((∀ p ∈ l,p.near) → ∀ v1 w1,PSl w1 v1 (l.map (·.scale 2)) → Calls Try.prog 8 #[v1] w1 (Qeg M e ks 0 w1)))
    (NB : Hid ((∀ p ∈ l,p.near) → ∀ v1 w1,PSl w1 v1 (l.map (·.scale (-1))) → Calls Try.prog 8 #[v1] w1 (Qeg O d ks 0 w1)))
    (TW : Hid ((∀ p ∈ l,p.near) → ∀ s s' w1,Calls Try.prog 17 #[NrV M.x M.y M.z e s,NrV N.x N.y N.z d s'] w1 (Ret (.bool true) w1)))
    (NG : Hid ((∀ p ∈ l,p.near) → ∃ o1 o2 o3 : Bool,(∀ w1,Calls Try.prog 16 #[W N.x] w1 (Ret (.tuple #[W O.x,.bool o1]) w1)) ∧ (∀ w1,Calls Try.prog 16 #[W N.y] w1 (Ret (.tuple #[W O.y,.bool o2]) w1)) ∧ ∀ w1,Calls Try.prog 16 #[W N.z] w1 (Ret (.tuple #[W O.z,.bool o3]) w1))) :
    Calls Try.prog 6 #[.slice (some ⟨g0,off,none⟩) n cap] w (Ret (.bool true) w) := by
  have AW := Lib.hid Qkq
  have HK := Lib.hid hks
  have HM := Lib.hid hol
  clear hks hol
  have hn4' : ¬ (4 : Int) < n := by omega
  go_enter Try.func6,Try.ntmps6
  have hp := Hp.start [] w
  go_wp2_with (fail)
  go_loopw [3,4,5] (fun mv bv i wr => ∃ k : Nat,k ≤ n ∧ i = .int .i64 k ∧ (∀ p ∈ l.take k,p.near) ∧ DbL w l k mv bv wr) (fun _ _ i _ => n - (intOf i).toNat)
  case atStart => exact ⟨0,by omega,rfl,by simp,.inl ⟨rfl,rfl,rfl,hp⟩⟩
  case round =>
    clear hp
    obtain ⟨k,hk,rfl,hnear,hI⟩ := hrel
    have HNE := Lib.hid hnear
    clear hnear
    by_cases hk1 : k < n
    · obtain ⟨q,hq⟩ : ∃ q,l[k]? = some q := ⟨_,List.getElem?_eq_getElem (by rw [← Hn.out];exact hk1)⟩
      have hat := Qfu Hv.out hq
      have hroom : off + k * 3 + 3 ≤ bc.length := by
        rcases Qdp Hv.out with h|h
        · subst h;simp at hq
        · rw [← Hn.out] at h;omega
      have hk2 : (k : Int) < n := by omega
      have htake : l.take (k + 1) = l.take k ++ [q] := by rw [List.take_add_one,hq];rfl
      have HT := Lib.hid htake
      clear htake hq NR NM NB TW NG
      obtain ⟨x,y,z⟩ := q
      dsimp only at hat
      have HH : Hid (decide (67108864 < mx3 x y z) = false ∧ decide (mn3 x y z < -67108864) = false ∧ P3.near ⟨x,y,z⟩ ∨ (decide (67108864 < mx3 x y z) = true ∨ decide (67108864 < mx3 x y z) = false ∧ decide (mn3 x y z < -67108864) = true)) := by
        by_cases h1 : 67108864 < mx3 x y z
        · exact .inr (.inl (decide_eq_true h1))
        · by_cases h2 : mn3 x y z < -67108864
          · exact .inr (.inr ⟨decide_eq_false h1,decide_eq_true h2⟩)
          · refine .inl ⟨decide_eq_false h1,decide_eq_false h2,?_⟩
            unfold mx3 at h1
            unfold mn3 at h2
            unfold P3.near
            dsimp only
            refine ⟨?_,?_,?_⟩ <;> (split at h1 <;> split at h2 <;> (try split at h1) <;> (try split at h2) <;> omega)
      rcases HH.out with ⟨q1,q2,qn⟩|hbad
      · obtain ⟨⟨a1,a2⟩,⟨b1,b2⟩,c1,c2⟩ := qn
        dsimp only at a1 a2 b1 b2 c1 c2
        have HB1 := Lib.hid q1
        have HB2 := Lib.hid q2
        have HQ : Hid (P3.near ⟨x,y,z⟩) := ⟨⟨a1,a2⟩,⟨b1,b2⟩,c1,c2⟩
        clear q1 q2 HH
        have hnext : ∀ p ∈ l.take (k + 1),p.near := by
          rw [HT.out]
          intro p hp
          rcases List.mem_append.1 hp with hp|hp
          · exact HNE.out p hp
          · rw [List.mem_singleton.1 hp];exact HQ.out
        have HX := Lib.hid hnext
        clear hnext
        rcases hI with ⟨rfl,rfl,rfl,hp⟩|⟨ga,ca,ja,gb,cb,jb,hk0,rfl,rfl,hja,hca,hcam,hjb,hcb,hcbm,hp⟩
        · rw [show (((0 : Nat)) : Int) = 0 from rfl]
          go_wp2_with (first|((with_reducible apply sx_max);exact rfl;exact rfl;exact rfl;simp only [zp,zq,z0,z1])|((with_reducible apply sx_min);exact rfl;exact rfl;exact rfl;simp only [zp,zq,z0,z1])|((with_reducible apply sx_gt);exact rfl;exact HB1.out;simp only [zp,zq,z0,z1])|((with_reducible apply sx_ls);exact rfl;exact HB2.out;simp only [zp,zq,z0,z1])|((with_reducible apply Qae hp);exact ii;exact rfl;clear hp;(try clear w1);intro g w1 hp;simp only [zp,zq,z0,z1])|((with_reducible apply Qai hp);exact zt rfl;exact ii;exact ii;(exact zio rfl);simp only [zp,zq,z0,z1])|((with_reducible apply Qad hp);exact zt rfl;exact za rfl;exact rfl;(exact AggTy.size);exact rfl;exact ii;(simp only [n0,Nat.reduceAdd,nn];try rfl);(exact zl rfl);exact rfl;exact ii;clear hp;(try clear w1);intro w1 hp)|((with_reducible apply Qba);exact zx rfl;exact zk rfl;exact ii;(exact AggTy.size);omega;omega;((try simp only [m0,Int.reduceToNat,m1,m2,Nat.reduceMul,Nat.reduceAdd,m3,m4,m5,n0]);exact rfl);simp only [zp,zq,z0,z1])|((with_reducible apply Qbj hp);exact zt rfl;assumption;exact ii;assumption;(omega);simp only [zp,zq,z0,z1])|((with_reducible apply Qbc hp);exact ii;(exact AggTy.size);exact ii;exact zl rfl;decide;(exact zk1 rfl);exact rfl;(exact zm1 rfl);(intro l hl <;> simp only [List.mem_cons,List.not_mem_nil,or_false] at hl <;> rcases hl with rfl|rfl|rfl|rfl <;> rfl);exact rfl;clear hp;(try clear w1);intro g w1 hp;simp only [zp,zq,z0,z1])|((with_reducible apply Qby hp);exact ii;exact ii;exact rfl;decide;exact (rfl : _ = Value.slice none 0 0);exact zy rfl;exact ii;exact rfl;exact rfl;decide;(unfold maxLen;decide);decide;clear hp;(try clear w1);intro g cap junk w1 hl1 hl2 hl3 hp;simp only [zp,zq,z0,z1])|((with_reducible apply Qcc);exact rfl))
          go_roundw
          case rel =>
            have e1 : l.take 1 = [] ++ [(⟨x,y,z⟩ : P3)] := by simpa using HT.out
            refine ⟨1,by omega,rfl,by simpa using HX.out,?_⟩
            unfold DbL
            rw [e1,pcs_two,pcs_back]
            exact .inr ⟨_,_,_,_,_,_,by omega,rfl,rfl,by assumption,by assumption,by assumption,by assumption,by assumption,by assumption,hp.sub (by repeat (first|exact sb1|apply sb2|apply sb3))⟩
          case measure => simp [intOf];omega
        · have hl4 : (l.take k).length ≤ 4 := by rw [List.length_take];omega
          generalize l.take k = tkk at *
          have ha3 : (pcs (tkk.map (·.scale 2))).length = tkk.length * 3 := by rw [Qck,List.length_map]
          have hb3 : (pcs (tkk.map (·.scale (-1)))).length = tkk.length * 3 := by rw [Qck,List.length_map]
          go_wp2_with (first|((with_reducible apply Qek hp);exact ii;exact ii;exact rfl;decide;exact zy rfl;(first|exact pm3|exact pm4);assumption;assumption;assumption;assumption;exact zy rfl;exact ii;exact rfl;exact rfl;decide;(unfold maxLen;omega);omega;clear hp;(try clear w1);intro g cap junk w1 hl1 hl2 hl3 hp;(try dsimp only [List.cons_append,List.nil_append] at hp);simp only [zp,zq,z0,z1])|((with_reducible apply sx_max);exact rfl;exact rfl;exact rfl;simp only [zp,zq,z0,z1])|((with_reducible apply sx_min);exact rfl;exact rfl;exact rfl;simp only [zp,zq,z0,z1])|((with_reducible apply sx_gt);exact rfl;exact HB1.out;simp only [zp,zq,z0,z1])|((with_reducible apply sx_ls);exact rfl;exact HB2.out;simp only [zp,zq,z0,z1])|((with_reducible apply Qae hp);exact ii;exact rfl;clear hp;(try clear w1);intro g w1 hp;simp only [zp,zq,z0,z1])|((with_reducible apply Qai hp);exact zt rfl;exact ii;exact ii;(exact zio rfl);simp only [zp,zq,z0,z1])|((with_reducible apply Qad hp);exact zt rfl;exact za rfl;exact rfl;(exact AggTy.size);exact rfl;exact ii;(simp only [n0,Nat.reduceAdd,nn];try rfl);(exact zl rfl);exact rfl;exact ii;clear hp;(try clear w1);intro w1 hp)|((with_reducible apply Qba);exact zx rfl;exact zk rfl;exact ii;(exact AggTy.size);omega;omega;((try simp only [m0,Int.reduceToNat,m1,m2,Nat.reduceMul,Nat.reduceAdd,m3,m4,m5,n0]);exact rfl);simp only [zp,zq,z0,z1])|((with_reducible apply Qbj hp);exact zt rfl;assumption;exact ii;assumption;(omega);simp only [zp,zq,z0,z1])|((with_reducible apply Qbc hp);exact ii;(exact AggTy.size);exact ii;exact zl rfl;decide;(exact zk1 rfl);exact rfl;(exact zm1 rfl);(intro l hl <;> simp only [List.mem_cons,List.not_mem_nil,or_false] at hl <;> rcases hl with rfl|rfl|rfl|rfl <;> rfl);exact rfl;clear hp;(try clear w1);intro g w1 hp;simp only [zp,zq,z0,z1])|((with_reducible apply Qcc);exact rfl))
          go_roundw
          case rel =>
            have e2 : (tkk ++ [(⟨x,y,z⟩ : P3)]).length = tkk.length + 1 := by simp
            refine ⟨k + 1,by omega,by go_num,HX.out,?_⟩
            unfold DbL
            rw [HT.out,e2,pcs_two,pcs_back]
            exact .inr ⟨_,_,_,_,_,_,by omega,rfl,rfl,by assumption,by assumption,by assumption,by assumption,by assumption,by assumption,hp.sub (by repeat (first|exact sb1|apply sb2|apply sb3))⟩
          case measure => simp [intOf];omega
      · obtain ⟨H,hp⟩ : ∃ H,Hp [] w H _ := by
          rcases hI with ⟨_,_,_,hp⟩|⟨_,_,_,_,_,_,_,_,_,_,_,_,_,_,_,hp⟩
          · exact ⟨_,hp⟩
          · exact ⟨_,hp⟩
        clear hI HH
        rcases hbad with q1|⟨q1,q2⟩
        · have HB1 := Lib.hid q1
          clear q1
          go_wp2_with (first|((with_reducible apply sx_max);exact rfl;exact rfl;exact rfl;simp only [zp,zq,z0,z1])|((with_reducible apply sx_gt);exact rfl;exact HB1.out;simp only [zp,zq,z0,z1])|((with_reducible apply Qae hp);exact ii;exact rfl;clear hp;(try clear w1);intro g w1 hp;simp only [zp,zq,z0,z1])|((with_reducible apply Qai hp);exact zt rfl;exact ii;exact ii;(exact zio rfl);simp only [zp,zq,z0,z1])|((with_reducible apply Qad hp);exact zt rfl;exact za rfl;exact rfl;(exact AggTy.size);exact rfl;exact ii;(simp only [n0,Nat.reduceAdd,nn];try rfl);(exact zl rfl);exact rfl;exact ii;clear hp;(try clear w1);intro w1 hp)|((with_reducible apply Qba);exact zx rfl;exact zk rfl;exact ii;(exact AggTy.size);omega;omega;((try simp only [m0,Int.reduceToNat,m1,m2,Nat.reduceMul,Nat.reduceAdd,m3,m4,m5,n0]);exact rfl);simp only [zp,zq,z0,z1])|((with_reducible apply Qbj hp);exact zt rfl;assumption;exact ii;assumption;(omega);simp only [zp,zq,z0,z1])|((with_reducible refine Qah hp (AW.out _) ?_);clear hp;(try clear w1);intro w1 hp)|((with_reducible apply Qea);exact rfl;simp only [zp,zq,z0,z1]))
          exact bodyPost_ret (Qab rfl rfl) rfl ⟨rfl,hp.keep⟩
        · have HB1 := Lib.hid q1
          have HB2 := Lib.hid q2
          clear q1 q2
          go_wp2_with (first|((with_reducible apply sx_max);exact rfl;exact rfl;exact rfl;simp only [zp,zq,z0,z1])|((with_reducible apply sx_min);exact rfl;exact rfl;exact rfl;simp only [zp,zq,z0,z1])|((with_reducible apply sx_gt);exact rfl;exact HB1.out;simp only [zp,zq,z0,z1])|((with_reducible apply sx_ls);exact rfl;exact HB2.out;simp only [zp,zq,z0,z1])|((with_reducible apply Qae hp);exact ii;exact rfl;clear hp;(try clear w1);intro g w1 hp;simp only [zp,zq,z0,z1])|((with_reducible apply Qai hp);exact zt rfl;exact ii;exact ii;(exact zio rfl);simp only [zp,zq,z0,z1])|((with_reducible apply Qad hp);exact zt rfl;exact za rfl;exact rfl;(exact AggTy.size);exact rfl;exact ii;(simp only [n0,Nat.reduceAdd,nn];try rfl);(exact zl rfl);exact rfl;exact ii;clear hp;(try clear w1);intro w1 hp)|((with_reducible apply Qba);exact zx rfl;exact zk rfl;exact ii;(exact AggTy.size);omega;omega;((try simp only [m0,Int.reduceToNat,m1,m2,Nat.reduceMul,Nat.reduceAdd,m3,m4,m5,n0]);exact rfl);simp only [zp,zq,z0,z1])|((with_reducible apply Qbj hp);exact zt rfl;assumption;exact ii;assumption;(omega);simp only [zp,zq,z0,z1])|((with_reducible refine Qah hp (AW.out _) ?_);clear hp;(try clear w1);intro w1 hp)|((with_reducible apply Qcc);exact rfl))
          exact bodyPost_ret (Qab rfl rfl) rfl ⟨rfl,hp.keep⟩
    · obtain rfl : n = k := by omega
      have htk : l.take n = l := List.take_of_length_le (by rw [← Hn.out];exact Nat.le_refl _)
      have hnl : l.length = n := Hn.out.symm
      rw [htk] at HNE
      have HA := HNE.out
      have NR := Lib.hid (NR.out HA)
      have NM := Lib.hid (NM.out HA)
      have NB := Lib.hid (NB.out HA)
      have TW := Lib.hid (TW.out HA)
      obtain ⟨o1,o2,o3,G1,G2,G3⟩ := NG.out HA
      have G1 := Lib.hid G1
      have G2 := Lib.hid G2
      have G3 := Lib.hid G3
      clear HA NG
      rcases hI with ⟨h0,_,_,_⟩|⟨ga,ca,ja,gb,cb,jb,hk0,rfl,rfl,hja,hca,hcam,hjb,hcb,hcbm,hp⟩
      · omega
      rw [htk] at hp
      rw [htk,hnl]
      clear hja hca hjb hcb htk
      have HL2 : Hid ((l.map (·.scale 2)).length = n) := by show _ = _;rw [List.length_map];exact hnl
      have HL1 : Hid ((l.map (·.scale (-1))).length = n) := by show _ = _;rw [List.length_map];exact hnl
      have PL : Hid (∀ (ga gb ca cb : Nat) (ja jb : List Value) (w1 : World),w1.heap[ga]? = some (.cells (out.map (Value.int .i64) ++ ja).toArray 3 (0,0)) → w1.heap[gb]? = some (.cells (out.map (Value.int .i64) ++ jb).toArray 3 (0,0)) → Calls Try.prog 18 #[.slice (some ⟨ga,0,none⟩) out.length ca,.slice (some ⟨gb,0,none⟩) out.length cb] w1 (Ret (.bool true) w1)) := fun ga gb ca cb ja jb w1 h1 h2 => places_eq out out.length rfl h4 ga gb ca cb _ _ ja jb w1 h1 h2 rfl rfl
      clear hnl
      go_upto_region 13 with (first|((with_reducible apply Qae hp);exact ii;exact rfl;clear hp;(try clear w1);intro g w1 hp;simp only [zp,zq,z0,z1])|((with_reducible apply Qad hp);exact zt rfl;exact za rfl;exact rfl;(exact AggTy.size);exact rfl;exact ii;(simp only [n0,Nat.reduceAdd,nn];try rfl);(exact zl rfl);exact rfl;exact ii;clear hp;(try clear w1);intro w1 hp)|((with_reducible refine Qej hp (NR.out _ hp.keep) HK.out HM.out ?_);clear hp;(try clear w1);intro gC cC jC w1 hp))
      go_upto_region 14 with (first|((with_reducible apply Qae hp);exact ii;exact rfl;clear hp;(try clear w1);intro g w1 hp;simp only [zp,zq,z0,z1])|((with_reducible apply Qad hp);exact zt rfl;exact za rfl;exact rfl;(exact AggTy.size);exact rfl;exact ii;(simp only [n0,Nat.reduceAdd,nn];try rfl);(exact zl rfl);exact rfl;exact ii;clear hp;(try clear w1);intro w1 hp)|((with_reducible refine Qej hp (NM.out _ _ (PSl.whole HL2.out hp.blk)) HK.out HM.out ?_);clear hp;(try clear w1);intro gC cC jC w1 hp))
      go_upto_region 15 with (first|((with_reducible apply Qae hp);exact ii;exact rfl;clear hp;(try clear w1);intro g w1 hp;simp only [zp,zq,z0,z1])|((with_reducible apply Qad hp);exact zt rfl;exact za rfl;exact rfl;(exact AggTy.size);exact rfl;exact ii;(simp only [n0,Nat.reduceAdd,nn];try rfl);(exact zl rfl);exact rfl;exact ii;clear hp;(try clear w1);intro w1 hp)|((with_reducible refine Qej hp (NB.out _ _ (PSl.whole HL1.out hp.blk)) HK.out HM.out ?_);clear hp;(try clear w1);intro gC cC jC w1 hp))
      simp only [Ho.out] at hp
      clear NR NM NB
      go_wp2_with (first|((with_reducible apply Qae hp);exact ii;exact rfl;clear hp;(try clear w1);intro g w1 hp;simp only [zp,zq,z0,z1])|((with_reducible apply Qaa hp);exact zt rfl;exact ii;exact ii;(exact zl rfl);(simp only [n0,Nat.reduceAdd,nn];try rfl);simp only [zp,zq,z0,z1])|((with_reducible apply Qai hp);exact zt rfl;exact ii;exact ii;(exact zso rfl);simp only [zp,zq,z0,z1])|((with_reducible apply Qad hp);exact zt rfl;exact za rfl;exact rfl;(exact AggTy.size);exact rfl;exact ii;(simp only [n0,Nat.reduceAdd,nn];try rfl);(exact zl rfl);exact rfl;exact ii;clear hp;(try clear w1);intro w1 hp)|((with_reducible first|refine Qah hp (G1.out _) ?_|refine Qah hp (G2.out _) ?_|refine Qah hp (G3.out _) ?_|refine Qah hp (TW.out _ _ _) ?_|refine Qah hp (AW.out _) ?_);clear hp;(try clear w1);intro w1 hp)|((with_reducible refine Qah hp (PL.out _ _ _ _ _ _ _ hp.blk hp.blk) ?_);clear hp;(try clear w1);intro w1 hp)|((with_reducible apply Qcc);exact rfl))
      exact bodyPost_ret (Qab rfl rfl) rfl ⟨rfl,hp.keep⟩
end Go.Proofs.Ytdfdmeoalbpcdaa
