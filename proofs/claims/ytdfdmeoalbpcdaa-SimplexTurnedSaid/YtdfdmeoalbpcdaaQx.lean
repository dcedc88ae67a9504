/-
  SimplexTurned (the walk): parts of a slice.
-/
import Derived.Test.YtdfdmeoalbpcdaaQw
import Derived.Test.YtdfdmeoalbpcdaaHb
set_option linter.unusedSimpArgs false
set_option linter.unusedVariables false
set_option maxRecDepth 100000
namespace Go.Proofs.Ytdfdmeoalbpcdaa
open Go Go.RowKit
attribute [local irreducible] wpList
section
variable {P : Program} {X : List Nat} {w0 w : World} {H Hq H' : List Bk} {g : Nat} {t : TypeId} {cs cs' : List Value}
variable {ops : Array Oper} {Q : Exit → Act → World → Prop} {a : Act} {N : List Nat} {i : Nat} {rest : Sc} {d p : Tmp} {tp ty : TypeId} {pos : String} {af : Array Edge} {gd : Option (Nat × Bool)} {off n : Nat}
theorem Qlr {x y : Operand} {e : TypeId} {m c k : Nat} (hp : Hp X w0 H w) (hw : Region.wanted ⟨some d,.slice t x (some y) none none,tp,pos,af,gd⟩ (yielded ops a.tmps) = true) (hx : a.eval x = .slice (some ⟨g,off,none⟩) n c) (hy : a.eval y = .int .i64 (k : Int)) (ht : Qdr P t e) (hs : ∀ w,(sizeOf e).run P w = .ok m w) (hkn : k < n) (hnc : n ≤ c)
    (hk : Qaw P ops Q (Hp X w0 H) N rest (a.put (some d) (.slice (some ⟨g,off + k * m,none⟩) (n - k) (c - k))) w) : wpQ P ops Q (Hp X w0 H) N rest ⟨some d,.slice t x (some y) none none,tp,pos,af,gd⟩ a w := by
  have he : P.elem t = e := by simp [Program.elem,ht.und]
  refine Qaj hp hw (fun w => ?_) hk
  have hne : ¬ c = k := by omega
  simp only [execOp,hx,hy,Option.map_some,Option.map_none,run_sliceAt_slice w t _ _ _ _ (by rw [he];exact ht.und),run_slice_l w t (some ⟨g,off,none⟩) n c (by rw [he];exact ht.und) .i64 (k : Int) (by omega) (by omega),Sem.run_bind,Sem.run_pure,he,hs,Result.andThen_ok,sliced,Int.toNat_natCast,if_neg hne,Qhj,Option.map_some]
theorem Qlm {x y : Operand} {e : TypeId} {m c k : Nat} (hp : Hp X w0 H w) (hw : Region.wanted ⟨some d,.slice t x none (some y) none,tp,pos,af,gd⟩ (yielded ops a.tmps) = true) (hx : a.eval x = .slice (some ⟨g,off,none⟩) n c) (hy : a.eval y = .int .i64 (k : Int)) (ht : Qdr P t e) (hs : ∀ w,(sizeOf e).run P w = .ok m w) (hkn : k < n) (hnc : n ≤ c)
    (hk : Qaw P ops Q (Hp X w0 H) N rest (a.put (some d) (.slice (some ⟨g,off,none⟩) k c)) w) : wpQ P ops Q (Hp X w0 H) N rest ⟨some d,.slice t x none (some y) none,tp,pos,af,gd⟩ a w := by
  have he : P.elem t = e := by simp [Program.elem,ht.und]
  refine Qaj hp hw (fun w => ?_) hk
  have hne : ¬ c = 0 := by omega
  simp only [execOp,hx,hy,Option.map_some,Option.map_none,run_sliceAt_slice w t _ _ _ _ (by rw [he];exact ht.und),run_slice_h w t (some ⟨g,off,none⟩) n c (by rw [he];exact ht.und) .i64 (k : Int) (by omega) (by omega),Sem.run_bind,Sem.run_pure,he,hs,Result.andThen_ok,sliced,Int.toNat_natCast,if_neg hne,Qhj,Option.map_some,Nat.zero_mul,Nat.add_zero,Nat.sub_zero]
end
set_option maxHeartbeats 4000000 in
theorem Qpd (v : Value) (turn : Int) (N : P3) (d e : Int) (he : e = 2 ∨ e = 7) (w : World) (NR : Hid (∀ w1,Keep [] w w1 → Calls Try.prog 8 #[v] w1 (Qem N d [] e w1))) : Calls Try.prog 4 #[v,.int .i64 turn] w (Ret (.bool true) w) := by
  have AW := Lib.hid Qme
  rcases he with rfl|rfl
  all_goals
    go_enter Try.func4,Try.ntmps4
    have hp := Hp.start [] w
    go_wp2_with (first|((with_reducible apply Qaf hp);exact ii;exact rfl;clear hp;(try clear w1);intro g w1 hp;simp only [zp,zq,z0,z1])|((with_reducible apply Qae hp);exact zt rfl;exact za rfl;exact rfl;(exact AggTy.size);exact rfl;exact ii;(simp only [n0,Nat.reduceAdd,nn];try rfl);(exact zl rfl);exact rfl;exact ii;clear hp;(try clear w1);intro w1 hp)|((with_reducible refine Qah hp (AW.out _) ?_);clear hp;(try clear w1);intro w1 hp)|((with_reducible refine Qkr hp (NR.out _ hp.keep) ?_);clear hp;(try clear w1);intro bC cC w1 hp))
    exact bodyPost_ret (Qab rfl rfl) rfl ⟨rfl,hp.keep⟩
theorem takeAB (xs ys junk : List Value) : (xs ++ ys ++ junk).take (xs.length + ys.length) = xs ++ ys := by
  rw [← List.length_append,List.take_left]
theorem takeABp (xs ys zs junk : List Value) (h : zs.length = 3) : (xs ++ ys ++ zs ++ junk).take (xs.length + ys.length + 3) = xs ++ ys ++ zs := by
  rw [← h,← List.length_append,← List.length_append,List.take_left]
set_option maxHeartbeats 8000000 in
theorem turned_in (A B : List P3) (n k : Nat) (turn r : Int) (p0 : P3) (g0 off c : Nat) (bc : List Value) (t0 : TypeId) (u0 : Nat × Nat) (hn : n = 1 ∨ n = 2 ∨ n = 3) (hnc : n ≤ c) (hkn : k < n) (hr : turn.tmod n = r) (hrk : r = k ∨ r = k - n) (N : P3) (d : Int) (ks js os : List Nat) (hks : ks ≠ []) (hjs : js.length = ks.length) (hos : os ≠ []) (w : World) (hg : w.heap[g0]? = some (.cells bc.toArray t0 u0))
    (hA : (bc.drop (off + k * 3)).take ((n - k) * 3) = pcs A) (hAl : (pcs A).length = (n - k) * 3) (hA1 : (pcs A).all (·.oneCell') = true) (hB : (bc.drop off).take (k * 3) = pcs B) (hBl : (pcs B).length = k * 3) (hB1 : (pcs B).all (·.oneCell') = true) (hp0 : (bc.drop off).take 3 = [.int .i64 p0.x,.int .i64 p0.y,.int .i64 p0.z]) (hbl : off + 3 ≤ bc.length) (hAB : (pcs A ++ pcs B).length = n * 3)
    (NR : Hid (∀ w1,Keep [] w w1 → Calls Try.prog 8 #[.slice (some ⟨g0,off,none⟩) n c] w1 (Qem N d ks 0 w1)))
    (NT : Hid (∀ (g cap : Nat) (cs : List Value) (w1 : World),w1.heap[g]? = some (.cells cs.toArray 24 (0,0)) → cs.take ((pcs A).length + (pcs B).length) = pcs A ++ pcs B → Calls Try.prog 8 #[.slice (some ⟨g,0,none⟩) n cap] w1 (Qem N d js 0 w1)))
    (NO : Hid (∀ (g cap : Nat) (cs : List Value) (w1 : World),w1.heap[g]? = some (.cells cs.toArray 24 (0,0)) → cs.take ((pcs A).length + (pcs B).length + 3) = pcs A ++ pcs B ++ [[.int .i64 p0.x,.int .i64 p0.y,.int .i64 p0.z]].flatten → Calls Try.prog 8 #[.slice (some ⟨g,0,none⟩) (n + 1) cap] w1 (Qem N d os 0 w1)))
    (SM : Hid (∀ s s' w1,Calls Try.prog 14 #[NrV N.x N.y N.z d s,NrV N.x N.y N.z d s'] w1 (Ret (.bool true) w1))) :
    Calls Try.prog 4 #[.slice (some ⟨g0,off,none⟩) n c,.int .i64 turn] w (Ret (.bool true) w) := by
  have AW := Lib.hid Qme
  have HK := Lib.hid hks
  have HJ : Hid (js ≠ []) := fun h0 => by rw [h0] at hjs;exact hks (List.length_eq_zero_iff.1 hjs.symm)
  have HO := Lib.hid hos
  clear hks hos
  obtain ⟨m,hm⟩ : ∃ m,ks.length = m := ⟨_,rfl⟩
  have HM := Lib.hid hm
  rw [hm] at hjs
  have HM2 := Lib.hid hjs
  obtain ⟨m3,hm3⟩ : ∃ m,os.length = m := ⟨_,rfl⟩
  have HM3 := Lib.hid hm3
  clear hm hjs hm3
  have HR := Lib.hid hr
  have HRK := Lib.hid hrk
  clear hr hrk
  rcases hn with rfl|rfl|rfl
  all_goals
    go_enter Try.func4,Try.ntmps4
    have hp := Hp.start [] w
    go_upto_if 26 with (first|((with_reducible apply Qaf hp);exact ii;exact rfl;clear hp;(try clear w1);intro g w1 hp;simp only [zp,zq,z0,z1])|((with_reducible apply Qae hp);exact zt rfl;exact za rfl;exact rfl;(exact AggTy.size);exact rfl;exact ii;(simp only [n0,Nat.reduceAdd,nn];try rfl);(exact zl rfl);exact rfl;exact ii;clear hp;(try clear w1);intro w1 hp)|((with_reducible refine Qef hp (NR.out _ hp.keep) HK.out HM.out ?_);clear hp;(try clear w1);intro gC cC jC w1 hp))
    rename_i K hK
    obtain ⟨gn,rfl⟩ : ∃ z : Nat,z = g := ⟨_,rfl⟩
    go_cut [7] (fun s7 wx => s7 = .int .i64 (k : Int) ∧ Hp [] w [⟨gn,33,[.int .u64 (lb (N.x) 0),.int .u64 (lb (N.x) 1),.int .u64 (lb (N.x) 2),.int .u64 (lb (N.x) 3),.int .u64 (lb (N.x) 4),.int .u64 (lb (N.x) 5),.int .u64 (lb (N.x) 6),.int .u64 (lb (N.x) 7),.int .u64 (lb (N.y) 0),.int .u64 (lb (N.y) 1),.int .u64 (lb (N.y) 2),.int .u64 (lb (N.y) 3),.int .u64 (lb (N.y) 4),.int .u64 (lb (N.y) 5),.int .u64 (lb (N.y) 6),.int .u64 (lb (N.y) 7),.int .u64 (lb (N.z) 0),.int .u64 (lb (N.z) 1),.int .u64 (lb (N.z) 2),.int .u64 (lb (N.z) 3),.int .u64 (lb (N.z) 4),.int .u64 (lb (N.z) 5),.int .u64 (lb (N.z) 6),.int .u64 (lb (N.z) 7),.int .u64 (lb (d) 0),.int .u64 (lb (d) 1),.int .u64 (lb (d) 2),.int .u64 (lb (d) 3),.int .u64 (lb (d) 4),.int .u64 (lb (d) 5),.int .u64 (lb (d) 6),.int .u64 (lb (d) 7),.slice (some ⟨gC,0,none⟩) m cC]⟩,⟨gC,3,(ks.map fun k : Nat => Value.int .i64 (k : Int)) ++ jC⟩] wx)
    case first =>
      have hrk := HRK.out
      first
        | have hr : turn.tmod 1 = r := HR.out
        | have hr : turn.tmod 2 = r := HR.out
        | have hr : turn.tmod 3 = r := HR.out
        | have hr : turn.tmod 4 = r := HR.out
      try simp only [hr]
      clear HR HRK hr NT NO hA hAl hB hBl
      have hk4 : k = 0 ∨ k = 1 ∨ k = 2 ∨ k = 3 := by omega
      have hr4 : r = -4 ∨ r = -3 ∨ r = -2 ∨ r = -1 ∨ r = 0 ∨ r = 1 ∨ r = 2 ∨ r = 3 := by omega
      rcases hk4 with rfl|rfl|rfl|rfl
      all_goals
        first
          | (exfalso;omega)
          | (rcases hr4 with rfl|rfl|rfl|rfl|rfl|rfl|rfl|rfl)
      all_goals
        first
          | (exfalso;omega)
          | skip
      all_goals
        clear hrk
        go_wp2_with (fail)
        go_meet
        exact ⟨rfl,hp⟩
    case rest =>
      clear hp NR HR HRK
      obtain ⟨rfl,hp⟩ := hcut
      go_upto_region 7 with fail
      have hq := hp
      refine Qac hp hq [] (.q 1 (.q 2 (.q 3 (.q 5 (.q 6 (.q 7 (.l 0 (.l 4 (.l 8 (.q 9 .nil)))))))))) (by kernel_rfl) (by kernel_rfl) ?_
      clear hp hq;(try clear w1);intro w1 hp hq
      repeat' (first|(((with_reducible apply sd_q);exact zo rfl);(first|((with_reducible apply Qaq hp);(first|exact zi rfl|exact zs rfl);simp only [zp,zq,z0,z1])|((with_reducible apply Qas hp);exact zs rfl;simp only [zp,zq,z0,z1])|((with_reducible apply Qlr hp);exact rfl;exact zx rfl;exact rfl;exact ii;(exact AggTy.size);assumption;assumption;simp only [zp,zq,z0,z1])|((with_reducible apply Qlm hp);exact rfl;exact zx rfl;exact rfl;exact ii;(exact AggTy.size);assumption;assumption;simp only [zp,zq,z0,z1])))|(((with_reducible apply sd_l);exact zo rfl);(first|((with_reducible apply Qlh hq);(repeat (exact sb0));exact rfl;exact ii;(exact AggTy.size);clear hp hq;(try clear w1);intro g w1 hp hq;simp only [zp,zq,z0,z1])|((with_reducible apply Qja hq);exact rfl;exact ii;exact ii;exact rfl;decide;exact (rfl : _ = Value.slice (some (Addr.mk _ 0 none)) 0 0);(exact pm0);(repeat (exact sb0));exact zx rfl;assumption;assumption;assumption;assumption;(unfold maxLen;omega);omega;clear hp hq;(try clear w1);intro g cap junk w1 hl1 hl2 hl3 hp hq;(try dsimp only [List.cons_append,List.nil_append] at hq);simp only [zp,zq,z0,z1])|((with_reducible apply Qgs hq);exact rfl;exact ii;exact ii;exact rfl;decide;exact zy rfl;(exact pm0);(repeat (exact sb0));exact rfl;assumption;assumption;assumption;assumption;exact zx rfl;assumption;assumption;assumption;assumption;(unfold maxLen;omega);omega;clear hp hq;(try clear w1);intro g cap2 junk2 w1 hm1 hm2 hm3 hp hq;(try dsimp only [List.cons_append,List.nil_append] at hq);simp only [zp,zq,z0,z1])))|((with_reducible apply Qao);clear hp;have hp := hq;clear hq))
      have HL := Lib.hid hAB
      clear hA hAl hA1 hB hBl hB1 hAB
      first
        | (have e : 1 - k + k = 1 := by omega
           simp only [e] at hm2 ⊢)
        | (have e : 2 - k + k = 2 := by omega
           simp only [e] at hm2 ⊢)
        | (have e : 3 - k + k = 3 := by omega
           simp only [e] at hm2 ⊢)
        | (have e : 4 - k + k = 4 := by omega
           simp only [e] at hm2 ⊢)
      go_upto_region 13 with (first|((with_reducible apply Qaf hp);exact ii;exact rfl;clear hp;(try clear w1);intro g w1 hp;simp only [zp,zq,z0,z1])|((with_reducible apply Qaa hp);exact zt rfl;exact ii;exact ii;(exact zl rfl);(simp only [n0,Nat.reduceAdd,nn];try rfl);simp only [zp,zq,z0,z1])|((with_reducible apply Qak hp);exact zt rfl;exact ii;exact ii;(exact zso rfl);simp only [zp,zq,z0,z1])|((with_reducible apply Qae hp);exact zt rfl;exact za rfl;exact rfl;(exact AggTy.size);exact rfl;exact ii;(simp only [n0,Nat.reduceAdd,nn];try rfl);(exact zl rfl);exact rfl;exact ii;clear hp;(try clear w1);intro w1 hp)|((with_reducible first|refine Qah hp (SM.out _ _ _) ?_|refine Qah hp (AW.out _) ?_);clear hp;(try clear w1);intro w1 hp)|((with_reducible refine Qef hp (NT.out _ _ _ _ hp.blk (takeAB _ _ _)) HJ.out HM2.out ?_);clear hp;(try clear w1);intro gM cM jM w1 hp)|((with_reducible apply Qcj);exact rfl))
      clear NT
      go_wp2_with (first|((with_reducible apply Qew hp);exact ii;exact ii;exact rfl;decide;exact zy rfl;(exact pm3);exact HL.out;assumption;assumption;assumption;exact zy rfl;exact ii;exact rfl;exact rfl;decide;(unfold maxLen;omega);omega;clear hp;(try clear w1);intro g cap junk w1 hl1 hl2 hl3 hp;(try dsimp only [List.cons_append,List.nil_append] at hp);simp only [zp,zq,z0,z1])|((with_reducible apply Qaf hp);exact ii;exact rfl;clear hp;(try clear w1);intro g w1 hp;simp only [zp,zq,z0,z1])|((with_reducible apply Qaa hp);exact zt rfl;exact ii;exact ii;(exact zl rfl);(simp only [n0,Nat.reduceAdd,nn];try rfl);simp only [zp,zq,z0,z1])|((with_reducible apply Qae hp);exact zt rfl;exact za rfl;exact rfl;(exact AggTy.size);exact rfl;exact ii;(simp only [n0,Nat.reduceAdd,nn];try rfl);(exact zl rfl);exact rfl;exact ii;clear hp;(try clear w1);intro w1 hp)|((with_reducible apply Qbc);exact zx rfl;exact zk rfl;exact ii;(exact AggTy.size);omega;omega;((try simp only [m0,Int.reduceToNat,m1,m2,Nat.reduceMul,Nat.reduceAdd,m3,m4,m5,n0]);exact rfl);simp only [zp,zq,z0,z1])|((with_reducible apply Qbv hp);exact zt rfl;assumption;exact ii;assumption;(omega);simp only [zp,zq,z0,z1])|((with_reducible apply Qbe hp);exact ii;(exact AggTy.size);exact ii;exact zl rfl;decide;(exact zk1 rfl);exact rfl;(exact zm1 rfl);(intro l hl <;> simp only [List.mem_cons,List.not_mem_nil,or_false] at hl <;> rcases hl with rfl|rfl|rfl|rfl <;> rfl);exact rfl;clear hp;(try clear w1);intro g w1 hp;simp only [zp,zq,z0,z1])|((with_reducible first|refine Qah hp (SM.out _ _ _) ?_|refine Qah hp (AW.out _) ?_);clear hp;(try clear w1);intro w1 hp)|((with_reducible refine Qef hp (NO.out _ _ _ _ hp.blk (takeABp _ _ _ _ rfl)) HO.out HM3.out ?_);clear hp;(try clear w1);intro gO cO jO w1 hp)|((with_reducible apply Qcj);exact rfl))
      exact bodyPost_ret (Qab rfl rfl) rfl ⟨rfl,hp.keep⟩
set_option maxHeartbeats 8000000 in
theorem Qpg (A B : List P3) (n k : Nat) (turn r : Int) (p0 : P3) (g0 off c : Nat) (bc : List Value) (t0 : TypeId) (u0 : Nat × Nat) (hn : n = 4) (hnc : n ≤ c) (hkn : k < n) (hr : turn.tmod n = r) (hrk : r = k ∨ r = k - n) (N : P3) (d : Int) (ks js os : List Nat) (hks : ks ≠ []) (hjs : js.length = ks.length) (hos : os ≠ []) (w : World) (hg : w.heap[g0]? = some (.cells bc.toArray t0 u0))
    (hA : (bc.drop (off + k * 3)).take ((n - k) * 3) = pcs A) (hAl : (pcs A).length = (n - k) * 3) (hA1 : (pcs A).all (·.oneCell') = true) (hB : (bc.drop off).take (k * 3) = pcs B) (hBl : (pcs B).length = k * 3) (hB1 : (pcs B).all (·.oneCell') = true) (hp0 : (bc.drop off).take 3 = [.int .i64 p0.x,.int .i64 p0.y,.int .i64 p0.z]) (hbl : off + 3 ≤ bc.length) (hAB : (pcs A ++ pcs B).length = n * 3)
    (NR : Hid (∀ w1,Keep [] w w1 → Calls Try.prog 8 #[.slice (some ⟨g0,off,none⟩) n c] w1 (Qem N d ks 0 w1)))
    (NT : Hid (∀ (g cap : Nat) (cs : List Value) (w1 : World),w1.heap[g]? = some (.cells cs.toArray 24 (0,0)) → cs.take ((pcs A).length + (pcs B).length) = pcs A ++ pcs B → Calls Try.prog 8 #[.slice (some ⟨g,0,none⟩) n cap] w1 (Qem N d js 0 w1)))
    (SM : Hid (∀ s s' w1,Calls Try.prog 14 #[NrV N.x N.y N.z d s,NrV N.x N.y N.z d s'] w1 (Ret (.bool true) w1))) :
    Calls Try.prog 4 #[.slice (some ⟨g0,off,none⟩) n c,.int .i64 turn] w (Ret (.bool true) w) := by
  have AW := Lib.hid Qme
  have HK := Lib.hid hks
  have HJ : Hid (js ≠ []) := fun h0 => by rw [h0] at hjs;exact hks (List.length_eq_zero_iff.1 hjs.symm)
  have HO := Lib.hid hos
  clear hks hos
  obtain ⟨m,hm⟩ : ∃ m,ks.length = m := ⟨_,rfl⟩
  have HM := Lib.hid hm
  rw [hm] at hjs
  have HM2 := Lib.hid hjs
  obtain ⟨m3,hm3⟩ : ∃ m,os.length = m := ⟨_,rfl⟩
  have HM3 := Lib.hid hm3
  clear hm hjs hm3
  have HR := Lib.hid hr
  have HRK := Lib.hid hrk
  clear hr hrk
  obtain rfl : n = 4 := hn
  all_goals
    go_enter Try.func4,Try.ntmps4
    have hp := Hp.start [] w
    go_upto_if 26 with (first|((with_reducible apply Qaf hp);exact ii;exact rfl;clear hp;(try clear w1);intro g w1 hp;simp only [zp,zq,z0,z1])|((with_reducible apply Qae hp);exact zt rfl;exact za rfl;exact rfl;(exact AggTy.size);exact rfl;exact ii;(simp only [n0,Nat.reduceAdd,nn];try rfl);(exact zl rfl);exact rfl;exact ii;clear hp;(try clear w1);intro w1 hp)|((with_reducible refine Qef hp (NR.out _ hp.keep) HK.out HM.out ?_);clear hp;(try clear w1);intro gC cC jC w1 hp))
    rename_i K hK
    obtain ⟨gn,rfl⟩ : ∃ z : Nat,z = g := ⟨_,rfl⟩
    go_cut [7] (fun s7 wx => s7 = .int .i64 (k : Int) ∧ Hp [] w [⟨gn,33,[.int .u64 (lb (N.x) 0),.int .u64 (lb (N.x) 1),.int .u64 (lb (N.x) 2),.int .u64 (lb (N.x) 3),.int .u64 (lb (N.x) 4),.int .u64 (lb (N.x) 5),.int .u64 (lb (N.x) 6),.int .u64 (lb (N.x) 7),.int .u64 (lb (N.y) 0),.int .u64 (lb (N.y) 1),.int .u64 (lb (N.y) 2),.int .u64 (lb (N.y) 3),.int .u64 (lb (N.y) 4),.int .u64 (lb (N.y) 5),.int .u64 (lb (N.y) 6),.int .u64 (lb (N.y) 7),.int .u64 (lb (N.z) 0),.int .u64 (lb (N.z) 1),.int .u64 (lb (N.z) 2),.int .u64 (lb (N.z) 3),.int .u64 (lb (N.z) 4),.int .u64 (lb (N.z) 5),.int .u64 (lb (N.z) 6),.int .u64 (lb (N.z) 7),.int .u64 (lb (d) 0),.int .u64 (lb (d) 1),.int .u64 (lb (d) 2),.int .u64 (lb (d) 3),.int .u64 (lb (d) 4),.int .u64 (lb (d) 5),.int .u64 (lb (d) 6),.int .u64 (lb (d) 7),.slice (some ⟨gC,0,none⟩) m cC]⟩,⟨gC,3,(ks.map fun k : Nat => Value.int .i64 (k : Int)) ++ jC⟩] wx)
    case first =>
      have hrk := HRK.out
      first
        | have hr : turn.tmod 1 = r := HR.out
        | have hr : turn.tmod 2 = r := HR.out
        | have hr : turn.tmod 3 = r := HR.out
        | have hr : turn.tmod 4 = r := HR.out
      try simp only [hr]
      clear HR HRK hr NT hA hAl hB hBl
      have hk4 : k = 0 ∨ k = 1 ∨ k = 2 ∨ k = 3 := by omega
      have hr4 : r = -4 ∨ r = -3 ∨ r = -2 ∨ r = -1 ∨ r = 0 ∨ r = 1 ∨ r = 2 ∨ r = 3 := by omega
      rcases hk4 with rfl|rfl|rfl|rfl
      all_goals
        first
          | (exfalso;omega)
          | (rcases hr4 with rfl|rfl|rfl|rfl|rfl|rfl|rfl|rfl)
      all_goals
        first
          | (exfalso;omega)
          | skip
      all_goals
        clear hrk
        go_wp2_with (fail)
        go_meet
        exact ⟨rfl,hp⟩
    case rest =>
      clear hp NR HR HRK
      obtain ⟨rfl,hp⟩ := hcut
      go_upto_region 7 with fail
      have hq := hp
      refine Qac hp hq [] (.q 1 (.q 2 (.q 3 (.q 5 (.q 6 (.q 7 (.l 0 (.l 4 (.l 8 (.q 9 .nil)))))))))) (by kernel_rfl) (by kernel_rfl) ?_
      clear hp hq;(try clear w1);intro w1 hp hq
      repeat' (first|(((with_reducible apply sd_q);exact zo rfl);(first|((with_reducible apply Qaq hp);(first|exact zi rfl|exact zs rfl);simp only [zp,zq,z0,z1])|((with_reducible apply Qas hp);exact zs rfl;simp only [zp,zq,z0,z1])|((with_reducible apply Qlr hp);exact rfl;exact zx rfl;exact rfl;exact ii;(exact AggTy.size);assumption;assumption;simp only [zp,zq,z0,z1])|((with_reducible apply Qlm hp);exact rfl;exact zx rfl;exact rfl;exact ii;(exact AggTy.size);assumption;assumption;simp only [zp,zq,z0,z1])))|(((with_reducible apply sd_l);exact zo rfl);(first|((with_reducible apply Qlh hq);(repeat (exact sb0));exact rfl;exact ii;(exact AggTy.size);clear hp hq;(try clear w1);intro g w1 hp hq;simp only [zp,zq,z0,z1])|((with_reducible apply Qja hq);exact rfl;exact ii;exact ii;exact rfl;decide;exact (rfl : _ = Value.slice (some (Addr.mk _ 0 none)) 0 0);(exact pm0);(repeat (exact sb0));exact zx rfl;assumption;assumption;assumption;assumption;(unfold maxLen;omega);omega;clear hp hq;(try clear w1);intro g cap junk w1 hl1 hl2 hl3 hp hq;(try dsimp only [List.cons_append,List.nil_append] at hq);simp only [zp,zq,z0,z1])|((with_reducible apply Qgs hq);exact rfl;exact ii;exact ii;exact rfl;decide;exact zy rfl;(exact pm0);(repeat (exact sb0));exact rfl;assumption;assumption;assumption;assumption;exact zx rfl;assumption;assumption;assumption;assumption;(unfold maxLen;omega);omega;clear hp hq;(try clear w1);intro g cap2 junk2 w1 hm1 hm2 hm3 hp hq;(try dsimp only [List.cons_append,List.nil_append] at hq);simp only [zp,zq,z0,z1])))|((with_reducible apply Qao);clear hp;have hp := hq;clear hq))
      have HL := Lib.hid hAB
      clear hA hAl hA1 hB hBl hB1 hAB
      first
        | (have e : 1 - k + k = 1 := by omega
           simp only [e] at hm2 ⊢)
        | (have e : 2 - k + k = 2 := by omega
           simp only [e] at hm2 ⊢)
        | (have e : 3 - k + k = 3 := by omega
           simp only [e] at hm2 ⊢)
        | (have e : 4 - k + k = 4 := by omega
           simp only [e] at hm2 ⊢)
      go_wp2_with (first|((with_reducible apply Qaf hp);exact ii;exact rfl;clear hp;(try clear w1);intro g w1 hp;simp only [zp,zq,z0,z1])|((with_reducible apply Qaa hp);exact zt rfl;exact ii;exact ii;(exact zl rfl);(simp only [n0,Nat.reduceAdd,nn];try rfl);simp only [zp,zq,z0,z1])|((with_reducible apply Qak hp);exact zt rfl;exact ii;exact ii;(exact zso rfl);simp only [zp,zq,z0,z1])|((with_reducible apply Qae hp);exact zt rfl;exact za rfl;exact rfl;(exact AggTy.size);exact rfl;exact ii;(simp only [n0,Nat.reduceAdd,nn];try rfl);(exact zl rfl);exact rfl;exact ii;clear hp;(try clear w1);intro w1 hp)|((with_reducible first|refine Qah hp (SM.out _ _ _) ?_|refine Qah hp (AW.out _) ?_);clear hp;(try clear w1);intro w1 hp)|((with_reducible refine Qef hp (NT.out _ _ _ _ hp.blk (takeAB _ _ _)) HJ.out HM2.out ?_);clear hp;(try clear w1);intro gM cM jM w1 hp)|((with_reducible apply Qcj);exact rfl))
      exact bodyPost_ret (Qab rfl rfl) rfl ⟨rfl,hp.keep⟩
end Go.Proofs.Ytdfdmeoalbpcdaa
