/-
  Package simplex: choices (contract of what it hands back).
  Slices inside a fence (the body of a loop over a function): elements, literals, append.
  Package simplex: Near, refused (contracts); what it comes to.
-/
import Derived.Test.YtdfdmeoalbpcdaaGreatQj
import Derived.Test.YtdfdmeoalbpcdaaGreatDf
set_option linter.unusedSimpArgs false
set_option linter.unusedVariables false
set_option maxRecDepth 100000
namespace Go.Proofs.YtdfdmeoalbpcdaaGreat
open Go Go.RowKit
attribute [local irreducible] wpList
theorem choices_any (n : Int) (w : World) : Calls Tryz.prog 12 #[.int .i64 n] w (RetN (fun g => .func (.func 23) #[] #[.pointer (some ⟨g,0,none⟩)]) 3 [.int .i64 n] w) := by
  have hmf : ∀ (fn : Fn) (first cap : Array Value) (w : World),(Instr.makeFunc fn first cap).run Tryz.prog w = .ok (.func fn first cap) w := fun _ _ _ _ => rfl
  go_enter Tryz.func12,Tryz.ntmps12
  have hp := Hp.start [] w
  go_wp2_with ((with_reducible apply Qau hp);exact zi rfl;exact rfl;clear hp;(try clear w1);intro g w1 hp;simp only [zp,zq,z0,z1])
  exact bodyPost_ret (Qaa rfl rfl) rfl ⟨_,rfl,hp.keep,hp.fresh,hp.blk⟩
theorem OF.own {v : Value} {L : List (List Nat)} {H : List Bk} (h : OF v L H) (hL : L ≠ []) : ∃ (g cap : Nat) (vs junk : List Value) (Bs : List Bk),v = .slice (some ⟨g,0,none⟩) vs.length cap ∧ SLL Bs vs L ∧ H = ⟨g,30,vs ++ junk⟩ :: Bs := by
  rcases h with ⟨_,h,_⟩|⟨g,cap,vs,junk,Bs,h1,_,_,_,h5,h6⟩
  · exact absurd h hL
  · exact ⟨g,cap,vs,junk,Bs,h1,h5,h6⟩
theorem sx_callL {P : Program} {w : World} {f : FuncId} {args : Array Value} {L : List (List Nat)} {R : Ending → World → Prop} (hc : Calls P f args w (RetS L w)) (hk : ∀ v H w1,OF v L H → Hp [] w H w1 → R (.returned v) w1) : Calls P f args w R :=
  hc.mono fun e w1 ⟨v,H,he,hO,hp⟩ => by subst he;exact hk v H w1 hO hp
/-- A slice of places, as it lies. -/
def SlW (W : World) (v : Value) (ks : List Nat) : Prop := (v = .slice none 0 0 ∧ ks = []) ∨ ∃ (g cap : Nat) (junk : List Value),v = .slice (some ⟨g,0,none⟩) ks.length cap ∧ W.heap[g]? = some (.cells ((ks.map fun k : Nat => Value.int .i64 (k : Int)) ++ junk).toArray 3 (0,0))
theorem SlW.keep {W W' : World} {v : Value} {ks : List Nat} (h : SlW W v ks) (hk : Keep [] W W') : SlW W' v ks := by
  rcases h with h|⟨g,cap,junk,h1,h2⟩
  · exact .inl h
  · exact .inr ⟨g,cap,junk,h1,hk.some h2⟩
theorem SLs.slw {X : List Nat} {w0 w : World} {Bs : List Bk} {v : Value} {ks : List Nat} (h : SLs Bs v ks) (hp : ∀ b ∈ Bs,w.heap[b.g]? = some (.cells b.cs.toArray b.t (0,0))) : SlW w v ks := by
  rcases h with h|⟨b,cap,junk,hb,ht,h1,h2⟩
  · exact .inl h
  · refine .inr ⟨b.g,cap,junk,h1,?_⟩
    have := hp b hb
    rw [h2,ht] at this
    exact this
/-- A slice whose block is a new one. -/
def FrS (B : Nat) (v : Value) : Prop := ∀ (g o n c : Nat),v = .slice (some ⟨g,o,none⟩) n c → B ≤ g
theorem SLs.frs {B : Nat} {Bs : List Bk} {v : Value} {ks : List Nat} (h : SLs Bs v ks) (hp : ∀ b ∈ Bs,B ≤ b.g) : FrS B v := by
  intro g o n c e
  rcases h with ⟨rfl,_⟩|⟨b,cap,junk,hb,ht,h1,h2⟩
  · cases e
  · rw [h1] at e
    cases e
    exact hp b hb
def chL (n j : Nat) : List (List Nat) := (List.range j).flatMap (fun j => lsz n (j + 1) (2 ^ n - 1) 0)
theorem Qiv (n j : Nat) : chL n (j + 1) = chL n j ++ lsz n (j + 1) (2 ^ n - 1) 0 := by
  unfold chL
  rw [List.range_succ,List.flatMap_append]
  simp
theorem chL_pre (n : Nat) : ∀ j,j ≤ n → ∃ r,chL n j ++ r = chL n n := by
  intro j hj
  obtain ⟨d,rfl⟩ : ∃ d,n = j + d := ⟨n - j,by omega⟩
  have : ∀ d m,∃ r,chL m j ++ r = chL m (j + d) := by
    intro d
    induction d with
    | zero => intro m;exact ⟨[],by simp⟩
    | succ d ih =>
      intro m
      obtain ⟨r,hr⟩ := ih m
      refine ⟨r ++ lsz m (j + d + 1) (2 ^ m - 1) 0,?_⟩
      rw [← Nat.add_assoc,Qiv,← hr,List.append_assoc]
  exact this d _
theorem lz11 : ((lsz 1 1 (2 ^ 1 - 1) 0).length == 0) = false := by kernel_rfl
theorem lz21 : ((lsz 2 1 (2 ^ 2 - 1) 0).length == 0) = false := by kernel_rfl
theorem lz22 : ((lsz 2 2 (2 ^ 2 - 1) 0).length == 0) = false := by kernel_rfl
theorem lz31 : ((lsz 3 1 (2 ^ 3 - 1) 0).length == 0) = false := by kernel_rfl
theorem lz32 : ((lsz 3 2 (2 ^ 3 - 1) 0).length == 0) = false := by kernel_rfl
theorem lz33 : ((lsz 3 3 (2 ^ 3 - 1) 0).length == 0) = false := by kernel_rfl
theorem lz41 : ((lsz 4 1 (2 ^ 4 - 1) 0).length == 0) = false := by kernel_rfl
theorem lz42 : ((lsz 4 2 (2 ^ 4 - 1) 0).length == 0) = false := by kernel_rfl
theorem lz43 : ((lsz 4 3 (2 ^ 4 - 1) 0).length == 0) = false := by kernel_rfl
theorem lz44 : ((lsz 4 4 (2 ^ 4 - 1) 0).length == 0) = false := by kernel_rfl
theorem lsz_some (n z : Nat) (h4 : n ≤ 4) (hz : 1 ≤ z) (hzn : z ≤ n) : lsz n z (2 ^ n - 1) 0 ≠ [] := by
  intro h0
  have hc : ((lsz n z (2 ^ n - 1) 0).length == 0) = false := by
    have h : (n = 1 ∧ z = 1) ∨ (n = 2 ∧ z = 1) ∨ (n = 2 ∧ z = 2) ∨ (n = 3 ∧ z = 1) ∨ (n = 3 ∧ z = 2) ∨ (n = 3 ∧ z = 3) ∨ (n = 4 ∧ z = 1) ∨ (n = 4 ∧ z = 2) ∨ (n = 4 ∧ z = 3) ∨ (n = 4 ∧ z = 4) := by omega
    clear h0
    rcases h with ⟨rfl,rfl⟩|⟨rfl,rfl⟩|⟨rfl,rfl⟩|⟨rfl,rfl⟩|⟨rfl,rfl⟩|⟨rfl,rfl⟩|⟨rfl,rfl⟩|⟨rfl,rfl⟩|⟨rfl,rfl⟩|⟨rfl,rfl⟩
    · exact lz11
    · exact lz21
    · exact lz22
    · exact lz31
    · exact lz32
    · exact lz33
    · exact lz41
    · exact lz42
    · exact lz43
    · exact lz44
  rw [h0] at hc
  simp at hc
abbrev Elt : Type := Value × List Nat
set_option maxHeartbeats 8000000 in
theorem Qlj (m n B : Nat) (h1 : 1 ≤ n) (hn : (n : Int) ≤ 4) (gn : Nat) (w0 : World) (hB : B ≤ w0.heap.size) (hb0 : w0.heap[gn]? = some (.cells #[.int .i64 (n : Int)] 3 (0,0))) :
    Yields Tryz.prog m 23 #[.pointer (some ⟨gn,0,none⟩)] (fun x : Elt => x.1) (fun x W => SlW W x.1 x.2 ∧ x.2 ∈ chs n ∧ FrS B x.1) (fun xs => xs.map (·.2) = chs n) (fun pre => ∃ r,pre.map (·.2) ++ r = chs n) w0 := by
  intro l J Jx w hW hJ hJx hY h0
  have hb := hW.some hb0
  have hBw : B ≤ w.heap.size := Nat.le_trans hB hW.size
  have HY := Lib.hid hY
  have HJ := Lib.hid hJ
  have HJX := Lib.hid hJx
  have HC := Lib.hid (chs_sized n h1 (by omega))
  clear hY hJ hJx hW hb0
  refine callsIn_wide.2 ?_
  go_enter Tryz.func23,Tryz.ntmps23
  have hp := Hp.start [] w
  go_wp2_with (fail)
  go_loopw [3] (fun sv wr => ∃ (j : Nat) (xs : List Elt),(j : Int) ≤ n ∧ sv = .int .i64 ((j : Int) + 1) ∧ Hid (xs.map (·.2) = chL n j) ∧ Hid (J xs wr) ∧ Keep [] w wr) (fun iv _ => n + 1 - (intOf iv).toNat)
  case atStart => exact ⟨0,[],by omega,rfl,rfl,h0,hp.keep⟩
  case round =>
    clear hp
    obtain ⟨j,xs,hj,rfl,hxs,hJ,hk⟩ := hrel
    have hbr := hk.some hb
    have hp := Hp.start [] wr
    by_cases hjn : (j : Int) < n
    · have HNE := Lib.hid (lsz_some n (j + 1) (by omega) (by omega) (by omega))
      have SZ := Lib.hid (fun w1 => sized_at n (j + 1) hn w1)
      have e0 : ((j + 1 : Nat) : Int) = (j : Int) + 1 := by omega
      rw [e0] at SZ
      go_wp2_with (first|((with_reducible apply Qbf hp);exact zt rfl;assumption;exact ii;(exact zio rfl);simp only [zp,zq,z0,z1])|((with_reducible refine sx_callL (SZ.out _) ?_);clear hp;(try clear w1);intro v H1 w1 hOF hp;obtain ⟨g,cap,vs,junk,Bs,rfl,hSL,rfl⟩ := OF.own hOF HNE.out))
      have J5 : Hid (J xs w1) := HJ.out _ _ _ hJ.out hp.keep
      have k5 := hk.trans hp.keep
      have HG := hp.blk (g := g)
      have HB : Hid (∀ b ∈ Bs,w1.heap[b.g]? = some (.cells b.cs.toArray b.t (0,0))) := fun b hb => (hp.own b (List.mem_cons_of_mem _ hb)).2
      have HSL := Lib.hid hSL
      have HBf : Hid (∀ b ∈ Bs,B ≤ b.g) := fun b hb => by
        have h1 := (hp.own b (List.mem_cons_of_mem _ hb)).1.resolve_left (by simp)
        have h2 := hk.size
        omega
      have hvl : Hid (vs.length ≤ 15) := by
        rw [Hid,hSL.length]
        unfold lsz
        rw [List.length_map]
        refine Nat.le_trans (List.length_filter_le _ _) ?_
        rw [List.length_map,List.length_range]
        have : 2 ^ n ≤ 2 ^ 4 := Nat.pow_le_pow_right (by omega) (by omega)
        omega
      clear hOF hJ hSL hbr
      obtain ⟨w5,hw5⟩ : ∃ x : World,x = w1 := ⟨_,rfl⟩
      subst hw5
      obtain ⟨nv,hnv⟩ : ∃ nv,nv = vs.length := ⟨_,rfl⟩
      rw [← hnv]
      have hnv5 : (nv : Int) ≤ 15 := by have := hvl.out;omega
      have HNV := Lib.hid hnv
      clear hnv
      go_loopw [15] (fun iv wr => ∃ (k : Nat) (ys : List Elt),(k : Int) ≤ nv ∧ iv = .int .i64 k ∧ Hid (ys.map (·.2) = chL n j ++ (lsz n (j + 1) (2 ^ n - 1) 0).take k) ∧ Hid (J ys wr) ∧ Keep [] w5 wr) (fun iv _ => nv - (intOf iv).toNat)
      case atStart => exact ⟨0,xs,by omega,rfl,by rw [List.take_zero,List.append_nil];exact hxs,J5,Keep.refl _ _⟩
      case round =>
        clear hp J5
        obtain ⟨k,ys,hkv,rfl,hys,hJ,hk6⟩ := hrel
        have hp := Hp.start [] wr
        by_cases hkn : (k : Int) < nv
        · have k0 : (0 : Int) ≤ (k : Int) := by omega
          obtain ⟨ks,hks⟩ : ∃ ks,(lsz n (j + 1) (2 ^ n - 1) 0)[k]? = some ks := ⟨_,List.getElem?_eq_getElem (by rw [← HSL.out.length];have := HNV.out;omega)⟩
          obtain ⟨v,hv,hvs⟩ := HSL.out.get hks
          have f1 : (vs ++ junk)[k * 1]? = some v := by rw [Nat.mul_one,List.getElem?_append_left (by have := HNV.out;omega)];exact hv
          have hG := hk6.some HG
          have hPx : SlW wr v ks ∧ ks ∈ chs n ∧ FrS B v := ⟨(SLs.slw (X := []) (w0 := wr) hvs HB.out).keep hk6,by
            obtain ⟨r1,hr1⟩ := chL_pre n (j + 1) (by omega)
            have hc : chL n n = chs n := HC.out
            rw [← hc,← hr1,Qiv]
            exact List.mem_append_left _ (List.mem_append_right _ (List.mem_of_getElem? hks)),hvs.frs HBf.out⟩
          obtain ⟨fn,tmps,asg,body,hy,hR⟩ := HY.out ys (v,ks) wr hPx hJ.out
          dsimp only at hy hR
          have HPX := Lib.hid hPx
          have HKS := Lib.hid hks
          clear hPx hvs hv hks
          go_upto_region 6 with (first|((with_reducible apply Qar);exact zx rfl;exact zk rfl;exact ii;(exact OneTy.size);omega;omega;((try simp only [m0,Int.reduceToNat,m1,m2,Nat.reduceMul,Nat.reduceAdd,m3,m4,m5,n0]);exact rfl);simp only [zp,zq,z0,z1])|((with_reducible apply Qbf hp);exact zt rfl;assumption;exact ii;(assumption);simp only [zp,zq,z0,z1]))
          refine (wpIn_wide (n := m)).1 ?_
          gi_wp2_with (fail)
          refine ⟨fun h => by simp [Fence.wide] at h,hR.mono ?_⟩
          clear hp hR hy
          rintro e W1 (⟨rfl,hJ1,hk1⟩|⟨rfl,hx⟩)
          · have hp := Hp.start [] W1
            have HJ1 := Lib.hid hJ1
            clear hJ1
            gi_wp2_with (fail)
            go_wp2_with (fail)
            go_roundw
            case rel =>
              refine ⟨k + 1,ys ++ [(v,ks)],by omega,rfl,?_,HJ1.out,hk6.trans hk1⟩
              rw [List.map_append,hys.out,List.take_add_one,HKS.out,List.append_assoc]
              rfl
            case measure => simp [intOf];omega
          · have hp := Hp.start [] W1
            have HX := Lib.hid hx
            clear hx
            gi_wp2_with (fail)
            go_wp2_with (fail)
            refine bodyPost_ret (results_none rfl _ _ _) rfl ⟨⟨_,rfl⟩,.inr ⟨ys ++ [(v,ks)],?_,HX.out⟩⟩
            obtain ⟨r1,hr1⟩ := chL_pre n (j + 1) (by omega)
            have hc : chL n n = chs n := HC.out
            refine ⟨(lsz n (j + 1) (2 ^ n - 1) 0).drop (k + 1) ++ r1,?_⟩
            rw [← hc,← hr1,Qiv,List.map_append,hys.out]
            have e7 := List.take_append_drop (k + 1) (lsz n (j + 1) (2 ^ n - 1) 0)
            rw [List.take_add_one,HKS.out] at e7
            conv => rhs;rw [← e7]
            simp
        · obtain rfl : k = nv := by omega
          go_wp2_with (fail)
          go_roundw
          case rel =>
            refine ⟨j + 1,ys,by omega,by rw [e0],?_,hJ,k5.trans hk6⟩
            rw [hys.out,Qiv,List.take_of_length_le (by rw [← HSL.out.length];have := HNV.out;omega)];rfl
          case measure => simp [intOf];omega
    · obtain rfl : j = n := by omega
      have hbn : wr.heap[gn]? = some (.cells #[.int .i64 (j : Int)] 3 (0,0)) := hbr
      go_wp2_with ((with_reducible apply Qbf hp);exact zt rfl;assumption;exact ii;(exact zio rfl);simp only [zp,zq,z0,z1])
      exact bodyPost_end (results_none rfl _ _ _) rfl ⟨⟨_,rfl⟩,.inl ⟨xs,hxs.out.trans HC.out,hJ.out⟩⟩
end Go.Proofs.YtdfdmeoalbpcdaaGreat

set_option linter.unusedSimpArgs false
set_option linter.unusedVariables false
namespace Go.Proofs.YtdfdmeoalbpcdaaGreat
open Go Go.RowKit
section
variable {F : Fence} {P : Program} {X : List Nat} {w0 w : World} {H H' : List Bk} {g : Nat} {t : TypeId} {cs cs' : List Value}
variable {ops : Array Oper} {Q : Exit → Act → World → Prop} {a : Act} {rest : List Oper} {d p : Tmp} {tp ty : TypeId} {pos : String} {af : Array Edge} {off n k9 : Nat}
theorem Qax [hF : Free F] {x y : Operand} {e : TypeId} {m len cap : Nat} {k : Int} (hx : a.eval x = .slice (some ⟨g,off,none⟩) len cap) (hy : a.eval y = .int .i64 k) (ht : Qfk P t e) (hs : ∀ w,(sizeOf e).run P w = .ok m w) (h0 : 0 ≤ k) (h1 : k < len)
    {off' : Nat} (ho : off + k.toNat * m = off') (hk : wpListIn F k9 P ops Q rest (a.put (some d) (.pointer (some ⟨g,off',none⟩))) w) : wpListIn F k9 P ops Q (⟨some d,.indexAddr t x y,tp,pos,af,none⟩ :: rest) a w := by
  subst ho
  refine Qem rfl (fun _ h => by cases h) ?_ hk
  simp only [execOp,hx,hy,Sem.run_bind,Sem.run_pure,Result.andThen_ok,Qdi hs h0 h1]
theorem Qbg [hF : Free F] {z : Nat × Nat} (hp : Hp [] w0 H w) (hx : a.eval (.tmp p) = .pointer (some ⟨g,off,none⟩)) (hb : w0.heap[g]? = some (.cells cs.toArray t z)) (ht : AggTy P ty n) {vs : List Value} (hvs : (cs.drop off).take n = vs) (hle : off + n ≤ cs.length)
    (hk : wpListIn F k9 P ops Q rest (a.put (some d) (.agg vs.toArray)) w) : wpListIn F k9 P ops Q (⟨some d,.load ty (.tmp p),tp,pos,af,none⟩ :: rest) a w := by
  refine Qem rfl (fun _ h => by cases h) ?_ hk
  simp only [execOp,hx,Instr.loadAt,Instr.sureAddr,Sem.run_bind,Sem.run_pure,Result.andThen_ok,Qes hp.keep hb hle hvs]
theorem Qbc [hF : Free F] {z : Nat × Nat} (hp : Hp [] w0 H w) (hx : a.eval (.tmp p) = .pointer (some ⟨g,off,none⟩)) (hb : w0.heap[g]? = some (.cells cs.toArray t z)) (ht : OneTy P ty) {v : Value} (hv : cs[off]? = some v)
    (hk : wpListIn F k9 P ops Q rest (a.put (some d) v) w) : wpListIn F k9 P ops Q (⟨some d,.load ty (.tmp p),tp,pos,af,none⟩ :: rest) a w := by
  refine Qem rfl (fun _ h => by cases h) ?_ hk
  simp only [execOp,hx,Instr.loadAt,Instr.sureAddr,Sem.run_bind,Sem.run_pure,Result.andThen_ok,Qeb hp.keep hb hv]
theorem Hp.farX {z : Nat × Nat} (hp : Hp X w0 H w) (hX : g ∉ X) (hb : w0.heap[g]? = some (.cells cs.toArray t z)) : w.heap[g]? = some (.cells cs.toArray t z) := by
  have hlt : g < w0.heap.size := by
    rcases Nat.lt_or_ge g w0.heap.size with h' | h'
    · exact h'
    · rw [Array.getElem?_eq_none h'] at hb;cases hb
  exact (hp.keep.block g hlt hX).trans hb
theorem Qcb [hF : Free F] {z : Nat × Nat} (hp : Hp X w0 H w) (hx : a.eval (.tmp p) = .pointer (some ⟨g,off,none⟩)) (hX : g ∉ X) (hb : w0.heap[g]? = some (.cells cs.toArray t z)) (ht : AggTy P ty n) {vs : List Value} (hvs : (cs.drop off).take n = vs) (hle : off + n ≤ cs.length)
    (hk : wpListIn F k9 P ops Q rest (a.put (some d) (.agg vs.toArray)) w) : wpListIn F k9 P ops Q (⟨some d,.load ty (.tmp p),tp,pos,af,none⟩ :: rest) a w := by
  refine Qem rfl (fun _ h => by cases h) ?_ hk
  simp only [execOp,hx,Instr.loadAt,Instr.sureAddr,Sem.run_bind,Sem.run_pure,Result.andThen_ok,Qes (Keep.refl [] w) (hp.farX hX hb) hle hvs]
theorem Qbi [hF : Free F] {z : Nat × Nat} (hp : Hp X w0 H w) (hx : a.eval (.tmp p) = .pointer (some ⟨g,off,none⟩)) (hX : g ∉ X) (hb : w0.heap[g]? = some (.cells cs.toArray t z)) (ht : OneTy P ty) {v : Value} (hv : cs[off]? = some v)
    (hk : wpListIn F k9 P ops Q rest (a.put (some d) v) w) : wpListIn F k9 P ops Q (⟨some d,.load ty (.tmp p),tp,pos,af,none⟩ :: rest) a w := by
  refine Qem rfl (fun _ h => by cases h) ?_ hk
  simp only [execOp,hx,Instr.loadAt,Instr.sureAddr,Sem.run_bind,Sem.run_pure,Result.andThen_ok,Qeb (Keep.refl [] w) (hp.farX hX hb) hv]
theorem Qaw [hF : Free F] {e : TypeId} {n m : Nat} {z : Value} {parts : List (Nat × Operand)} {vs cs : List Value} {ls : List (List Value)} (hp : Hp X w0 H w) (ht : Qfk P t e) (hs : ∀ w,(sizeOf e).run P w = .ok m w) (hz : ZeroTy P e z) (hsm : n * m ≤ 2 ^ 24) (h0 : n * m ≠ 0)
    (hpv : (parts.map fun p => (p.1,a.eval p.2)) = Qbk 0 vs) (hn : vs.length = n) (hv : vs.map (·.cells) = ls.map (·.toArray)) (hl : ∀ l ∈ ls,l.length = m) (hcs : ls.flatten = cs)
    (hk : ∀ g w1,Hp X w0 (⟨g,e,cs⟩ :: H) w1 → wpListIn F k9 P ops Q rest (a.put (some d) (.slice (some ⟨g,0,none⟩) n n)) w1) : wpListIn F k9 P ops Q (⟨some d,.buildSlice t n parts.toArray,tp,pos,af,none⟩ :: rest) a w := by
  subst hcs
  have hpv' : (parts.toArray.map fun (i,x) => (i,a.eval x)).toList = Qbk 0 vs := by rw [← hpv];simp
  refine Qem rfl (fun _ h => by cases h) (w1 := w.alloc (.cells ls.flatten.toArray e)) ?_ (hk _ _ (hp.alloc e ls.flatten))
  simp only [execOp,Sem.run_bind,Qff hs hsm h0 hpv' hn hv hl,Result.andThen_ok]
  rfl
theorem Qbn [hF : Free F] {s x : Operand} {e : TypeId} {z : Value} {size bytes m c gx : Nat} {ex : TypeId} {news : List Value} (hp : Hp X w0 H w) (ht : Qfk P t e) (he : Qgf P e z size bytes) (hzs : z.cells.size = size) (hsz : 0 < size)
    (hs : a.eval s = .slice none 0 0) (hx : a.eval x = .slice (some ⟨gx,0,none⟩) m c) (hh : Has H gx ex news) (hl : news.length = m * size) (h1 : news.all (·.oneCell') = true) (hm : m ≠ 0) (hm1 : m ≤ maxLen) (hm2 : m * bytes ≤ 140737488355328)
    (hk : ∀ g cap junk w1,(news ++ junk).length = cap * size → m ≤ cap → cap ≤ maxLen → Hp X w0 (⟨g,e,news ++ junk⟩ :: H) w1 → wpListIn F k9 P ops Q rest (a.put (some d) (.slice (some ⟨g,0,none⟩) m cap)) w1) :
    wpListIn F k9 P ops Q (⟨some d,.call { callee := .builtin .append,args := #[s,x],argTypes := #[t,t] },tp,pos,af,none⟩ :: rest) a w := by
  obtain ⟨inf,hi,hi'⟩ : ∃ i,P.info? e = some i ∧ (i.zero,i.size,i.bytes) = (some z,size,bytes) := by
    have := he.info
    cases h : P.info? e with
    | none => rw [h] at this;cases this
    | some i => rw [h] at this;exact ⟨i,rfl,by simpa using this⟩
  simp only [Prod.mk.injEq] at hi'
  obtain ⟨hiz,his,hib⟩ := hi'
  obtain ⟨v',w',hrun,hr,hg,hnil,hob⟩ := run_append_own_at (P := P) w 0 t tp e inf z size bytes ht.und hi hiz his hib hzs hsz (.slice none 0 0) 0 [] ⟨by simp,.inl ⟨rfl,rfl⟩⟩ ⟨gx,0,none⟩ m c news hl (Qhs hp) (fun u hu => List.all_eq_true.1 h1 u hu) (by omega) (by rw [Nat.zero_add];exact hm2) (Nat.zero_le _)
  have hrun' : (execOp a.eval ⟨some d,.call { callee := .builtin .append,args := #[s,x],argTypes := #[t,t] },tp,pos,af,none⟩).run P w = .ok (.value v') w' := by
    unfold execOp
    simp only [resolve,invoke,builtin,Sem.run_bind,Sem.run_pure,Result.andThen_ok,List.map_toArray,List.map_cons,List.map_nil,hs,hx,hrun]
  refine Qem rfl (fun _ h => by cases h) hrun' ?_
  obtain ⟨hlen,hr⟩ := hr
  rcases hr with ⟨rfl,h0⟩|⟨g,cap,cur,rfl,_,hb,hn,hc,hcs,htk⟩
  · exact absurd (hnil.1 rfl).2 hm
  · have hgs : g = w.heap.size := by
      rcases hob with h|h
      · cases h
      · simpa [Value.ownBlock] using h
    rw [Nat.zero_add] at hn htk hlen
    rw [List.nil_append] at htk hlen
    have e1 : cur.toList = news ++ cur.toList.drop (m * size) := by rw [← htk,List.take_append_drop]
    rw [Nat.zero_add]
    refine hk g cap (cur.toList.drop (m * size)) w' ?_ hn hc ?_
    · rw [← e1];simpa using hcs
    · exact hp.grew0 (cs' := news ++ cur.toList.drop (m * size)) hg hgs (by rw [← e1];simpa using hb)
theorem Qbu [hF : Free F] {s x : Operand} {e : TypeId} {z : Value} {size bytes n m c gv cap gx : Nat} {ex : TypeId} {xs junk news : List Value} {H1 : List Bk} (hp : Hp X w0 H w) (ht : Qfk P t e) (he : Qgf P e z size bytes) (hzs : z.cells.size = size) (hsz : 0 < size)
    (hs : a.eval s = .slice (some ⟨gv,0,none⟩) n cap) (hperm : H.Perm (⟨gv,e,xs ++ junk⟩ :: H1)) (hxl : xs.length = n * size) (hjl : (xs ++ junk).length = cap * size) (hnc : n ≤ cap) (hcm : cap ≤ maxLen)
    (hx : a.eval x = .slice (some ⟨gx,0,none⟩) m c) (hh : Has H gx ex news) (hl : news.length = m * size) (h1 : news.all (·.oneCell') = true) (hm : m ≠ 0) (hm1 : n + m ≤ maxLen) (hm2 : (n + m) * bytes ≤ 140737488355328)
    (hk : ∀ g cap' junk' w1,(xs ++ news ++ junk').length = cap' * size → n + m ≤ cap' → cap' ≤ maxLen → Hp X w0 (⟨g,e,xs ++ news ++ junk'⟩ :: H1) w1 → wpListIn F k9 P ops Q rest (a.put (some d) (.slice (some ⟨g,0,none⟩) (n + m) cap')) w1) :
    wpListIn F k9 P ops Q (⟨some d,.call { callee := .builtin .append,args := #[s,x],argTypes := #[t,t] },tp,pos,af,none⟩ :: rest) a w := by
  obtain ⟨inf,hi,hi'⟩ : ∃ i,P.info? e = some i ∧ (i.zero,i.size,i.bytes) = (some z,size,bytes) := by
    have := he.info
    cases h : P.info? e with
    | none => rw [h] at this;cases this
    | some i => rw [h] at this;exact ⟨i,rfl,by simpa using this⟩
  simp only [Prod.mk.injEq] at hi'
  obtain ⟨hiz,his,hib⟩ := hi'
  have hbv := ((hp.perm hperm).own ⟨gv,e,xs ++ junk⟩ (by simp)).2
  obtain ⟨v',w',hrun,hr,hg,hnil,hob⟩ := run_append_own_at (P := P) w 0 t tp e inf z size bytes ht.und hi hiz his hib hzs hsz (.slice (some ⟨gv,0,none⟩) n cap) n xs ⟨hxl,.inr ⟨gv,cap,_,rfl,Nat.zero_le _,hbv,hnc,hcm,by simpa using hjl,by rw [List.toList_toArray,← hxl,List.take_left'];rfl⟩⟩ ⟨gx,0,none⟩ m c news hl (Qhs hp) (fun u hu => List.all_eq_true.1 h1 u hu) hm1 hm2 (Nat.zero_le _)
  have hrun' : (execOp a.eval ⟨some d,.call { callee := .builtin .append,args := #[s,x],argTypes := #[t,t] },tp,pos,af,none⟩).run P w = .ok (.value v') w' := by
    unfold execOp
    simp only [resolve,invoke,builtin,Sem.run_bind,Sem.run_pure,Result.andThen_ok,List.map_toArray,List.map_cons,List.map_nil,hs,hx,hrun]
  refine Qem rfl (fun _ h => by cases h) hrun' ?_
  obtain ⟨hlen,hr⟩ := hr
  rcases hr with ⟨rfl,h0⟩|⟨g,cap',cur,rfl,_,hb,hn,hc,hcs,htk⟩
  · exact absurd (hnil.1 rfl).2 hm
  · have hgs : g = gv ∨ g = w.heap.size := by
      rcases hob with h|h
      · left;simpa [Value.ownBlock] using h
      · right;simpa [Value.ownBlock] using h
    have e1 : cur.toList = xs ++ news ++ cur.toList.drop ((n + m) * size) := by rw [← htk,List.take_append_drop]
    refine hk g cap' (cur.toList.drop ((n + m) * size)) w' ?_ hn hc ?_
    · rw [← e1];simpa using hcs
    · exact hp.grew (cs' := xs ++ news ++ cur.toList.drop ((n + m) * size)) hperm hg hgs (by rw [← e1];simpa using hb)
end
end Go.Proofs.YtdfdmeoalbpcdaaGreat

set_option linter.unusedSimpArgs false
set_option linter.unusedVariables false
set_option maxRecDepth 100000
namespace Go.Proofs.YtdfdmeoalbpcdaaGreat
open Go Go.RowKit
attribute [local irreducible] wpList
/-- What Near comes to: numbers, places, and an error. -/
def Qfi (N : P3) (d : Int) (ks : List Nat) (err : Int) (w : World) (e : Ending) (w' : World) : Prop := ∃ sv,e = .returned (.tuple #[NrV N.x N.y N.z d sv,.int .i64 err]) ∧ Keep [] w w' ∧ SlW w' sv ks ∧ FrS w.heap.size sv
theorem NrZ_eq : NrZ = NrV 0 0 0 0 (.slice none 0 0) := by simp only [NrV,Qcy]
theorem SlW.shape {w : World} {v : Value} {ks : List Nat} (h : SlW w v ks) : ∃ b c,v = .slice b ks.length c := by
  rcases h with ⟨rfl,rfl⟩|⟨g,cap,_,rfl,_⟩
  · exact ⟨none,0,rfl⟩
  · exact ⟨_,cap,rfl⟩
/-- A call of Near: places and all. -/
theorem Qkt {P : Program} {X : List Nat} {w0 w : World} {H : List Bk} {f : FuncId} {args : Array Value} {N : P3} {d err : Int} {ks : List Nat} {R : Ending → World → Prop} (hp : Hp X w0 H w) (hc : Calls P f args w (Qfi N d ks err w)) (hne : ks ≠ []) {n : Nat} (hn : ks.length = n)
    (hk : ∀ g cap junk w1,Hp X w0 (⟨g,3,(ks.map fun k : Nat => Value.int .i64 (k : Int)) ++ junk⟩ :: H) w1 → R (.returned (.tuple #[NrV N.x N.y N.z d (.slice (some ⟨g,0,none⟩) n cap),.int .i64 err])) w1) : Calls P f args w R :=
  hc.mono fun e w1 ⟨sv,he,hw,hs,hf⟩ => by
    subst he
    subst hn
    obtain ⟨g,cap,junk,rfl,hb⟩ := hs.resolve_left fun h => hne h.2
    exact hk g cap junk w1 (hp.add hw (hf g 0 _ _ rfl) hb)
theorem Qjn {P : Program} {X : List Nat} {w0 w : World} {H : List Bk} {f : FuncId} {args : Array Value} {N : P3} {d err : Int} {R : Ending → World → Prop} (hp : Hp X w0 H w) (hc : Calls P f args w (Qfi N d [] err w))
    (hk : ∀ b c w1,Hp X w0 H w1 → R (.returned (.tuple #[NrV N.x N.y N.z d (.slice b 0 c),.int .i64 err])) w1) : Calls P f args w R :=
  hc.mono fun e w1 ⟨sv,he,hw,hs,hf⟩ => by
    subst he
    obtain ⟨b,c,rfl⟩ := hs.shape
    exact hk b c w1 (hp.call hw)
theorem PSl.shape {w : World} {v : Value} {ps : List P3} (h : PSl w v ps) : ∃ b c,v = .slice b ps.length c := by
  rcases h with ⟨rfl,rfl⟩|⟨g,off,cap,_,_,_,rfl,_⟩
  · exact ⟨none,0,rfl⟩
  · exact ⟨_,cap,rfl⟩
set_option maxHeartbeats 2000000 in
theorem near_arg (b : Option Addr) (n c : Nat) (h : (n : Int) < 1 ∨ ¬ (n : Int) < 1 ∧ 4 < (n : Int)) (w : World) : Calls Tryz.prog 5 #[.slice b n c] w (Qfi ⟨0,0,0⟩ 0 [] 2 w) := by
  refine (?_ : Calls Tryz.prog 5 #[.slice b n c] w (Ret (.tuple #[NrZ,.int .i64 2]) w)).mono ?_
  · rcases h with h|⟨h,h2⟩
    all_goals
      go_enter Tryz.func5,Tryz.ntmps5
      have hp := Hp.start [] w
      go_wp2_with (first|((with_reducible apply Qau hp);exact zs rfl;exact rfl;clear hp;(try clear w1);intro g w1 hp;simp only [zp,zq,z0,z1])|((with_reducible apply Qag hp);exact ii;exact rfl;clear hp;(try clear w1);intro g w1 hp;simp only [zp,zq,z0,z1])|((with_reducible apply Qai hp);exact zt rfl;exact ii;exact ii;(exact zso rfl);simp only [zp,zq,z0,z1])|((with_reducible apply Qae hp);exact zt rfl;(first|exact za rfl|exact zi rfl);exact rfl;exact Sz.z;exact rfl;exact ii;(simp only [n0,Nat.reduceAdd,nn];try rfl);(exact zl rfl);exact rfl;exact ii;clear hp;(try clear w1);intro w1 hp)|((with_reducible apply Qbm);exact rfl))
      exact bodyPost_ret (Qan rfl ⟨_,rfl,Qac hp (Nat.le_of_ble_eq_true rfl)⟩ ⟨_,rfl,Qbt hp rfl⟩) rfl ⟨rfl,hp.keep⟩
  · rintro e w1 ⟨rfl,hk⟩
    exact ⟨.slice none 0 0,by rw [NrZ_eq],hk,.inl ⟨rfl,rfl⟩,fun g o n c e => by cases e⟩
set_option maxHeartbeats 2000000 in
theorem near_bound (b : Option Addr) (n c : Nat) (h : ¬ (n : Int) < 1) (h4 : ¬ 4 < (n : Int)) (r : Int) (w : World) (RK : Hid (∀ w1,Keep [] w w1 → Calls Tryz.prog 11 #[.slice b n c] w1 (Ret (.tuple #[.int .i64 r,.int .i64 7]) w1))) : Calls Tryz.prog 5 #[.slice b n c] w (Qfi ⟨0,0,0⟩ 0 [] 7 w) := by
  refine (?_ : Calls Tryz.prog 5 #[.slice b n c] w (Ret (.tuple #[NrZ,.int .i64 7]) w)).mono ?_
  · skip
    go_enter Tryz.func5,Tryz.ntmps5
    have hp := Hp.start [] w
    go_wp2_with (first|((with_reducible apply Qau hp);exact zs rfl;exact rfl;clear hp;(try clear w1);intro g w1 hp;simp only [zp,zq,z0,z1])|((with_reducible apply Qag hp);exact ii;exact rfl;clear hp;(try clear w1);intro g w1 hp;simp only [zp,zq,z0,z1])|((with_reducible apply Qai hp);exact zt rfl;exact ii;exact ii;(exact zso rfl);simp only [zp,zq,z0,z1])|((with_reducible apply Qae hp);exact zt rfl;(first|exact za rfl|exact zi rfl);exact rfl;exact Sz.z;exact rfl;exact ii;(simp only [n0,Nat.reduceAdd,nn];try rfl);(exact zl rfl);exact rfl;exact ii;clear hp;(try clear w1);intro w1 hp)|((with_reducible refine Qaf hp (RK.out _ hp.keep) ?_);clear hp;(try clear w1);intro w1 hp)|((with_reducible apply Qbm);exact rfl))
    exact bodyPost_ret (Qan rfl ⟨_,rfl,Qac hp (Nat.le_of_ble_eq_true rfl)⟩ ⟨_,rfl,Qbt hp rfl⟩) rfl ⟨rfl,hp.keep⟩
  · rintro e w1 ⟨rfl,hk⟩
    exact ⟨.slice none 0 0,by rw [NrZ_eq],hk,.inl ⟨rfl,rfl⟩,fun g o n c e => by cases e⟩
end Go.Proofs.YtdfdmeoalbpcdaaGreat
