/-
  Package simplex: choices (contract of what it hands back).
-/
import Derived.Test.YtdfdmeoalbpcdaaQj
set_option linter.unusedSimpArgs false
set_option linter.unusedVariables false
set_option maxRecDepth 100000
namespace Go.Proofs.Ytdfdmeoalbpcdaa
open Go Go.RowKit
attribute [local irreducible] wpList
theorem Qpg (n : Int) (w : World) : Calls Try.prog 22 #[.int .i64 n] w (RetN (fun g => .func (.func 42) #[] #[.pointer (some ⟨g,0,none⟩)]) 3 [.int .i64 n] w) := by
  have hmf : ∀ (fn : Fn) (first cap : Array Value) (w : World),(Instr.makeFunc fn first cap).run Try.prog w = .ok (.func fn first cap) w := fun _ _ _ _ => rfl
  go_enter Try.func22,Try.ntmps22
  have hp := Hp.start [] w
  go_wp2_with ((with_reducible apply Qaw hp);exact zi rfl;exact rfl;clear hp;(try clear w1);intro g w1 hp;simp only [zp,zq,z0,z1])
  exact bodyPost_ret (Qab rfl rfl) rfl ⟨_,rfl,hp.keep,hp.fresh,hp.blk⟩
theorem OF.own {v : Value} {L : List (List Nat)} {H : List Bk} (h : OF v L H) (hL : L ≠ []) : ∃ (g cap : Nat) (vs junk : List Value) (Bs : List Bk),v = .slice (some ⟨g,0,none⟩) vs.length cap ∧ SLL Bs vs L ∧ H = ⟨g,31,vs ++ junk⟩ :: Bs := by
  rcases h with ⟨_,h,_⟩|⟨g,cap,vs,junk,Bs,h1,_,_,_,h5,h6⟩
  · exact absurd h hL
  · exact ⟨g,cap,vs,junk,Bs,h1,h5,h6⟩
theorem sx_callL {P : Program} {w : World} {f : FuncId} {args : Array Value} {L : List (List Nat)} {R : Ending → World → Prop} (hc : Calls P f args w (RetS L w)) (hk : ∀ v H w1,OF v L H → Hp [] w H w1 → R (.returned v) w1) : Calls P f args w R :=
  hc.mono fun e w1 ⟨v,H,he,hO,hp⟩ => by subst he;exact hk v H w1 hO hp
/-- A slice of places, as it lies. -/
def SlW (W : World) (v : Value) (ks : List Nat) : Prop := (v = .slice none 0 0 ∧ ks = []) ∨ ∃ (g cap : Nat) (junk : List Value),v = .slice (some ⟨g,0,none⟩) ks.length cap ∧ W.heap[g]? = some (.cells ((ks.map fun k : Nat => Value.int .i64 (k : Int)) ++ junk).toArray 3 (0,0))
theorem SlW.keep {W W' : World} {v : Value} {ks : List Nat} (h : SlW W v ks) (hk : Keep [] W W') : SlW W' v ks := by
  rcases h with h|⟨g,cap,junk,h1,h2⟩
  · exact .inl h
  · exact .inr ⟨g,cap,junk,h1,hk.some h2⟩
theorem SLs.slw {X : List Nat} {w0 w : World} {Bs : List Bk} {v : Value} {ks : List Nat} (h : SLs Bs v ks) (hp : ∀ b ∈ Bs,w.heap[b.g]? = some (.cells b.cs.toArray b.t (0,0))) : SlW w v ks := by
  rcases h with h|⟨b,cap,junk,hb,ht,h1,h2⟩
  · exact .inl h
  · refine .inr ⟨b.g,cap,junk,h1,?_⟩
    have := hp b hb
    rw [h2,ht] at this
    exact this
/-- A slice whose block is a new one. -/
def FrS (B : Nat) (v : Value) : Prop := ∀ (g o n c : Nat),v = .slice (some ⟨g,o,none⟩) n c → B ≤ g
theorem SLs.frs {B : Nat} {Bs : List Bk} {v : Value} {ks : List Nat} (h : SLs Bs v ks) (hp : ∀ b ∈ Bs,B ≤ b.g) : FrS B v := by
  intro g o n c e
  rcases h with ⟨rfl,_⟩|⟨b,cap,junk,hb,ht,h1,h2⟩
  · cases e
  · rw [h1] at e
    cases e
    exact hp b hb
def chL (n j : Nat) : List (List Nat) := (List.range j).flatMap (fun j => lsz n (j + 1) (2 ^ n - 1) 0)
theorem Qjf (n j : Nat) : chL n (j + 1) = chL n j ++ lsz n (j + 1) (2 ^ n - 1) 0 := by
  unfold chL
  rw [List.range_succ,List.flatMap_append]
  simp
theorem chL_pre (n : Nat) : ∀ j,j ≤ n → ∃ r,chL n j ++ r = chL n n := by
  intro j hj
  obtain ⟨d,rfl⟩ : ∃ d,n = j + d := ⟨n - j,by omega⟩
  have : ∀ d m,∃ r,chL m j ++ r = chL m (j + d) := by
    intro d
    induction d with
    | zero => intro m;exact ⟨[],by simp⟩
    | succ d ih =>
      intro m
      obtain ⟨r,hr⟩ := ih m
      refine ⟨r ++ lsz m (j + d + 1) (2 ^ m - 1) 0,?_⟩
      rw [← Nat.add_assoc,Qjf,← hr,List.append_assoc]
  exact this d _
theorem lz11 : ((lsz 1 1 (2 ^ 1 - 1) 0).length == 0) = false := by kernel_rfl
theorem lz21 : ((lsz 2 1 (2 ^ 2 - 1) 0).length == 0) = false := by kernel_rfl
theorem lz22 : ((lsz 2 2 (2 ^ 2 - 1) 0).length == 0) = false := by kernel_rfl
theorem lz31 : ((lsz 3 1 (2 ^ 3 - 1) 0).length == 0) = false := by kernel_rfl
theorem lz32 : ((lsz 3 2 (2 ^ 3 - 1) 0).length == 0) = false := by kernel_rfl
theorem lz33 : ((lsz 3 3 (2 ^ 3 - 1) 0).length == 0) = false := by kernel_rfl
theorem lz41 : ((lsz 4 1 (2 ^ 4 - 1) 0).length == 0) = false := by kernel_rfl
theorem lz42 : ((lsz 4 2 (2 ^ 4 - 1) 0).length == 0) = false := by kernel_rfl
theorem lz43 : ((lsz 4 3 (2 ^ 4 - 1) 0).length == 0) = false := by kernel_rfl
theorem lz44 : ((lsz 4 4 (2 ^ 4 - 1) 0).length == 0) = false := by kernel_rfl
theorem lsz_some (n z : Nat) (h4 : n ≤ 4) (hz : 1 ≤ z) (hzn : z ≤ n) : lsz n z (2 ^ n - 1) 0 ≠ [] := by
  intro h0
  have hc : ((lsz n z (2 ^ n - 1) 0).length == 0) = false := by
    have h : (n = 1 ∧ z = 1) ∨ (n = 2 ∧ z = 1) ∨ (n = 2 ∧ z = 2) ∨ (n = 3 ∧ z = 1) ∨ (n = 3 ∧ z = 2) ∨ (n = 3 ∧ z = 3) ∨ (n = 4 ∧ z = 1) ∨ (n = 4 ∧ z = 2) ∨ (n = 4 ∧ z = 3) ∨ (n = 4 ∧ z = 4) := by omega
    clear h0
    rcases h with ⟨rfl,rfl⟩|⟨rfl,rfl⟩|⟨rfl,rfl⟩|⟨rfl,rfl⟩|⟨rfl,rfl⟩|⟨rfl,rfl⟩|⟨rfl,rfl⟩|⟨rfl,rfl⟩|⟨rfl,rfl⟩|⟨rfl,rfl⟩
    · exact lz11
    · exact lz21
    · exact lz22
    · exact lz31
    · exact lz32
    · exact lz33
    · exact lz41
    · exact lz42
    · exact lz43
    · exact lz44
  rw [h0] at hc
  simp at hc
abbrev Elt : Type := Value × List Nat
set_option maxHeartbeats 8000000 in
theorem Qlq (m n B : Nat) (h1 : 1 ≤ n) (hn : (n : Int) ≤ 4) (gn : Nat) (w0 : World) (hB : B ≤ w0.heap.size) (hb0 : w0.heap[gn]? = some (.cells #[.int .i64 (n : Int)] 3 (0,0))) :
    Yields Try.prog m 42 #[.pointer (some ⟨gn,0,none⟩)] (fun x : Elt => x.1) (fun x W => SlW W x.1 x.2 ∧ x.2 ∈ chs n ∧ FrS B x.1) (fun xs => xs.map (·.2) = chs n) (fun pre => ∃ r,pre.map (·.2) ++ r = chs n) w0 := by
  intro l J Jx w hW hJ hJx hY h0
  have hb := hW.some hb0
  have hBw : B ≤ w.heap.size := Nat.le_trans hB hW.size
  have HY := Lib.hid hY
  have HJ := Lib.hid hJ
  have HJX := Lib.hid hJx
  have HC := Lib.hid (chs_sized n h1 (by omega))
  clear hY hJ hJx hW hb0
  refine callsIn_wide.2 ?_
  go_enter Try.func42,Try.ntmps42
  have hp := Hp.start [] w
  go_wp2_with (fail)
  go_loopw [3] (fun sv wr => ∃ (j : Nat) (xs : List Elt),(j : Int) ≤ n ∧ sv = .int .i64 ((j : Int) + 1) ∧ Hid (xs.map (·.2) = chL n j) ∧ Hid (J xs wr) ∧ Keep [] w wr) (fun iv _ => n + 1 - (intOf iv).toNat)
  case atStart => exact ⟨0,[],by omega,rfl,rfl,h0,hp.keep⟩
  case round =>
    clear hp
    obtain ⟨j,xs,hj,rfl,hxs,hJ,hk⟩ := hrel
    have hbr := hk.some hb
    have hp := Hp.start [] wr
    by_cases hjn : (j : Int) < n
    · have HNE := Lib.hid (lsz_some n (j + 1) (by omega) (by omega) (by omega))
      have SZ := Lib.hid (fun w1 => sized_at n (j + 1) hn w1)
      have e0 : ((j + 1 : Nat) : Int) = (j : Int) + 1 := by omega
      rw [e0] at SZ
      go_wp2_with (first|((with_reducible apply Qbm hp);exact zt rfl;assumption;exact ii;(exact zio rfl);simp only [zp,zq,z0,z1])|((with_reducible refine sx_callL (SZ.out _) ?_);clear hp;(try clear w1);intro v H1 w1 hOF hp;obtain ⟨g,cap,vs,junk,Bs,rfl,hSL,rfl⟩ := OF.own hOF HNE.out))
      have J5 : Hid (J xs w1) := HJ.out _ _ _ hJ.out hp.keep
      have k5 := hk.trans hp.keep
      have HG := hp.blk (g := g)
      have HB : Hid (∀ b ∈ Bs,w1.heap[b.g]? = some (.cells b.cs.toArray b.t (0,0))) := fun b hb => (hp.own b (List.mem_cons_of_mem _ hb)).2
      have HSL := Lib.hid hSL
      have HBf : Hid (∀ b ∈ Bs,B ≤ b.g) := fun b hb => by
        have h1 := (hp.own b (List.mem_cons_of_mem _ hb)).1.resolve_left (by simp)
        have h2 := hk.size
        omega
      have hvl : Hid (vs.length ≤ 15) := by
        rw [Hid,hSL.length]
        unfold lsz
        rw [List.length_map]
        refine Nat.le_trans (List.length_filter_le _ _) ?_
        rw [List.length_map,List.length_range]
        have : 2 ^ n ≤ 2 ^ 4 := Nat.pow_le_pow_right (by omega) (by omega)
        omega
      clear hOF hJ hSL hbr
      obtain ⟨w5,hw5⟩ : ∃ x : World,x = w1 := ⟨_,rfl⟩
      subst hw5
      obtain ⟨nv,hnv⟩ : ∃ nv,nv = vs.length := ⟨_,rfl⟩
      rw [← hnv]
      have hnv5 : (nv : Int) ≤ 15 := by have := hvl.out;omega
      have HNV := Lib.hid hnv
      clear hnv
      go_loopw [15] (fun iv wr => ∃ (k : Nat) (ys : List Elt),(k : Int) ≤ nv ∧ iv = .int .i64 k ∧ Hid (ys.map (·.2) = chL n j ++ (lsz n (j + 1) (2 ^ n - 1) 0).take k) ∧ Hid (J ys wr) ∧ Keep [] w5 wr) (fun iv _ => nv - (intOf iv).toNat)
      case atStart => exact ⟨0,xs,by omega,rfl,by rw [List.take_zero,List.append_nil];exact hxs,J5,Keep.refl _ _⟩
      case round =>
        clear hp J5
        obtain ⟨k,ys,hkv,rfl,hys,hJ,hk6⟩ := hrel
        have hp := Hp.start [] wr
        by_cases hkn : (k : Int) < nv
        · have k0 : (0 : Int) ≤ (k : Int) := by omega
          obtain ⟨ks,hks⟩ : ∃ ks,(lsz n (j + 1) (2 ^ n - 1) 0)[k]? = some ks := ⟨_,List.getElem?_eq_getElem (by rw [← HSL.out.length];have := HNV.out;omega)⟩
          obtain ⟨v,hv,hvs⟩ := HSL.out.get hks
          have f1 : (vs ++ junk)[k * 1]? = some v := by rw [Nat.mul_one,List.getElem?_append_left (by have := HNV.out;omega)];exact hv
          have hG := hk6.some HG
          have hPx : SlW wr v ks ∧ ks ∈ chs n ∧ FrS B v := ⟨(SLs.slw (X := []) (w0 := wr) hvs HB.out).keep hk6,by
            obtain ⟨r1,hr1⟩ := chL_pre n (j + 1) (by omega)
            have hc : chL n n = chs n := HC.out
            rw [← hc,← hr1,Qjf]
            exact List.mem_append_left _ (List.mem_append_right _ (List.mem_of_getElem? hks)),hvs.frs HBf.out⟩
          obtain ⟨fn,tmps,asg,body,hy,hR⟩ := HY.out ys (v,ks) wr hPx hJ.out
          dsimp only at hy hR
          have HPX := Lib.hid hPx
          have HKS := Lib.hid hks
          clear hPx hvs hv hks
          go_upto_region 6 with (first|((with_reducible apply Qba);exact zx rfl;exact zk rfl;exact ii;(exact OneTy.size);omega;omega;((try simp only [m0,Int.reduceToNat,m1,m2,Nat.reduceMul,Nat.reduceAdd,m3,m4,m5,n0]);exact rfl);simp only [zp,zq,z0,z1])|((with_reducible apply Qbm hp);exact zt rfl;assumption;exact ii;(assumption);simp only [zp,zq,z0,z1]))
          refine (wpIn_wide (n := m)).1 ?_
          gi_wp2_with (fail)
          refine ⟨fun h => by simp [Fence.wide] at h,hR.mono ?_⟩
          clear hp hR hy
          rintro e W1 (⟨rfl,hJ1,hk1⟩|⟨rfl,hx⟩)
          · have hp := Hp.start [] W1
            have HJ1 := Lib.hid hJ1
            clear hJ1
            gi_wp2_with (fail)
            go_wp2_with (fail)
            go_roundw
            case rel =>
              refine ⟨k + 1,ys ++ [(v,ks)],by omega,rfl,?_,HJ1.out,hk6.trans hk1⟩
              rw [List.map_append,hys.out,List.take_add_one,HKS.out,List.append_assoc]
              rfl
            case measure => simp [intOf];omega
          · have hp := Hp.start [] W1
            have HX := Lib.hid hx
            clear hx
            gi_wp2_with (fail)
            go_wp2_with (fail)
            refine bodyPost_ret (results_none rfl _ _ _) rfl ⟨⟨_,rfl⟩,.inr ⟨ys ++ [(v,ks)],?_,HX.out⟩⟩
            obtain ⟨r1,hr1⟩ := chL_pre n (j + 1) (by omega)
            have hc : chL n n = chs n := HC.out
            refine ⟨(lsz n (j + 1) (2 ^ n - 1) 0).drop (k + 1) ++ r1,?_⟩
            rw [← hc,← hr1,Qjf,List.map_append,hys.out]
            have e7 := List.take_append_drop (k + 1) (lsz n (j + 1) (2 ^ n - 1) 0)
            rw [List.take_add_one,HKS.out] at e7
            conv => rhs;rw [← e7]
            simp
        · obtain rfl : k = nv := by omega
          go_wp2_with (fail)
          go_roundw
          case rel =>
            refine ⟨j + 1,ys,by omega,by rw [e0],?_,hJ,k5.trans hk6⟩
            rw [hys.out,Qjf,List.take_of_length_le (by rw [← HSL.out.length];have := HNV.out;omega)];rfl
          case measure => simp [intOf];omega
    · obtain rfl : j = n := by omega
      have hbn : wr.heap[gn]? = some (.cells #[.int .i64 (j : Int)] 3 (0,0)) := hbr
      go_wp2_with ((with_reducible apply Qbm hp);exact zt rfl;assumption;exact ii;(exact zio rfl);simp only [zp,zq,z0,z1])
      exact bodyPost_end (results_none rfl _ _ _) rfl ⟨⟨_,rfl⟩,.inl ⟨xs,hxs.out.trans HC.out,hJ.out⟩⟩
end Go.Proofs.Ytdfdmeoalbpcdaa
