/-
  Package grid: Prime (contract).
-/
import Derived.Test.YtdfdmeoalbpcdaaEc
import Derived.Test.YtdfdmeoalbpcdaaGd
set_option linter.unusedSimpArgs false
set_option linter.unusedVariables false
set_option maxRecDepth 100000
namespace Go.Proofs.Ytdfdmeoalbpcdaa
open Go Go.RowKit
def az (n : Int) : Int := if n < 0 then -n else n
/-- The divisor so far, as long as each has an absolute value that fits. -/
def Qod (a : Fin 3 → Int) (s : Option Int) (i : Fin 3) : Option Int := s.bind fun s => if Fit (az (a i)) then some (cg s (az (a i))) else none
def gacc (a : Fin 3 → Int) (l : List (Fin 3)) : Option Int := l.foldl (Qod a) (some 0)
theorem Qgv (a : Fin 3 → Int) (l : List (Fin 3)) (i : Fin 3) : gacc a (l ++ [i]) = Qod a (gacc a l) i := by simp [gacc,List.foldl_append]
theorem gacc_none {a : Fin 3 → Int} {l : List (Fin 3)} (hl : Went l) (h : gacc a l = none) : gacc a [0,1,2] = none := by
  have hs : ∀ i,Qod a none i = none := fun _ => rfl
  rcases hl with rfl|rfl|rfl
  · rw [show ([0,1,2] : List (Fin 3)) = ([0] ++ [1]) ++ [2] from rfl,Qgv,Qgv,h,hs,hs]
  · rw [show ([0,1,2] : List (Fin 3)) = [0,1] ++ [2] from rfl,Qgv,h,hs]
  · exact h
theorem Qlh (x y : Int) : 0 ≤ cg x y := by unfold cg;omega
theorem cg_fit {x y : Int} (hx : Fit x) (hy : Fit y) (hx0 : 0 ≤ x) (hy0 : 0 ≤ y) : Fit (cg x y) := by
  have h0 := Qlh x y
  have h1 : cg x y ≤ x ∨ cg x y ≤ y := by
    unfold cg
    by_cases h : x = 0
    · right
      subst h
      simp
      omega
    · left
      have := Nat.gcd_le_left y.toNat (show 0 < x.toNat by omega)
      omega
  unfold Fit at *
  omega
theorem sx_callN2 {P : Program} {X : List Nat} {w0 w : World} {H : List Bk} {f : FuncId} {args : Array Value} {v : Nat → Nat → Value} {t u : TypeId} {cs ds : List Value} {R : Ending → World → Prop} (hp : Hp X w0 H w) (hc : Calls P f args w (RetN2 v t cs u ds w)) (hk : ∀ g h w1,Hp X w0 (⟨g,t,cs⟩ :: ⟨h,u,ds⟩ :: H) w1 → R (.returned (v g h)) w1) : Calls P f args w R :=
  hc.mono fun e w1 ⟨g,h,he,hne,hw,hg,hh,hb,hb'⟩ => by subst he;exact hk g h w1 (hp.add2 hw hne hg hh hb hb')
set_option maxHeartbeats 2000000 in
theorem Qht (a g : Int) (ha : Fit a) (hg : Fit g) (gs : Nat) (w : World) (hb : w.heap[gs]? = some (.cells [.int .u64 (lb (g) 0),.int .u64 (lb (g) 1),.int .u64 (lb (g) 2),.int .u64 (lb (g) 3),.int .u64 (lb (g) 4),.int .u64 (lb (g) 5),.int .u64 (lb (g) 6),.int .u64 (lb (g) 7)].toArray 28 (0,0))) : Calls Try.prog 76 #[W a,.pointer (some ⟨gs,0,none⟩)] w (Ret (W (dvq a g)) w) := by
  have HD := Lib.hid (Qdn a g ha hg)
  have hp := Hp.startX (cs := [.int .u64 (lb (g) 0),.int .u64 (lb (g) 1),.int .u64 (lb (g) 2),.int .u64 (lb (g) 3),.int .u64 (lb (g) 4),.int .u64 (lb (g) 5),.int .u64 (lb (g) 6),.int .u64 (lb (g) 7)]) hb
  have HB := Lib.hid hb
  clear ha hg hb
  go_enter Try.func76,Try.ntmps76
  go_wp2_with (first|((with_reducible apply Qaw hp);(exact za rfl);exact rfl;clear hp;(try clear w1);intro g w1 hp;simp only [zp,zq,z0,z1])|((with_reducible apply Qae hp);exact ii;exact rfl;clear hp;(try clear w1);intro g w1 hp;simp only [zp,zq,z0,z1])|((with_reducible apply Qaa hp);exact zt rfl;exact ii;exact ii;(exact zl rfl);(simp only [n0,Nat.reduceAdd,nn];try rfl);simp only [zp,zq,z0,z1])|((with_reducible apply Qad hp);exact zt rfl;(exact za rfl);exact rfl;(exact AggTy.size);exact rfl;exact ii;(simp only [n0,Nat.reduceAdd,nn];try rfl);(exact zl rfl);exact rfl;exact ii;clear hp;(try clear w1);intro w1 hp)|((with_reducible refine Qah hp (HD.out _) ?_);clear hp;(try clear w1);intro w1 hp))
  exact bodyPost_ret (Qab rfl ⟨_,rfl,Qag hp (Nat.le_of_ble_eq_true rfl)⟩) rfl ⟨rfl,hp.stays fun k hk => by
    obtain rfl : k = gs := by simpa using hk
    exact ⟨⟨k,_,_⟩,Has.mem,rfl,HB.out⟩⟩
section
variable (w : World) (gs gk gp gn ga gb : Nat) (x y z : Int)
def BI (pre : List (Fin 3)) (W' : World) : Prop := ∃ s,Fit s ∧ 0 ≤ s ∧ gacc (nth x y z) pre = some s ∧ Hp [] w [⟨gb,30,Sl x y z⟩,⟨ga,30,Sl x y z⟩,⟨gs,28,[.int .u64 (lb (s) 0),.int .u64 (lb (s) 1),.int .u64 (lb (s) 2),.int .u64 (lb (s) 3),.int .u64 (lb (s) 4),.int .u64 (lb (s) 5),.int .u64 (lb (s) 6),.int .u64 (lb (s) 7)]⟩,⟨gk,4,[.bool false]⟩,⟨gp,30,[.int .u64 0,.int .u64 0,.int .u64 0,.int .u64 0,.int .u64 0,.int .u64 0,.int .u64 0,.int .u64 0,.int .u64 0,.int .u64 0,.int .u64 0,.int .u64 0,.int .u64 0,.int .u64 0,.int .u64 0,.int .u64 0,.int .u64 0,.int .u64 0,.int .u64 0,.int .u64 0,.int .u64 0,.int .u64 0,.int .u64 0,.int .u64 0]⟩,⟨gn,30,Sl x y z⟩] W'
def BX (c : Code) (pre : List (Fin 3)) (W' : World) : Prop := c = .ret ∧ gacc (nth x y z) pre = none ∧ ∃ s : List Value,Hp [] w [⟨gb,30,Sl x y z⟩,⟨ga,30,Sl x y z⟩,⟨gs,28,s⟩,⟨gk,4,[.bool false]⟩,⟨gp,30,[.int .u64 0,.int .u64 0,.int .u64 0,.int .u64 0,.int .u64 0,.int .u64 0,.int .u64 0,.int .u64 0,.int .u64 0,.int .u64 0,.int .u64 0,.int .u64 0,.int .u64 0,.int .u64 0,.int .u64 0,.int .u64 0,.int .u64 0,.int .u64 0,.int .u64 0,.int .u64 0,.int .u64 0,.int .u64 0,.int .u64 0,.int .u64 0]⟩,⟨gn,30,Sl x y z⟩] W'
def BA (i : Fin 3) (a' : Act) (W' : World) : Prop := ∃ g5 u0 u6 u7 u8 u9 u10 u11 u12 u13 u14 u15 u16 u17 u18 u19 u20 u21 u22 u23 u24 u25 u26 u27 u28 u29 u30 u31 u32 u33 u34 u35 u36 u37 u38 u39 u40 u41 u42 u43 u44 u45 u46,[g5,gb,ga,gs,gk,gp,gn].Nodup ∧ w.heap.size ≤ g5 ∧ W'.heap[g5]? = some (.cells [.int .u64 (lb (nth x y z i) 0),.int .u64 (lb (nth x y z i) 1),.int .u64 (lb (nth x y z i) 2),.int .u64 (lb (nth x y z i) 3),.int .u64 (lb (nth x y z i) 4),.int .u64 (lb (nth x y z i) 5),.int .u64 (lb (nth x y z i) 6),.int .u64 (lb (nth x y z i) 7)].toArray 28 (0,0)) ∧
  a' = { tmps := #[u0,.pointer (some ⟨gn,0,none⟩),.pointer (some ⟨gp,0,none⟩),.pointer (some ⟨gk,0,none⟩),.pointer (some ⟨gs,0,none⟩),.pointer (some ⟨g5,0,none⟩),u6,u7,u8,u9,u10,u11,u12,u13,u14,u15,u16,u17,u18,u19,u20,u21,u22,u23,u24,u25,u26,u27,u28,u29,u30,u31,u32,u33,u34,u35,u36,u37,u38,u39,u40,u41,u42,u43,u44,u45,u46],defers := [] }
end
theorem Sv_zero : Sv 0 0 0 = .agg #[.int .u64 0,.int .u64 0,.int .u64 0,.int .u64 0,.int .u64 0,.int .u64 0,.int .u64 0,.int .u64 0,.int .u64 0,.int .u64 0,.int .u64 0,.int .u64 0,.int .u64 0,.int .u64 0,.int .u64 0,.int .u64 0,.int .u64 0,.int .u64 0,.int .u64 0,.int .u64 0,.int .u64 0,.int .u64 0,.int .u64 0,.int .u64 0] := by unfold Sv;simp only [Qdl]
/-- What Prime hands back. -/
def prv (x y z : Int) : Value := match gacc (nth x y z) [0,1,2] with
  | none => .tuple #[Sv 0 0 0,.bool false]
  | some g => if g = 0 then .tuple #[Sv 0 0 0,.bool false] else .tuple #[Sv (dvq x g) (dvq y g) (dvq z g),.bool true]
set_option maxHeartbeats 8000000 in
theorem prime_any (x y z : Int) (hx : Fit x) (hy : Fit y) (hz0 : Fit z) (w : World) : Calls Try.prog 41 #[Sv x y z] w (Ret (prv x y z) w) := by
  have hmf : ∀ (fn : Fn) (first cap : Array Value) (w : World),(Instr.makeFunc fn first cap).run Try.prog w = .ok (.func fn first cap) w := fun _ _ _ _ => rfl
  refine (callsIn_wide (n := 8)).1 (callsIn_of_wp_marks Try.func41 rfl trivial (wpIn_wide.2 ?_) rfl)
  simp only [Try.ntmps41,List.size_toArray,List.length_cons,List.length_nil,Nat.reduceAdd,Nat.reduceSub,Array.replicate_succ,Array.replicate_zero,List.push_toArray,List.append_toArray,List.nil_append,List.cons_append]
  have hp := Hp.start [] w
  go_wp2_with (first|((with_reducible apply Qaw hp);exact za rfl;exact rfl;clear hp;(try clear w1);intro g w1 hp;simp only [zp,zq,z0,z1])|((with_reducible apply Qae hp);exact ii;exact rfl;clear hp;(try clear w1);intro g w1 hp;simp only [zp,zq,z0,z1])|((with_reducible apply Qaa hp);exact zt rfl;exact ii;exact ii;(exact zl rfl);(simp only [n0,Nat.reduceAdd,nn];try rfl);simp only [zp,zq,z0,z1])|((with_reducible refine sx_callN2 hp (Qka _ _ _ _ _ _ _) ?_);clear hp;(try clear w1);intro gA gB w1 hp))
  rename_i gn gp gk K hK
  obtain ⟨gs,rfl⟩ : ∃ z : Nat,z = g := ⟨_,rfl⟩
  have hne : gB ≠ gA := by
    have := hp.nd
    simp at this
    exact fun e => this.1.1 e.symm
  have hwl := hp.keep.size
  refine wpIn_wide.1 (wpIn_rangeFunc_ownH (α := Fin 3) rfl (show 1 ≤ 8 by omega) (gf := 84) (lb := #[.pointer (some ⟨gB,0,none⟩),.pointer (some ⟨gA,0,none⟩)]) rfl trivial (Go.Proofs.enters_of Try.func84 (by kernel_rfl) rfl)
    (Qgk _ x y z x y z gB gA hne _ hp.blk hp.blk) (fun h k => ⟨k.1.trans h.1,k.2.trans h.2⟩) ?keep (Below.refl _ _) (fun _ => rfl)
    (BI w gs gk gp gn gB gA x y z) (BX w gs gk gp gn gB gA x y z) ?ownI ?ownX ?start (BA w gs gk gp gn gB gA x y z) ?ownA ?assign ?body ?done ?stop)
  case keep =>
    intro W l o o' hl ho hc _
    have h1 := hp.lt (b := ⟨gA,_,_⟩) (by simp;left;exact ⟨rfl,rfl⟩)
    have h2 := hp.lt (b := ⟨gB,_,_⟩) (by simp;right;left;exact ⟨rfl,rfl⟩)
    exact ⟨World.putObj_heap_other (fun e => by subst e;simp at h2;omega),World.putObj_heap_other (fun e => by subst e;simp at h1;omega)⟩
  case ownI => exact fun pre W W' row ⟨s,hs,h0,ha,h⟩ hg hr => ⟨s,hs,h0,ha,h.grown hp.keep.size hg hr⟩
  case ownX => exact fun c pre W W' row ⟨hc,ha,s,h⟩ hg hr => ⟨hc,ha,s,h.grown hp.keep.size hg hr⟩
  case start => exact ⟨0,Qbn,Int.le_refl _,rfl,by
    have e : ([.int .u64 0,.int .u64 0,.int .u64 0,.int .u64 0,.int .u64 0,.int .u64 0,.int .u64 0,.int .u64 0] : List Value) = [.int .u64 (lb (0) 0),.int .u64 (lb (0) 1),.int .u64 (lb (0) 2),.int .u64 (lb (0) 3),.int .u64 (lb (0) 4),.int .u64 (lb (0) 5),.int .u64 (lb (0) 6),.int .u64 (lb (0) 7)] := by simp only [Qdl]
    have h := hp.sub (H' := [⟨gA,30,Sl x y z⟩,⟨gB,30,Sl x y z⟩,⟨gs,28,[.int .u64 (lb (0) 0),.int .u64 (lb (0) 1),.int .u64 (lb (0) 2),.int .u64 (lb (0) 3),.int .u64 (lb (0) 4),.int .u64 (lb (0) 5),.int .u64 (lb (0) 6),.int .u64 (lb (0) 7)]⟩,⟨gk,4,[.bool false]⟩,⟨gp,30,[.int .u64 0,.int .u64 0,.int .u64 0,.int .u64 0,.int .u64 0,.int .u64 0,.int .u64 0,.int .u64 0,.int .u64 0,.int .u64 0,.int .u64 0,.int .u64 0,.int .u64 0,.int .u64 0,.int .u64 0,.int .u64 0,.int .u64 0,.int .u64 0,.int .u64 0,.int .u64 0,.int .u64 0,.int .u64 0,.int .u64 0,.int .u64 0]⟩,⟨gn,30,Sl x y z⟩]) (by rw [← e];repeat (with_reducible exact sb0))
    exact h⟩
  case ownA =>
    rintro i a' _ W W' row ⟨g5,u0,u6,u7,u8,u9,u10,u11,u12,u13,u14,u15,u16,u17,u18,u19,u20,u21,u22,u23,u24,u25,u26,u27,u28,u29,u30,u31,u32,u33,u34,u35,u36,u37,u38,u39,u40,u41,u42,u43,u44,u45,u46,hn,h5,hb5,e⟩ hg hr
    exact ⟨g5,u0,u6,u7,u8,u9,u10,u11,u12,u13,u14,u15,u16,u17,u18,u19,u20,u21,u22,u23,u24,u25,u26,u27,u28,u29,u30,u31,u32,u33,u34,u35,u36,u37,u38,u39,u40,u41,u42,u43,u44,u45,u46,hn,h5,Qgr rfl hb5 hg hr,e⟩
  case assign =>
    clear hK
    rintro l pre i Wr K ⟨s,hs,hs0,ha,hI⟩ hK
    have hp := hI.self
    have hc := hI.selfCells
    try dsimp only [List.map_cons,List.map_nil] at hp
    try dsimp only [List.map_cons,List.map_nil] at hc
    rw [Qim]
    simp only [List.setIfInBounds_toArray,List.set_cons_zero,List.set_cons_succ]
    gi_wp2_with (first|((with_reducible apply Qci hp);exact ii;exact rfl;clear hp;(try clear w1);intro g w1 hp;simp only [zp,zq,z0,z1])|((with_reducible apply Qcf hp);exact zt rfl;(exact za rfl);exact rfl;(exact AggTy.size);exact rfl;exact ii;(simp only [n0,Nat.reduceAdd,nn];try rfl);(exact zl rfl);exact rfl;exact ii;clear hp;(try clear w1);intro w1 hp))
    obtain ⟨g1,rfl⟩ : ∃ z : Nat,z = g := ⟨_,rfl⟩
    have hn := hp.nd
    try dsimp only [List.map_cons,List.map_nil] at hn
    have hn5 : g1 ∉ [gA,gB,gs,gk,gp,gn] := (List.nodup_cons.1 hn).1
    exact hK _ _ (hp.others hc) ⟨hp.blk.trans (hI.blk).symm,hp.blk.trans (hI.blk).symm⟩ ⟨s,hs,hs0,ha,(hI.within' hp hI.selfSizes).sub ((List.Sublist.refl _).cons _)⟩
      ⟨g1,_,_,_,_,_,_,_,_,_,_,_,_,_,_,_,_,_,_,_,_,_,_,_,_,_,_,_,_,_,_,_,_,_,_,_,_,_,_,_,_,_,_,hn,Nat.le_trans hI.keep.size (hp.newX hn5),hp.blk,rfl⟩
  case body =>
    clear hK
    rintro l pre i a' Wr - - ⟨s,hs,hs0,ha,hI⟩ ⟨g5,u0,u6,u7,u8,u9,u10,u11,u12,u13,u14,u15,u16,u17,u18,u19,u20,u21,u22,u23,u24,u25,u26,u27,u28,u29,u30,u31,u32,u33,u34,u35,u36,u37,u38,u39,u40,u41,u42,u43,u44,u45,u46,hn,h5,hb5,rfl⟩ -
    have hall : ∀ b ∈ ([⟨g5,28,[.int .u64 (lb (nth x y z i) 0),.int .u64 (lb (nth x y z i) 1),.int .u64 (lb (nth x y z i) 2),.int .u64 (lb (nth x y z i) 3),.int .u64 (lb (nth x y z i) 4),.int .u64 (lb (nth x y z i) 5),.int .u64 (lb (nth x y z i) 6),.int .u64 (lb (nth x y z i) 7)]⟩,⟨gA,30,Sl x y z⟩,⟨gB,30,Sl x y z⟩,⟨gs,28,[.int .u64 (lb (s) 0),.int .u64 (lb (s) 1),.int .u64 (lb (s) 2),.int .u64 (lb (s) 3),.int .u64 (lb (s) 4),.int .u64 (lb (s) 5),.int .u64 (lb (s) 6),.int .u64 (lb (s) 7)]⟩,⟨gk,4,[.bool false]⟩,⟨gp,30,[.int .u64 0,.int .u64 0,.int .u64 0,.int .u64 0,.int .u64 0,.int .u64 0,.int .u64 0,.int .u64 0,.int .u64 0,.int .u64 0,.int .u64 0,.int .u64 0,.int .u64 0,.int .u64 0,.int .u64 0,.int .u64 0,.int .u64 0,.int .u64 0,.int .u64 0,.int .u64 0,.int .u64 0,.int .u64 0,.int .u64 0,.int .u64 0]⟩,⟨gn,30,Sl x y z⟩] : List Bk),Wr.heap[b.g]? = some (.cells b.cs.toArray b.t (0,0)) := by
      intro b hb
      rcases List.mem_cons.1 hb with rfl|hb
      · exact hb5
      · exact (hI.own b hb).2
    have hc := Hp.hereCells hall
    have hp := Hp.here hall hn
    try dsimp only [List.map_cons,List.map_nil] at hp
    try dsimp only [List.map_cons,List.map_nil] at hc
    have hv := Qox hx hy hz0 i
    have HSG := Lib.hid (Qbu _ hv)
    have hX : ∀ e ∈ [g5,gA,gB,gs,gk,gp,gn],w.heap.size ≤ e := by
      intro e he
      rcases List.mem_cons.1 he with rfl|he
      · exact h5
      · exact hI.selfSizes e he
    have hst : gacc (nth x y z) (pre ++ [i]) = Qod (nth x y z) (some s) i := by rw [Qgv,ha]
    by_cases hneg : nth x y z i < 0
    · have hsg : sgn (nth x y z i) = -1 := if_pos hneg
      rw [hsg] at HSG
      have haz : az (nth x y z i) = -nth x y z i := if_pos hneg
      have hng := Qfg (nth x y z i) hv
      by_cases hf : Fit (-nth x y z i)
      · rw [decide_eq_true hf,show fz (-nth x y z i) = -nth x y z i from if_pos hf] at hng
        have HNG := Lib.hid hng
        have HCM := Lib.hid (Qmc s (-nth x y z i) hs hf hs0 (by omega))
        have hcf := cg_fit hs hf hs0 (by omega)
        clear hng
        gi_wp2_with (first|((with_reducible apply Qci hp);exact ii;exact rfl;clear hp;(try clear w1);intro g w1 hp;simp only [zp,zq,z0,z1])|((with_reducible apply Qbs hp);exact zt rfl;exact ii;exact ii;(exact zl rfl);(simp only [n0,Nat.reduceAdd,nn];try rfl);simp only [zp,zq,z0,z1])|((with_reducible apply Qcf hp);exact zt rfl;(exact za rfl);exact rfl;(exact AggTy.size);exact rfl;exact ii;(simp only [n0,Nat.reduceAdd,nn];try rfl);(exact zl rfl);exact rfl;exact ii;clear hp;(try clear w1);intro w1 hp)|((with_reducible refine Qbh hp (HSG.out _) ?_);clear hp;(try clear w1);intro w1 hp)|((with_reducible refine Qbh hp (HNG.out _) ?_);clear hp;(try clear w1);intro w1 hp)|((with_reducible refine Qbh hp (HCM.out _) ?_);clear hp;(try clear w1);intro w1 hp))
        exact ⟨hp.others hc,⟨hp.blk.trans (hI.blk).symm,hp.blk.trans (hI.blk).symm⟩,cg s (-nth x y z i),hcf,Qlh _ _,by rw [hst];simp only [Qod,Option.bind_some,haz,hf,if_true],(hI.within' hp hX).sub (by repeat (first|with_reducible exact sb0|with_reducible apply sb3))⟩
      · rw [decide_eq_false hf,show fz (-nth x y z i) = 0 from if_neg hf] at hng
        have HNG := Lib.hid hng
        clear hng
        gi_wp2_with (first|((with_reducible apply Qci hp);exact ii;exact rfl;clear hp;(try clear w1);intro g w1 hp;simp only [zp,zq,z0,z1])|((with_reducible apply Qbs hp);exact zt rfl;exact ii;exact ii;(exact zl rfl);(simp only [n0,Nat.reduceAdd,nn];try rfl);simp only [zp,zq,z0,z1])|((with_reducible apply Qcf hp);exact zt rfl;(first|exact za rfl|exact zb rfl);exact rfl;exact Sz.z;exact rfl;exact ii;(simp only [n0,Nat.reduceAdd,nn];try rfl);(exact zl rfl);exact rfl;exact ii;clear hp;(try clear w1);intro w1 hp)|((with_reducible refine Qbh hp (HSG.out _) ?_);clear hp;(try clear w1);intro w1 hp)|((with_reducible refine Qbh hp (HNG.out _) ?_);clear hp;(try clear w1);intro w1 hp))
        exact ⟨hp.others hc,rfl,by rw [hst];simp only [Qod,Option.bind_some,haz,hf,if_false],_,(hI.within' hp hX).sub (by repeat (first|with_reducible exact sb0|with_reducible apply sb3))⟩
    · have hsg : ¬ sgn (nth x y z i) < 0 := by
        unfold sgn
        rw [if_neg hneg]
        split <;> omega
      have haz : az (nth x y z i) = nth x y z i := if_neg hneg
      have HCM := Lib.hid (Qmc s (nth x y z i) hs hv hs0 (by omega))
      have hcf := cg_fit hs hv hs0 (by omega)
      gi_wp2_with (first|((with_reducible apply Qbs hp);exact zt rfl;exact ii;exact ii;(exact zl rfl);(simp only [n0,Nat.reduceAdd,nn];try rfl);simp only [zp,zq,z0,z1])|((with_reducible apply Qcf hp);exact zt rfl;(exact za rfl);exact rfl;(exact AggTy.size);exact rfl;exact ii;(simp only [n0,Nat.reduceAdd,nn];try rfl);(exact zl rfl);exact rfl;exact ii;clear hp;(try clear w1);intro w1 hp)|((with_reducible refine Qbh hp (HSG.out _) ?_);clear hp;(try clear w1);intro w1 hp)|((with_reducible refine Qbh hp (HCM.out _) ?_);clear hp;(try clear w1);intro w1 hp))
      exact ⟨hp.others hc,⟨hp.blk.trans (hI.blk).symm,hp.blk.trans (hI.blk).symm⟩,cg s (nth x y z i),hcf,Qlh _ _,by rw [hst];simp only [Qod,Option.bind_some,haz,hv,if_true],(hI.within' hp hX).sub (by repeat (first|with_reducible exact sb0|with_reducible apply sb3))⟩
  case done =>
    rintro D xs Wr hD rfl ⟨s,hs,hs0,ha,hI⟩ hdef
    have hp := hI.self
    try dsimp only [List.map_cons,List.map_nil] at hp
    have hz := Qcg hs Qbn
    rw [Qcd] at hz
    by_cases h0 : s = 0
    · rw [decide_eq_true h0] at hz
      have H0 := Lib.hid h0
      clear h0
      go_wp2_with (first|((with_reducible apply Qaa hp);exact zt rfl;exact ii;exact ii;(exact zl rfl);(simp only [n0,Nat.reduceAdd,nn];try rfl);simp only [zp,zq,z0,z1])|((with_reducible apply Qad hp);exact zt rfl;(first|exact za rfl|exact zb rfl);exact rfl;exact Sz.z;exact rfl;exact ii;(simp only [n0,Nat.reduceAdd,nn];try rfl);(exact zl rfl);exact rfl;exact ii;clear hp;(try clear w1);intro w1 hp))
      obtain ⟨hd1,hp1⟩ := Hp.shut hwl hD hI rfl hp hdef
      refine ⟨by simp,.inl ⟨_,_,rfl,run_takeDeferred hd1,?_⟩⟩
      have e : prv x y z = .tuple #[.agg #[.int .u64 0,.int .u64 0,.int .u64 0,.int .u64 0,.int .u64 0,.int .u64 0,.int .u64 0,.int .u64 0,.int .u64 0,.int .u64 0,.int .u64 0,.int .u64 0,.int .u64 0,.int .u64 0,.int .u64 0,.int .u64 0,.int .u64 0,.int .u64 0,.int .u64 0,.int .u64 0,.int .u64 0,.int .u64 0,.int .u64 0,.int .u64 0],.bool false] := by
        unfold prv
        rw [ha]
        dsimp only
        rw [if_pos H0.out,Sv_zero]
      rw [e]
      exact ⟨_,Qat rfl ⟨_,rfl,Qag hp1 (Nat.le_of_ble_eq_true rfl)⟩ ⟨_,rfl,Qbg hp1 rfl⟩,rfl,hp1.keep⟩
    · rw [decide_eq_false h0] at hz
      go_wp2_with ((with_reducible apply Qaa hp);exact zt rfl;exact ii;exact ii;(exact zl rfl);(simp only [n0,Nat.reduceAdd,nn];try rfl);simp only [zp,zq,z0,z1])
      have hq := hp
      clear hp
      have hp := hq.sub (.cons_cons _ (.cons_cons _ (.cons_cons _ (.cons_cons _ (.cons _ (List.Sublist.refl _))))))
      refine Qac hp hq [13,14] (.q 0 (.q 1 (.q 2 (.q 4 (.q 5 (.q 6 (.q 8 (.q 9 (.q 10 (.l 3 (.l 7 (.l 11 (.q 12 (.l 13 (.l 14 .nil))))))))))))))) (by kernel_rfl) (by kernel_rfl) ?_
      clear hp hq;(try clear w1);intro w1 hp hq
      repeat' (first|(((with_reducible apply sd_q);exact zo rfl);(first|((with_reducible apply Qaf hp);exact rfl;exact zt rfl;exact ii;exact ii;(exact zl rfl);(simp only [n0,Nat.reduceAdd,nn];try rfl);simp only [zp,zq,z0,z1])|((with_reducible apply Qar hp);(exact zf rfl);simp only [zp,zq,z0,z1])|((with_reducible apply Qaj hp);exact rfl;(focus (intro _;go_simp;(try go_ints);try with_reducible rfl));simp only [zp,zq,z0,z1])))|(((with_reducible apply sd_l);exact zo rfl);(first|((with_reducible apply Qmn hp);exact rfl;(focus (intro _;go_simp;try first|with_reducible rfl|exact ⟨rfl,rfl⟩));(with_reducible exact Qht x s hx hs gs _ hq.blk);exact hq;clear hp hq;(try clear w1);intro w1 hp hq;simp only [zp,zq,z0,z1])|((with_reducible apply Qmn hp);exact rfl;(focus (intro _;go_simp;try first|with_reducible rfl|exact ⟨rfl,rfl⟩));(with_reducible exact Qht y s hy hs gs _ hq.blk);exact hq;clear hp hq;(try clear w1);intro w1 hp hq;simp only [zp,zq,z0,z1])|((with_reducible apply Qmn hp);exact rfl;(focus (intro _;go_simp;try first|with_reducible rfl|exact ⟨rfl,rfl⟩));(with_reducible exact Qht z s hz0 hs gs _ hq.blk);exact hq;clear hp hq;(try clear w1);intro w1 hp hq;simp only [zp,zq,z0,z1])|((with_reducible apply Qao hq);exact rfl;exact zt rfl;(first|exact za rfl|exact zb rfl);exact rfl;exact Sz.z;exact rfl;exact ii;(simp only [n0,Nat.reduceAdd,nn];try rfl);(exact zl rfl);exact rfl;exact ii;(repeat (first|exact sb0|apply sb2|apply sb3));clear hp hq;(try clear w1);intro w1 hp hq)|((with_reducible apply Qax hq);exact rfl;exact zt rfl;(exact zb rfl);exact rfl;(exact OneTy.size);exact rfl;exact ii;(simp only [n0,Nat.reduceAdd,nn];try rfl);(exact zl rfl);exact rfl;exact ii;exact rfl;clear hp hq;(try clear w1);intro w1 hq;have hp := True.intro)))|((with_reducible apply Qam);clear hp;have hp := hq;clear hq))
      go_wp2
      obtain ⟨hd1,hp1⟩ := Hp.shut hwl hD hI rfl hp hdef
      refine ⟨by simp,.inl ⟨_,_,rfl,run_takeDeferred hd1,?_⟩⟩
      have e : prv x y z = .tuple #[Sv (dvq x s) (dvq y s) (dvq z s),.bool true] := by
        unfold prv
        rw [ha]
        dsimp only
        rw [if_neg h0]
      rw [e]
      exact ⟨_,Qat rfl ⟨_,rfl,Qag hp1 (Nat.le_of_ble_eq_true rfl)⟩ ⟨_,rfl,Qbg hp1 rfl⟩,rfl,hp1.keep⟩
  case stop =>
    rintro D c pre Wr hD hw ⟨rfl,ha,s,hI⟩ hdef
    refine wpIn_wide.2 ?_
    have hp := hI.self
    try dsimp only [List.map_cons,List.map_nil] at hp
    go_wp2_with (fail)
    obtain ⟨hd1,hp1⟩ := Hp.shut hwl hD hI rfl hp hdef
    refine ⟨by simp,.inl ⟨_,_,rfl,run_takeDeferred hd1,?_⟩⟩
    have e : prv x y z = .tuple #[.agg #[.int .u64 0,.int .u64 0,.int .u64 0,.int .u64 0,.int .u64 0,.int .u64 0,.int .u64 0,.int .u64 0,.int .u64 0,.int .u64 0,.int .u64 0,.int .u64 0,.int .u64 0,.int .u64 0,.int .u64 0,.int .u64 0,.int .u64 0,.int .u64 0,.int .u64 0,.int .u64 0,.int .u64 0,.int .u64 0,.int .u64 0,.int .u64 0],.bool false] := by
      unfold prv
      rw [gacc_none hw ha]
      dsimp only
      rw [Sv_zero]
    rw [e]
    exact ⟨_,Qat rfl ⟨_,rfl,Qag hp1 (Nat.le_of_ble_eq_true rfl)⟩ ⟨_,rfl,Qbg hp1 rfl⟩,rfl,hp1.keep⟩
end Go.Proofs.Ytdfdmeoalbpcdaa
