/-
  Package wide: Div's arithmetic; its deferred closure; Neg (contracts).
-/
import Derived.Test.YtdfdmeoalbpcdaaDc
import Derived.Test.YtdfdmeoalbpcdaaIn
set_option linter.unusedSimpArgs false
set_option linter.unusedVariables false
set_option maxRecDepth 100000
namespace Go.Proofs.Ytdfdmeoalbpcdaa
open Go Go.RowKit
/-! ### Quotients, rounded down -/
def fq (a b : Int) : Int := if b < 0 then -a / -b else a / b
def fr (a b : Int) : Int := a - fq a b * b
theorem Qfh {a b q r : Int} (h : a = q * b + r) (hr : (0 < b ∧ 0 ≤ r ∧ r < b) ∨ (b < 0 ∧ r ≤ 0 ∧ b < r)) : fq a b = q ∧ fr a b = r := by
  have e : fq a b = q := by
    unfold fq
    rcases hr with ⟨hb,h0,h1⟩|⟨hb,h0,h1⟩
    · rw [if_neg (by omega),h,Int.add_comm,Int.add_mul_ediv_right _ _ (by omega),Int.ediv_eq_zero_of_lt h0 h1]
      omega
    · rw [if_pos hb,h,show -(q * b + r) = -r + q * -b by rw [Int.mul_neg];omega,Int.add_mul_ediv_right _ _ (by omega),Int.ediv_eq_zero_of_lt (by omega) (by omega)]
      omega
  refine ⟨e,?_⟩
  unfold fr
  rw [e];omega
theorem fr_range {a b : Int} (hb : b ≠ 0) : (0 < b ∧ 0 ≤ fr a b ∧ fr a b < b) ∨ (b < 0 ∧ fr a b ≤ 0 ∧ b < fr a b) := by
  unfold fr fq
  rcases Int.lt_or_gt_of_ne hb with h|h
  · right
    rw [if_pos h]
    have h1 := Int.mul_ediv_add_emod (-a) (-b)
    have h2 := Int.emod_nonneg (-a) (show -b ≠ 0 by omega)
    have h3 := Int.emod_lt_of_pos (-a) (show 0 < -b by omega)
    rw [Int.neg_mul,Int.mul_comm] at h1
    generalize -a / -b * b = t at *
    omega
  · left
    rw [if_neg (by omega)]
    have h1 := Int.mul_ediv_add_emod a b
    have h2 := Int.emod_nonneg a hb
    have h3 := Int.emod_lt_of_pos a h
    rw [Int.mul_comm] at h1
    generalize a / b * b = t at *
    omega
/-- Of numbers with one sign. -/
theorem div_like {a b : Int} (hb : b ≠ 0) (hs : decide (a < 0) = decide (b < 0)) (A B : Int) (hA : A = if a < 0 then -a else a) (hB : B = if b < 0 then -b else b) : fq a b = A / B ∧ fr a b = if b < 0 then -(A % B) else A % B := by
  rw [decide_eq_decide] at hs
  have hB0 : 0 < B := by rw [hB];split <;> omega
  have h1 := Int.mul_ediv_add_emod A B
  have h2 := Int.emod_nonneg A (show B ≠ 0 by omega)
  have h3 := Int.emod_lt_of_pos A hB0
  rw [Int.mul_comm] at h1
  generalize hx : A / B = x at *
  generalize A % B = y at *
  by_cases hn : b < 0
  · rw [if_pos hn]
    rw [if_pos (hs.2 hn)] at hA
    rw [if_pos hn] at hB
    subst hA;subst hB
    rw [Int.mul_neg] at h1
    exact Qfh (by omega) (.inr ⟨hn,by omega,by omega⟩)
  · rw [if_neg hn]
    rw [if_neg (fun h => hn (hs.1 h))] at hA
    rw [if_neg hn] at hB
    subst hA;subst hB
    exact Qfh (by omega) (.inl ⟨by omega,by omega,by omega⟩)
/-- Of numbers of unlike signs. -/
theorem div_unlike {a b : Int} (hb : b ≠ 0) (hs : decide (a < 0) = !decide (b < 0)) (A B : Int) (hA : A = if a < 0 then -a else a) (hB : B = if b < 0 then -b else b) :
    (A % B = 0 → fq a b = -(A / B) ∧ fr a b = 0) ∧ (A % B ≠ 0 → fq a b = -(A / B + 1) ∧ fr a b = if b < 0 then -(B - A % B) else B - A % B) := by
  have hB0 : 0 < B := by rw [hB];split <;> omega
  have h1 := Int.mul_ediv_add_emod A B
  have h2 := Int.emod_nonneg A (show B ≠ 0 by omega)
  have h3 := Int.emod_lt_of_pos A hB0
  rw [Int.mul_comm] at h1
  generalize hx : A / B = x at *
  generalize A % B = y at *
  by_cases hn : b < 0
  · have ha : ¬ a < 0 := by simpa [hn] using hs
    rw [if_neg ha] at hA
    rw [if_pos hn] at hB
    rw [if_pos hn]
    subst hA;subst hB
    rw [Int.mul_neg] at h1
    refine ⟨fun hy => Qfh (by rw [Int.neg_mul];omega) (.inr ⟨hn,by omega,by omega⟩),fun hy => Qfh ?_ (.inr ⟨hn,by omega,by omega⟩)⟩
    rw [Int.neg_mul,Int.add_mul];omega
  · have ha : a < 0 := by simpa [hn] using hs
    rw [if_pos ha] at hA
    rw [if_neg hn] at hB
    rw [if_neg hn]
    subst hA;subst hB
    refine ⟨fun hy => Qfh (by rw [Int.neg_mul];omega) (.inl ⟨by omega,by omega,by omega⟩),fun hy => Qfh ?_ (.inl ⟨by omega,by omega,by omega⟩)⟩
    rw [Int.neg_mul,Int.add_mul];omega
theorem Qfx {P : Program} {w : World} {fn : Func} {tmps : Array Value} {p q r : Nat} {t u s : TypeId} {a b c : Addr} {x y z : Value} (hf : fn.results = #[.cell p t,.cell q u,.cell r s])
    (h1 : tmps.getD p undef = .pointer (some a)) (h1' : (loadVar t a).run P w = .ok x w) (h2 : tmps.getD q undef = .pointer (some b)) (h2' : (loadVar u b).run P w = .ok y w) (h3 : tmps.getD r undef = .pointer (some c)) (h3' : (loadVar s c).run P w = .ok z w) :
    (results fn tmps).run P w = .ok (.tuple #[x,y,z]) w := by
  have e1 : tmps[p]?.getD undef = .pointer (some a) := by simpa using h1
  have e2 : tmps[q]?.getD undef = .pointer (some b) := by simpa using h2
  have e3 : tmps[r]?.getD undef = .pointer (some c) := by simpa using h3
  simp [results,hf,e1,e2,e3,asAddr,h1',h2',h3']
/-- Blocks that were written, and are as they were. -/
theorem Hp.stays {X : List Nat} {w w' : World} {H : List Bk} (hp : Hp X w H w') (h : ∀ g ∈ X,∃ b ∈ H,b.g = g ∧ w.heap[g]? = some (.cells b.cs.toArray b.t (0,0))) : Keep [] w w' :=
  ⟨hp.keep.os,hp.keep.tape,hp.keep.output,hp.keep.size,fun k hk _ => by
    by_cases hx : k ∈ X
    · obtain ⟨b,hb,rfl,hw⟩ := h k hx
      rw [hw]
      exact (hp.own b hb).2
    · exact hp.keep.block k hk hx⟩
set_option maxHeartbeats 1000000 in
/-- The deferred closure of Div, where the body has panicked. -/
theorem div_catch (gq gr gk : Nat) (u : TypeId) (pv : Value) (w : World) (hnd : [gq,gr,gk].Nodup) (h1 : w.heap[gq]? = some (.cells #[.int .u64 0,.int .u64 0,.int .u64 0,.int .u64 0,.int .u64 0,.int .u64 0,.int .u64 0,.int .u64 0] 28 (0,0))) (h2 : w.heap[gr]? = some (.cells #[.int .u64 0,.int .u64 0,.int .u64 0,.int .u64 0,.int .u64 0,.int .u64 0,.int .u64 0,.int .u64 0] 28 (0,0))) (h3 : w.heap[gk]? = some (.cells #[.bool false] 4 (0,0))) :
    CallsD Try.prog 58 #[.pointer (some ⟨gq,0,none⟩),.pointer (some ⟨gr,0,none⟩),.pointer (some ⟨gk,0,none⟩)] (.panicking [{ v := .iface u pv,recovered := false }]) w fun e u' w' =>
      e = .returned (.tuple #[]) ∧ u' = .panicking [{ v := .iface u pv,recovered := true }] ∧ Keep [] w w' := by
  refine callsD_of_wpS Try.func58 rfl fun c₀ css hu => ?_
  apply wpS_seq
  apply wpS_region
  simp [wpOpsS,go_sem,recoverD,hu,Try.ntmps58,Exit.thenS]
  have hp : Hp [gq,gr,gk] w [⟨gq,28,[.int .u64 0,.int .u64 0,.int .u64 0,.int .u64 0,.int .u64 0,.int .u64 0,.int .u64 0,.int .u64 0]⟩,⟨gr,28,[.int .u64 0,.int .u64 0,.int .u64 0,.int .u64 0,.int .u64 0,.int .u64 0,.int .u64 0,.int .u64 0]⟩,⟨gk,4,[.bool false]⟩] w :=
    ⟨Keep.refl _ _,fun b hb => by
      simp only [List.mem_cons,List.not_mem_nil,or_false] at hb
      rcases hb with rfl|rfl|rfl
      · exact ⟨.inl (by simp),h1⟩
      · exact ⟨.inl (by simp),h2⟩
      · exact ⟨.inl (by simp),h3⟩,hnd⟩
  have Hsame := Lib.hid fun w' (hp : Hp [gq,gr,gk] w [⟨gq,28,[.int .u64 0,.int .u64 0,.int .u64 0,.int .u64 0,.int .u64 0,.int .u64 0,.int .u64 0,.int .u64 0]⟩,⟨gr,28,[.int .u64 0,.int .u64 0,.int .u64 0,.int .u64 0,.int .u64 0,.int .u64 0,.int .u64 0,.int .u64 0]⟩,⟨gk,4,[.bool false]⟩] w') => hp.stays fun g hg => by
    simp only [List.mem_cons,List.not_mem_nil,or_false] at hg
    rcases hg with rfl|rfl|rfl
    · exact ⟨_,List.mem_cons_self,rfl,h1⟩
    · exact ⟨_,List.mem_cons_of_mem _ List.mem_cons_self,rfl,h2⟩
    · exact ⟨_,List.mem_cons_of_mem _ (List.mem_cons_of_mem _ List.mem_cons_self),rfl,h3⟩
  clear h1 h2 h3 hnd
  refine wpS_of_wp ?_
  simp only [Array.replicate_succ,Array.replicate_zero,List.push_toArray,List.append_toArray,List.nil_append,List.cons_append,List.setIfInBounds_toArray,List.set_cons_zero,List.set_cons_succ]
  go_wp2_with ((with_reducible apply Qad hp);exact zt rfl;(first|exact za rfl|exact zb rfl);exact rfl;exact Sz.z;exact rfl;exact ii;(simp only [n0,Nat.reduceAdd,nn];try rfl);(exact zl rfl);exact rfl;exact ii;clear hp;(try clear w1);intro w1 hp)
  exact ⟨rfl,_,rfl,_,results_none rfl _ _ _,rfl,rfl,Hsame.out _ hp⟩
set_option maxHeartbeats 1000000 in
/-- The deferred closure of Div, where the body has returned. -/
theorem div_idle (gq gr gk : Nat) (w : World) :
    CallsD Try.prog 58 #[.pointer (some ⟨gq,0,none⟩),.pointer (some ⟨gr,0,none⟩),.pointer (some ⟨gk,0,none⟩)] .returning w fun e u' w' => e = .returned (.tuple #[]) ∧ u' = .returning ∧ w' = w := by
  refine callsD_of_wpS Try.func58 rfl fun c₀ css hu => ?_
  apply wpS_seq
  apply wpS_region
  simp [wpOpsS,go_sem,recoverD,hu,Try.ntmps58,Exit.thenS]
  refine wpS_of_wp ?_
  simp only [Array.replicate_succ,Array.replicate_zero,List.push_toArray,List.append_toArray,List.nil_append,List.cons_append,List.setIfInBounds_toArray,List.set_cons_zero,List.set_cons_succ]
  go_wp2
  cases c₀
  simp_all [bodyPostS,results,Try.results58]
set_option maxHeartbeats 1000000 in
theorem Qfg (a : Int) (ha : Fit a) (w : World) : Calls Try.prog 16 #[W a] w (Ret (.tuple #[W (fz (-a)),.bool (decide (Fit (-a)))]) w) := by
  have hs := Qot 0 a Qbn ha
  rw [show 0 - a = -a by omega,show W 0 = .agg #[.int .u64 0,.int .u64 0,.int .u64 0,.int .u64 0,.int .u64 0,.int .u64 0,.int .u64 0,.int .u64 0] from Qfv] at hs
  have HS := Lib.hid hs
  clear hs ha
  go_enter Try.func16,Try.ntmps16
  have hp := Hp.start [] w
  go_wp2_with (first|((with_reducible apply Qaw hp);exact za rfl;exact rfl;clear hp;(try clear w1);intro g w1 hp;simp only [zp,zq,z0,z1])|((with_reducible apply Qae hp);exact ii;exact rfl;clear hp;(try clear w1);intro g w1 hp;simp only [zp,zq,z0,z1])|((with_reducible apply Qaa hp);exact zt rfl;exact ii;exact ii;(exact zl rfl);(simp only [n0,Nat.reduceAdd,nn];try rfl);simp only [zp,zq,z0,z1])|((with_reducible apply Qad hp);exact zt rfl;exact za rfl;exact rfl;(exact AggTy.size);exact rfl;exact ii;(simp only [n0,Nat.reduceAdd,nn];try rfl);(exact zl rfl);exact rfl;exact ii;clear hp;(try clear w1);intro w1 hp)|((with_reducible refine Qah hp (HS.out _) ?_);clear hp;(try clear w1);intro w1 hp))
  exact bodyPost_ret (Qat rfl ⟨_,rfl,Qag hp (Nat.le_of_ble_eq_true rfl)⟩ rfl) rfl ⟨rfl,hp.keep⟩
end Go.Proofs.Ytdfdmeoalbpcdaa
