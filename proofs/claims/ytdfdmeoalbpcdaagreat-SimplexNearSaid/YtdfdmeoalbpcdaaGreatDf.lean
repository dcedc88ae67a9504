/-
  Slices in a region that draws: literals, append (laws of the walk).
  An operation with a guard (law of the walk).
  Package wide: Div (contract).
-/
import Derived.Test.YtdfdmeoalbpcdaaGreatSl
import Derived.Test.YtdfdmeoalbpcdaaGreatDe
set_option linter.unusedSimpArgs false
set_option linter.unusedVariables false
namespace Go.Proofs.YtdfdmeoalbpcdaaGreat
open Go Go.RowKit
section
variable {P : Program} {X : List Nat} {w0 w : World} {H Hq H' : List Bk} {g : Nat} {t : TypeId} {cs cs' : List Value}
variable {ops : Array Oper} {Q : Exit → Act → World → Prop} {a : Act} {N : List Nat} {i : Nat} {rest : Sc} {d p : Tmp} {tp ty : TypeId} {pos : String} {af : Array Edge} {gd : Option (Nat × Bool)} {off n : Nat}
theorem Qde {e : TypeId} {n m : Nat} {z : Value} {parts : List (Nat × Operand)} {vs cs : List Value} {ls : List (List Value)} (hq : Hp X w0 Hq w) (hsub : List.Sublist H Hq) (hw : Region.wanted ⟨some d,.buildSlice t n parts.toArray,tp,pos,af,gd⟩ (yielded ops a.tmps) = true)
    (ht : Qfk P t e) (hs : ∀ w,(sizeOf e).run P w = .ok m w) (hz : ZeroTy P e z) (hsm : n * m ≤ 2 ^ 24) (h0 : n * m ≠ 0)
    (hpv : (parts.map fun p => (p.1,a.eval p.2)) = Qbk 0 vs) (hn : vs.length = n) (hv : vs.map (·.cells) = ls.map (·.toArray)) (hl : ∀ l ∈ ls,l.length = m) (hcs : ls.flatten = cs)
    (hk : ∀ g w1,Hp X w0 H w1 → Hp X w0 (⟨g,e,cs⟩ :: Hq) w1 → Qbd P ops Q (Hp X w0 H) N rest (a.put (some d) (.slice (some ⟨g,0,none⟩) n n)) w1) : wpL P ops Q (Hp X w0 H) N i rest ⟨some d,.buildSlice t n parts.toArray,tp,pos,af,gd⟩ a w := by
  subst hcs
  refine Qek hw ?_
  unfold Oper.wp
  have hpv' : (parts.toArray.map fun (i,x) => (i,a.eval x)).toList = Qbk 0 vs := by rw [← hpv];simp
  simp only [execOp,Sem.run_bind,Qff hs hsm h0 hpv' hn hv hl,Result.andThen_ok]
  have h1 := hq.alloc e ls.flatten
  have h2 := h1.sub (hsub.cons _)
  exact ⟨fun _ => h2,hk _ _ h2 h1⟩
theorem Qfn {s x : Operand} {e : TypeId} {z : Value} {size bytes n m c gv cap gx : Nat} {ex : TypeId} {xs junk news : List Value} {H1 : List Bk} (hq : Hp X w0 Hq w) (hw : Region.wanted ⟨some d,.call { callee := .builtin .append,args := #[s,x],argTypes := #[t,t] },tp,pos,af,gd⟩ (yielded ops a.tmps) = true)
    (ht : Qfk P t e) (he : Qgf P e z size bytes) (hzs : z.cells.size = size) (hsz : 0 < size)
    (hs : a.eval s = .slice (some ⟨gv,0,none⟩) n cap) (hperm : Hq.Perm (⟨gv,e,xs ++ junk⟩ :: H1)) (hsub : List.Sublist H H1) (hxl : xs.length = n * size) (hjl : (xs ++ junk).length = cap * size) (hnc : n ≤ cap) (hcm : cap ≤ maxLen)
    (hx : a.eval x = .slice (some ⟨gx,0,none⟩) m c) (hh : Has Hq gx ex news) (hl : news.length = m * size) (h1 : news.all (·.oneCell') = true) (hm : m ≠ 0) (hm1 : n + m ≤ maxLen) (hm2 : (n + m) * bytes ≤ 140737488355328)
    (hk : ∀ g cap' junk' w1,(xs ++ news ++ junk').length = cap' * size → n + m ≤ cap' → cap' ≤ maxLen → Hp X w0 H w1 → Hp X w0 (⟨g,e,xs ++ news ++ junk'⟩ :: H1) w1 → Qbd P ops Q (Hp X w0 H) N rest (a.put (some d) (.slice (some ⟨g,0,none⟩) (n + m) cap')) w1) :
    wpL P ops Q (Hp X w0 H) N i rest ⟨some d,.call { callee := .builtin .append,args := #[s,x],argTypes := #[t,t] },tp,pos,af,gd⟩ a w := by
  obtain ⟨inf,hi,hi'⟩ : ∃ i,P.info? e = some i ∧ (i.zero,i.size,i.bytes) = (some z,size,bytes) := by
    have := he.info
    cases h : P.info? e with
    | none => rw [h] at this;cases this
    | some i => rw [h] at this;exact ⟨i,rfl,by simpa using this⟩
  simp only [Prod.mk.injEq] at hi'
  obtain ⟨hiz,his,hib⟩ := hi'
  have hbv := ((hq.perm hperm).own ⟨gv,e,xs ++ junk⟩ (by simp)).2
  obtain ⟨v',w',hrun,hr,hg,hnil,hob⟩ := run_append_own_at (P := P) w 0 t tp e inf z size bytes ht.und hi hiz his hib hzs hsz (.slice (some ⟨gv,0,none⟩) n cap) n xs ⟨hxl,.inr ⟨gv,cap,_,rfl,Nat.zero_le _,hbv,hnc,hcm,by simpa using hjl,by rw [List.toList_toArray,← hxl,List.take_left'];rfl⟩⟩ ⟨gx,0,none⟩ m c news hl (Qhs hq) (fun u hu => List.all_eq_true.1 h1 u hu) hm1 hm2 (Nat.zero_le _)
  refine Qek hw ?_
  unfold Oper.wp execOp
  simp only [resolve,invoke,builtin,Sem.run_bind,Sem.run_pure,Result.andThen_ok,List.map_toArray,List.map_cons,List.map_nil,hs,hx,hrun]
  obtain ⟨hlen,hr⟩ := hr
  rcases hr with ⟨rfl,h0⟩|⟨g,cap',cur,rfl,_,hb,hn,hc,hcs,htk⟩
  · exact absurd (hnil.1 rfl).2 hm
  · have hgs : g = gv ∨ g = w.heap.size := by
      rcases hob with h|h
      · left;simpa [Value.ownBlock] using h
      · right;simpa [Value.ownBlock] using h
    have e1 : cur.toList = xs ++ news ++ cur.toList.drop ((n + m) * size) := by rw [← htk,List.take_append_drop]
    have h1 := hq.grew (cs' := xs ++ news ++ cur.toList.drop ((n + m) * size)) hperm hg hgs (by rw [← e1];simpa using hb)
    have h2 := h1.sub (hsub.cons _)
    refine ⟨fun _ => h2,hk g cap' (cur.toList.drop ((n + m) * size)) w' ?_ hn hc h2 h1⟩
    rw [← e1];simpa using hcs
end
end Go.Proofs.YtdfdmeoalbpcdaaGreat

set_option linter.unusedVariables false
namespace Go.Proofs.YtdfdmeoalbpcdaaGreat
open Go Go.RowKit
structure Bx (p : Prop) : Prop where
  out : p
theorem Qge {P : Program} {ops : Array Oper} {Q : Exit → Act → World → Prop} {rest : List Oper} {a : Act} {w : World} {dst : Option Tmp} {op : Op} {tp : TypeId} {pos : String} {af : Array Edge} {gd : Nat × Bool}
    (h : match Region.wanted ⟨dst,op,tp,pos,af,some gd⟩ (yielded ops a.tmps) with
      | true => Bx (wpList P ops Q (⟨dst,op,tp,pos,af,none⟩ :: rest) a w)
      | false => Bx (wpList P ops Q rest (a.put dst undef) w)) : wpList P ops Q (⟨dst,op,tp,pos,af,some gd⟩ :: rest) a w := by
  cases hb : Region.wanted ⟨dst,op,tp,pos,af,some gd⟩ (yielded ops a.tmps) with
  | true => rw [hb] at h;exact Qbm hb h.out
  | false => rw [hb] at h;exact Qds hb h.out
/-! ### A load that is not Qeu ahead of its turn (its block is written in the same region) -/
section
variable {P : Program} {ops : Array Oper} {Q : Exit → Act → World → Prop} {N : List Nat} {X : List Nat} {w0 w : World} {H Hq : List Bk} {a : Act} {i : Nat} {rest : Sc}
variable {d p : Tmp} {tp ty : TypeId} {pos : String} {af : Array Edge} {gd : Option (Nat × Bool)} {g off n : Nat} {t : TypeId} {cs : List Value}
theorem Qbo (hp : Hp X w0 H w) (hq : Hp X w0 Hq w) (hw : Region.wanted ⟨some d,.load ty (.tmp p),tp,pos,af,gd⟩ (yielded ops a.tmps) = true)
    (hx : a.eval (.tmp p) = .pointer (some ⟨g,off,none⟩)) (h : Has Hq g t cs) (ht : AggTy P ty n) (hle : off + n ≤ cs.length) {vs : List Value} (hvs : (cs.drop off).take n = vs)
    (hk : Qbd P ops Q (Hp X w0 H) N rest (a.put (some d) (.agg vs.toArray)) w) : wpL P ops Q (Hp X w0 H) N i rest ⟨some d,.load ty (.tmp p),tp,pos,af,gd⟩ a w := by
  subst hvs
  refine Qek hw ?_
  unfold Oper.wp
  simp only [execOp,hx,Instr.loadAt,Instr.sureAddr,Sem.run_bind,Sem.run_pure,Result.andThen_ok,Qac hq hle,Oper.upon]
  exact ⟨fun _ => hp,hk⟩
end
end Go.Proofs.YtdfdmeoalbpcdaaGreat

set_option linter.unusedSimpArgs false
set_option linter.unusedVariables false
set_option maxRecDepth 100000
namespace Go.Proofs.YtdfdmeoalbpcdaaGreat
open Go Go.RowKit
theorem sz_abs {a : Int} (h : Fit a) : sz a = if a < 0 then -a else a := by
  unfold sz
  rw [Qco h]
  by_cases ha : a < 0 <;> simp [ha]
theorem Qky {b : Int} (h : b ≠ 0) : sgn b ≠ 0 := by
  unfold sgn
  split
  · omega
  · first|omega|(split <;> omega)
/-- wide.Div: the quotient, rounded down, and what is left; none by 0, none that does not fit. -/
theorem Qgc (a b : Int) (ha : Fit a) (hb : Fit b) (w : World) : Calls Tryz.prog 20 #[W a,W b] w (Ret (.tuple #[W (dvq a b),W (dvr a b),.bool (decide (dvok a b))]) w) := by
  by_cases hb0 : b = 0
  · have hn : ¬ dvok a b := fun h => h.1 hb0
    unfold dvq dvr
    rw [if_neg hn,if_neg hn,decide_eq_false hn,hb0]
    exact div_none a w
  · have hA := sz_abs ha
    have hB := sz_abs hb
    have hA0 : 0 ≤ sz a ∧ sz a ≤ M511 := by rw [hA];unfold Fit at ha;split <;> omega
    have hB0 : 0 < sz b ∧ sz b ≤ M511 := by rw [hB];unfold Fit at hb;split <;> omega
    have hM : M511 + M511 = M512 := by unfold M511 M512;omega
    have hM0 : 0 < M511 := by unfold M511;omega
    have hx0 : 0 ≤ sz a / sz b := Int.ediv_nonneg hA0.1 (by omega)
    have hx1 : sz a / sz b ≤ sz a := Int.ediv_le_self _ hA0.1
    have hy0 := Int.emod_nonneg (sz a) (show sz b ≠ 0 by omega)
    have hy1 := Int.emod_lt_of_pos (sz a) hB0.1
    have HS := Lib.hid (Qcn b hb)
    have HA := Lib.hid (Qne a)
    have HB := Lib.hid (Qne b)
    have HP := Lib.hid (parts_any (sz a) (sz b) hA0.1 (by omega) hB0.1 (by omega))
    have HNA := Lib.hid (Qdb a)
    have HNB := Lib.hid (Qdb b)
    have hfy : Fit (sz a % sz b) := by unfold Fit;omega
    have hfr := fr_range (a := a) hb0
    have hfrf : Fit (fr a b) := by unfold Fit at hb ⊢;omega
    have HI : Hid (∀ w,Calls Tryz.prog 44 #[W (sz a / sz b),.agg #[.int .u64 0,.int .u64 0,.int .u64 0,.int .u64 0,.int .u64 0,.int .u64 0,.int .u64 0,.int .u64 0],.int .u64 1] w (Ret (W (sz a / sz b + 1)) w)) := Lib.hid fun w => by
      have := Qgs (sz a / sz b) 0 1 (by omega) (by omega) w
      rw [Qfe,Int.add_zero] at this
      exact this
    have HN := Lib.hid (Qmn (sz a % sz b))
    have HJ : Hid (∀ w,Calls Tryz.prog 44 #[W (sz b),W (-(sz a % sz b) - 1),.int .u64 1] w (Ret (W (sz b - sz a % sz b)) w)) := Lib.hid fun w => by
      have := Qgs (sz b) (-(sz a % sz b) - 1) 1 (by omega) (by omega) w
      rw [show sz b + (-(sz a % sz b) - 1) + 1 = sz b - sz a % sz b by omega] at this
      exact this
    by_cases hs : decide (a < 0) = decide (b < 0)
    · obtain ⟨eq,er⟩ := div_like hb0 hs (sz a) (sz b) hA hB
      have hu : (ng a == ng b) = true := by rw [Qco ha,Qco hb,hs];simp
      by_cases hf : Fit (fq a b)
      · have hn : dvok a b := ⟨hb0,hf⟩
        unfold dvq dvr
        rw [if_pos hn,if_pos hn,decide_eq_true hn]
        refine Qnp a b (sz a) (sz b) _ _ (sz a / sz b) (sz a % sz b) _ _ _ _ w (Qky hb0) HS HA HB HP HNA HNB HI HN HJ (Lib.hid fun w => ?_) (Lib.hid fun w => ?_) (.inl ⟨hu,rfl,rfl⟩)
        · rw [hu,eq]
          rw [eq] at hf
          exact Qeh _ false hx0 hf w
        · have := Qeh (sz a % sz b) (ng b) hy0 (by rw [Qco hb];simp only [decide_eq_true_eq];rw [← er];exact hfrf) w
          rw [Qco hb] at this ⊢
          simp only [decide_eq_true_eq] at this
          rw [← er] at this
          exact this
      · have hn : ¬ dvok a b := fun h => hf h.2
        unfold dvq dvr
        rw [if_neg hn,if_neg hn,decide_eq_false hn]
        refine div_bad a b (sz a) (sz b) _ _ _ _ w (Qky hb0) HS HA HB HP HNA HNB (Lib.hid fun w => ?_) hu
        rw [hu]
        rw [eq] at hf
        exact Qin _ false hx0 (by omega) hf w
    · have hs' : decide (a < 0) = !decide (b < 0) := by
        cases h1 : decide (a < 0) <;> cases h2 : decide (b < 0) <;> simp [h1,h2] at hs ⊢
      obtain ⟨e0,e1⟩ := div_unlike hb0 hs' (sz a) (sz b) hA hB
      have hu : (ng a == ng b) = false := by rw [Qco ha,Qco hb];simpa using hs
      have hz := Qdr hfy Qbp
      by_cases hy : sz a % sz b = 0
      · obtain ⟨eq,er⟩ := e0 hy
        have hf : Fit (fq a b) := by rw [eq];unfold Fit;omega
        have hn : dvok a b := ⟨hb0,hf⟩
        unfold dvq dvr
        rw [if_pos hn,if_pos hn,decide_eq_true hn]
        rw [decide_eq_true hy] at hz
        refine Qnp a b (sz a) (sz b) _ _ (sz a / sz b) (sz a % sz b) _ _ _ _ w (Qky hb0) HS HA HB HP HNA HNB HI HN HJ (Lib.hid fun w => ?_) (Lib.hid fun w => ?_) (.inr (.inl ⟨hu,hz,rfl,rfl⟩))
        · rw [hu,eq]
          rw [eq] at hf
          exact Qeh _ true hx0 hf w
        · rw [er,hy]
          have := Qeh 0 (ng b) (by omega) (by split <;> exact Qbp) w
          have e : (if ng b = true then -(0 : Int) else 0) = 0 := by split <;> rfl
          rw [e] at this
          exact this
      · obtain ⟨eq,er⟩ := e1 hy
        have hx2 : sz a / sz b + 1 ≤ M511 := by
          by_cases h : sz a / sz b < M511
          · omega
          · exfalso
            replace h : M511 ≤ sz a / sz b := by omega
            have h1 := Int.mul_ediv_add_emod (sz a) (sz b)
            have h2 := Int.mul_le_mul (show (1 : Int) ≤ sz b by omega) h (by omega) (by omega)
            omega
        have hf : Fit (fq a b) := by rw [eq];unfold Fit;omega
        have hn : dvok a b := ⟨hb0,hf⟩
        unfold dvq dvr
        rw [if_pos hn,if_pos hn,decide_eq_true hn]
        rw [decide_eq_false hy] at hz
        refine Qnp a b (sz a) (sz b) _ _ (sz a / sz b + 1) (sz b - sz a % sz b) _ _ _ _ w (Qky hb0) HS HA HB HP HNA HNB HI HN HJ (Lib.hid fun w => ?_) (Lib.hid fun w => ?_) (.inr (.inr ⟨hu,hz,rfl,rfl⟩))
        · rw [hu,eq]
          rw [eq] at hf
          exact Qeh _ true (by omega) hf w
        · have := Qeh (sz b - sz a % sz b) (ng b) (by omega) (by rw [Qco hb];simp only [decide_eq_true_eq];rw [← er];exact hfrf) w
          rw [Qco hb] at this ⊢
          simp only [decide_eq_true_eq] at this
          rw [← er] at this
          exact this
end Go.Proofs.YtdfdmeoalbpcdaaGreat
