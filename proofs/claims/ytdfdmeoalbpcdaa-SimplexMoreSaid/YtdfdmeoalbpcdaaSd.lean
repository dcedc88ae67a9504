/-
  Slices in a region that draws: literals, append (laws of the walk).
-/
import Derived.Test.YtdfdmeoalbpcdaaSl
set_option linter.unusedSimpArgs false
set_option linter.unusedVariables false
namespace Go.Proofs.Ytdfdmeoalbpcdaa
open Go Go.RowKit
section
variable {P : Program} {X : List Nat} {w0 w : World} {H Hq H' : List Bk} {g : Nat} {t : TypeId} {cs cs' : List Value}
variable {ops : Array Oper} {Q : Exit → Act → World → Prop} {a : Act} {N : List Nat} {i : Nat} {rest : Sc} {d p : Tmp} {tp ty : TypeId} {pos : String} {af : Array Edge} {gd : Option (Nat × Bool)} {off n : Nat}
theorem Qcq {e : TypeId} {n m : Nat} {z : Value} {parts : List (Nat × Operand)} {vs cs : List Value} {ls : List (List Value)} (hq : Hp X w0 Hq w) (hsub : List.Sublist H Hq) (hw : Region.wanted ⟨some d,.buildSlice t n parts.toArray,tp,pos,af,gd⟩ (yielded ops a.tmps) = true)
    (ht : Qek P t e) (hs : ∀ w,(sizeOf e).run P w = .ok m w) (hz : ZeroTy P e z) (hsm : n * m ≤ 2 ^ 24) (h0 : n * m ≠ 0)
    (hpv : (parts.map fun p => (p.1,a.eval p.2)) = Qci 0 vs) (hn : vs.length = n) (hv : vs.map (·.cells) = ls.map (·.toArray)) (hl : ∀ l ∈ ls,l.length = m) (hcs : ls.flatten = cs)
    (hk : ∀ g w1,Hp X w0 H w1 → Hp X w0 (⟨g,e,cs⟩ :: Hq) w1 → Qbw P ops Q (Hp X w0 H) N rest (a.put (some d) (.slice (some ⟨g,0,none⟩) n n)) w1) : wpL P ops Q (Hp X w0 H) N i rest ⟨some d,.buildSlice t n parts.toArray,tp,pos,af,gd⟩ a w := by
  subst hcs
  refine Qdc hw ?_
  unfold Oper.wp
  have hpv' : (parts.toArray.map fun (i,x) => (i,a.eval x)).toList = Qci 0 vs := by rw [← hpv];simp
  simp only [execOp,Sem.run_bind,Qei hs hsm h0 hpv' hn hv hl,Result.andThen_ok]
  have h1 := hq.alloc e ls.flatten
  have h2 := h1.sub (hsub.cons _)
  exact ⟨fun _ => h2,hk _ _ h2 h1⟩
theorem Qcr {s x : Operand} {e : TypeId} {z : Value} {size bytes m c gx : Nat} {ex : TypeId} {news : List Value} (hq : Hp X w0 Hq w) (hsub : List.Sublist H Hq) (hw : Region.wanted ⟨some d,.call { callee := .builtin .append,args := #[s,x],argTypes := #[t,t] },tp,pos,af,gd⟩ (yielded ops a.tmps) = true)
    (ht : Qek P t e) (he : Qey P e z size bytes) (hzs : z.cells.size = size) (hsz : 0 < size)
    (hs : a.eval s = .slice none 0 0) (hx : a.eval x = .slice (some ⟨gx,0,none⟩) m c) (hh : Has Hq gx ex news) (hl : news.length = m * size) (h1 : news.all (·.oneCell') = true) (hm : m ≠ 0) (hm1 : m ≤ maxLen) (hm2 : m * bytes ≤ 140737488355328)
    (hk : ∀ g cap junk w1,(news ++ junk).length = cap * size → m ≤ cap → cap ≤ maxLen → Hp X w0 H w1 → Hp X w0 (⟨g,e,news ++ junk⟩ :: Hq) w1 → Qbw P ops Q (Hp X w0 H) N rest (a.put (some d) (.slice (some ⟨g,0,none⟩) m cap)) w1) :
    wpL P ops Q (Hp X w0 H) N i rest ⟨some d,.call { callee := .builtin .append,args := #[s,x],argTypes := #[t,t] },tp,pos,af,gd⟩ a w := by
  obtain ⟨inf,hi,hi'⟩ : ∃ i,P.info? e = some i ∧ (i.zero,i.size,i.bytes) = (some z,size,bytes) := by
    have := he.info
    cases h : P.info? e with
    | none => rw [h] at this;cases this
    | some i => rw [h] at this;exact ⟨i,rfl,by simpa using this⟩
  simp only [Prod.mk.injEq] at hi'
  obtain ⟨hiz,his,hib⟩ := hi'
  obtain ⟨v',w',hrun,hr,hg,hnil,hob⟩ := run_append_own_at (P := P) w 0 t tp e inf z size bytes ht.und hi hiz his hib hzs hsz (.slice none 0 0) 0 [] ⟨by simp,.inl ⟨rfl,rfl⟩⟩ ⟨gx,0,none⟩ m c news hl (Qfi hq) (fun u hu => List.all_eq_true.1 h1 u hu) (by omega) (by rw [Nat.zero_add];exact hm2) (Nat.zero_le _)
  refine Qdc hw ?_
  unfold Oper.wp execOp
  simp only [resolve,invoke,builtin,Sem.run_bind,Sem.run_pure,Result.andThen_ok,List.map_toArray,List.map_cons,List.map_nil,hs,hx,hrun]
  obtain ⟨hlen,hr⟩ := hr
  rcases hr with ⟨rfl,h0⟩|⟨g,cap,cur,rfl,_,hb,hn,hc,hcs,htk⟩
  · exact absurd (hnil.1 rfl).2 hm
  · have hgs : g = w.heap.size := by
      rcases hob with h|h
      · cases h
      · simpa [Value.ownBlock] using h
    rw [Nat.zero_add] at hn htk hlen
    rw [List.nil_append] at htk hlen
    have e1 : cur.toList = news ++ cur.toList.drop (m * size) := by rw [← htk,List.take_append_drop]
    rw [Nat.zero_add]
    have h1 := hq.grew0 (cs' := news ++ cur.toList.drop (m * size)) hg hgs (by rw [← e1];simpa using hb)
    have h2 := h1.sub (hsub.cons _)
    refine ⟨fun _ => h2,hk g cap (cur.toList.drop (m * size)) w' ?_ hn hc h2 h1⟩
    rw [← e1];simpa using hcs
theorem Qea {s x : Operand} {e : TypeId} {z : Value} {size bytes n m c gv cap gx : Nat} {ex : TypeId} {xs junk news : List Value} {H1 : List Bk} (hq : Hp X w0 Hq w) (hw : Region.wanted ⟨some d,.call { callee := .builtin .append,args := #[s,x],argTypes := #[t,t] },tp,pos,af,gd⟩ (yielded ops a.tmps) = true)
    (ht : Qek P t e) (he : Qey P e z size bytes) (hzs : z.cells.size = size) (hsz : 0 < size)
    (hs : a.eval s = .slice (some ⟨gv,0,none⟩) n cap) (hperm : Hq.Perm (⟨gv,e,xs ++ junk⟩ :: H1)) (hsub : List.Sublist H H1) (hxl : xs.length = n * size) (hjl : (xs ++ junk).length = cap * size) (hnc : n ≤ cap) (hcm : cap ≤ maxLen)
    (hx : a.eval x = .slice (some ⟨gx,0,none⟩) m c) (hh : Has Hq gx ex news) (hl : news.length = m * size) (h1 : news.all (·.oneCell') = true) (hm : m ≠ 0) (hm1 : n + m ≤ maxLen) (hm2 : (n + m) * bytes ≤ 140737488355328)
    (hk : ∀ g cap' junk' w1,(xs ++ news ++ junk').length = cap' * size → n + m ≤ cap' → cap' ≤ maxLen → Hp X w0 H w1 → Hp X w0 (⟨g,e,xs ++ news ++ junk'⟩ :: H1) w1 → Qbw P ops Q (Hp X w0 H) N rest (a.put (some d) (.slice (some ⟨g,0,none⟩) (n + m) cap')) w1) :
    wpL P ops Q (Hp X w0 H) N i rest ⟨some d,.call { callee := .builtin .append,args := #[s,x],argTypes := #[t,t] },tp,pos,af,gd⟩ a w := by
  obtain ⟨inf,hi,hi'⟩ : ∃ i,P.info? e = some i ∧ (i.zero,i.size,i.bytes) = (some z,size,bytes) := by
    have := he.info
    cases h : P.info? e with
    | none => rw [h] at this;cases this
    | some i => rw [h] at this;exact ⟨i,rfl,by simpa using this⟩
  simp only [Prod.mk.injEq] at hi'
  obtain ⟨hiz,his,hib⟩ := hi'
  have hbv := ((hq.perm hperm).own ⟨gv,e,xs ++ junk⟩ (by simp)).2
  obtain ⟨v',w',hrun,hr,hg,hnil,hob⟩ := run_append_own_at (P := P) w 0 t tp e inf z size bytes ht.und hi hiz his hib hzs hsz (.slice (some ⟨gv,0,none⟩) n cap) n xs ⟨hxl,.inr ⟨gv,cap,_,rfl,Nat.zero_le _,hbv,hnc,hcm,by simpa using hjl,by rw [List.toList_toArray,← hxl,List.take_left'];rfl⟩⟩ ⟨gx,0,none⟩ m c news hl (Qfi hq) (fun u hu => List.all_eq_true.1 h1 u hu) hm1 hm2 (Nat.zero_le _)
  refine Qdc hw ?_
  unfold Oper.wp execOp
  simp only [resolve,invoke,builtin,Sem.run_bind,Sem.run_pure,Result.andThen_ok,List.map_toArray,List.map_cons,List.map_nil,hs,hx,hrun]
  obtain ⟨hlen,hr⟩ := hr
  rcases hr with ⟨rfl,h0⟩|⟨g,cap',cur,rfl,_,hb,hn,hc,hcs,htk⟩
  · exact absurd (hnil.1 rfl).2 hm
  · have hgs : g = gv ∨ g = w.heap.size := by
      rcases hob with h|h
      · left;simpa [Value.ownBlock] using h
      · right;simpa [Value.ownBlock] using h
    have e1 : cur.toList = xs ++ news ++ cur.toList.drop ((n + m) * size) := by rw [← htk,List.take_append_drop]
    have h1 := hq.grew (cs' := xs ++ news ++ cur.toList.drop ((n + m) * size)) hperm hg hgs (by rw [← e1];simpa using hb)
    have h2 := h1.sub (hsub.cons _)
    refine ⟨fun _ => h2,hk g cap' (cur.toList.drop ((n + m) * size)) w' ?_ hn hc h2 h1⟩
    rw [← e1];simpa using hcs
end
end Go.Proofs.Ytdfdmeoalbpcdaa
