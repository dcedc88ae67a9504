/-
  Slices inside a fence (the body of a loop over a function): elements, literals, append.
-/
import Derived.Test.YtdfdmeoalbpcdaaQk
import Derived.Test.YtdfdmeoalbpcdaaSd
set_option linter.unusedSimpArgs false
set_option linter.unusedVariables false
namespace Go.Proofs.Ytdfdmeoalbpcdaa
open Go Go.RowKit
section
variable {F : Fence} {P : Program} {X : List Nat} {w0 w : World} {H H' : List Bk} {g : Nat} {t : TypeId} {cs cs' : List Value}
variable {ops : Array Oper} {Q : Exit → Act → World → Prop} {a : Act} {rest : List Oper} {d p : Tmp} {tp ty : TypeId} {pos : String} {af : Array Edge} {off n k9 : Nat}
theorem Qam [hF : Free F] {x y : Operand} {e : TypeId} {m len cap : Nat} {k : Int} (hx : a.eval x = .slice (some ⟨g,off,none⟩) len cap) (hy : a.eval y = .int .i64 k) (ht : Qdr P t e) (hs : ∀ w,(sizeOf e).run P w = .ok m w) (h0 : 0 ≤ k) (h1 : k < len)
    {off' : Nat} (ho : off + k.toNat * m = off') (hk : wpListIn F k9 P ops Q rest (a.put (some d) (.pointer (some ⟨g,off',none⟩))) w) : wpListIn F k9 P ops Q (⟨some d,.indexAddr t x y,tp,pos,af,none⟩ :: rest) a w := by
  subst ho
  refine Qdg rfl (fun _ h => by cases h) ?_ hk
  simp only [execOp,hx,hy,Sem.run_bind,Sem.run_pure,Result.andThen_ok,Qdc hs h0 h1]
theorem Qbb [hF : Free F] {z : Nat × Nat} (hp : Hp [] w0 H w) (hx : a.eval (.tmp p) = .pointer (some ⟨g,off,none⟩)) (hb : w0.heap[g]? = some (.cells cs.toArray t z)) (ht : AggTy P ty n) {vs : List Value} (hvs : (cs.drop off).take n = vs) (hle : off + n ≤ cs.length)
    (hk : wpListIn F k9 P ops Q rest (a.put (some d) (.agg vs.toArray)) w) : wpListIn F k9 P ops Q (⟨some d,.load ty (.tmp p),tp,pos,af,none⟩ :: rest) a w := by
  refine Qdg rfl (fun _ h => by cases h) ?_ hk
  simp only [execOp,hx,Instr.loadAt,Instr.sureAddr,Sem.run_bind,Sem.run_pure,Result.andThen_ok,Qdw hp.keep hb hle hvs]
theorem Qat [hF : Free F] {z : Nat × Nat} (hp : Hp [] w0 H w) (hx : a.eval (.tmp p) = .pointer (some ⟨g,off,none⟩)) (hb : w0.heap[g]? = some (.cells cs.toArray t z)) (ht : OneTy P ty) {v : Value} (hv : cs[off]? = some v)
    (hk : wpListIn F k9 P ops Q rest (a.put (some d) v) w) : wpListIn F k9 P ops Q (⟨some d,.load ty (.tmp p),tp,pos,af,none⟩ :: rest) a w := by
  refine Qdg rfl (fun _ h => by cases h) ?_ hk
  simp only [execOp,hx,Instr.loadAt,Instr.sureAddr,Sem.run_bind,Sem.run_pure,Result.andThen_ok,Qdl hp.keep hb hv]
theorem Hp.farX {z : Nat × Nat} (hp : Hp X w0 H w) (hX : g ∉ X) (hb : w0.heap[g]? = some (.cells cs.toArray t z)) : w.heap[g]? = some (.cells cs.toArray t z) := by
  have hlt : g < w0.heap.size := by
    rcases Nat.lt_or_ge g w0.heap.size with h' | h'
    · exact h'
    · rw [Array.getElem?_eq_none h'] at hb;cases hb
  exact (hp.keep.block g hlt hX).trans hb
theorem Qbr [hF : Free F] {z : Nat × Nat} (hp : Hp X w0 H w) (hx : a.eval (.tmp p) = .pointer (some ⟨g,off,none⟩)) (hX : g ∉ X) (hb : w0.heap[g]? = some (.cells cs.toArray t z)) (ht : AggTy P ty n) {vs : List Value} (hvs : (cs.drop off).take n = vs) (hle : off + n ≤ cs.length)
    (hk : wpListIn F k9 P ops Q rest (a.put (some d) (.agg vs.toArray)) w) : wpListIn F k9 P ops Q (⟨some d,.load ty (.tmp p),tp,pos,af,none⟩ :: rest) a w := by
  refine Qdg rfl (fun _ h => by cases h) ?_ hk
  simp only [execOp,hx,Instr.loadAt,Instr.sureAddr,Sem.run_bind,Sem.run_pure,Result.andThen_ok,Qdw (Keep.refl [] w) (hp.farX hX hb) hle hvs]
theorem Qbd [hF : Free F] {z : Nat × Nat} (hp : Hp X w0 H w) (hx : a.eval (.tmp p) = .pointer (some ⟨g,off,none⟩)) (hX : g ∉ X) (hb : w0.heap[g]? = some (.cells cs.toArray t z)) (ht : OneTy P ty) {v : Value} (hv : cs[off]? = some v)
    (hk : wpListIn F k9 P ops Q rest (a.put (some d) v) w) : wpListIn F k9 P ops Q (⟨some d,.load ty (.tmp p),tp,pos,af,none⟩ :: rest) a w := by
  refine Qdg rfl (fun _ h => by cases h) ?_ hk
  simp only [execOp,hx,Instr.loadAt,Instr.sureAddr,Sem.run_bind,Sem.run_pure,Result.andThen_ok,Qdl (Keep.refl [] w) (hp.farX hX hb) hv]
theorem Qal [hF : Free F] {e : TypeId} {n m : Nat} {z : Value} {parts : List (Nat × Operand)} {vs cs : List Value} {ls : List (List Value)} (hp : Hp X w0 H w) (ht : Qdr P t e) (hs : ∀ w,(sizeOf e).run P w = .ok m w) (hz : ZeroTy P e z) (hsm : n * m ≤ 2 ^ 24) (h0 : n * m ≠ 0)
    (hpv : (parts.map fun p => (p.1,a.eval p.2)) = Qbp 0 vs) (hn : vs.length = n) (hv : vs.map (·.cells) = ls.map (·.toArray)) (hl : ∀ l ∈ ls,l.length = m) (hcs : ls.flatten = cs)
    (hk : ∀ g w1,Hp X w0 (⟨g,e,cs⟩ :: H) w1 → wpListIn F k9 P ops Q rest (a.put (some d) (.slice (some ⟨g,0,none⟩) n n)) w1) : wpListIn F k9 P ops Q (⟨some d,.buildSlice t n parts.toArray,tp,pos,af,none⟩ :: rest) a w := by
  subst hcs
  have hpv' : (parts.toArray.map fun (i,x) => (i,a.eval x)).toList = Qbp 0 vs := by rw [← hpv];simp
  refine Qdg rfl (fun _ h => by cases h) (w1 := w.alloc (.cells ls.flatten.toArray e)) ?_ (hk _ _ (hp.alloc e ls.flatten))
  simp only [execOp,Sem.run_bind,Qdx hs hsm h0 hpv' hn hv hl,Result.andThen_ok]
  rfl
theorem Qbf [hF : Free F] {s x : Operand} {e : TypeId} {z : Value} {size bytes m c gx : Nat} {ex : TypeId} {news : List Value} (hp : Hp X w0 H w) (ht : Qdr P t e) (he : Qeu P e z size bytes) (hzs : z.cells.size = size) (hsz : 0 < size)
    (hs : a.eval s = .slice none 0 0) (hx : a.eval x = .slice (some ⟨gx,0,none⟩) m c) (hh : Has H gx ex news) (hl : news.length = m * size) (h1 : news.all (·.oneCell') = true) (hm : m ≠ 0) (hm1 : m ≤ maxLen) (hm2 : m * bytes ≤ 140737488355328)
    (hk : ∀ g cap junk w1,(news ++ junk).length = cap * size → m ≤ cap → cap ≤ maxLen → Hp X w0 (⟨g,e,news ++ junk⟩ :: H) w1 → wpListIn F k9 P ops Q rest (a.put (some d) (.slice (some ⟨g,0,none⟩) m cap)) w1) :
    wpListIn F k9 P ops Q (⟨some d,.call { callee := .builtin .append,args := #[s,x],argTypes := #[t,t] },tp,pos,af,none⟩ :: rest) a w := by
  obtain ⟨inf,hi,hi'⟩ : ∃ i,P.info? e = some i ∧ (i.zero,i.size,i.bytes) = (some z,size,bytes) := by
    have := he.info
    cases h : P.info? e with
    | none => rw [h] at this;cases this
    | some i => rw [h] at this;exact ⟨i,rfl,by simpa using this⟩
  simp only [Prod.mk.injEq] at hi'
  obtain ⟨hiz,his,hib⟩ := hi'
  obtain ⟨v',w',hrun,hr,hg,hnil,hob⟩ := run_append_own_at (P := P) w 0 t tp e inf z size bytes ht.und hi hiz his hib hzs hsz (.slice none 0 0) 0 [] ⟨by simp,.inl ⟨rfl,rfl⟩⟩ ⟨gx,0,none⟩ m c news hl (Qfn hp) (fun u hu => List.all_eq_true.1 h1 u hu) (by omega) (by rw [Nat.zero_add];exact hm2) (Nat.zero_le _)
  have hrun' : (execOp a.eval ⟨some d,.call { callee := .builtin .append,args := #[s,x],argTypes := #[t,t] },tp,pos,af,none⟩).run P w = .ok (.value v') w' := by
    unfold execOp
    simp only [resolve,invoke,builtin,Sem.run_bind,Sem.run_pure,Result.andThen_ok,List.map_toArray,List.map_cons,List.map_nil,hs,hx,hrun]
  refine Qdg rfl (fun _ h => by cases h) hrun' ?_
  obtain ⟨hlen,hr⟩ := hr
  rcases hr with ⟨rfl,h0⟩|⟨g,cap,cur,rfl,_,hb,hn,hc,hcs,htk⟩
  · exact absurd (hnil.1 rfl).2 hm
  · have hgs : g = w.heap.size := by
      rcases hob with h|h
      · cases h
      · simpa [Value.ownBlock] using h
    rw [Nat.zero_add] at hn htk hlen
    rw [List.nil_append] at htk hlen
    have e1 : cur.toList = news ++ cur.toList.drop (m * size) := by rw [← htk,List.take_append_drop]
    rw [Nat.zero_add]
    refine hk g cap (cur.toList.drop (m * size)) w' ?_ hn hc ?_
    · rw [← e1];simpa using hcs
    · exact hp.grew0 (cs' := news ++ cur.toList.drop (m * size)) hg hgs (by rw [← e1];simpa using hb)
theorem Qbm [hF : Free F] {s x : Operand} {e : TypeId} {z : Value} {size bytes n m c gv cap gx : Nat} {ex : TypeId} {xs junk news : List Value} {H1 : List Bk} (hp : Hp X w0 H w) (ht : Qdr P t e) (he : Qeu P e z size bytes) (hzs : z.cells.size = size) (hsz : 0 < size)
    (hs : a.eval s = .slice (some ⟨gv,0,none⟩) n cap) (hperm : H.Perm (⟨gv,e,xs ++ junk⟩ :: H1)) (hxl : xs.length = n * size) (hjl : (xs ++ junk).length = cap * size) (hnc : n ≤ cap) (hcm : cap ≤ maxLen)
    (hx : a.eval x = .slice (some ⟨gx,0,none⟩) m c) (hh : Has H gx ex news) (hl : news.length = m * size) (h1 : news.all (·.oneCell') = true) (hm : m ≠ 0) (hm1 : n + m ≤ maxLen) (hm2 : (n + m) * bytes ≤ 140737488355328)
    (hk : ∀ g cap' junk' w1,(xs ++ news ++ junk').length = cap' * size → n + m ≤ cap' → cap' ≤ maxLen → Hp X w0 (⟨g,e,xs ++ news ++ junk'⟩ :: H1) w1 → wpListIn F k9 P ops Q rest (a.put (some d) (.slice (some ⟨g,0,none⟩) (n + m) cap')) w1) :
    wpListIn F k9 P ops Q (⟨some d,.call { callee := .builtin .append,args := #[s,x],argTypes := #[t,t] },tp,pos,af,none⟩ :: rest) a w := by
  obtain ⟨inf,hi,hi'⟩ : ∃ i,P.info? e = some i ∧ (i.zero,i.size,i.bytes) = (some z,size,bytes) := by
    have := he.info
    cases h : P.info? e with
    | none => rw [h] at this;cases this
    | some i => rw [h] at this;exact ⟨i,rfl,by simpa using this⟩
  simp only [Prod.mk.injEq] at hi'
  obtain ⟨hiz,his,hib⟩ := hi'
  have hbv := ((hp.perm hperm).own ⟨gv,e,xs ++ junk⟩ (by simp)).2
  obtain ⟨v',w',hrun,hr,hg,hnil,hob⟩ := run_append_own_at (P := P) w 0 t tp e inf z size bytes ht.und hi hiz his hib hzs hsz (.slice (some ⟨gv,0,none⟩) n cap) n xs ⟨hxl,.inr ⟨gv,cap,_,rfl,Nat.zero_le _,hbv,hnc,hcm,by simpa using hjl,by rw [List.toList_toArray,← hxl,List.take_left'];rfl⟩⟩ ⟨gx,0,none⟩ m c news hl (Qfn hp) (fun u hu => List.all_eq_true.1 h1 u hu) hm1 hm2 (Nat.zero_le _)
  have hrun' : (execOp a.eval ⟨some d,.call { callee := .builtin .append,args := #[s,x],argTypes := #[t,t] },tp,pos,af,none⟩).run P w = .ok (.value v') w' := by
    unfold execOp
    simp only [resolve,invoke,builtin,Sem.run_bind,Sem.run_pure,Result.andThen_ok,List.map_toArray,List.map_cons,List.map_nil,hs,hx,hrun]
  refine Qdg rfl (fun _ h => by cases h) hrun' ?_
  obtain ⟨hlen,hr⟩ := hr
  rcases hr with ⟨rfl,h0⟩|⟨g,cap',cur,rfl,_,hb,hn,hc,hcs,htk⟩
  · exact absurd (hnil.1 rfl).2 hm
  · have hgs : g = gv ∨ g = w.heap.size := by
      rcases hob with h|h
      · left;simpa [Value.ownBlock] using h
      · right;simpa [Value.ownBlock] using h
    have e1 : cur.toList = xs ++ news ++ cur.toList.drop ((n + m) * size) := by rw [← htk,List.take_append_drop]
    refine hk g cap' (cur.toList.drop ((n + m) * size)) w' ?_ hn hc ?_
    · rw [← e1];simpa using hcs
    · exact hp.grew (cs' := xs ++ news ++ cur.toList.drop ((n + m) * size)) hperm hg hgs (by rw [← e1];simpa using hb)
end
end Go.Proofs.Ytdfdmeoalbpcdaa
