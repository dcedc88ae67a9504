/-
  Slices inside a fence (the body of a loop over a function): elements, literals, append.
  Package simplex: Near, refused (contracts); what it comes to.
-/
import Derived.Test.YtdfdmeoalbpcdaaQk
import Derived.Test.YtdfdmeoalbpcdaaEc
set_option linter.unusedSimpArgs false
set_option linter.unusedVariables false
namespace Go.Proofs.Ytdfdmeoalbpcdaa
open Go Go.RowKit
section
variable {F : Fence} {P : Program} {X : List Nat} {w0 w : World} {H H' : List Bk} {g : Nat} {t : TypeId} {cs cs' : List Value}
variable {ops : Array Oper} {Q : Exit → Act → World → Prop} {a : Act} {rest : List Oper} {d p : Tmp} {tp ty : TypeId} {pos : String} {af : Array Edge} {off n k9 : Nat}
theorem Qan [hF : Free F] {x y : Operand} {e : TypeId} {m len cap : Nat} {k : Int} (hx : a.eval x = .slice (some ⟨g,off,none⟩) len cap) (hy : a.eval y = .int .i64 k) (ht : Qfb P t e) (hs : ∀ w,(sizeOf e).run P w = .ok m w) (h0 : 0 ≤ k) (h1 : k < len)
    {off' : Nat} (ho : off + k.toNat * m = off') (hk : wpListIn F k9 P ops Q rest (a.put (some d) (.pointer (some ⟨g,off',none⟩))) w) : wpListIn F k9 P ops Q (⟨some d,.indexAddr t x y,tp,pos,af,none⟩ :: rest) a w := by
  subst ho
  refine Qdq rfl (fun _ h => by cases h) ?_ hk
  simp only [execOp,hx,hy,Sem.run_bind,Sem.run_pure,Result.andThen_ok,Qcv hs h0 h1]
theorem Qbd [hF : Free F] {z : Nat × Nat} (hp : Hp [] w0 H w) (hx : a.eval (.tmp p) = .pointer (some ⟨g,off,none⟩)) (hb : w0.heap[g]? = some (.cells cs.toArray t z)) (ht : AggTy P ty n) {vs : List Value} (hvs : (cs.drop off).take n = vs) (hle : off + n ≤ cs.length)
    (hk : wpListIn F k9 P ops Q rest (a.put (some d) (.agg vs.toArray)) w) : wpListIn F k9 P ops Q (⟨some d,.load ty (.tmp p),tp,pos,af,none⟩ :: rest) a w := by
  refine Qdq rfl (fun _ h => by cases h) ?_ hk
  simp only [execOp,hx,Instr.loadAt,Instr.sureAddr,Sem.run_bind,Sem.run_pure,Result.andThen_ok,Qec hp.keep hb hle hvs]
theorem Qav [hF : Free F] {z : Nat × Nat} (hp : Hp [] w0 H w) (hx : a.eval (.tmp p) = .pointer (some ⟨g,off,none⟩)) (hb : w0.heap[g]? = some (.cells cs.toArray t z)) (ht : OneTy P ty) {v : Value} (hv : cs[off]? = some v)
    (hk : wpListIn F k9 P ops Q rest (a.put (some d) v) w) : wpListIn F k9 P ops Q (⟨some d,.load ty (.tmp p),tp,pos,af,none⟩ :: rest) a w := by
  refine Qdq rfl (fun _ h => by cases h) ?_ hk
  simp only [execOp,hx,Instr.loadAt,Instr.sureAddr,Sem.run_bind,Sem.run_pure,Result.andThen_ok,Qdw hp.keep hb hv]
theorem Hp.farX {z : Nat × Nat} (hp : Hp X w0 H w) (hX : g ∉ X) (hb : w0.heap[g]? = some (.cells cs.toArray t z)) : w.heap[g]? = some (.cells cs.toArray t z) := by
  have hlt : g < w0.heap.size := by
    rcases Nat.lt_or_ge g w0.heap.size with h' | h'
    · exact h'
    · rw [Array.getElem?_eq_none h'] at hb;cases hb
  exact (hp.keep.block g hlt hX).trans hb
theorem Qbz [hF : Free F] {z : Nat × Nat} (hp : Hp X w0 H w) (hx : a.eval (.tmp p) = .pointer (some ⟨g,off,none⟩)) (hX : g ∉ X) (hb : w0.heap[g]? = some (.cells cs.toArray t z)) (ht : AggTy P ty n) {vs : List Value} (hvs : (cs.drop off).take n = vs) (hle : off + n ≤ cs.length)
    (hk : wpListIn F k9 P ops Q rest (a.put (some d) (.agg vs.toArray)) w) : wpListIn F k9 P ops Q (⟨some d,.load ty (.tmp p),tp,pos,af,none⟩ :: rest) a w := by
  refine Qdq rfl (fun _ h => by cases h) ?_ hk
  simp only [execOp,hx,Instr.loadAt,Instr.sureAddr,Sem.run_bind,Sem.run_pure,Result.andThen_ok,Qec (Keep.refl [] w) (hp.farX hX hb) hle hvs]
theorem Qbf [hF : Free F] {z : Nat × Nat} (hp : Hp X w0 H w) (hx : a.eval (.tmp p) = .pointer (some ⟨g,off,none⟩)) (hX : g ∉ X) (hb : w0.heap[g]? = some (.cells cs.toArray t z)) (ht : OneTy P ty) {v : Value} (hv : cs[off]? = some v)
    (hk : wpListIn F k9 P ops Q rest (a.put (some d) v) w) : wpListIn F k9 P ops Q (⟨some d,.load ty (.tmp p),tp,pos,af,none⟩ :: rest) a w := by
  refine Qdq rfl (fun _ h => by cases h) ?_ hk
  simp only [execOp,hx,Instr.loadAt,Instr.sureAddr,Sem.run_bind,Sem.run_pure,Result.andThen_ok,Qdw (Keep.refl [] w) (hp.farX hX hb) hv]
theorem Qal [hF : Free F] {e : TypeId} {n m : Nat} {z : Value} {parts : List (Nat × Operand)} {vs cs : List Value} {ls : List (List Value)} (hp : Hp X w0 H w) (ht : Qfb P t e) (hs : ∀ w,(sizeOf e).run P w = .ok m w) (hz : ZeroTy P e z) (hsm : n * m ≤ 2 ^ 24) (h0 : n * m ≠ 0)
    (hpv : (parts.map fun p => (p.1,a.eval p.2)) = Qbw 0 vs) (hn : vs.length = n) (hv : vs.map (·.cells) = ls.map (·.toArray)) (hl : ∀ l ∈ ls,l.length = m) (hcs : ls.flatten = cs)
    (hk : ∀ g w1,Hp X w0 (⟨g,e,cs⟩ :: H) w1 → wpListIn F k9 P ops Q rest (a.put (some d) (.slice (some ⟨g,0,none⟩) n n)) w1) : wpListIn F k9 P ops Q (⟨some d,.buildSlice t n parts.toArray,tp,pos,af,none⟩ :: rest) a w := by
  subst hcs
  have hpv' : (parts.toArray.map fun (i,x) => (i,a.eval x)).toList = Qbw 0 vs := by rw [← hpv];simp
  refine Qdq rfl (fun _ h => by cases h) (w1 := w.alloc (.cells ls.flatten.toArray e)) ?_ (hk _ _ (hp.alloc e ls.flatten))
  simp only [execOp,Sem.run_bind,Qef hs hsm h0 hpv' hn hv hl,Result.andThen_ok]
  rfl
theorem Qbi [hF : Free F] {s x : Operand} {e : TypeId} {z : Value} {size bytes m c gx : Nat} {ex : TypeId} {news : List Value} (hp : Hp X w0 H w) (ht : Qfb P t e) (he : Qgo P e z size bytes) (hzs : z.cells.size = size) (hsz : 0 < size)
    (hs : a.eval s = .slice none 0 0) (hx : a.eval x = .slice (some ⟨gx,0,none⟩) m c) (hh : Has H gx ex news) (hl : news.length = m * size) (h1 : news.all (·.oneCell') = true) (hm : m ≠ 0) (hm1 : m ≤ maxLen) (hm2 : m * bytes ≤ 140737488355328)
    (hk : ∀ g cap junk w1,(news ++ junk).length = cap * size → m ≤ cap → cap ≤ maxLen → Hp X w0 (⟨g,e,news ++ junk⟩ :: H) w1 → wpListIn F k9 P ops Q rest (a.put (some d) (.slice (some ⟨g,0,none⟩) m cap)) w1) :
    wpListIn F k9 P ops Q (⟨some d,.call { callee := .builtin .append,args := #[s,x],argTypes := #[t,t] },tp,pos,af,none⟩ :: rest) a w := by
  obtain ⟨inf,hi,hi'⟩ : ∃ i,P.info? e = some i ∧ (i.zero,i.size,i.bytes) = (some z,size,bytes) := by
    have := he.info
    cases h : P.info? e with
    | none => rw [h] at this;cases this
    | some i => rw [h] at this;exact ⟨i,rfl,by simpa using this⟩
  simp only [Prod.mk.injEq] at hi'
  obtain ⟨hiz,his,hib⟩ := hi'
  obtain ⟨v',w',hrun,hr,hg,hnil,hob⟩ := run_append_own_at (P := P) w 0 t tp e inf z size bytes ht.und hi hiz his hib hzs hsz (.slice none 0 0) 0 [] ⟨by simp,.inl ⟨rfl,rfl⟩⟩ ⟨gx,0,none⟩ m c news hl (Qgl hp) (fun u hu => List.all_eq_true.1 h1 u hu) (by omega) (by rw [Nat.zero_add];exact hm2) (Nat.zero_le _)
  have hrun' : (execOp a.eval ⟨some d,.call { callee := .builtin .append,args := #[s,x],argTypes := #[t,t] },tp,pos,af,none⟩).run P w = .ok (.value v') w' := by
    unfold execOp
    simp only [resolve,invoke,builtin,Sem.run_bind,Sem.run_pure,Result.andThen_ok,List.map_toArray,List.map_cons,List.map_nil,hs,hx,hrun]
  refine Qdq rfl (fun _ h => by cases h) hrun' ?_
  obtain ⟨hlen,hr⟩ := hr
  rcases hr with ⟨rfl,h0⟩|⟨g,cap,cur,rfl,_,hb,hn,hc,hcs,htk⟩
  · exact absurd (hnil.1 rfl).2 hm
  · have hgs : g = w.heap.size := by
      rcases hob with h|h
      · cases h
      · simpa [Value.ownBlock] using h
    rw [Nat.zero_add] at hn htk hlen
    rw [List.nil_append] at htk hlen
    have e1 : cur.toList = news ++ cur.toList.drop (m * size) := by rw [← htk,List.take_append_drop]
    rw [Nat.zero_add]
    refine hk g cap (cur.toList.drop (m * size)) w' ?_ hn hc ?_
    · rw [← e1];simpa using hcs
    · exact hp.grew0 (cs' := news ++ cur.toList.drop (m * size)) hg hgs (by rw [← e1];simpa using hb)
theorem Qbq [hF : Free F] {s x : Operand} {e : TypeId} {z : Value} {size bytes n m c gv cap gx : Nat} {ex : TypeId} {xs junk news : List Value} {H1 : List Bk} (hp : Hp X w0 H w) (ht : Qfb P t e) (he : Qgo P e z size bytes) (hzs : z.cells.size = size) (hsz : 0 < size)
    (hs : a.eval s = .slice (some ⟨gv,0,none⟩) n cap) (hperm : H.Perm (⟨gv,e,xs ++ junk⟩ :: H1)) (hxl : xs.length = n * size) (hjl : (xs ++ junk).length = cap * size) (hnc : n ≤ cap) (hcm : cap ≤ maxLen)
    (hx : a.eval x = .slice (some ⟨gx,0,none⟩) m c) (hh : Has H gx ex news) (hl : news.length = m * size) (h1 : news.all (·.oneCell') = true) (hm : m ≠ 0) (hm1 : n + m ≤ maxLen) (hm2 : (n + m) * bytes ≤ 140737488355328)
    (hk : ∀ g cap' junk' w1,(xs ++ news ++ junk').length = cap' * size → n + m ≤ cap' → cap' ≤ maxLen → Hp X w0 (⟨g,e,xs ++ news ++ junk'⟩ :: H1) w1 → wpListIn F k9 P ops Q rest (a.put (some d) (.slice (some ⟨g,0,none⟩) (n + m) cap')) w1) :
    wpListIn F k9 P ops Q (⟨some d,.call { callee := .builtin .append,args := #[s,x],argTypes := #[t,t] },tp,pos,af,none⟩ :: rest) a w := by
  obtain ⟨inf,hi,hi'⟩ : ∃ i,P.info? e = some i ∧ (i.zero,i.size,i.bytes) = (some z,size,bytes) := by
    have := he.info
    cases h : P.info? e with
    | none => rw [h] at this;cases this
    | some i => rw [h] at this;exact ⟨i,rfl,by simpa using this⟩
  simp only [Prod.mk.injEq] at hi'
  obtain ⟨hiz,his,hib⟩ := hi'
  have hbv := ((hp.perm hperm).own ⟨gv,e,xs ++ junk⟩ (by simp)).2
  obtain ⟨v',w',hrun,hr,hg,hnil,hob⟩ := run_append_own_at (P := P) w 0 t tp e inf z size bytes ht.und hi hiz his hib hzs hsz (.slice (some ⟨gv,0,none⟩) n cap) n xs ⟨hxl,.inr ⟨gv,cap,_,rfl,Nat.zero_le _,hbv,hnc,hcm,by simpa using hjl,by rw [List.toList_toArray,← hxl,List.take_left'];rfl⟩⟩ ⟨gx,0,none⟩ m c news hl (Qgl hp) (fun u hu => List.all_eq_true.1 h1 u hu) hm1 hm2 (Nat.zero_le _)
  have hrun' : (execOp a.eval ⟨some d,.call { callee := .builtin .append,args := #[s,x],argTypes := #[t,t] },tp,pos,af,none⟩).run P w = .ok (.value v') w' := by
    unfold execOp
    simp only [resolve,invoke,builtin,Sem.run_bind,Sem.run_pure,Result.andThen_ok,List.map_toArray,List.map_cons,List.map_nil,hs,hx,hrun]
  refine Qdq rfl (fun _ h => by cases h) hrun' ?_
  obtain ⟨hlen,hr⟩ := hr
  rcases hr with ⟨rfl,h0⟩|⟨g,cap',cur,rfl,_,hb,hn,hc,hcs,htk⟩
  · exact absurd (hnil.1 rfl).2 hm
  · have hgs : g = gv ∨ g = w.heap.size := by
      rcases hob with h|h
      · left;simpa [Value.ownBlock] using h
      · right;simpa [Value.ownBlock] using h
    have e1 : cur.toList = xs ++ news ++ cur.toList.drop ((n + m) * size) := by rw [← htk,List.take_append_drop]
    refine hk g cap' (cur.toList.drop ((n + m) * size)) w' ?_ hn hc ?_
    · rw [← e1];simpa using hcs
    · exact hp.grew (cs' := xs ++ news ++ cur.toList.drop ((n + m) * size)) hperm hg hgs (by rw [← e1];simpa using hb)
end
end Go.Proofs.Ytdfdmeoalbpcdaa

set_option linter.unusedSimpArgs false
set_option linter.unusedVariables false
set_option maxRecDepth 100000
namespace Go.Proofs.Ytdfdmeoalbpcdaa
open Go Go.RowKit
attribute [local irreducible] wpList
/-- What Near comes to: numbers, places, and an error. -/
def Qeg (N : P3) (d : Int) (ks : List Nat) (err : Int) (w : World) (e : Ending) (w' : World) : Prop := ∃ sv,e = .returned (.tuple #[NrV N.x N.y N.z d sv,.int .i64 err]) ∧ Keep [] w w' ∧ SlW w' sv ks ∧ FrS w.heap.size sv
theorem NrZ_eq : NrZ = NrV 0 0 0 0 (.slice none 0 0) := by simp only [NrV,Qdl]
theorem SlW.shape {w : World} {v : Value} {ks : List Nat} (h : SlW w v ks) : ∃ b c,v = .slice b ks.length c := by
  rcases h with ⟨rfl,rfl⟩|⟨g,cap,_,rfl,_⟩
  · exact ⟨none,0,rfl⟩
  · exact ⟨_,cap,rfl⟩
/-- A call of Near: places and all. -/
theorem Qej {P : Program} {X : List Nat} {w0 w : World} {H : List Bk} {f : FuncId} {args : Array Value} {N : P3} {d err : Int} {ks : List Nat} {R : Ending → World → Prop} (hp : Hp X w0 H w) (hc : Calls P f args w (Qeg N d ks err w)) (hne : ks ≠ []) {n : Nat} (hn : ks.length = n)
    (hk : ∀ g cap junk w1,Hp X w0 (⟨g,3,(ks.map fun k : Nat => Value.int .i64 (k : Int)) ++ junk⟩ :: H) w1 → R (.returned (.tuple #[NrV N.x N.y N.z d (.slice (some ⟨g,0,none⟩) n cap),.int .i64 err])) w1) : Calls P f args w R :=
  hc.mono fun e w1 ⟨sv,he,hw,hs,hf⟩ => by
    subst he
    subst hn
    obtain ⟨g,cap,junk,rfl,hb⟩ := hs.resolve_left fun h => hne h.2
    exact hk g cap junk w1 (hp.add hw (hf g 0 _ _ rfl) hb)
theorem Qgz {P : Program} {X : List Nat} {w0 w : World} {H : List Bk} {f : FuncId} {args : Array Value} {N : P3} {d err : Int} {R : Ending → World → Prop} (hp : Hp X w0 H w) (hc : Calls P f args w (Qeg N d [] err w))
    (hk : ∀ b c w1,Hp X w0 H w1 → R (.returned (.tuple #[NrV N.x N.y N.z d (.slice b 0 c),.int .i64 err])) w1) : Calls P f args w R :=
  hc.mono fun e w1 ⟨sv,he,hw,hs,hf⟩ => by
    subst he
    obtain ⟨b,c,rfl⟩ := hs.shape
    exact hk b c w1 (hp.call hw)
theorem PSl.shape {w : World} {v : Value} {ps : List P3} (h : PSl w v ps) : ∃ b c,v = .slice b ps.length c := by
  rcases h with ⟨rfl,rfl⟩|⟨g,off,cap,_,_,_,rfl,_⟩
  · exact ⟨none,0,rfl⟩
  · exact ⟨_,cap,rfl⟩
set_option maxHeartbeats 2000000 in
theorem near_arg (b : Option Addr) (n c : Nat) (h : (n : Int) < 1 ∨ ¬ (n : Int) < 1 ∧ 4 < (n : Int)) (w : World) : Calls Try.prog 8 #[.slice b n c] w (Qeg ⟨0,0,0⟩ 0 [] 2 w) := by
  refine (?_ : Calls Try.prog 8 #[.slice b n c] w (Ret (.tuple #[NrZ,.int .i64 2]) w)).mono ?_
  · rcases h with h|⟨h,h2⟩
    all_goals
      go_enter Try.func8,Try.ntmps8
      have hp := Hp.start [] w
      go_wp2_with (first|((with_reducible apply Qaw hp);exact zs rfl;exact rfl;clear hp;(try clear w1);intro g w1 hp;simp only [zp,zq,z0,z1])|((with_reducible apply Qae hp);exact ii;exact rfl;clear hp;(try clear w1);intro g w1 hp;simp only [zp,zq,z0,z1])|((with_reducible apply Qai hp);exact zt rfl;exact ii;exact ii;(exact zso rfl);simp only [zp,zq,z0,z1])|((with_reducible apply Qad hp);exact zt rfl;(first|exact za rfl|exact zi rfl);exact rfl;exact Sz.z;exact rfl;exact ii;(simp only [n0,Nat.reduceAdd,nn];try rfl);(exact zl rfl);exact rfl;exact ii;clear hp;(try clear w1);intro w1 hp)|((with_reducible apply Qcc);exact rfl))
      exact bodyPost_ret (Qat rfl ⟨_,rfl,Qag hp (Nat.le_of_ble_eq_true rfl)⟩ ⟨_,rfl,Qbg hp rfl⟩) rfl ⟨rfl,hp.keep⟩
  · rintro e w1 ⟨rfl,hk⟩
    exact ⟨.slice none 0 0,by rw [NrZ_eq],hk,.inl ⟨rfl,rfl⟩,fun g o n c e => by cases e⟩
set_option maxHeartbeats 2000000 in
theorem near_bound (b : Option Addr) (n c : Nat) (h : ¬ (n : Int) < 1) (h4 : ¬ 4 < (n : Int)) (r : Int) (w : World) (RK : Hid (∀ w1,Keep [] w w1 → Calls Try.prog 19 #[.slice b n c] w1 (Ret (.tuple #[.int .i64 r,.int .i64 7]) w1))) : Calls Try.prog 8 #[.slice b n c] w (Qeg ⟨0,0,0⟩ 0 [] 7 w) := by
  refine (?_ : Calls Try.prog 8 #[.slice b n c] w (Ret (.tuple #[NrZ,.int .i64 7]) w)).mono ?_
  · skip
    go_enter Try.func8,Try.ntmps8
    have hp := Hp.start [] w
    go_wp2_with (first|((with_reducible apply Qaw hp);exact zs rfl;exact rfl;clear hp;(try clear w1);intro g w1 hp;simp only [zp,zq,z0,z1])|((with_reducible apply Qae hp);exact ii;exact rfl;clear hp;(try clear w1);intro g w1 hp;simp only [zp,zq,z0,z1])|((with_reducible apply Qai hp);exact zt rfl;exact ii;exact ii;(exact zso rfl);simp only [zp,zq,z0,z1])|((with_reducible apply Qad hp);exact zt rfl;(first|exact za rfl|exact zi rfl);exact rfl;exact Sz.z;exact rfl;exact ii;(simp only [n0,Nat.reduceAdd,nn];try rfl);(exact zl rfl);exact rfl;exact ii;clear hp;(try clear w1);intro w1 hp)|((with_reducible refine Qah hp (RK.out _ hp.keep) ?_);clear hp;(try clear w1);intro w1 hp)|((with_reducible apply Qcc);exact rfl))
    exact bodyPost_ret (Qat rfl ⟨_,rfl,Qag hp (Nat.le_of_ble_eq_true rfl)⟩ ⟨_,rfl,Qbg hp rfl⟩) rfl ⟨rfl,hp.keep⟩
  · rintro e w1 ⟨rfl,hk⟩
    exact ⟨.slice none 0 0,by rw [NrZ_eq],hk,.inl ⟨rfl,rfl⟩,fun g o n c e => by cases e⟩
end Go.Proofs.Ytdfdmeoalbpcdaa
