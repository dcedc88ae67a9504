/-
  Regions that draw: an empty literal, append of what lay there, a call of Near; '=='; ninepinlaw15.same (contract).
  SimplexMore (the law).
  SimplexMore: the contract of the law.
-/
import Derived.Test.YtdfdmeoalbpcdaaQt
import Derived.Test.YtdfdmeoalbpcdaaHb
set_option linter.unusedSimpArgs false
set_option linter.unusedVariables false
set_option maxRecDepth 100000
namespace Go.Proofs.Ytdfdmeoalbpcdaa
open Go Go.RowKit
attribute [local irreducible] wpList
section
variable {P : Program} {X : List Nat} {w0 w : World} {H Hq H' : List Bk} {g : Nat} {t : TypeId} {cs cs' : List Value}
variable {ops : Array Oper} {Q : Exit → Act → World → Prop} {a : Act} {N : List Nat} {i : Nat} {rest : Sc} {d p : Tmp} {tp ty : TypeId} {pos : String} {af : Array Edge} {gd : Option (Nat × Bool)} {off n : Nat}
theorem Qlh {e : TypeId} {n : Nat} (hq : Hp X w0 Hq w) (hsub : List.Sublist H Hq) (hw : Region.wanted ⟨some d,.buildSlice t 0 #[],tp,pos,af,gd⟩ (yielded ops a.tmps) = true) (ht : Qdr P t e) (hs : ∀ w,(sizeOf e).run P w = .ok n w)
    (hk : ∀ g w1,Hp X w0 H w1 → Hp X w0 (⟨g,e,[]⟩ :: Hq) w1 → Qaw P ops Q (Hp X w0 H) N rest (a.put (some d) (.slice (some ⟨g,0,none⟩) 0 0)) w1) : wpL P ops Q (Hp X w0 H) N i rest ⟨some d,.buildSlice t 0 #[],tp,pos,af,gd⟩ a w := by
  refine Qdd hw ?_
  unfold Oper.wp
  have hr : (Instr.buildSlice t 0 #[]).run P w = .ok (.slice (some ⟨w.heap.size,0,none⟩) 0 0) (w.alloc (.cells #[] e)) := by
    have h0 : Array.range 0 = #[] := by decide
    simp [Instr.buildSlice,run_underlying ht.und,hs,Instr.fill,newRow,h0]
  have e0 : (#[] : Array (Nat × Operand)).map (fun (i,x) => (i,a.eval x)) = #[] := by simp
  simp only [execOp,Sem.run_bind,e0,hr,Result.andThen_ok]
  have h1 := hq.alloc e []
  have h2 := h1.sub (hsub.cons _)
  exact ⟨fun _ => h2,hk _ _ h2 h1⟩
/-- append of what lay there to what is the call's own. -/
theorem Qgs {s x : Operand} {e : TypeId} {z : Value} {size bytes n m c gv cap gx off : Nat} {xs junk news bc : List Value} {tx : TypeId} {zx : Nat × Nat} {H1 : List Bk} (hq : Hp [] w0 Hq w) (hw : Region.wanted ⟨some d,.call { callee := .builtin .append,args := #[s,x],argTypes := #[t,t] },tp,pos,af,gd⟩ (yielded ops a.tmps) = true)
    (ht : Qdr P t e) (he : Qeu P e z size bytes) (hzs : z.cells.size = size) (hsz : 0 < size) {cs0 : List Value}
    (hs : a.eval s = .slice (some ⟨gv,0,none⟩) n cap) (hperm : Hq.Perm (⟨gv,e,cs0⟩ :: H1)) (hsub : List.Sublist H H1) (hcs0 : cs0 = xs ++ junk) (hxl : xs.length = n * size) (hjl : (xs ++ junk).length = cap * size) (hnc : n ≤ cap) (hcm : cap ≤ maxLen)
    (hx : a.eval x = .slice (some ⟨gx,off,none⟩) m c) (hb : w0.heap[gx]? = some (.cells bc.toArray tx zx)) (hn : (bc.drop off).take (m * size) = news) (hl : news.length = m * size) (h1 : news.all (·.oneCell') = true) (hm1 : n + m ≤ maxLen) (hm2 : (n + m) * bytes ≤ 140737488355328)
    (hk : ∀ g cap' junk' w1,(xs ++ news ++ junk').length = cap' * size → n + m ≤ cap' → cap' ≤ maxLen → Hp [] w0 H w1 → Hp [] w0 (⟨g,e,xs ++ news ++ junk'⟩ :: H1) w1 → Qaw P ops Q (Hp [] w0 H) N rest (a.put (some d) (.slice (some ⟨g,0,none⟩) (n + m) cap')) w1) :
    wpL P ops Q (Hp [] w0 H) N i rest ⟨some d,.call { callee := .builtin .append,args := #[s,x],argTypes := #[t,t] },tp,pos,af,gd⟩ a w := by
  subst hcs0
  obtain ⟨inf,hi,hi'⟩ : ∃ i,P.info? e = some i ∧ (i.zero,i.size,i.bytes) = (some z,size,bytes) := by
    have := he.info
    cases h : P.info? e with
    | none => rw [h] at this;cases this
    | some i => rw [h] at this;exact ⟨i,rfl,by simpa using this⟩
  simp only [Prod.mk.injEq] at hi'
  obtain ⟨hiz,his,hib⟩ := hi'
  have hbv := ((hq.perm hperm).own ⟨gv,e,xs ++ junk⟩ (by simp)).2
  have hcell : ∀ j u,news[j]? = some u → w.cell? ((⟨gx,off,none⟩ : Addr).add j) = some u := by
    intro j u hj
    rw [Qhj,Qkl hq.keep hb]
    rw [← hn,List.getElem?_take] at hj
    split at hj
    · rw [List.getElem?_drop] at hj
      exact hj
    · cases hj
  obtain ⟨v',w',hrun,hr,hg,hnil,hob⟩ := run_append_own_at (P := P) w 0 t tp e inf z size bytes ht.und hi hiz his hib hzs hsz (.slice (some ⟨gv,0,none⟩) n cap) n xs ⟨hxl,.inr ⟨gv,cap,_,rfl,Nat.zero_le _,hbv,hnc,hcm,by simpa using hjl,by rw [List.toList_toArray,← hxl,List.take_left'];rfl⟩⟩ ⟨gx,off,none⟩ m c news hl hcell (fun u hu => List.all_eq_true.1 h1 u hu) hm1 hm2 (Nat.zero_le _)
  refine Qdd hw ?_
  unfold Oper.wp execOp
  simp only [resolve,invoke,builtin,Sem.run_bind,Sem.run_pure,Result.andThen_ok,List.map_toArray,List.map_cons,List.map_nil,hs,hx,hrun]
  obtain ⟨hlen,hr⟩ := hr
  rcases hr with ⟨rfl,h0⟩|⟨g,cap',cur,rfl,_,hb',hn',hc,hcs,htk⟩
  · exact absurd (hnil.1 rfl).1 (by simp)
  · have hgs : g = gv ∨ g = w.heap.size := by
      rcases hob with h|h
      · left;simpa [Value.ownBlock] using h
      · right;simpa [Value.ownBlock] using h
    have e1 : cur.toList = xs ++ news ++ cur.toList.drop ((n + m) * size) := by rw [← htk,List.take_append_drop]
    have h1 := hq.grew (cs' := xs ++ news ++ cur.toList.drop ((n + m) * size)) hperm hg hgs (by rw [← e1];simpa using hb')
    have h2 := h1.sub (hsub.cons _)
    refine ⟨fun _ => h2,hk g cap' (cur.toList.drop ((n + m) * size)) w' ?_ hn' hc h2 h1⟩
    rw [← e1];simpa using hcs
/-- append to an empty literal. -/
theorem Qja {s x : Operand} {e : TypeId} {z : Value} {size bytes m c gv gx off : Nat} {news bc : List Value} {tx : TypeId} {zx : Nat × Nat} {H1 : List Bk} (hq : Hp [] w0 Hq w) (hw : Region.wanted ⟨some d,.call { callee := .builtin .append,args := #[s,x],argTypes := #[t,t] },tp,pos,af,gd⟩ (yielded ops a.tmps) = true)
    (ht : Qdr P t e) (he : Qeu P e z size bytes) (hzs : z.cells.size = size) (hsz : 0 < size)
    (hs : a.eval s = .slice (some ⟨gv,0,none⟩) 0 0) (hperm : Hq.Perm (⟨gv,e,[]⟩ :: H1)) (hsub : List.Sublist H H1)
    (hx : a.eval x = .slice (some ⟨gx,off,none⟩) m c) (hb : w0.heap[gx]? = some (.cells bc.toArray tx zx)) (hn : (bc.drop off).take (m * size) = news) (hl : news.length = m * size) (h1 : news.all (·.oneCell') = true) (hm1 : m ≤ maxLen) (hm2 : m * bytes ≤ 140737488355328)
    (hk : ∀ g cap' junk' w1,(news ++ junk').length = cap' * size → m ≤ cap' → cap' ≤ maxLen → Hp [] w0 H w1 → Hp [] w0 (⟨g,e,news ++ junk'⟩ :: H1) w1 → Qaw P ops Q (Hp [] w0 H) N rest (a.put (some d) (.slice (some ⟨g,0,none⟩) m cap')) w1) :
    wpL P ops Q (Hp [] w0 H) N i rest ⟨some d,.call { callee := .builtin .append,args := #[s,x],argTypes := #[t,t] },tp,pos,af,gd⟩ a w :=
  Qgs (xs := []) (junk := []) (n := 0) (cap := 0) hq hw ht he hzs hsz hs hperm hsub rfl (by simp) (by simp) (Nat.zero_le _) (Nat.zero_le _) hx hb hn hl h1 (by omega) (by rw [Nat.zero_add];exact hm2) fun g cap' junk' w1 q1 q2 q3 q4 q5 => by
    rw [Nat.zero_add] at q2 ⊢
    exact hk g cap' junk' w1 q1 q2 q3 q4 q5
end
theorem Qmx {w : World} {g n cap : Nat} {t : TypeId} {cs : List Value} {z : Nat × Nat} {L : List P3} (h : w.heap[g]? = some (.cells cs.toArray t z)) (hn : n = L.length) (hc : cs.take (n * 3) = pcs L) : PSl w (.slice (some ⟨g,0,none⟩) n cap) L := by
  subst hn
  exact .inr ⟨g,0,cap,_,_,_,rfl,h,by rw [List.drop_zero];exact hc⟩
set_option maxHeartbeats 8000000 in
theorem same_core (x y z d x' y' z' d' : Int) (bx by' bz bd : Bool) (s s' : Value) (hx : eqb x x' = bx) (hy : eqb y y' = by') (hz : eqb z z' = bz) (hd : eqb d d' = bd) (w : World) :
    Calls Try.prog 14 #[NrV x y z d s,NrV x' y' z' d' s'] w (Ret (.bool (bx && (by' && bz) && bd)) w) := by
  unfold eqb at hx hy hz hd
  cases bx <;> cases by' <;> cases bz <;> cases bd
  all_goals
    go_enter Try.func14,Try.ntmps14
    have hp := Hp.start [] w
    go_wp2_with (first|((with_reducible apply Qax hp);exact za rfl;exact rfl;clear hp;(try clear w1);intro g w1 hp;simp only [zp,zq,z0,z1])|((with_reducible apply Qaa hp);exact zt rfl;exact ii;exact ii;(exact zl rfl);(simp only [n0,Nat.reduceAdd,nn];try rfl);simp only [zp,zq,z0,z1])|((with_reducible apply Qcj);exact rfl))
    exact bodyPost_ret (Qab rfl rfl) rfl ⟨rfl,hp.keep⟩
theorem same_any {N M : P3} {d e : Int} (h : Nb N d) (h' : Nb M e) (s s' : Value) (w : World) : Calls Try.prog 14 #[NrV N.x N.y N.z d s,NrV M.x M.y M.z e s'] w (Ret (.bool (decide (N = M ∧ d = e))) w) := by
  have f := h.fit
  have f' := h'.fit
  have := same_core N.x N.y N.z d M.x M.y M.z e _ _ _ _ s s' (Qcn f.1 f'.1) (Qcn f.2.1 f'.2.1) (Qcn f.2.2.1 f'.2.2.1) (Qcn f.2.2.2 f'.2.2.2) w
  have e' : (decide (N.x = M.x) && (decide (N.y = M.y) && decide (N.z = M.z)) && decide (d = e)) = decide (N = M ∧ d = e) := by
    rw [Bool.eq_iff_iff]
    simp only [Bool.and_eq_true,decide_eq_true_eq]
    constructor
    · rintro ⟨⟨h1,h2,h3⟩,h4⟩
      exact ⟨Qbs h1 h2 h3,h4⟩
    · rintro ⟨rfl,h4⟩
      exact ⟨⟨rfl,rfl,rfl⟩,h4⟩
  rw [e'] at this
  exact this
end Go.Proofs.Ytdfdmeoalbpcdaa

set_option linter.unusedSimpArgs false
set_option linter.unusedVariables false
set_option maxRecDepth 100000
namespace Go.Proofs.Ytdfdmeoalbpcdaa
open Go Go.RowKit
attribute [local irreducible] wpList
end Go.Proofs.Ytdfdmeoalbpcdaa

set_option linter.unusedSimpArgs false
set_option linter.unusedVariables false
set_option maxRecDepth 100000
namespace Go.Proofs.Ytdfdmeoalbpcdaa
open Go Go.RowKit
attribute [local irreducible] wpList
theorem Qnx {l : List P3} (h : Qdn l = 0) : Qco l ≠ [] := by
  obtain ⟨hF,_⟩ := Qfh h
  have := (Qkh hF.ok.1).1
  intro h0
  rw [h0] at this
  simp [pts] at this
end Go.Proofs.Ytdfdmeoalbpcdaa
