/-
  Package ninepinref01: Sqrt (contract).
-/
import Derived.Test.YtblffafmkpnjdaaGreatSa
import Derived.Test.YtblffafmkpnjdaaGreatCa
import Derived.Test.YtblffafmkpnjdaaGreatJc
set_option linter.unusedSimpArgs false
set_option linter.unusedVariables false
set_option maxRecDepth 100000
namespace Go.Proofs.YtblffafmkpnjdaaGreat
open Go Go.RowKit
attribute [local irreducible] wpList
section
variable {P : Program} {X : List Nat} {w0 w : World} {H Hq : List Bk} {ops : Array Oper} {Q : Exit → Act → World → Prop} {a : Act} {N : List Nat} {i : Nat} {rest : Sc} {d : Tmp} {tp t e : TypeId} {pos : String} {af : Array Edge} {gd : Option (Nat × Bool)}
theorem Qnv {x y : Operand} {n bytes : Nat} (hq : Hp X w0 Hq w) (hsub : List.Sublist H Hq) (hw : Region.wanted ⟨some d,.makeSlice t x y,tp,pos,af,gd⟩ (yielded ops a.tmps) = true)
    (ht : Qfg P t e) (he : Qfy P e (.int .i64 0) 1 bytes) (hx : a.eval x = .int .i64 n) (hy : a.eval y = .int .i64 n) (hb : bytes * n ≤ 281474976710656) (h63 : n ≤ 9223372036854775807)
    (hk : ∀ g w1,Hp X w0 H w1 → Hp X w0 (⟨g,e,tab (fun _ => 0) n⟩ :: Hq) w1 → Qbk P ops Q (Hp X w0 H) N rest (a.put (some d) (.slice (some ⟨g,0,none⟩) n n)) w1) : wpL P ops Q (Hp X w0 H) N i rest ⟨some d,.makeSlice t x y,tp,pos,af,gd⟩ a w := by
  obtain ⟨i,hi,hi'⟩ : ∃ i,P.info? e = some i ∧ (i.zero,i.size,i.bytes) = (some (.int .i64 0),1,bytes) := by
    have := he.info
    cases h : P.info? e with
    | none => rw [h] at this;cases this
    | some i => rw [h] at this;exact ⟨i,rfl,by simpa using this⟩
  simp only [Prod.mk.injEq] at hi'
  obtain ⟨hiz,his,hib⟩ := hi'
  have hb1 : ((bytes * n : Nat) : Int) ≤ 281474976710656 := by omega
  rw [Int.natCast_mul] at hb1
  have hr := run_make (P := P) w t e i (.int .i64 0) ht.und hi hiz .i64 .i64 n n (by omega) (by omega) (by rw [hib];exact hb1) (by omega)
  rw [his,Int.toNat_natCast,made_tab] at hr
  refine Qdp hw ?_
  unfold Oper.wp
  simp only [execOp,hx,hy,Sem.run_bind,hr,Result.andThen_ok]
  have h1 := hq.alloc e (tab (fun _ => 0) n)
  have h2 := h1.sub (hsub.cons _)
  exact ⟨fun _ => h2,hk _ _ h2 h1⟩
/-- What is appended is a part of a block, its beginning. -/
theorem Qeb {Q : Exit → Act → World → Prop} {rest : List Oper} {s x : Operand} {z : Value} {size bytes n m c gv cap gx : Nat} {ex : TypeId} {xs junk news bs : List Value} {H1 : List Bk} (hp : Hp X w0 H w) (ht : Qfg P t e) (he : Qfy P e z size bytes) (hzs : z.cells.size = size) (hsz : 0 < size)
    (hs : a.eval s = .slice (some ⟨gv,0,none⟩) n cap) (hperm : H.Perm (⟨gv,e,xs ++ junk⟩ :: H1)) (hxl : xs.length = n * size) (hjl : (xs ++ junk).length = cap * size) (hnc : n ≤ cap) (hcm : cap ≤ maxLen)
    (hx : a.eval x = .slice (some ⟨gx,0,none⟩) m c) (hh : Has H gx ex bs) (hbs : bs.take (m * size) = news) (hl : news.length = m * size) (h1 : news.all (·.oneCell') = true) (hm : m ≠ 0) (hm1 : n + m ≤ maxLen) (hm2 : (n + m) * bytes ≤ 140737488355328)
    (hk : ∀ g cap' junk' w1,(xs ++ news ++ junk').length = cap' * size → n + m ≤ cap' → cap' ≤ maxLen → Hp X w0 (⟨g,e,xs ++ news ++ junk'⟩ :: H1) w1 → wpList P ops Q rest (a.put (some d) (.slice (some ⟨g,0,none⟩) (n + m) cap')) w1) :
    wpList P ops Q (⟨some d,.call { callee := .builtin .append,args := #[s,x],argTypes := #[t,t] },tp,pos,af,none⟩ :: rest) a w := by
  obtain ⟨i,hi,hi'⟩ : ∃ i,P.info? e = some i ∧ (i.zero,i.size,i.bytes) = (some z,size,bytes) := by
    have := he.info
    cases h : P.info? e with
    | none => rw [h] at this;cases this
    | some i => rw [h] at this;exact ⟨i,rfl,by simpa using this⟩
  simp only [Prod.mk.injEq] at hi'
  obtain ⟨hiz,his,hib⟩ := hi'
  have hbv := ((hp.perm hperm).own ⟨gv,e,xs ++ junk⟩ (by simp)).2
  have hcell : ∀ j u,news[j]? = some u → w.cell? (Addr.add ⟨gx,0,none⟩ j) = some u := fun j u hj => by
    have hlt : j < m * size := by
      rcases Nat.lt_or_ge j news.length with h | h
      · omega
      · rw [List.getElem?_eq_none h] at hj;cases hj
    have e1 : Addr.add ⟨gx,0,none⟩ j = ⟨gx,j,none⟩ := by simp [Qjx]
    rw [e1,hp.cell,← hj,← hbs,List.getElem?_take,if_pos hlt]
  refine wpList_append_own_at w rfl s x t rfl 0 e i z size bytes ht.und hi hiz his hib hzs hsz (.slice (some ⟨gv,0,none⟩) n cap) n xs hs ⟨hxl,.inr ⟨gv,cap,_,rfl,Nat.zero_le _,hbv,hnc,hcm,by simpa using hjl,by rw [List.toList_toArray,← hxl,List.take_left'];rfl⟩⟩ ⟨gx,0,none⟩ m c news hx hl hcell (fun u hu => List.all_eq_true.1 h1 u hu) hm1 hm2 (Nat.zero_le _) ?_
  intro v' w' hr hg hnil hob
  obtain ⟨hlen,hr⟩ := hr
  rcases hr with ⟨rfl,h0⟩ | ⟨g,cap',cur,rfl,_,hb,hn,hc,hcs,htk⟩
  · exact absurd (hnil.1 rfl).2 hm
  · have hgs : g = gv ∨ g = w.heap.size := by
      rcases hob with h | h
      · left;simpa [Value.ownBlock] using h
      · right;simpa [Value.ownBlock] using h
    have e1 : cur.toList = xs ++ news ++ cur.toList.drop ((n + m) * size) := by rw [← htk,List.take_append_drop]
    refine hk g cap' (cur.toList.drop ((n + m) * size)) w' ?_ hn hc ?_
    · rw [← e1];simpa using hcs
    · rw [← e1]
      exact hp.grew hperm hg hgs (by simpa using hb)
end
/-! ### Two bits at a time -/
theorem bt_two (n c : Int) (h0 : 0 ≤ c) (h3 : c ≤ 3) (j : Nat) : bt (4 * n + c) (j + 2) = bt n j := by
  unfold bt
  have e : (2 : Int) ^ (j + 2) = 4 * 2 ^ j := by rw [Int.pow_add];omega
  rw [e,← Int.ediv_ediv_of_nonneg (by omega),show (4 * n + c) / 4 = n by omega]
theorem bt_oneup (n c : Int) (h0 : 0 ≤ c) (h3 : c ≤ 1) (j : Nat) : bt (2 * n + c) (j + 1) = bt n j := by
  unfold bt
  have e : (2 : Int) ^ (j + 1) = 2 * 2 ^ j := by rw [Int.pow_add];omega
  rw [e,← Int.ediv_ediv_of_nonneg (by omega),show (2 * n + c) / 2 = n by omega]
theorem tab_two (n b0 b1 : Int) (h0 : 0 ≤ b0 ∧ b0 ≤ 1) (h1 : 0 ≤ b1 ∧ b1 ≤ 1) : [Value.int .i64 b0,.int .i64 b1] ++ tab (bt n) 518 = tab (bt (4 * n + (b0 + 2 * b1))) 520 := by
  apply List.ext_getElem?
  intro i
  match i with
  | 0 =>
    rw [Qbd (by omega)]
    simp only [List.cons_append,List.getElem?_cons_zero]
    congr 2
    simp only [bt,Int.pow_zero,Int.ediv_one]
    omega
  | 1 =>
    rw [Qbd (by omega)]
    simp only [List.cons_append,List.getElem?_cons_succ,List.getElem?_cons_zero]
    congr 2
    simp only [bt,Int.pow_one]
    omega
  | j + 2 =>
    simp only [List.cons_append,List.getElem?_cons_succ,List.nil_append]
    by_cases hj : j < 518
    · rw [Qbd hj,Qbd (by omega),bt_two n _ (by omega) (by omega)]
    · rw [List.getElem?_eq_none (by rw [Qbq];omega),List.getElem?_eq_none (by rw [Qbq];omega)]
theorem Qnk (n b0 : Int) (h0 : 0 ≤ b0 ∧ b0 ≤ 1) : [Value.int .i64 b0] ++ tab (bt n) 519 = tab (bt (2 * n + b0)) 520 := by
  apply List.ext_getElem?
  intro i
  match i with
  | 0 =>
    rw [Qbd (by omega)]
    simp only [List.cons_append,List.getElem?_cons_zero]
    congr 2
    simp only [bt,Int.pow_zero,Int.ediv_one]
    omega
  | j + 1 =>
    simp only [List.cons_append,List.getElem?_cons_succ,List.nil_append]
    by_cases hj : j < 519
    · rw [Qbd hj,Qbd (by omega),bt_oneup n _ (by omega) (by omega)]
    · rw [List.getElem?_eq_none (by rw [Qbq];omega),List.getElem?_eq_none (by rw [Qbq];omega)]
theorem Qiv {F : Nat → Int} {L k : Nat} (h : k ≤ L) (junk : List Value) : (tab F L ++ junk).take k = tab F k := by
  rw [List.take_append_of_le_length (by rw [Qbq];exact h)]
  unfold tab
  rw [← List.map_take,List.take_range,Nat.min_eq_left h]
theorem bt_pair (a : Int) (j : Nat) : bt a (2 * j) + 2 * bt a (2 * j + 1) = a / 4 ^ j % 4 := by
  unfold bt
  have e1 : (2 : Int) ^ (2 * j) = 4 ^ j := by rw [Int.pow_mul];rfl
  have e2 : (2 : Int) ^ (2 * j + 1) = 4 ^ j * 2 := by rw [Int.pow_succ,e1]
  rw [e2,← Int.ediv_ediv_of_nonneg (Int.pow_nonneg (by omega)),e1]
  omega
/-- One step of the root by hand. -/
theorem rt_digit {A c : Int} (hA : 0 ≤ A) (h0 : 0 ≤ c) (h3 : c ≤ 3) :
    (4 * (A - rt A * rt A) + c < 4 * rt A + 1 → rt (4 * A + c) = 2 * rt A ∧ 4 * A + c - rt (4 * A + c) * rt (4 * A + c) = 4 * (A - rt A * rt A) + c) ∧
    (¬ 4 * (A - rt A * rt A) + c < 4 * rt A + 1 → rt (4 * A + c) = 2 * rt A + 1 ∧ 4 * A + c - rt (4 * A + c) * rt (4 * A + c) = 4 * (A - rt A * rt A) + c - (4 * rt A + 1)) := by
  obtain ⟨h1,h2⟩ := Qjy hA
  have hr := Qeq A
  generalize rt A = r at *
  have e0 : (r + 1) * (r + 1) = r * r + 2 * r + 1 := by grind
  have e1 : 2 * r * (2 * r) = 4 * (r * r) := by grind
  have e2 : (2 * r + 1) * (2 * r + 1) = 4 * (r * r) + 4 * r + 1 := by grind
  have e3 : (2 * r + 1 + 1) * (2 * r + 1 + 1) = 4 * (r * r) + 8 * r + 4 := by grind
  constructor
  · intro h
    have e : rt (4 * A + c) = 2 * r := Qlv (by omega) (by omega) (by omega)
    rw [e]
    exact ⟨rfl,by omega⟩
  · intro h
    have e : rt (4 * A + c) = 2 * r + 1 := Qlv (by omega) (by omega) (by omega)
    rw [e]
    exact ⟨rfl,by omega⟩
theorem quarter (a : Int) (j : Nat) : a / 4 ^ j = 4 * (a / 4 ^ (j + 1)) + a / 4 ^ j % 4 := by
  have e : (4 : Int) ^ (j + 1) = 4 ^ j * 4 := Int.pow_succ _ _
  rw [e,← Int.ediv_ediv_of_nonneg (Int.pow_nonneg (by omega))]
  omega
/-- How great what is left can get. -/
theorem left_bd {A : Int} (hA : 0 ≤ A) : 0 ≤ A - rt A * rt A ∧ A - rt A * rt A ≤ 2 * rt A := by
  obtain ⟨h1,h2⟩ := Qjy hA
  have e0 : (rt A + 1) * (rt A + 1) = rt A * rt A + 2 * rt A + 1 := by grind
  omega
theorem rt_bd {A : Int} (hA : 0 ≤ A) (h : A < M511) : rt A < 115792089237316195423570985008687907853269984665640564039457584007913129639936 := by
  obtain ⟨h1,h2⟩ := Qjy hA
  have hr := Qeq A
  by_cases h9 : rt A < 115792089237316195423570985008687907853269984665640564039457584007913129639936
  · exact h9
  · have := Qmp (a := 115792089237316195423570985008687907853269984665640564039457584007913129639936) (b := rt A) (by omega) (by omega)
    unfold M511 at h
    omega
theorem tab_naught : tab (fun _ => 0) 520 = tab (bt 0) 520 := Qcv fun j _ => by simp [bt]
theorem BSl.pre {w : World} {g cap : Nat} {t : TypeId} {x : Int} {L : Nat} {junk : List Value} (h : w.heap[g]? = some (.cells (tab (bt x) L ++ junk).toArray t (0,0))) : BSl w (.slice (some ⟨g,0,none⟩) L cap) x L :=
  ⟨g,0,cap,_,t,_,rfl,h,fun k hk => by
    rw [Nat.zero_add,Nat.mul_one,List.getElem?_append_left (by rw [Qbq];exact hk)]
    exact Qbd hk⟩
set_option maxHeartbeats 16000000 in
theorem rsqrt_pos (a : Int) (ha : Fit a) (h : 0 ≤ a) (w : World) : Calls Tryz.prog 68 #[W a] w (Ret (.tuple #[W (rt a),.bool true]) w) := by
  have HN := Qdk a ha
  rw [decide_eq_false (by omega)] at HN
  have HN' := Lib.hid HN
  have LA := Lib.hid fun w => Qmh a ha 512 (by omega) w
  have H0 := Lib.hid h
  have HA := Lib.hid (show a < M511 from ha.2)
  have HZ : Hid (a / 4 ^ 256 = 0) := Lib.hid (by
    have e : (4 : Int) ^ 256 = 2 ^ 256 * 2 ^ 256 := by rw [show (4 : Int) = 2 * 2 from rfl,Int.mul_pow]
    refine Int.ediv_eq_zero_of_lt h ?_
    rw [e,show (2 : Int) ^ 256 = 115792089237316195423570985008687907853269984665640564039457584007913129639936 from rfl]
    have := ha.2
    unfold M511 at this
    omega)
  clear ha h HN
  go_enter Tryz.func68,Tryz.ntmps68
  have hp := Hp.start [] w
  go_upto_region 4 with (first | ((with_reducible apply Qao hp);exact za rfl;exact rfl;clear hp;(try clear w1);intro g w1 hp;simp only [zp,zq,z0,z1]) | ((with_reducible apply Qag hp);exact ii;exact rfl;clear hp;(try clear w1);intro g w1 hp;simp only [zp,zq,z0,z1]) | ((with_reducible apply Qaa hp);exact zt rfl;exact ii;exact ii;(first | exact zl rfl | exact Qad (by omega));(first | (with_reducible exact Qab (by omega)) | (simp only [n0,Nat.reduceAdd,n1,n2,n3,n4,n5,n6,n7,n8,n9];try rfl));simp only [zp,zq,z0,z1]) | ((with_reducible apply Qac hp);exact zt rfl;exact ii;exact ii;(first | exact zio rfl | exact Qae (by omega));simp only [zp,zq,z0,z1]) | ((with_reducible apply Qah hp);exact zt rfl;exact za rfl;exact rfl;exact Sz.z;exact rfl;exact ii;(first | (with_reducible exact Qab (by omega)) | (simp only [n0,Nat.reduceAdd,n1,n2,n3,n4,n5,n6,n7,n8,n9];try rfl));(first | exact zl rfl | exact Qad (by omega));exact rfl;exact ii;clear hp;(try clear w1);intro w1 hp) | ((with_reducible apply Qaj);exact zx rfl;exact zk rfl;exact ii;exact Sz.z;omega;omega;((try simp only [m0,Int.reduceToNat,m1,m2,Nat.reduceMul,Nat.reduceAdd,m3,m4,m5,n0]);exact rfl);simp only [zp,zq,z0,z1]) | ((with_reducible apply Qam hp);exact zt rfl;assumption;exact ii;assumption;(first | exact zl rfl | omega);simp only [zp,zq,z0,z1]) | ((with_reducible apply Qai hp);exact zt rfl;assumption;exact ii;(first | assumption | (first | exact zio rfl | exact Qae (by omega)));simp only [zp,zq,z0,z1]) | ((with_reducible apply Qat hp);exact ii;exact Sz.z;exact ii;exact zl rfl;decide;(first | exact (rfl : _ = Qan 0 [_]) | exact (rfl : _ = Qan 0 [_,_]) | exact (rfl : _ = Qan 0 [_,_,_]) | exact (rfl : _ = Qan 0 [_,_,_,_]));exact rfl;(first | exact (rfl : _ = List.map (fun x : List Value => x.toArray) [_]) | exact (rfl : _ = List.map (fun x : List Value => x.toArray) [_,_]) | exact (rfl : _ = List.map (fun x : List Value => x.toArray) [_,_,_]) | exact (rfl : _ = List.map (fun x : List Value => x.toArray) [_,_,_,_]));(intro l hl <;> simp only [List.mem_cons,List.not_mem_nil,or_false] at hl <;> rcases hl with rfl | rfl | rfl | rfl <;> rfl);exact rfl;clear hp;(try clear w1);intro g w1 hp;simp only [zp,zq,z0,z1]) | ((with_reducible apply Qar hp);exact ii;exact ii;exact rfl;decide;exact (rfl : _ = Value.slice none 0 0);exact zy rfl;exact ii;exact rfl;exact rfl;decide;(unfold maxLen;decide);decide;clear hp;(try clear w1);intro g cap junk w1 hl1 hl2 hl3 hp;simp only [zp,zq,z0,z1]) | ((with_reducible apply Qay hp);exact ii;exact ii;exact rfl;decide;exact zy rfl;(first | exact List.Perm.refl _ | exact List.perm_middle (l₁ := [_]) | exact List.perm_middle (l₁ := [_,_]) | exact List.perm_middle (l₁ := [_,_,_]) | exact List.perm_middle (l₁ := [_,_,_,_]) | exact List.perm_middle (l₁ := [_,_,_,_,_]));(first | exact pcs_length _ | (simp only [List.length_map,Nat.mul_one]));assumption;assumption;assumption;exact zy rfl;exact ii;exact rfl;exact rfl;decide;(unfold maxLen;omega);omega;clear hp;(try clear w1);intro g cap junk w1 hl1 hl2 hl3 hp;(try dsimp only [List.cons_append,List.nil_append] at hp);simp only [zp,zq,z0,z1]) | ((with_reducible refine Qak hp (HN'.out _) ?_);clear hp;(try clear w1);intro w1 hp) | ((with_reducible refine Qca hp (LA.out _) ?_);clear hp;(try clear w1);intro g w1 hp))
  rename_i ga gp K hK
  obtain ⟨gs,rfl⟩ : ∃ k : Nat,k = g := ⟨_,rfl⟩
  go_cut [5,6] (fun s5 s6 wx => ∃ gr gl,s5 = .slice (some ⟨gr,0,none⟩) 520 520 ∧ s6 = .slice (some ⟨gl,0,none⟩) 520 520 ∧ Hp [] w [⟨gr,3,tab (fun _ => 0) 520⟩,⟨gl,3,tab (fun _ => 0) 520⟩,⟨gs,3,tab (bt a) 512⟩,⟨gp,48,[.int .u64 0,.int .u64 0,.int .u64 0,.int .u64 0,.int .u64 0,.int .u64 0,.int .u64 0,.int .u64 0]⟩,⟨ga,48,[.int .u64 (lb (a) 0),.int .u64 (lb (a) 1),.int .u64 (lb (a) 2),.int .u64 (lb (a) 3),.int .u64 (lb (a) 4),.int .u64 (lb (a) 5),.int .u64 (lb (a) 6),.int .u64 (lb (a) 7)]⟩] wx)
  case first =>
    skip
    have hq := hp
    refine Qaq hp hq [] (.b2 0 (.q 2 (.l 1 (.q 3 .nil))) 1 (.l 0 (.q 2 (.q 3 .nil)))) (by kernel_rfl) (by kernel_rfl) ?_
    clear hp hq;(try clear w1);intro w1 hp hq
    repeat' (first | (((with_reducible apply sd_q);exact zo rfl);(first | ((with_reducible apply Qbo hp);exact zs rfl;simp only [zp,zq,z0,z1]) | ((with_reducible apply Qav hp);exact rfl;(focus (intro _;go_simp;(try go_ints);try with_reducible rfl));simp only [zp,zq,z0,z1]))) | (((with_reducible apply sd_l);exact zo rfl);(first | ((with_reducible apply Qnv (n := 520) hq);(repeat (first | exact List.Sublist.refl _ | apply List.Sublist.cons));exact rfl;exact ii;exact ii;exact (rfl : Value.int .i64 (520 : Int) = _);exact (rfl : Value.int .i64 (520 : Int) = _);omega;omega;clear hp hq;(try clear w1);intro g w1 hp hq;simp only [zp,zq,z0,z1]) | ((with_reducible apply Qmx hp);exact rfl;(focus (intro _;go_simp;(try go_ints);try with_reducible rfl));simp only [zp,zq,z0,z1]))) | (with_reducible apply sd_b2) | ((with_reducible apply Qba);clear hp;have hp := hq;clear hq))
    all_goals (go_wp2_with fail;go_meet;exact ⟨_,_,rfl,rfl,by first | exact hp | exact hp.perm (.swap _ _ _)⟩)
    all_goals (go_wp2_with fail;go_meet;exact ⟨_,_,rfl,rfl,by first | exact hp | exact hp.perm (.swap _ _ _)⟩)
  case rest =>
    clear hp HN' LA
    obtain ⟨gr,gl,rfl,rfl,hp⟩ := hcut
    have e0 : ∀ F : Nat → Int,tab F 520 = tab F 520 ++ [] := fun F => (List.append_nil _).symm
    rw [tab_naught,e0 (bt 0)] at hp
    go_upto_region 6 with fail
    go_loopw [5,6,7] (fun rv lv iv wr => ∃ (k gr cr gl cl : Nat) (jr jl : List Value),k ≤ 256 ∧ rv = .slice (some ⟨gr,0,none⟩) 520 cr ∧ lv = .slice (some ⟨gl,0,none⟩) 520 cl ∧ iv = .int .i64 (2 * (k : Int) - 2) ∧ 520 ≤ cr ∧ 520 ≤ cl ∧ Hp [] w [⟨gr,3,tab (bt (rt (a / 4 ^ k))) 520 ++ jr⟩,⟨gl,3,tab (bt (a / 4 ^ k - rt (a / 4 ^ k) * rt (a / 4 ^ k))) 520 ++ jl⟩,⟨gs,3,tab (bt a) 512⟩,⟨gp,48,[.int .u64 0,.int .u64 0,.int .u64 0,.int .u64 0,.int .u64 0,.int .u64 0,.int .u64 0,.int .u64 0]⟩,⟨ga,48,[.int .u64 (lb (a) 0),.int .u64 (lb (a) 1),.int .u64 (lb (a) 2),.int .u64 (lb (a) 3),.int .u64 (lb (a) 4),.int .u64 (lb (a) 5),.int .u64 (lb (a) 6),.int .u64 (lb (a) 7)]⟩] wr) (fun _ _ iv _ => (intOf iv + 2).toNat)
    case atStart =>
      refine ⟨256,gr,520,gl,520,[],[],by omega,rfl,rfl,rfl,by omega,by omega,?_⟩
      rw [HZ.out,show rt 0 = 0 from rfl]
      exact hp
    case round =>
      clear hp
      obtain ⟨k,gr,cr,gl,cl,jr,jl,hk,rfl,rfl,rfl,hcr,hcl,hp⟩ := hrel
      cases k with
      | zero =>
        rw [show (4 : Int) ^ 0 = 1 from rfl,Int.ediv_one] at hp
        rw [show 2 * (((0 : Nat)) : Int) - 2 = -2 from rfl]
        have hb := rt_bd H0.out HA.out
        have hn := Qeq a
        have RO : Hid (∀ v w,BSl w v (rt a) 520 → Calls Tryz.prog 110 #[v] w (Ret (.tuple #[W (rt a),.bool true]) w)) := Lib.hid fun v w h => by
          have hf : Fit (rt a) := by unfold Fit M511;omega
          have := Qjm (rt a) (by unfold M511;omega) v w h
          rw [show fz (rt a) = rt a from if_pos hf,decide_eq_true hf] at this
          exact this
        clear hb hn
        go_wp2_with (first | ((with_reducible apply Qao hp);exact za rfl;exact rfl;clear hp;(try clear w1);intro g w1 hp;simp only [zp,zq,z0,z1]) | ((with_reducible apply Qag hp);exact ii;exact rfl;clear hp;(try clear w1);intro g w1 hp;simp only [zp,zq,z0,z1]) | ((with_reducible apply Qaa hp);exact zt rfl;exact ii;exact ii;(first | exact zl rfl | exact Qad (by omega));(first | (with_reducible exact Qab (by omega)) | (simp only [n0,Nat.reduceAdd,n1,n2,n3,n4,n5,n6,n7,n8,n9];try rfl));simp only [zp,zq,z0,z1]) | ((with_reducible apply Qac hp);exact zt rfl;exact ii;exact ii;(first | exact zio rfl | exact Qae (by omega));simp only [zp,zq,z0,z1]) | ((with_reducible apply Qah hp);exact zt rfl;exact za rfl;exact rfl;exact Sz.z;exact rfl;exact ii;(first | (with_reducible exact Qab (by omega)) | (simp only [n0,Nat.reduceAdd,n1,n2,n3,n4,n5,n6,n7,n8,n9];try rfl));(first | exact zl rfl | exact Qad (by omega));exact rfl;exact ii;clear hp;(try clear w1);intro w1 hp) | ((with_reducible apply Qaj);exact zx rfl;exact zk rfl;exact ii;exact Sz.z;omega;omega;((try simp only [m0,Int.reduceToNat,m1,m2,Nat.reduceMul,Nat.reduceAdd,m3,m4,m5,n0]);exact rfl);simp only [zp,zq,z0,z1]) | ((with_reducible apply Qam hp);exact zt rfl;assumption;exact ii;assumption;(first | exact zl rfl | omega);simp only [zp,zq,z0,z1]) | ((with_reducible apply Qai hp);exact zt rfl;assumption;exact ii;(first | assumption | (first | exact zio rfl | exact Qae (by omega)));simp only [zp,zq,z0,z1]) | ((with_reducible apply Qat hp);exact ii;exact Sz.z;exact ii;exact zl rfl;decide;(first | exact (rfl : _ = Qan 0 [_]) | exact (rfl : _ = Qan 0 [_,_]) | exact (rfl : _ = Qan 0 [_,_,_]) | exact (rfl : _ = Qan 0 [_,_,_,_]));exact rfl;(first | exact (rfl : _ = List.map (fun x : List Value => x.toArray) [_]) | exact (rfl : _ = List.map (fun x : List Value => x.toArray) [_,_]) | exact (rfl : _ = List.map (fun x : List Value => x.toArray) [_,_,_]) | exact (rfl : _ = List.map (fun x : List Value => x.toArray) [_,_,_,_]));(intro l hl <;> simp only [List.mem_cons,List.not_mem_nil,or_false] at hl <;> rcases hl with rfl | rfl | rfl | rfl <;> rfl);exact rfl;clear hp;(try clear w1);intro g w1 hp;simp only [zp,zq,z0,z1]) | ((with_reducible apply Qar hp);exact ii;exact ii;exact rfl;decide;exact (rfl : _ = Value.slice none 0 0);exact zy rfl;exact ii;exact rfl;exact rfl;decide;(unfold maxLen;decide);decide;clear hp;(try clear w1);intro g cap junk w1 hl1 hl2 hl3 hp;simp only [zp,zq,z0,z1]) | ((with_reducible apply Qay hp);exact ii;exact ii;exact rfl;decide;exact zy rfl;(first | exact List.Perm.refl _ | exact List.perm_middle (l₁ := [_]) | exact List.perm_middle (l₁ := [_,_]) | exact List.perm_middle (l₁ := [_,_,_]) | exact List.perm_middle (l₁ := [_,_,_,_]) | exact List.perm_middle (l₁ := [_,_,_,_,_]));(first | exact pcs_length _ | (simp only [List.length_map,Nat.mul_one]));assumption;assumption;assumption;exact zy rfl;exact ii;exact rfl;exact rfl;decide;(unfold maxLen;omega);omega;clear hp;(try clear w1);intro g cap junk w1 hl1 hl2 hl3 hp;(try dsimp only [List.cons_append,List.nil_append] at hp);simp only [zp,zq,z0,z1]) | ((with_reducible refine Qak hp (RO.out _ _ (BSl.pre hp.blk)) ?_);clear hp;(try clear w1);intro w1 hp))
        exact bodyPost_ret (Qaz rfl ⟨_,rfl,Qal hp (Nat.le_of_ble_eq_true rfl)⟩ rfl) rfl ⟨rfl,hp.keep⟩
      | succ j =>
        have h4j : (0 : Int) < 4 ^ (j + 1) := Int.pow_pos (by omega)
        have hA0 : 0 ≤ a / 4 ^ (j + 1) := Int.ediv_nonneg H0.out (Int.le_of_lt h4j)
        have hA1 : a / 4 ^ (j + 1) < M511 := Int.lt_of_le_of_lt (Int.ediv_le_self _ H0.out) HA.out
        have hq := quarter a j
        have hb := bt_pair a j
        have hc0 : 0 ≤ a / 4 ^ j % 4 ∧ a / 4 ^ j % 4 ≤ 3 := by omega
        have hdig := rt_digit hA0 hc0.1 hc0.2
        rw [← hq] at hdig
        have hrb := rt_bd hA0 hA1
        have hrn := Qeq (a / 4 ^ (j + 1))
        have hlb := left_bd hA0
        have hx0 := Qgl a (2 * j)
        have hx1 := Qgl a (2 * j + 1)
        rw [← hb] at hdig
        clear hq hA0 hA1 h4j hc0 hb
        generalize a / 4 ^ (j + 1) = A at *
        obtain ⟨A',hA'⟩ : ∃ A',A' = a / 4 ^ j := ⟨_,rfl⟩
        rw [← hA'] at hdig
        have HA' := Lib.hid hA'
        clear hA'
        generalize rt A = R at *
        obtain ⟨L,hL⟩ : ∃ L,L = A - R * R := ⟨_,rfl⟩
        rw [← hL] at hp hdig hlb
        obtain ⟨e,he⟩ : ∃ e : Nat,e = 2 * j := ⟨_,rfl⟩
        rw [show 2 * ((j + 1 : Nat) : Int) - 2 = (e : Int) by omega]
        rw [← he] at hdig hx0 hx1
        have he1 : (e : Int) < 512 := by omega
        have he2 : (e : Int) + 1 < 512 := by omega
        have he3 : (0 : Int) ≤ (e : Int) + 1 := by omega
        have hcr1 : (518 : Int) ≤ (cr : Int) := by omega
        have hcl1 : (518 : Int) ≤ (cl : Int) := by omega
        have hcr2 : (519 : Int) ≤ (cr : Int) := by omega
        have ee : ((e : Int) + 1).toNat = e + 1 := by omega
        have EE := Lib.hid ee
        have HE := Lib.hid he
        have HDIG := Lib.hid hdig
        have HLB := Lib.hid hlb
        have HRB := Lib.hid hrb
        have HRN := Lib.hid hrn
        have HX0 := Lib.hid hx0
        have HX1 := Lib.hid hx1
        clear hL ee he hdig hlb hrb hrn hx0 hx1
        go_upto_region 8 with (first | ((with_reducible apply Qao hp);exact za rfl;exact rfl;clear hp;(try clear w1);intro g w1 hp;simp only [zp,zq,z0,z1]) | ((with_reducible apply Qag hp);exact ii;exact rfl;clear hp;(try clear w1);intro g w1 hp;simp only [zp,zq,z0,z1]) | ((with_reducible apply Qaa hp);exact zt rfl;exact ii;exact ii;(first | exact zl rfl | exact Qad (by omega));(first | (with_reducible exact Qab (by omega)) | (simp only [n0,Nat.reduceAdd,n1,n2,n3,n4,n5,n6,n7,n8,n9];try rfl));simp only [zp,zq,z0,z1]) | ((with_reducible apply Qac hp);exact zt rfl;exact ii;exact ii;(first | exact zio rfl | exact Qae (by omega));simp only [zp,zq,z0,z1]) | ((with_reducible apply Qah hp);exact zt rfl;exact za rfl;exact rfl;exact Sz.z;exact rfl;exact ii;(first | (with_reducible exact Qab (by omega)) | (simp only [n0,Nat.reduceAdd,n1,n2,n3,n4,n5,n6,n7,n8,n9];try rfl));(first | exact zl rfl | exact Qad (by omega));exact rfl;exact ii;clear hp;(try clear w1);intro w1 hp) | ((with_reducible apply Qaj);exact zx rfl;exact zk rfl;exact ii;exact Sz.z;omega;omega;((try simp only [m0,Int.reduceToNat,m1,m2,Nat.reduceMul,Nat.reduceAdd,m3,m4,m5,n0]);exact rfl);simp only [zp,zq,z0,z1]) | ((with_reducible apply Qam hp);exact zt rfl;assumption;exact ii;assumption;(first | exact zl rfl | omega);simp only [zp,zq,z0,z1]) | ((with_reducible apply Qai hp);exact zt rfl;assumption;exact ii;(first | assumption | (first | exact zio rfl | exact Qae (by omega)));simp only [zp,zq,z0,z1]) | ((with_reducible apply Qat hp);exact ii;exact Sz.z;exact ii;exact zl rfl;decide;(first | exact (rfl : _ = Qan 0 [_]) | exact (rfl : _ = Qan 0 [_,_]) | exact (rfl : _ = Qan 0 [_,_,_]) | exact (rfl : _ = Qan 0 [_,_,_,_]));exact rfl;(first | exact (rfl : _ = List.map (fun x : List Value => x.toArray) [_]) | exact (rfl : _ = List.map (fun x : List Value => x.toArray) [_,_]) | exact (rfl : _ = List.map (fun x : List Value => x.toArray) [_,_,_]) | exact (rfl : _ = List.map (fun x : List Value => x.toArray) [_,_,_,_]));(intro l hl <;> simp only [List.mem_cons,List.not_mem_nil,or_false] at hl <;> rcases hl with rfl | rfl | rfl | rfl <;> rfl);exact rfl;clear hp;(try clear w1);intro g w1 hp;simp only [zp,zq,z0,z1]) | ((with_reducible apply Qar hp);exact ii;exact ii;exact rfl;decide;exact (rfl : _ = Value.slice none 0 0);exact zy rfl;exact ii;exact rfl;exact rfl;decide;(unfold maxLen;decide);decide;clear hp;(try clear w1);intro g cap junk w1 hl1 hl2 hl3 hp;simp only [zp,zq,z0,z1]) | ((with_reducible apply Qay hp);exact ii;exact ii;exact rfl;decide;exact zy rfl;(first | exact List.Perm.refl _ | exact List.perm_middle (l₁ := [_]) | exact List.perm_middle (l₁ := [_,_]) | exact List.perm_middle (l₁ := [_,_,_]) | exact List.perm_middle (l₁ := [_,_,_,_]) | exact List.perm_middle (l₁ := [_,_,_,_,_]));(first | exact pcs_length _ | (simp only [List.length_map,Nat.mul_one]));assumption;assumption;assumption;exact zy rfl;exact ii;exact rfl;exact rfl;decide;(unfold maxLen;omega);omega;clear hp;(try clear w1);intro g cap junk w1 hl1 hl2 hl3 hp;(try dsimp only [List.cons_append,List.nil_append] at hp);simp only [zp,zq,z0,z1]))
        have hq := hp
        refine Qaq hp hq [] (.q 0 (.q 1 (.q 2 (.q 3 (.q 4 (.q 5 (.q 6 (.q 7 (.q 8 (.l 9 (.q 10 .nil))))))))))) (by kernel_rfl) (by kernel_rfl) ?_
        clear hp hq;(try clear w1);intro w1 hp hq
        repeat' (first | (((with_reducible apply sd_q);exact zo rfl);(first | ((with_reducible apply Qaw hp);exact rfl;exact zt rfl;exact ii;exact ii;(first | exact zio rfl | exact Qae (by omega) | exact Qbd (by omega));simp only [zp,zq,z0,z1]) | ((with_reducible apply Qbr hp);exact rfl;exact zt rfl;assumption;exact ii;(first | assumption | (first | exact zio rfl | exact Qae (by omega) | exact Qbd (by omega)));simp only [zp,zq,z0,z1]) | ((with_reducible apply Qbh hp);(first | exact zi rfl | exact zs rfl);simp only [zp,zq,z0,z1]) | ((with_reducible apply Qbo hp);exact zs rfl;simp only [zp,zq,z0,z1]) | ((with_reducible apply Qbc hp);exact rfl;exact zx rfl;exact zk rfl;exact ii;exact Sz.z;omega;omega;((try simp only [m0,Int.reduceToNat,m1,m2,Nat.reduceMul,Nat.reduceAdd,m3,m4,m5,n0]);exact rfl);simp only [zp,zq,z0,z1]) | ((with_reducible apply Qav hp);exact rfl;(focus (intro _;go_simp;(try go_ints);try with_reducible rfl));simp only [zp,zq,z0,z1]))) | (((with_reducible apply sd_l);exact zo rfl);((with_reducible apply Qhq hq);(repeat (first | exact List.Sublist.refl _ | apply List.Sublist.cons));exact rfl;exact ii;exact Sz.z;exact ii;exact zl rfl;decide;(first | exact (rfl : _ = Qan 0 [_]) | exact (rfl : _ = Qan 0 [_,_]) | exact (rfl : _ = Qan 0 [_,_,_]) | exact (rfl : _ = Qan 0 [_,_,_,_]));exact rfl;(first | exact (rfl : _ = List.map (fun x : List Value => x.toArray) [_]) | exact (rfl : _ = List.map (fun x : List Value => x.toArray) [_,_]) | exact (rfl : _ = List.map (fun x : List Value => x.toArray) [_,_,_]) | exact (rfl : _ = List.map (fun x : List Value => x.toArray) [_,_,_,_]));(intro l hl <;> simp only [List.mem_cons,List.not_mem_nil,or_false] at hl <;> rcases hl with rfl | rfl | rfl | rfl <;> rfl);exact rfl;clear hp hq;(try clear w1);intro g w1 hp hq;simp only [zp,zq,z0,z1])) | ((with_reducible apply Qba);clear hp;have hp := hq;clear hq))
        obtain ⟨gN0,rfl⟩ : ∃ k : Nat,k = g := ⟨_,rfl⟩
        have hp' : Hp [] w [⟨gN0,3,[.int .i64 (bt a (e * 1)),.int .i64 (bt a (((e : Int) + 1).toNat * 1))]⟩,⟨gr,3,tab (bt R) 520 ++ jr⟩,⟨gl,3,tab (bt L) 520 ++ jl⟩,⟨gs,3,tab (bt a) 512⟩,⟨gp,48,[.int .u64 0,.int .u64 0,.int .u64 0,.int .u64 0,.int .u64 0,.int .u64 0,.int .u64 0,.int .u64 0]⟩,⟨ga,48,[.int .u64 (lb (a) 0),.int .u64 (lb (a) 1),.int .u64 (lb (a) 2),.int .u64 (lb (a) 3),.int .u64 (lb (a) 4),.int .u64 (lb (a) 5),.int .u64 (lb (a) 6),.int .u64 (lb (a) 7)]⟩] w1 := hp
        clear hp
        have hp := hp'
        clear hp'
        rw [Nat.mul_one,Nat.mul_one,EE.out] at hp
        generalize bt a e = b0 at *
        generalize bt a (e + 1) = b1 at *
        go_upto_region 10 with (first | ((with_reducible apply Qao hp);exact za rfl;exact rfl;clear hp;(try clear w1);intro g w1 hp;simp only [zp,zq,z0,z1]) | ((with_reducible apply Qag hp);exact ii;exact rfl;clear hp;(try clear w1);intro g w1 hp;simp only [zp,zq,z0,z1]) | ((with_reducible apply Qaa hp);exact zt rfl;exact ii;exact ii;(first | exact zl rfl | exact Qad (by omega));(first | (with_reducible exact Qab (by omega)) | (simp only [n0,Nat.reduceAdd,n1,n2,n3,n4,n5,n6,n7,n8,n9];try rfl));simp only [zp,zq,z0,z1]) | ((with_reducible apply Qac hp);exact zt rfl;exact ii;exact ii;(first | exact zio rfl | exact Qae (by omega));simp only [zp,zq,z0,z1]) | ((with_reducible apply Qah hp);exact zt rfl;exact za rfl;exact rfl;exact Sz.z;exact rfl;exact ii;(first | (with_reducible exact Qab (by omega)) | (simp only [n0,Nat.reduceAdd,n1,n2,n3,n4,n5,n6,n7,n8,n9];try rfl));(first | exact zl rfl | exact Qad (by omega));exact rfl;exact ii;clear hp;(try clear w1);intro w1 hp) | ((with_reducible apply Qaj);exact zx rfl;exact zk rfl;exact ii;exact Sz.z;omega;omega;((try simp only [m0,Int.reduceToNat,m1,m2,Nat.reduceMul,Nat.reduceAdd,m3,m4,m5,n0]);exact rfl);simp only [zp,zq,z0,z1]) | ((with_reducible apply Qam hp);exact zt rfl;assumption;exact ii;assumption;(first | exact zl rfl | omega);simp only [zp,zq,z0,z1]) | ((with_reducible apply Qai hp);exact zt rfl;assumption;exact ii;(first | assumption | (first | exact zio rfl | exact Qae (by omega)));simp only [zp,zq,z0,z1]) | ((with_reducible apply Qat hp);exact ii;exact Sz.z;exact ii;exact zl rfl;decide;(first | exact (rfl : _ = Qan 0 [_]) | exact (rfl : _ = Qan 0 [_,_]) | exact (rfl : _ = Qan 0 [_,_,_]) | exact (rfl : _ = Qan 0 [_,_,_,_]));exact rfl;(first | exact (rfl : _ = List.map (fun x : List Value => x.toArray) [_]) | exact (rfl : _ = List.map (fun x : List Value => x.toArray) [_,_]) | exact (rfl : _ = List.map (fun x : List Value => x.toArray) [_,_,_]) | exact (rfl : _ = List.map (fun x : List Value => x.toArray) [_,_,_,_]));(intro l hl <;> simp only [List.mem_cons,List.not_mem_nil,or_false] at hl <;> rcases hl with rfl | rfl | rfl | rfl <;> rfl);exact rfl;clear hp;(try clear w1);intro g w1 hp;simp only [zp,zq,z0,z1]) | ((with_reducible apply Qar hp);exact ii;exact ii;exact rfl;decide;exact (rfl : _ = Value.slice none 0 0);exact zy rfl;exact ii;exact rfl;exact rfl;decide;(unfold maxLen;decide);decide;clear hp;(try clear w1);intro g cap junk w1 hl1 hl2 hl3 hp;simp only [zp,zq,z0,z1]) | ((with_reducible apply Qay hp);exact ii;exact ii;exact rfl;decide;exact zy rfl;(first | exact List.Perm.refl _ | exact List.perm_middle (l₁ := [_]) | exact List.perm_middle (l₁ := [_,_]) | exact List.perm_middle (l₁ := [_,_,_]) | exact List.perm_middle (l₁ := [_,_,_,_]) | exact List.perm_middle (l₁ := [_,_,_,_,_]));(first | exact pcs_length _ | (simp only [List.length_map,Nat.mul_one]));assumption;assumption;assumption;exact zy rfl;exact ii;exact rfl;exact rfl;decide;(unfold maxLen;omega);omega;clear hp;(try clear w1);intro g cap junk w1 hl1 hl2 hl3 hp;(try dsimp only [List.cons_append,List.nil_append] at hp);simp only [zp,zq,z0,z1]) | ((with_reducible apply Qeb (n := 2) (m := 518) (size := 1) (cap := 2) (xs := [.int .i64 b0,.int .i64 b1]) (junk := []) (news := tab (bt L) 518) hp);exact ii;exact ii;exact rfl;decide;exact zy rfl;exact List.Perm.refl _;exact rfl;exact rfl;omega;(unfold maxLen;omega);exact zy rfl;exact ii;exact Qiv (by omega) _;(rw [Qbq]);exact Qeg _ _;omega;(unfold maxLen;omega);omega;clear hp;(try clear w1);intro g cap junk w1 hl1 hl2 hl3 hp;simp only [zp,zq,z0,z1]))
        obtain ⟨gN,rfl⟩ : ∃ k : Nat,k = g := ⟨_,rfl⟩
        obtain ⟨cN,rfl⟩ : ∃ k : Nat,k = cap := ⟨_,rfl⟩
        obtain ⟨jN,rfl⟩ : ∃ k : List Value,k = junk := ⟨_,rfl⟩
        rw [tab_two L b0 b1 HX0.out HX1.out] at hp
        have hcN : 520 ≤ cN := hl2
        clear hl1 hl2 hl3
        go_upto_region 12 with (first | ((with_reducible apply Qao hp);exact za rfl;exact rfl;clear hp;(try clear w1);intro g w1 hp;simp only [zp,zq,z0,z1]) | ((with_reducible apply Qag hp);exact ii;exact rfl;clear hp;(try clear w1);intro g w1 hp;simp only [zp,zq,z0,z1]) | ((with_reducible apply Qaa hp);exact zt rfl;exact ii;exact ii;(first | exact zl rfl | exact Qad (by omega));(first | (with_reducible exact Qab (by omega)) | (simp only [n0,Nat.reduceAdd,n1,n2,n3,n4,n5,n6,n7,n8,n9];try rfl));simp only [zp,zq,z0,z1]) | ((with_reducible apply Qac hp);exact zt rfl;exact ii;exact ii;(first | exact zio rfl | exact Qae (by omega));simp only [zp,zq,z0,z1]) | ((with_reducible apply Qah hp);exact zt rfl;exact za rfl;exact rfl;exact Sz.z;exact rfl;exact ii;(first | (with_reducible exact Qab (by omega)) | (simp only [n0,Nat.reduceAdd,n1,n2,n3,n4,n5,n6,n7,n8,n9];try rfl));(first | exact zl rfl | exact Qad (by omega));exact rfl;exact ii;clear hp;(try clear w1);intro w1 hp) | ((with_reducible apply Qaj);exact zx rfl;exact zk rfl;exact ii;exact Sz.z;omega;omega;((try simp only [m0,Int.reduceToNat,m1,m2,Nat.reduceMul,Nat.reduceAdd,m3,m4,m5,n0]);exact rfl);simp only [zp,zq,z0,z1]) | ((with_reducible apply Qam hp);exact zt rfl;assumption;exact ii;assumption;(first | exact zl rfl | omega);simp only [zp,zq,z0,z1]) | ((with_reducible apply Qai hp);exact zt rfl;assumption;exact ii;(first | assumption | (first | exact zio rfl | exact Qae (by omega)));simp only [zp,zq,z0,z1]) | ((with_reducible apply Qat hp);exact ii;exact Sz.z;exact ii;exact zl rfl;decide;(first | exact (rfl : _ = Qan 0 [_]) | exact (rfl : _ = Qan 0 [_,_]) | exact (rfl : _ = Qan 0 [_,_,_]) | exact (rfl : _ = Qan 0 [_,_,_,_]));exact rfl;(first | exact (rfl : _ = List.map (fun x : List Value => x.toArray) [_]) | exact (rfl : _ = List.map (fun x : List Value => x.toArray) [_,_]) | exact (rfl : _ = List.map (fun x : List Value => x.toArray) [_,_,_]) | exact (rfl : _ = List.map (fun x : List Value => x.toArray) [_,_,_,_]));(intro l hl <;> simp only [List.mem_cons,List.not_mem_nil,or_false] at hl <;> rcases hl with rfl | rfl | rfl | rfl <;> rfl);exact rfl;clear hp;(try clear w1);intro g w1 hp;simp only [zp,zq,z0,z1]) | ((with_reducible apply Qar hp);exact ii;exact ii;exact rfl;decide;exact (rfl : _ = Value.slice none 0 0);exact zy rfl;exact ii;exact rfl;exact rfl;decide;(unfold maxLen;decide);decide;clear hp;(try clear w1);intro g cap junk w1 hl1 hl2 hl3 hp;simp only [zp,zq,z0,z1]) | ((with_reducible apply Qay hp);exact ii;exact ii;exact rfl;decide;exact zy rfl;(first | exact List.Perm.refl _ | exact List.perm_middle (l₁ := [_]) | exact List.perm_middle (l₁ := [_,_]) | exact List.perm_middle (l₁ := [_,_,_]) | exact List.perm_middle (l₁ := [_,_,_,_]) | exact List.perm_middle (l₁ := [_,_,_,_,_]));(first | exact pcs_length _ | (simp only [List.length_map,Nat.mul_one]));assumption;assumption;assumption;exact zy rfl;exact ii;exact rfl;exact rfl;decide;(unfold maxLen;omega);omega;clear hp;(try clear w1);intro g cap junk w1 hl1 hl2 hl3 hp;(try dsimp only [List.cons_append,List.nil_append] at hp);simp only [zp,zq,z0,z1]) | ((with_reducible apply Qeb (n := 2) (m := 518) (size := 1) (cap := 2) (xs := [.int .i64 1,.int .i64 0]) (junk := []) (news := tab (bt R) 518) hp);exact ii;exact ii;exact rfl;decide;exact zy rfl;exact List.Perm.refl _;exact rfl;exact rfl;omega;(unfold maxLen;omega);exact zy rfl;exact ii;exact Qiv (by omega) _;(rw [Qbq]);exact Qeg _ _;omega;(unfold maxLen;omega);omega;clear hp;(try clear w1);intro g cap junk w1 hl1 hl2 hl3 hp;simp only [zp,zq,z0,z1]))
        obtain ⟨gT,rfl⟩ : ∃ k : Nat,k = g := ⟨_,rfl⟩
        obtain ⟨cT,rfl⟩ : ∃ k : Nat,k = cap := ⟨_,rfl⟩
        obtain ⟨jT,rfl⟩ : ∃ k : List Value,k = junk := ⟨_,rfl⟩
        rw [tab_two R 1 0 (by omega) (by omega),show (1 : Int) + 2 * 0 = 1 from rfl] at hp
        clear hl1 hl2 hl3
        have hN0 : 0 ≤ 4 * L + (b0 + 2 * b1) := by have := HLB.out;have := HX0.out;have := HX1.out;omega
        have hxy : (4 * L + (b0 + 2 * b1)) / 2 ^ 520 = (4 * R + 1) / 2 ^ 520 := by
          have h520 : (2 : Int) ^ 520 = M511 * 512 := by
            rw [Qev (a := 511) rfl,← show (2 : Int) ^ 9 = 512 from rfl,← Int.pow_add]
          have := HLB.out;have := HX0.out;have := HX1.out;have := HRB.out;have := HRN.out
          rw [h520,Int.ediv_eq_zero_of_lt (by omega) (by unfold M511;omega),Int.ediv_eq_zero_of_lt (by omega) (by unfold M511;omega)]
        clear hN0
        by_cases hlt : 4 * L + (b0 + 2 * b1) < 4 * R + 1
        · obtain ⟨e1,e2⟩ := HDIG.out.1 hlt
          have E1 := Lib.hid e1
          have E2 := Lib.hid e2
          have LE : Hid (∀ v1 v2 w,BSl w v1 (4 * L + (b0 + 2 * b1)) 520 → BSl w v2 (4 * R + 1) 520 → Calls Tryz.prog 115 #[v1,v2] w (Ret (.bool true) w)) := Lib.hid fun v1 v2 w h1 h2 => by
            have := Qgs _ _ 520 (by omega) hxy v1 v2 w h1 h2
            rw [decide_eq_true hlt] at this
            exact this
          clear hlt hxy e1 e2 HDIG
          generalize 4 * L + (b0 + 2 * b1) = N at *
          go_upto_region 18 with (first | ((with_reducible apply Qao hp);exact za rfl;exact rfl;clear hp;(try clear w1);intro g w1 hp;simp only [zp,zq,z0,z1]) | ((with_reducible apply Qag hp);exact ii;exact rfl;clear hp;(try clear w1);intro g w1 hp;simp only [zp,zq,z0,z1]) | ((with_reducible apply Qaa hp);exact zt rfl;exact ii;exact ii;(first | exact zl rfl | exact Qad (by omega));(first | (with_reducible exact Qab (by omega)) | (simp only [n0,Nat.reduceAdd,n1,n2,n3,n4,n5,n6,n7,n8,n9];try rfl));simp only [zp,zq,z0,z1]) | ((with_reducible apply Qac hp);exact zt rfl;exact ii;exact ii;(first | exact zio rfl | exact Qae (by omega));simp only [zp,zq,z0,z1]) | ((with_reducible apply Qah hp);exact zt rfl;exact za rfl;exact rfl;exact Sz.z;exact rfl;exact ii;(first | (with_reducible exact Qab (by omega)) | (simp only [n0,Nat.reduceAdd,n1,n2,n3,n4,n5,n6,n7,n8,n9];try rfl));(first | exact zl rfl | exact Qad (by omega));exact rfl;exact ii;clear hp;(try clear w1);intro w1 hp) | ((with_reducible apply Qaj);exact zx rfl;exact zk rfl;exact ii;exact Sz.z;omega;omega;((try simp only [m0,Int.reduceToNat,m1,m2,Nat.reduceMul,Nat.reduceAdd,m3,m4,m5,n0]);exact rfl);simp only [zp,zq,z0,z1]) | ((with_reducible apply Qam hp);exact zt rfl;assumption;exact ii;assumption;(first | exact zl rfl | omega);simp only [zp,zq,z0,z1]) | ((with_reducible apply Qai hp);exact zt rfl;assumption;exact ii;(first | assumption | (first | exact zio rfl | exact Qae (by omega)));simp only [zp,zq,z0,z1]) | ((with_reducible apply Qat hp);exact ii;exact Sz.z;exact ii;exact zl rfl;decide;(first | exact (rfl : _ = Qan 0 [_]) | exact (rfl : _ = Qan 0 [_,_]) | exact (rfl : _ = Qan 0 [_,_,_]) | exact (rfl : _ = Qan 0 [_,_,_,_]));exact rfl;(first | exact (rfl : _ = List.map (fun x : List Value => x.toArray) [_]) | exact (rfl : _ = List.map (fun x : List Value => x.toArray) [_,_]) | exact (rfl : _ = List.map (fun x : List Value => x.toArray) [_,_,_]) | exact (rfl : _ = List.map (fun x : List Value => x.toArray) [_,_,_,_]));(intro l hl <;> simp only [List.mem_cons,List.not_mem_nil,or_false] at hl <;> rcases hl with rfl | rfl | rfl | rfl <;> rfl);exact rfl;clear hp;(try clear w1);intro g w1 hp;simp only [zp,zq,z0,z1]) | ((with_reducible apply Qar hp);exact ii;exact ii;exact rfl;decide;exact (rfl : _ = Value.slice none 0 0);exact zy rfl;exact ii;exact rfl;exact rfl;decide;(unfold maxLen;decide);decide;clear hp;(try clear w1);intro g cap junk w1 hl1 hl2 hl3 hp;simp only [zp,zq,z0,z1]) | ((with_reducible apply Qay hp);exact ii;exact ii;exact rfl;decide;exact zy rfl;(first | exact List.Perm.refl _ | exact List.perm_middle (l₁ := [_]) | exact List.perm_middle (l₁ := [_,_]) | exact List.perm_middle (l₁ := [_,_,_]) | exact List.perm_middle (l₁ := [_,_,_,_]) | exact List.perm_middle (l₁ := [_,_,_,_,_]));(first | exact pcs_length _ | (simp only [List.length_map,Nat.mul_one]));assumption;assumption;assumption;exact zy rfl;exact ii;exact rfl;exact rfl;decide;(unfold maxLen;omega);omega;clear hp;(try clear w1);intro g cap junk w1 hl1 hl2 hl3 hp;(try dsimp only [List.cons_append,List.nil_append] at hp);simp only [zp,zq,z0,z1]) | ((with_reducible refine Qak hp (LE.out _ _ _ (BSl.pre hp.blk) (BSl.pre hp.blk)) ?_);clear hp;(try clear w1);intro w1 hp))
          obtain ⟨gM,rfl⟩ : ∃ k : Nat,k = g := ⟨_,rfl⟩
          go_wp2_with (first | ((with_reducible apply Qao hp);exact za rfl;exact rfl;clear hp;(try clear w1);intro g w1 hp;simp only [zp,zq,z0,z1]) | ((with_reducible apply Qag hp);exact ii;exact rfl;clear hp;(try clear w1);intro g w1 hp;simp only [zp,zq,z0,z1]) | ((with_reducible apply Qaa hp);exact zt rfl;exact ii;exact ii;(first | exact zl rfl | exact Qad (by omega));(first | (with_reducible exact Qab (by omega)) | (simp only [n0,Nat.reduceAdd,n1,n2,n3,n4,n5,n6,n7,n8,n9];try rfl));simp only [zp,zq,z0,z1]) | ((with_reducible apply Qac hp);exact zt rfl;exact ii;exact ii;(first | exact zio rfl | exact Qae (by omega));simp only [zp,zq,z0,z1]) | ((with_reducible apply Qah hp);exact zt rfl;exact za rfl;exact rfl;exact Sz.z;exact rfl;exact ii;(first | (with_reducible exact Qab (by omega)) | (simp only [n0,Nat.reduceAdd,n1,n2,n3,n4,n5,n6,n7,n8,n9];try rfl));(first | exact zl rfl | exact Qad (by omega));exact rfl;exact ii;clear hp;(try clear w1);intro w1 hp) | ((with_reducible apply Qaj);exact zx rfl;exact zk rfl;exact ii;exact Sz.z;omega;omega;((try simp only [m0,Int.reduceToNat,m1,m2,Nat.reduceMul,Nat.reduceAdd,m3,m4,m5,n0]);exact rfl);simp only [zp,zq,z0,z1]) | ((with_reducible apply Qam hp);exact zt rfl;assumption;exact ii;assumption;(first | exact zl rfl | omega);simp only [zp,zq,z0,z1]) | ((with_reducible apply Qai hp);exact zt rfl;assumption;exact ii;(first | assumption | (first | exact zio rfl | exact Qae (by omega)));simp only [zp,zq,z0,z1]) | ((with_reducible apply Qat hp);exact ii;exact Sz.z;exact ii;exact zl rfl;decide;(first | exact (rfl : _ = Qan 0 [_]) | exact (rfl : _ = Qan 0 [_,_]) | exact (rfl : _ = Qan 0 [_,_,_]) | exact (rfl : _ = Qan 0 [_,_,_,_]));exact rfl;(first | exact (rfl : _ = List.map (fun x : List Value => x.toArray) [_]) | exact (rfl : _ = List.map (fun x : List Value => x.toArray) [_,_]) | exact (rfl : _ = List.map (fun x : List Value => x.toArray) [_,_,_]) | exact (rfl : _ = List.map (fun x : List Value => x.toArray) [_,_,_,_]));(intro l hl <;> simp only [List.mem_cons,List.not_mem_nil,or_false] at hl <;> rcases hl with rfl | rfl | rfl | rfl <;> rfl);exact rfl;clear hp;(try clear w1);intro g w1 hp;simp only [zp,zq,z0,z1]) | ((with_reducible apply Qar hp);exact ii;exact ii;exact rfl;decide;exact (rfl : _ = Value.slice none 0 0);exact zy rfl;exact ii;exact rfl;exact rfl;decide;(unfold maxLen;decide);decide;clear hp;(try clear w1);intro g cap junk w1 hl1 hl2 hl3 hp;simp only [zp,zq,z0,z1]) | ((with_reducible apply Qay hp);exact ii;exact ii;exact rfl;decide;exact zy rfl;(first | exact List.Perm.refl _ | exact List.perm_middle (l₁ := [_]) | exact List.perm_middle (l₁ := [_,_]) | exact List.perm_middle (l₁ := [_,_,_]) | exact List.perm_middle (l₁ := [_,_,_,_]) | exact List.perm_middle (l₁ := [_,_,_,_,_]));(first | exact pcs_length _ | (simp only [List.length_map,Nat.mul_one]));assumption;assumption;assumption;exact zy rfl;exact ii;exact rfl;exact rfl;decide;(unfold maxLen;omega);omega;clear hp;(try clear w1);intro g cap junk w1 hl1 hl2 hl3 hp;(try dsimp only [List.cons_append,List.nil_append] at hp);simp only [zp,zq,z0,z1]) | ((with_reducible apply Qeb (n := 1) (m := 519) (size := 1) (cap := 1) (xs := [.int .i64 0]) (junk := []) (news := tab (bt R) 519) hp);exact ii;exact ii;exact rfl;decide;exact zy rfl;exact List.Perm.refl _;exact rfl;exact rfl;omega;(unfold maxLen;omega);exact zy rfl;exact ii;exact Qiv (by omega) _;(rw [Qbq]);exact Qeg _ _;omega;(unfold maxLen;omega);omega;clear hp;(try clear w1);intro g cap junk w1 hl1 hl2 hl3 hp;simp only [zp,zq,z0,z1]))
          rw [Qnk R 0 (by omega)] at hp
          go_roundw
          case rel =>
            refine ⟨j,g,cap,gN,cN,junk,jN,by omega,rfl,rfl,?_,by omega,by omega,?_⟩
            · have := HE.out
              congr 1
              omega
            · rw [← HA'.out,E2.out,E1.out,show 2 * R = 2 * R + 0 by omega]
              exact hp.sub (by repeat (first | exact List.Sublist.refl _ | apply List.Sublist.cons_cons | apply List.Sublist.cons))
          case measure => simp [intOf];omega
        · obtain ⟨e1,e2⟩ := HDIG.out.2 hlt
          have E1 := Lib.hid e1
          have E2 := Lib.hid e2
          have LE : Hid (∀ v1 v2 w,BSl w v1 (4 * L + (b0 + 2 * b1)) 520 → BSl w v2 (4 * R + 1) 520 → Calls Tryz.prog 115 #[v1,v2] w (Ret (.bool false) w)) := Lib.hid fun v1 v2 w h1 h2 => by
            have := Qgs _ _ 520 (by omega) hxy v1 v2 w h1 h2
            rw [decide_eq_false hlt] at this
            exact this
          have RM : Hid (∀ v w,BSl w v (4 * R + 1) 520 → Calls Tryz.prog 109 #[v] w (RetN (fun g => .slice (some ⟨g,0,none⟩) 520 520) 3 (tab (bt (-(4 * R + 1))) 520) w)) := Lib.hid fun v w h => Qcw _ 520 (by omega) v w h
          have RP : Hid (∀ v1 v2 w,BSl w v1 (4 * L + (b0 + 2 * b1)) 520 → BSl w v2 (-(4 * R + 1)) 520 → Calls Tryz.prog 107 #[v1,v2] w (RetN (fun g => .slice (some ⟨g,0,none⟩) 520 520) 3 (tab (bt (4 * L + (b0 + 2 * b1) - (4 * R + 1))) 520) w)) := Lib.hid fun v1 v2 w h1 h2 => by
            have := Qeo _ _ 520 (by omega) v1 v2 w h1 h2
            rw [← Int.sub_eq_add_neg] at this
            exact this
          clear hlt hxy e1 e2 HDIG
          generalize 4 * L + (b0 + 2 * b1) = N at *
          go_upto_region 16 with (first | ((with_reducible apply Qao hp);exact za rfl;exact rfl;clear hp;(try clear w1);intro g w1 hp;simp only [zp,zq,z0,z1]) | ((with_reducible apply Qag hp);exact ii;exact rfl;clear hp;(try clear w1);intro g w1 hp;simp only [zp,zq,z0,z1]) | ((with_reducible apply Qaa hp);exact zt rfl;exact ii;exact ii;(first | exact zl rfl | exact Qad (by omega));(first | (with_reducible exact Qab (by omega)) | (simp only [n0,Nat.reduceAdd,n1,n2,n3,n4,n5,n6,n7,n8,n9];try rfl));simp only [zp,zq,z0,z1]) | ((with_reducible apply Qac hp);exact zt rfl;exact ii;exact ii;(first | exact zio rfl | exact Qae (by omega));simp only [zp,zq,z0,z1]) | ((with_reducible apply Qah hp);exact zt rfl;exact za rfl;exact rfl;exact Sz.z;exact rfl;exact ii;(first | (with_reducible exact Qab (by omega)) | (simp only [n0,Nat.reduceAdd,n1,n2,n3,n4,n5,n6,n7,n8,n9];try rfl));(first | exact zl rfl | exact Qad (by omega));exact rfl;exact ii;clear hp;(try clear w1);intro w1 hp) | ((with_reducible apply Qaj);exact zx rfl;exact zk rfl;exact ii;exact Sz.z;omega;omega;((try simp only [m0,Int.reduceToNat,m1,m2,Nat.reduceMul,Nat.reduceAdd,m3,m4,m5,n0]);exact rfl);simp only [zp,zq,z0,z1]) | ((with_reducible apply Qam hp);exact zt rfl;assumption;exact ii;assumption;(first | exact zl rfl | omega);simp only [zp,zq,z0,z1]) | ((with_reducible apply Qai hp);exact zt rfl;assumption;exact ii;(first | assumption | (first | exact zio rfl | exact Qae (by omega)));simp only [zp,zq,z0,z1]) | ((with_reducible apply Qat hp);exact ii;exact Sz.z;exact ii;exact zl rfl;decide;(first | exact (rfl : _ = Qan 0 [_]) | exact (rfl : _ = Qan 0 [_,_]) | exact (rfl : _ = Qan 0 [_,_,_]) | exact (rfl : _ = Qan 0 [_,_,_,_]));exact rfl;(first | exact (rfl : _ = List.map (fun x : List Value => x.toArray) [_]) | exact (rfl : _ = List.map (fun x : List Value => x.toArray) [_,_]) | exact (rfl : _ = List.map (fun x : List Value => x.toArray) [_,_,_]) | exact (rfl : _ = List.map (fun x : List Value => x.toArray) [_,_,_,_]));(intro l hl <;> simp only [List.mem_cons,List.not_mem_nil,or_false] at hl <;> rcases hl with rfl | rfl | rfl | rfl <;> rfl);exact rfl;clear hp;(try clear w1);intro g w1 hp;simp only [zp,zq,z0,z1]) | ((with_reducible apply Qar hp);exact ii;exact ii;exact rfl;decide;exact (rfl : _ = Value.slice none 0 0);exact zy rfl;exact ii;exact rfl;exact rfl;decide;(unfold maxLen;decide);decide;clear hp;(try clear w1);intro g cap junk w1 hl1 hl2 hl3 hp;simp only [zp,zq,z0,z1]) | ((with_reducible apply Qay hp);exact ii;exact ii;exact rfl;decide;exact zy rfl;(first | exact List.Perm.refl _ | exact List.perm_middle (l₁ := [_]) | exact List.perm_middle (l₁ := [_,_]) | exact List.perm_middle (l₁ := [_,_,_]) | exact List.perm_middle (l₁ := [_,_,_,_]) | exact List.perm_middle (l₁ := [_,_,_,_,_]));(first | exact pcs_length _ | (simp only [List.length_map,Nat.mul_one]));assumption;assumption;assumption;exact zy rfl;exact ii;exact rfl;exact rfl;decide;(unfold maxLen;omega);omega;clear hp;(try clear w1);intro g cap junk w1 hl1 hl2 hl3 hp;(try dsimp only [List.cons_append,List.nil_append] at hp);simp only [zp,zq,z0,z1]) | ((with_reducible refine Qak hp (LE.out _ _ _ (BSl.pre hp.blk) (BSl.pre hp.blk)) ?_);clear hp;(try clear w1);intro w1 hp) | ((with_reducible refine Qca hp (RM.out _ _ (BSl.pre hp.blk)) ?_);clear hp;(try clear w1);intro g w1 hp) | ((with_reducible refine Qca hp (RP.out _ _ _ (BSl.pre hp.blk) (BSl.of hp.blk)) ?_);clear hp;(try clear w1);intro g w1 hp))
          obtain ⟨gP,rfl⟩ : ∃ k : Nat,k = g := ⟨_,rfl⟩
          rw [e0 (bt (N - (4 * R + 1)))] at hp
          go_upto_region 18 with (first | ((with_reducible apply Qao hp);exact za rfl;exact rfl;clear hp;(try clear w1);intro g w1 hp;simp only [zp,zq,z0,z1]) | ((with_reducible apply Qag hp);exact ii;exact rfl;clear hp;(try clear w1);intro g w1 hp;simp only [zp,zq,z0,z1]) | ((with_reducible apply Qaa hp);exact zt rfl;exact ii;exact ii;(first | exact zl rfl | exact Qad (by omega));(first | (with_reducible exact Qab (by omega)) | (simp only [n0,Nat.reduceAdd,n1,n2,n3,n4,n5,n6,n7,n8,n9];try rfl));simp only [zp,zq,z0,z1]) | ((with_reducible apply Qac hp);exact zt rfl;exact ii;exact ii;(first | exact zio rfl | exact Qae (by omega));simp only [zp,zq,z0,z1]) | ((with_reducible apply Qah hp);exact zt rfl;exact za rfl;exact rfl;exact Sz.z;exact rfl;exact ii;(first | (with_reducible exact Qab (by omega)) | (simp only [n0,Nat.reduceAdd,n1,n2,n3,n4,n5,n6,n7,n8,n9];try rfl));(first | exact zl rfl | exact Qad (by omega));exact rfl;exact ii;clear hp;(try clear w1);intro w1 hp) | ((with_reducible apply Qaj);exact zx rfl;exact zk rfl;exact ii;exact Sz.z;omega;omega;((try simp only [m0,Int.reduceToNat,m1,m2,Nat.reduceMul,Nat.reduceAdd,m3,m4,m5,n0]);exact rfl);simp only [zp,zq,z0,z1]) | ((with_reducible apply Qam hp);exact zt rfl;assumption;exact ii;assumption;(first | exact zl rfl | omega);simp only [zp,zq,z0,z1]) | ((with_reducible apply Qai hp);exact zt rfl;assumption;exact ii;(first | assumption | (first | exact zio rfl | exact Qae (by omega)));simp only [zp,zq,z0,z1]) | ((with_reducible apply Qat hp);exact ii;exact Sz.z;exact ii;exact zl rfl;decide;(first | exact (rfl : _ = Qan 0 [_]) | exact (rfl : _ = Qan 0 [_,_]) | exact (rfl : _ = Qan 0 [_,_,_]) | exact (rfl : _ = Qan 0 [_,_,_,_]));exact rfl;(first | exact (rfl : _ = List.map (fun x : List Value => x.toArray) [_]) | exact (rfl : _ = List.map (fun x : List Value => x.toArray) [_,_]) | exact (rfl : _ = List.map (fun x : List Value => x.toArray) [_,_,_]) | exact (rfl : _ = List.map (fun x : List Value => x.toArray) [_,_,_,_]));(intro l hl <;> simp only [List.mem_cons,List.not_mem_nil,or_false] at hl <;> rcases hl with rfl | rfl | rfl | rfl <;> rfl);exact rfl;clear hp;(try clear w1);intro g w1 hp;simp only [zp,zq,z0,z1]) | ((with_reducible apply Qar hp);exact ii;exact ii;exact rfl;decide;exact (rfl : _ = Value.slice none 0 0);exact zy rfl;exact ii;exact rfl;exact rfl;decide;(unfold maxLen;decide);decide;clear hp;(try clear w1);intro g cap junk w1 hl1 hl2 hl3 hp;simp only [zp,zq,z0,z1]) | ((with_reducible apply Qay hp);exact ii;exact ii;exact rfl;decide;exact zy rfl;(first | exact List.Perm.refl _ | exact List.perm_middle (l₁ := [_]) | exact List.perm_middle (l₁ := [_,_]) | exact List.perm_middle (l₁ := [_,_,_]) | exact List.perm_middle (l₁ := [_,_,_,_]) | exact List.perm_middle (l₁ := [_,_,_,_,_]));(first | exact pcs_length _ | (simp only [List.length_map,Nat.mul_one]));assumption;assumption;assumption;exact zy rfl;exact ii;exact rfl;exact rfl;decide;(unfold maxLen;omega);omega;clear hp;(try clear w1);intro g cap junk w1 hl1 hl2 hl3 hp;(try dsimp only [List.cons_append,List.nil_append] at hp);simp only [zp,zq,z0,z1]))
          go_wp2_with (first | ((with_reducible apply Qao hp);exact za rfl;exact rfl;clear hp;(try clear w1);intro g w1 hp;simp only [zp,zq,z0,z1]) | ((with_reducible apply Qag hp);exact ii;exact rfl;clear hp;(try clear w1);intro g w1 hp;simp only [zp,zq,z0,z1]) | ((with_reducible apply Qaa hp);exact zt rfl;exact ii;exact ii;(first | exact zl rfl | exact Qad (by omega));(first | (with_reducible exact Qab (by omega)) | (simp only [n0,Nat.reduceAdd,n1,n2,n3,n4,n5,n6,n7,n8,n9];try rfl));simp only [zp,zq,z0,z1]) | ((with_reducible apply Qac hp);exact zt rfl;exact ii;exact ii;(first | exact zio rfl | exact Qae (by omega));simp only [zp,zq,z0,z1]) | ((with_reducible apply Qah hp);exact zt rfl;exact za rfl;exact rfl;exact Sz.z;exact rfl;exact ii;(first | (with_reducible exact Qab (by omega)) | (simp only [n0,Nat.reduceAdd,n1,n2,n3,n4,n5,n6,n7,n8,n9];try rfl));(first | exact zl rfl | exact Qad (by omega));exact rfl;exact ii;clear hp;(try clear w1);intro w1 hp) | ((with_reducible apply Qaj);exact zx rfl;exact zk rfl;exact ii;exact Sz.z;omega;omega;((try simp only [m0,Int.reduceToNat,m1,m2,Nat.reduceMul,Nat.reduceAdd,m3,m4,m5,n0]);exact rfl);simp only [zp,zq,z0,z1]) | ((with_reducible apply Qam hp);exact zt rfl;assumption;exact ii;assumption;(first | exact zl rfl | omega);simp only [zp,zq,z0,z1]) | ((with_reducible apply Qai hp);exact zt rfl;assumption;exact ii;(first | assumption | (first | exact zio rfl | exact Qae (by omega)));simp only [zp,zq,z0,z1]) | ((with_reducible apply Qat hp);exact ii;exact Sz.z;exact ii;exact zl rfl;decide;(first | exact (rfl : _ = Qan 0 [_]) | exact (rfl : _ = Qan 0 [_,_]) | exact (rfl : _ = Qan 0 [_,_,_]) | exact (rfl : _ = Qan 0 [_,_,_,_]));exact rfl;(first | exact (rfl : _ = List.map (fun x : List Value => x.toArray) [_]) | exact (rfl : _ = List.map (fun x : List Value => x.toArray) [_,_]) | exact (rfl : _ = List.map (fun x : List Value => x.toArray) [_,_,_]) | exact (rfl : _ = List.map (fun x : List Value => x.toArray) [_,_,_,_]));(intro l hl <;> simp only [List.mem_cons,List.not_mem_nil,or_false] at hl <;> rcases hl with rfl | rfl | rfl | rfl <;> rfl);exact rfl;clear hp;(try clear w1);intro g w1 hp;simp only [zp,zq,z0,z1]) | ((with_reducible apply Qar hp);exact ii;exact ii;exact rfl;decide;exact (rfl : _ = Value.slice none 0 0);exact zy rfl;exact ii;exact rfl;exact rfl;decide;(unfold maxLen;decide);decide;clear hp;(try clear w1);intro g cap junk w1 hl1 hl2 hl3 hp;simp only [zp,zq,z0,z1]) | ((with_reducible apply Qay hp);exact ii;exact ii;exact rfl;decide;exact zy rfl;(first | exact List.Perm.refl _ | exact List.perm_middle (l₁ := [_]) | exact List.perm_middle (l₁ := [_,_]) | exact List.perm_middle (l₁ := [_,_,_]) | exact List.perm_middle (l₁ := [_,_,_,_]) | exact List.perm_middle (l₁ := [_,_,_,_,_]));(first | exact pcs_length _ | (simp only [List.length_map,Nat.mul_one]));assumption;assumption;assumption;exact zy rfl;exact ii;exact rfl;exact rfl;decide;(unfold maxLen;omega);omega;clear hp;(try clear w1);intro g cap junk w1 hl1 hl2 hl3 hp;(try dsimp only [List.cons_append,List.nil_append] at hp);simp only [zp,zq,z0,z1]) | ((with_reducible apply Qeb (n := 1) (m := 519) (size := 1) (cap := 1) (xs := [.int .i64 1]) (junk := []) (news := tab (bt R) 519) hp);exact ii;exact ii;exact rfl;decide;exact zy rfl;exact List.Perm.refl _;exact rfl;exact rfl;omega;(unfold maxLen;omega);exact zy rfl;exact ii;exact Qiv (by omega) _;(rw [Qbq]);exact Qeg _ _;omega;(unfold maxLen;omega);omega;clear hp;(try clear w1);intro g cap junk w1 hl1 hl2 hl3 hp;simp only [zp,zq,z0,z1]))
          rw [Qnk R 1 (by omega)] at hp
          go_roundw
          case rel =>
            refine ⟨j,g,cap,gP,520,junk,[],by omega,rfl,rfl,?_,by omega,by omega,?_⟩
            · have := HE.out
              congr 1
              omega
            · rw [← HA'.out,E2.out,E1.out]
              exact hp.sub (by repeat (first | exact List.Sublist.refl _ | apply List.Sublist.cons_cons | apply List.Sublist.cons))
          case measure => simp [intOf];omega
end Go.Proofs.YtblffafmkpnjdaaGreat
