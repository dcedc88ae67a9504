/-
  Numbers by their bits (plain); blocks that are told by a function; make([]int, n).
  Package ninepinref01: Long, plus, minus (contracts).
  Package ninepinref01: Of (contract).
  Package ninepinref01: Below, Small, Sign, Add, Sub, top, size (contracts).
  Package ninepinref01: Small, top, size, Add, Sub (contracts).
  Adding bit by bit: what the rounds of a product do (plain).
  Package ninepinref01: Mul (contract).
-/
import Derived.Test.YtdfdmeoalbpcdaaGreatSl
import Derived.Test.YtdfdmeoalbpcdaaGreatEr
import Derived.Laws.MakeOwn
import Derived.WalkKit
import Derived.WalkSmall
import Derived.Lib.Hide
import Derived.Test.YtdfdmeoalbpcdaaGreatMc
set_option linter.unusedSimpArgs false
set_option linter.unusedVariables false
namespace Go.Proofs.YtdfdmeoalbpcdaaGreat
open Go Go.RowKit
/-! ### Blocks of ints -/
def tab (F : Nat → Int) (L : Nat) : List Value := (List.range L).map fun i => .int .i64 (F i)
theorem Qik (F : Nat → Int) (L : Nat) : (tab F L).length = L := by simp [tab]
theorem Qet {F : Nat → Int} {L k : Nat} (h : k < L) : (tab F L)[k]? = some (.int .i64 (F k)) := by simp [tab,h]
theorem Qkm {F : Nat → Int} {L k : Nat} (h : k < L) : k + 1 ≤ (tab F L).length := by rw [Qik];omega
theorem Qgl {F : Nat → Int} {L k : Nat} {v : Int} (h : k < L) : (tab F L).take k ++ [.int .i64 v] ++ (tab F L).drop (k + 1) = tab (upd F k v) L := by
  apply List.ext_getElem?
  intro i
  rcases Nat.lt_trichotomy i k with hi|rfl|hi
  · rw [List.append_assoc,List.getElem?_append_left (by simp [tab];omega),List.getElem?_take_of_lt hi,Qet (by omega),Qet (by omega),Qep _ _ (by omega)]
  · rw [List.append_assoc,List.getElem?_append_right (by simp [tab];omega)]
    have : i - (List.take i (tab F L)).length = 0 := by simp [tab];omega
    rw [this,Qet h,Qct]
    rfl
  · rw [List.getElem?_append_right (by simp [tab];omega)]
    have : i - (List.take k (tab F L) ++ [Value.int .i64 v]).length = i - (k + 1) := by simp [tab];omega
    rw [this,List.getElem?_drop,show k + 1 + (i - (k + 1)) = i by omega]
    by_cases h2 : i < L
    · rw [Qet h2,Qet h2,Qep _ _ (by omega)]
    · rw [List.getElem?_eq_none (by rw [Qik];omega),List.getElem?_eq_none (by rw [Qik];omega)]
theorem Qcv {F G : Nat → Int} {L : Nat} (h : ∀ j,j < L → F j = G j) : tab F L = tab G L := by
  unfold tab
  exact List.map_congr_left fun i hi => by rw [h i (List.mem_range.1 hi)]
theorem made_tab (n : Nat) : madeCells (Value.int .i64 0).cells (n * 1) = (tab (fun _ => 0) n).toArray := by
  apply Array.ext'
  unfold madeCells tab
  simp [Value.cells]
  intro a _
  rw [Nat.mod_one]
  rfl
theorem Qdc {P : Program} {X : List Nat} {w0 w : World} {H : List Bk} {ops : Array Oper} {Q : Exit → Act → World → Prop} {a : Act} {rest : List Oper} {d : Tmp} {tp t e : TypeId} {pos : String} {af : Array Edge} {x y : Operand} {n bytes : Nat}
    (hp : Hp X w0 H w) (ht : Qfk P t e) (he : Qgf P e (.int .i64 0) 1 bytes) (hx : a.eval x = .int .i64 n) (hy : a.eval y = .int .i64 n) (hb : bytes * n ≤ 281474976710656) (h63 : n ≤ 9223372036854775807)
    (hk : ∀ g w1,Hp X w0 (⟨g,e,tab (fun _ => 0) n⟩ :: H) w1 → wpList P ops Q rest (a.put (some d) (.slice (some ⟨g,0,none⟩) n n)) w1) : wpList P ops Q (⟨some d,.makeSlice t x y,tp,pos,af,none⟩ :: rest) a w := by
  obtain ⟨i,hi,hi'⟩ : ∃ i,P.info? e = some i ∧ (i.zero,i.size,i.bytes) = (some (.int .i64 0),1,bytes) := by
    have := he.info
    cases h : P.info? e with
    | none => rw [h] at this;cases this
    | some i => rw [h] at this;exact ⟨i,rfl,by simpa using this⟩
  simp only [Prod.mk.injEq] at hi'
  obtain ⟨hiz,his,hib⟩ := hi'
  have hb1 : ((bytes * n : Nat) : Int) ≤ 281474976710656 := by omega
  rw [Int.natCast_mul] at hb1
  have hr := run_make (P := P) w t e i (.int .i64 0) ht.und hi hiz .i64 .i64 n n (by omega) (by omega) (by rw [hib];exact hb1) (by omega)
  rw [his,Int.toNat_natCast,made_tab] at hr
  refine wpList_plain rfl fun K hK => ?_
  unfold Oper.wp
  simp only [execOp,hx,hy,Sem.run_bind,hr,Result.andThen_ok]
  exact hK _ _ (hk _ _ (hp.alloc e _))
/-- An operation without memory that alone may come up. -/
theorem sd_lpure {P : Program} {ops : Array Oper} {Q : Exit → Act → World → Prop} {N : List Nat} {X : List Nat} {w0 w : World} {H : List Bk} {a : Act} {i : Nat} {rest : Sc} {o : Oper} {v : Value} (hp : Hp X w0 H w) (hw : Region.wanted o (yielded ops a.tmps) = true) (hv : ∀ w,(execOp a.eval o).run P w = .ok (.value v) w)
    (hk : Qbd P ops Q (Hp X w0 H) N rest (a.put o.dst v) w) : wpL P ops Q (Hp X w0 H) N i rest o a w := by
  refine Qek hw ?_
  unfold Oper.wp
  simp only [hv,Oper.upon]
  exact ⟨fun _ => hp,hk⟩
/-- A call that is known of this world alone. -/
theorem Qck {P : Program} {ops : Array Oper} {Q : Exit → Act → World → Prop} {N : List Nat} {X : List Nat} {w0 w : World} {H Hq : List Bk} {a : Act} {i : Nat} {rest : Sc} {d : Tmp} {tp : TypeId} {pos : String} {af : Array Edge} {gd : Option (Nat × Bool)} {c : Call} {f : FuncId} {args : Array Value} {v : Value} (hp : Hp X w0 H w) (hw : Region.wanted ⟨some d,.call c,tp,pos,af,gd⟩ (yielded ops a.tmps) = true)
    (he : ∀ w,(execOp a.eval ⟨some d,.call c,tp,pos,af,gd⟩).run P w = .ok (.enter f args) w) (hc : Calls P f args w (Ret v w)) (hq : Hp X w0 Hq w)
    (hk : ∀ w1,Hp X w0 H w1 → Hp X w0 Hq w1 → Qbd P ops Q (Hp X w0 H) N rest (a.put (some d) v) w1) : wpL P ops Q (Hp X w0 H) N i rest ⟨some d,.call c,tp,pos,af,gd⟩ a w := by
  refine Qek hw ?_
  unfold Oper.wp
  simp only [he,Oper.upon]
  exact hc.mono fun e w1 ⟨he,hw1⟩ => by subst he;exact ⟨fun _ => hp.call hw1,hk w1 (hp.call hw1) (hq.call hw1)⟩
/-! ### Bits -/
/-- Bit i of n, in two's complement. -/
def bt (n : Int) (i : Nat) : Int := n / 2 ^ i % 2
theorem Qhe (n : Int) (i : Nat) : 0 ≤ bt n i ∧ bt n i ≤ 1 := by unfold bt;omega
/-- What is carried into bit k. -/
def cb (a b c : Int) (k : Nat) : Int := (a % 2 ^ k + b % 2 ^ k + c) / 2 ^ k
theorem cb_zero {a b c : Int} : cb a b c 0 = c := by simp [cb,Int.emod_one]
theorem cb_bd (a b c : Int) (k : Nat) (h0 : 0 ≤ c) (h1 : c ≤ 1) : 0 ≤ cb a b c k ∧ cb a b c k ≤ 1 := by
  unfold cb
  have hp := Qak k
  have ha := Int.emod_nonneg a (by omega : (2 : Int) ^ k ≠ 0)
  have hb := Int.emod_nonneg b (by omega : (2 : Int) ^ k ≠ 0)
  have ha' := Int.emod_lt_of_pos a hp
  have hb' := Int.emod_lt_of_pos b hp
  refine ⟨Int.ediv_nonneg (by omega) (by omega),?_⟩
  have : (a % 2 ^ k + b % 2 ^ k + c) / 2 ^ k < 2 := by
    rw [Int.ediv_lt_iff_lt_mul hp];omega
  omega
theorem sum_bt (a b c : Int) (k : Nat) : (bt a k + bt b k + cb a b c k) % 2 = bt (a + b + c) k := by
  have hp := Qak k
  have ha : a = 2 ^ k * (a / 2 ^ k) + a % 2 ^ k := (Int.mul_ediv_add_emod _ _).symm
  have hb : b = 2 ^ k * (b / 2 ^ k) + b % 2 ^ k := (Int.mul_ediv_add_emod _ _).symm
  have hs : a + b + c = (a % 2 ^ k + b % 2 ^ k + c) + 2 ^ k * (a / 2 ^ k + b / 2 ^ k) := by
    rw [Int.mul_add];omega
  have hd : (a + b + c) / 2 ^ k = cb a b c k + (a / 2 ^ k + b / 2 ^ k) := by
    rw [hs,Int.add_mul_ediv_left _ _ (by omega)];rfl
  unfold bt
  rw [hd]
  omega
theorem cb_succ (a b c : Int) (k : Nat) : (bt a k + bt b k + cb a b c k) / 2 = cb a b c (k + 1) := by
  have hp := Qak k
  have e : cb a b c (k + 1) = (a % (2 ^ k * 2) + b % (2 ^ k * 2) + c) / (2 ^ k * 2) := by
    unfold cb;rw [Int.pow_succ]
  rw [e,Qcg a _ _ hp (by omega),Qcg b _ _ hp (by omega),← Int.ediv_ediv_of_nonneg (by omega)]
  have : (2 ^ k * (a / 2 ^ k % 2) + a % 2 ^ k + (2 ^ k * (b / 2 ^ k % 2) + b % 2 ^ k) + c) = (a % 2 ^ k + b % 2 ^ k + c) + 2 ^ k * (bt a k + bt b k) := by
    unfold bt;rw [Int.mul_add];omega
  rw [this,Int.add_mul_ediv_left _ _ (by omega)]
  show _ = (cb a b c k + _) / _
  congr 1
  omega
theorem bt_not (a : Int) (k : Nat) : bt (-a - 1) k = 1 - bt a k := by
  have hp := Qak k
  have hd : (-a - 1) / 2 ^ k = - (a / 2 ^ k) - 1 := by
    have ha : a = 2 ^ k * (a / 2 ^ k) + a % 2 ^ k := (Int.mul_ediv_add_emod _ _).symm
    have h0 := Int.emod_nonneg a (by omega : (2 : Int) ^ k ≠ 0)
    have h1 := Int.emod_lt_of_pos a hp
    have hs : -a - 1 = (2 ^ k - 1 - a % 2 ^ k) + 2 ^ k * (- (a / 2 ^ k) - 1) := by
      rw [Int.mul_sub,Int.mul_neg];omega
    rw [hs,Int.add_mul_ediv_left _ _ (by omega),Int.ediv_eq_zero_of_lt (by omega) (by omega)]
    omega
  unfold bt
  rw [hd]
  omega
theorem Qia (k : Nat) : bt 0 k = 0 := by simp [bt]
/-- The bits of a limb. -/
theorem bt_limb (n : Int) (i : Nat) : lb n (i / 64) / 2 ^ (i % 64) % 2 = bt n i := by
  unfold lb bt
  have e : (18446744073709551616 : Int) = 2 ^ (i % 64) * (2 * 2 ^ (63 - i % 64)) := by
    rw [show (2 : Int) * 2 ^ (63 - i % 64) = 2 ^ (64 - i % 64) by rw [← Int.pow_succ',show 63 - i % 64 + 1 = 64 - i % 64 by omega],← Int.pow_add,show i % 64 + (64 - i % 64) = 64 by omega]
    rfl
  have hp := Qak (i % 64)
  have hp2 := Qak (63 - i % 64)
  generalize hx : n / 2 ^ (64 * (i / 64)) = x
  have h1 : n / 2 ^ i = x / 2 ^ (i % 64) := by
    rw [← hx,Int.ediv_ediv_of_nonneg (Int.le_of_lt (Qak _)),← Int.pow_add,show 64 * (i / 64) + i % 64 = i by omega]
  rw [h1,e]
  generalize (2 : Int) ^ (i % 64) = p at *
  generalize (2 : Int) ^ (63 - i % 64) = q at *
  rw [Qcg x p (2 * q) hp (by omega),Int.add_comm,Int.add_mul_ediv_left _ _ (by omega)]
  rw [Int.ediv_eq_zero_of_lt (Int.emod_nonneg _ (by omega)) (Int.emod_lt_of_pos _ hp),Int.zero_add]
  generalize x / p = y
  have := Int.emod_emod_of_dvd y (show (2 : Int) ∣ 2 * q from ⟨q,rfl⟩)
  exact this
end Go.Proofs.YtdfdmeoalbpcdaaGreat
set_option linter.unusedSimpArgs false
set_option linter.unusedVariables false
set_option maxRecDepth 100000
namespace Go.Proofs.YtdfdmeoalbpcdaaGreat
open Go Go.RowKit
/-- A slice that holds L bits of x. -/
def BSl (w : World) (v : Value) (x : Int) (L : Nat) : Prop := ∃ g off cap bc t z,v = .slice (some ⟨g,off,none⟩) L cap ∧ w.heap[g]? = some (.cells (bc : List Value).toArray t z) ∧ ∀ k,k < L → bc[off + k * 1]? = some (.int .i64 (bt x k))
theorem BSl.of {w : World} {g cap L : Nat} {t : TypeId} {x : Int} (h : w.heap[g]? = some (.cells (tab (bt x) L).toArray t (0,0))) : BSl w (.slice (some ⟨g,0,none⟩) L cap) x L :=
  ⟨g,0,cap,_,t,_,rfl,h,fun k hk => by rw [Nat.zero_add,Nat.mul_one];exact Qet hk⟩
theorem M511_le {i : Nat} (hi : 511 ≤ i) : M511 ≤ 2 ^ i := by
  have h1 : (2 : Int) ^ i = 2 ^ (64 * 7) * 2 ^ (i - 448) := by rw [← Int.pow_add,show 64 * 7 + (i - 448) = i by omega]
  have h2 : (9223372036854775808 : Int) ≤ 2 ^ (i - 448) := by
    have h3 := Nat.pow_le_pow_right (n := 2) (by omega) (show 63 ≤ i - 448 by omega)
    have h4 : ((2 ^ 63 : Nat) : Int) ≤ ((2 ^ (i - 448) : Nat) : Int) := Int.ofNat_le.2 h3
    rw [Int.natCast_pow,Int.natCast_pow] at h4
    exact h4
  rw [h1,pow448]
  unfold M511
  omega
/-- Behind the sign's bit all are as it is. -/
theorem Qng {n : Int} (h : Fit n) {i : Nat} (hi : 511 ≤ i) : bt n i = if n < 0 then 1 else 0 := by
  unfold Fit at h
  have hp := M511_le hi
  have hq := Qak i
  unfold bt
  split
  · have : n / 2 ^ i = -1 := by
      have h1 : n = 2 ^ i * (-1) + (n + 2 ^ i) := by omega
      rw [h1,Int.add_comm,Int.add_mul_ediv_left _ _ (by omega),Int.ediv_eq_zero_of_lt (by omega) (by omega)]
      omega
    rw [this];rfl
  · rw [Int.ediv_eq_zero_of_lt (by omega) (by omega)];rfl
theorem run_min2 {P : Program} (ts : Array TypeId) (t : TypeId) (k : Nat) : ∃ m : Nat,(∀ w,(Builtin.min_ ts t #[.int .i64 k,.int .i64 511]).run P w = .ok (.int .i64 m) w) ∧ m < 512 ∧ (k < 512 → m = k) ∧ (512 ≤ k → m = 511) := by
  by_cases h : k < 511
  · refine ⟨k,fun w => ?_,by omega,fun _ => rfl,fun _ => by omega⟩
    simp [Builtin.min_,Builtin.min2];omega
  · refine ⟨511,fun w => ?_,by omega,fun _ => by omega,fun _ => rfl⟩
    simp [Builtin.min_,Builtin.min2];omega
theorem Qmy {G : Nat → Int} {k L : Nat} {V : Int} (hV : V = G k) : tab (upd (fun j => if j < k then G j else 0) (k * 1) V) L = tab (fun j => if j < k + 1 then G j else 0) L := by
  refine Qcv fun j _ => ?_
  rw [Nat.mul_one]
  by_cases h : j = k
  · subst h
    rw [Qct,hV,if_pos (by omega)]
  · rw [Qep _ _ h]
    by_cases h2 : j < k
    · rw [if_pos h2,if_pos (by omega)]
    · rw [if_neg h2,if_neg (by omega)]
theorem Qiw {G : Nat → Int} {L : Nat} : tab (fun j => if j < L then G j else 0) L = tab G L := Qcv fun j hj => if_pos hj
theorem Qmt {G : Nat → Int} {L : Nat} : tab (fun _ => 0) L = tab (fun j => if j < 0 then G j else 0) L := Qcv fun j hj => (if_neg (by omega)).symm
theorem long_bit {n : Int} (hn : Fit n) {k m : Nat} (h1 : k < 512 → m = k) (h2 : 512 ≤ k → m = 511) : RowKit.wrap64 ((lb n (m / 64) / 2 ^ (m % 64)).tmod 2) = bt n k := by
  have h0 : 0 ≤ lb n (m / 64) / 2 ^ (m % 64) := Int.ediv_nonneg (Qbj _ _) (Int.le_of_lt (Qak _))
  rw [Int.tmod_eq_emod_of_nonneg h0,bt_limb]
  have hb := Qhe n m
  rw [IntWalk.wrap64_in _ (by omega)]
  by_cases h : k < 512
  · rw [h1 h]
  · rw [h2 (by omega),Qng hn (by omega),Qng hn (by omega)]
set_option maxHeartbeats 4000000 in
theorem long_any (n : Int) (hn : Fit n) (L : Nat) (hL : L ≤ 4096) (w : World) : Calls Tryz.prog 110 #[W n,.int .i64 L] w (RetN (fun g => .slice (some ⟨g,0,none⟩) L L) 3 (tab (bt n) L) w) := by
  have Hn := Lib.hid hn
  clear hn
  go_enter Tryz.func110,Tryz.ntmps110
  have hp := Hp.start [] w
  go_wp2_with (first|((with_reducible apply Qau hp);exact za rfl;exact rfl;clear hp;(try clear w1);intro g w1 hp;simp only [zp,zq,z0,z1])|((with_reducible apply Qdc hp);exact ii;exact ii;exact zk rfl;exact zk rfl;omega;omega;clear hp;(try clear w1);intro g w1 hp;simp only [zp,zq,z0,z1]))
  rename_i g2 K hK
  obtain ⟨gl,rfl⟩ : ∃ x : Nat,x = g := ⟨_,rfl⟩
  go_loopw [6] (fun i wr => ∃ k : Nat,k ≤ L ∧ i = .int .i64 k ∧ Hp [] w [⟨gl,3,tab (fun j => if j < k then bt n j else 0) L⟩,⟨g2,27,LB (lb n)⟩] wr) (fun i _ => L - (intOf i).toNat)
  case atStart => exact ⟨0,by omega,rfl,by rw [← Qmt];exact hp⟩
  case round =>
    clear hp
    obtain ⟨k,hk,rfl,hp⟩ := hrel
    by_cases hk1 : k < L
    · have hk2 : (k : Int) < L := by omega
      obtain ⟨m,hmin,hm,hm1,hm2⟩ := run_min2 (P := Tryz.prog) #[3,3] 3 k
      have HM1 := Lib.hid hm1
      have HM2 := Lib.hid hm2
      clear hm1 hm2
      go_wp2_with (first|((with_reducible apply Qai hp);exact zt rfl;exact ii;exact ii;(exact Qcp (by omega));simp only [zp,zq,z0,z1])|((with_reducible apply Qae hp);exact zt rfl;exact zi rfl;exact rfl;(exact OneTy.size);exact rfl;exact ii;(with_reducible exact Qgl (by omega));(exact Qkm (by omega));exact rfl;exact ii;clear hp;(try clear w1);intro w1 hp)|((with_reducible apply Qar);exact zx rfl;exact zk rfl;exact ii;(exact OneTy.size);omega;omega;((try simp only [m0,Int.reduceToNat,m1,m2,Nat.reduceMul,Nat.reduceAdd,m3,m4,m5,n0]);exact rfl);simp only [zp,zq,z0,z1]))
      go_roundw
      case rel =>
        refine ⟨k + 1,by omega,by go_num,?_⟩
        rw [← Qmy (V := _) (long_bit Hn.out HM1.out HM2.out)]
        exact hp
      case measure => simp [intOf];omega
    · obtain rfl : k = L := by omega
      go_wp2_with (fail)
      rw [Qiw] at hp
      exact bodyPost_ret (Qaa rfl rfl) rfl ⟨gl,rfl,hp.keep,hp.fresh,hp.blk⟩
set_option maxHeartbeats 4000000 in
theorem Qfp (x y : Int) (L : Nat) (hL : L ≤ 4096) (v1 v2 : Value) (w : World) (h1 : BSl w v1 x L) (h2 : BSl w v2 y L) : Calls Tryz.prog 105 #[v1,v2] w (RetN (fun g => .slice (some ⟨g,0,none⟩) L L) 3 (tab (bt (x + y)) L) w) := by
  obtain ⟨ga,oa,ca,bca,ta,qa,rfl,hba,hga⟩ := h1
  obtain ⟨gb,ob,cb',bcb,tb,qb,rfl,hbb,hgb⟩ := h2
  have HGA := Lib.hid hga
  have HGB := Lib.hid hgb
  clear hga hgb
  go_enter Tryz.func105,Tryz.ntmps105
  have hp := Hp.start [] w
  go_wp2_with ((with_reducible apply Qdc hp);exact ii;exact ii;exact zk rfl;exact zk rfl;omega;omega;clear hp;(try clear w1);intro g w1 hp;simp only [zp,zq,z0,z1])
  obtain ⟨gl,rfl⟩ : ∃ x : Nat,x = g := ⟨_,rfl⟩
  go_loopw [6,7] (fun c i wr => ∃ (k : Nat) (cc : Int),k ≤ L ∧ i = .int .i64 k ∧ c = .int .i64 cc ∧ cc = cb x y 0 k ∧ Hp [] w [⟨gl,3,tab (fun j => if j < k then bt (x + y) j else 0) L⟩] wr) (fun _ i _ => L - (intOf i).toNat)
  case atStart => exact ⟨0,0,by omega,rfl,rfl,cb_zero.symm,by rw [← Qmt];exact hp⟩
  case round =>
    clear hp
    obtain ⟨k,cc,hk,rfl,rfl,hcc,hp⟩ := hrel
    by_cases hk1 : k < L
    · have hk2 : (k : Int) < L := by omega
      have ha := HGA.out k hk1
      have hb := HGB.out k hk1
      have hc := cb_bd x y 0 k (by omega) (by omega)
      have hx := Qhe x k
      have hy := Qhe y k
      have hs := sum_bt x y 0 k
      have hn := cb_succ x y 0 k
      rw [← hcc] at hc hs hn
      rw [Int.add_zero] at hs
      generalize bt x k = a at *
      generalize bt y k = b at *
      obtain ⟨hc0,hc1⟩ := hc
      obtain ⟨hx0,hx1⟩ := hx
      obtain ⟨hy0,hy1⟩ := hy
      have HS := Lib.hid hs
      have HN := Lib.hid hn
      clear hs hn hcc
      go_wp2_with (fail)
      have hq := hp
      refine Qad hp hq [] (.q 0 (.q 1 (.q 2 (.q 3 (.q 4 (.q 5 (.q 6 (.q 7 (.q 8 (.q 9 (.q 10 (.q 11 .nil)))))))))))) (by kernel_rfl) (by kernel_rfl) ?_
      clear hp hq;(try clear w1);intro w1 hp hq
      repeat' (first|(((with_reducible apply sd_q);exact zo rfl);(first|((with_reducible apply Qbl hp);exact rfl;exact zt rfl;assumption;exact ii;(assumption);simp only [zp,zq,z0,z1])|((with_reducible apply Qaq hp);(first|exact zi rfl|exact zs rfl);simp only [zp,zq,z0,z1])|((with_reducible apply Qat hp);exact zi rfl;simp only [zp,zq,z0,z1])|((with_reducible apply Qas hp);exact rfl;exact zx rfl;exact zk rfl;exact ii;(exact OneTy.size);omega;omega;((try simp only [m0,Int.reduceToNat,m1,m2,Nat.reduceMul,Nat.reduceAdd,m3,m4,m5,n0]);exact rfl);simp only [zp,zq,z0,z1])|((with_reducible apply Qaj hp);exact rfl;(focus (intro _;go_simp;(try go_ints);try with_reducible rfl));simp only [zp,zq,z0,z1])))|((with_reducible apply Qao);clear hp;have hp := hq;clear hq))
      go_wp2_with (first|((with_reducible apply Qae hp);exact zt rfl;exact zi rfl;exact rfl;(exact OneTy.size);exact rfl;exact ii;(with_reducible exact Qgl (by omega));(exact Qkm (by omega));exact rfl;exact ii;clear hp;(try clear w1);intro w1 hp)|((with_reducible apply Qar);exact zx rfl;exact zk rfl;exact ii;(exact OneTy.size);omega;omega;((try simp only [m0,Int.reduceToNat,m1,m2,Nat.reduceMul,Nat.reduceAdd,m3,m4,m5,n0]);exact rfl);simp only [zp,zq,z0,z1]))
      go_roundw
      case rel =>
        refine ⟨k + 1,_,by omega,by go_num,rfl,HN.out,?_⟩
        rw [← Qmy HS.out]
        exact hp
      case measure => simp [intOf];omega
    · obtain rfl : k = L := by omega
      go_wp2_with (fail)
      rw [Qiw] at hp
      exact bodyPost_ret (Qaa rfl rfl) rfl ⟨gl,rfl,hp.keep,hp.fresh,hp.blk⟩
set_option maxHeartbeats 4000000 in
theorem Qcx (x : Int) (L : Nat) (hL : L ≤ 4096) (v1 : Value) (w : World) (h1 : BSl w v1 x L) : Calls Tryz.prog 106 #[v1] w (RetN (fun g => .slice (some ⟨g,0,none⟩) L L) 3 (tab (bt (-x)) L) w) := by
  obtain ⟨ga,oa,ca,bca,ta,qa,rfl,hba,hga⟩ := h1
  have HGA := Lib.hid hga
  clear hga
  go_enter Tryz.func106,Tryz.ntmps106
  have hp := Hp.start [] w
  go_wp2_with ((with_reducible apply Qdc hp);exact ii;exact ii;exact zk rfl;exact zk rfl;omega;omega;clear hp;(try clear w1);intro g w1 hp;simp only [zp,zq,z0,z1])
  obtain ⟨gl,rfl⟩ : ∃ x : Nat,x = g := ⟨_,rfl⟩
  go_loopw [4,5] (fun c i wr => ∃ (k : Nat) (cc : Int),k ≤ L ∧ i = .int .i64 k ∧ c = .int .i64 cc ∧ cc = cb (-x - 1) 0 1 k ∧ Hp [] w [⟨gl,3,tab (fun j => if j < k then bt (-x) j else 0) L⟩] wr) (fun _ i _ => L - (intOf i).toNat)
  case atStart => exact ⟨0,1,by omega,rfl,rfl,cb_zero.symm,by rw [← Qmt];exact hp⟩
  case round =>
    clear hp
    obtain ⟨k,cc,hk,rfl,rfl,hcc,hp⟩ := hrel
    by_cases hk1 : k < L
    · have hk2 : (k : Int) < L := by omega
      have ha := HGA.out k hk1
      have hc := cb_bd (-x - 1) 0 1 k (by omega) (by omega)
      have hx := Qhe x k
      have hs := sum_bt (-x - 1) 0 1 k
      have hn := cb_succ (-x - 1) 0 1 k
      rw [← hcc] at hc hs hn
      rw [bt_not,Qia,Int.add_zero] at hs hn
      rw [show -x - 1 + 0 + 1 = -x by omega] at hs
      generalize bt x k = a at *
      obtain ⟨hc0,hc1⟩ := hc
      obtain ⟨hx0,hx1⟩ := hx
      have HS := Lib.hid hs
      have HN := Lib.hid hn
      clear hs hn hcc
      go_wp2_with (first|((with_reducible apply Qae hp);exact zt rfl;exact zi rfl;exact rfl;(exact OneTy.size);exact rfl;exact ii;(with_reducible exact Qgl (by omega));(exact Qkm (by omega));exact rfl;exact ii;clear hp;(try clear w1);intro w1 hp)|((with_reducible apply Qar);exact zx rfl;exact zk rfl;exact ii;(exact OneTy.size);omega;omega;((try simp only [m0,Int.reduceToNat,m1,m2,Nat.reduceMul,Nat.reduceAdd,m3,m4,m5,n0]);exact rfl);simp only [zp,zq,z0,z1])|((with_reducible apply Qbf hp);exact zt rfl;assumption;exact ii;(assumption);simp only [zp,zq,z0,z1]))
      go_roundw
      case rel =>
        refine ⟨k + 1,_,by omega,by go_num,rfl,HN.out,?_⟩
        rw [← Qmy HS.out]
        exact hp
      case measure => simp [intOf];omega
    · obtain rfl : k = L := by omega
      go_wp2_with (fail)
      rw [Qiw] at hp
      exact bodyPost_ret (Qaa rfl rfl) rfl ⟨gl,rfl,hp.keep,hp.fresh,hp.blk⟩
end Go.Proofs.YtdfdmeoalbpcdaaGreat
set_option linter.unusedSimpArgs false
set_option linter.unusedVariables false
set_option maxRecDepth 100000
namespace Go.Proofs.YtdfdmeoalbpcdaaGreat
open Go Go.RowKit
/-- A limb, when its bits from k on are Qeu, the highest first. -/
def gl (m : Int) (k j : Nat) : Int := lb m j / 2 ^ (k - 64 * j)
theorem gl_bd (m : Int) (k j : Nat) : 0 ≤ gl m k j ∧ gl m k j < 18446744073709551616 := by
  unfold gl
  have h0 := Qbj m j
  have h1 := Qfz m j
  have hp := Qak (k - 64 * j)
  refine ⟨Int.ediv_nonneg h0 (by omega),?_⟩
  have := Int.ediv_le_self (a := lb m j) (2 ^ (k - 64 * j)) h0
  omega
theorem gl_step (m : Int) (i : Nat) : gl m (i + 1) (i / 64) * 2 + bt m i = gl m i (i / 64) := by
  rw [← bt_limb m i]
  unfold gl
  rw [show i + 1 - 64 * (i / 64) = i % 64 + 1 by omega,show i - 64 * (i / 64) = i % 64 by omega,Int.pow_succ,← Int.ediv_ediv_of_nonneg (Int.le_of_lt (Qak _))]
  omega
theorem Qfl {m : Int} {k j : Nat} (h : 64 ≤ k - 64 * j) : gl m k j = 0 := by
  unfold gl
  refine Int.ediv_eq_zero_of_lt (Qbj _ _) (Int.lt_of_lt_of_le (Qfz _ _) ?_)
  have := Nat.pow_le_pow_right (n := 2) (by omega) h
  have h2 : ((2 ^ 64 : Nat) : Int) ≤ ((2 ^ (k - 64 * j) : Nat) : Int) := Int.ofNat_le.2 this
  rw [Int.natCast_pow,Int.natCast_pow] at h2
  exact h2
theorem gl_other (m : Int) {i j : Nat} (h : j ≠ i / 64) : gl m (i + 1) j = gl m i j := by
  by_cases h1 : i < 64 * j
  · unfold gl
    rw [show i + 1 - 64 * j = 0 by omega,show i - 64 * j = 0 by omega]
  · rw [Qfl (by omega),Qfl (by omega)]
theorem gl_all (m : Int) : LB (gl m 0) = LB (lb m) := Qed fun j _ => by simp [gl]
theorem gl_none (m : Int) : LB (gl m 512) = [.int .u64 0,.int .u64 0,.int .u64 0,.int .u64 0,.int .u64 0,.int .u64 0,.int .u64 0,.int .u64 0] := by
  simp only [LB,Qfl (m := m) (k := 512) (j := 0) (by omega),Qfl (m := m) (k := 512) (j := 1) (by omega),Qfl (m := m) (k := 512) (j := 2) (by omega),Qfl (m := m) (k := 512) (j := 3) (by omega),Qfl (m := m) (k := 512) (j := 4) (by omega),Qfl (m := m) (k := 512) (j := 5) (by omega),Qfl (m := m) (k := 512) (j := 6) (by omega),Qfl (m := m) (k := 512) (j := 7) (by omega)]
theorem gl_put (m : Int) (i : Nat) (V : Int) (hV : V = gl m i (i / 64)) : LB (upd (gl m (i + 1)) (i / 64) V) = LB (gl m i) := by
  refine Qed fun j _ => ?_
  by_cases h : j = i / 64
  · subst h;rw [Qct,hV]
  · rw [Qep _ _ h,gl_other m h]
theorem Qhl {h : Int} : ∀ T,(∀ t,t < T → bt h t = 0) → h % 2 ^ T = 0
  | 0,_ => by simp [Int.emod_one]
  | T + 1,H => by
    have ih := Qhl T fun t ht => H t (by omega)
    rw [Int.pow_succ,Qcg h _ _ (Qak T) (by omega)]
    have := H T (by omega)
    unfold bt at this
    rw [this,ih]
    omega
theorem Qmz (m : Int) (a t : Nat) : bt (m / 2 ^ a) t = bt m (a + t) := by
  unfold bt
  rw [Int.ediv_ediv_of_nonneg (Int.le_of_lt (Qak _)),← Int.pow_add]
theorem Qis {a : Nat} (ha : a = 511) : M511 = 2 ^ a := by
  have h1 : (2 : Int) ^ a = 2 ^ (64 * 7) * 2 ^ 63 := by rw [← Int.pow_add,show 64 * 7 + 63 = a by omega]
  rw [h1,pow448]
  rfl
theorem Qow {h P : Int} (hP : 0 < P) (h0 : -P ≤ h) (h1 : h < P) (hd : h % (P * 2) = 0) : h = 0 := by
  obtain ⟨c,hc⟩ := Int.dvd_of_emod_eq_zero hd
  rcases Int.lt_trichotomy c 0 with hc0|hc0|hc0
  · have := Int.mul_le_mul_of_nonneg_left (show c ≤ -1 by omega) (show 0 ≤ P * 2 by omega)
    omega
  · rw [hc0] at hc;omega
  · have := Int.mul_le_mul_of_nonneg_left (show 1 ≤ c by omega) (show 0 ≤ P * 2 by omega)
    omega
/-- Bits that are one from the sign's on: the number fits. -/
theorem of_fit {m : Int} {L : Nat} (hL : 512 ≤ L) (hm : -(2 ^ (L - 1)) ≤ m ∧ m < 2 ^ (L - 1)) (H : ∀ j,511 ≤ j → j < L → bt m j = bt m 511) : Fit m := by
  obtain ⟨a,ha⟩ : ∃ a : Nat,a = 511 := ⟨_,rfl⟩
  have hp := Qak a
  have hT : (2 : Int) ^ (L - 1) = 2 ^ a * 2 ^ (L - 512) := by rw [← Int.pow_add,show a + (L - 512) = L - 1 by omega]
  have hT2 : (2 : Int) ^ (L - 511) = 2 ^ (L - 512) * 2 := by rw [show L - 511 = L - 512 + 1 by omega,Int.pow_succ]
  have hq := Qak (L - 512)
  rw [hT] at hm
  have hd : m = 2 ^ a * (m / 2 ^ a) + m % 2 ^ a := (Int.mul_ediv_add_emod _ _).symm
  have h0 := Int.emod_nonneg m (by omega : (2 : Int) ^ a ≠ 0)
  have h1 := Int.emod_lt_of_pos m hp
  have hb : ∀ t,t < L - 511 → bt (m / 2 ^ a) t = bt m 511 := fun t ht => by rw [Qmz];exact H _ (by omega) (by omega)
  have hlo : -(2 ^ (L - 512)) ≤ m / 2 ^ a := by
    rw [Int.le_ediv_iff_mul_le hp,Int.neg_mul,Int.mul_comm];exact hm.1
  have hhi : m / 2 ^ a < 2 ^ (L - 512) := by
    rw [Int.ediv_lt_iff_lt_mul hp,Int.mul_comm];exact hm.2
  have hz : m / 2 ^ a = 0 ∨ m / 2 ^ a = -1 := by
    generalize m / 2 ^ a = h at *
    have hb5 := Qhe m 511
    rcases (by omega : bt m 511 = 0 ∨ bt m 511 = 1) with e|e
    · left
      have := Qhl (L - 511) fun t ht => by rw [hb t ht,e]
      rw [hT2] at this
      exact Qow hq hlo hhi this
    · right
      have := Qhl (h := -h - 1) (L - 511) fun t ht => by rw [bt_not,hb t ht,e];rfl
      rw [hT2] at this
      have := Qow hq (by omega) (by omega) this
      omega
  unfold Fit
  rw [Qis ha]
  generalize (2 : Int) ^ a = P at *
  rcases hz with e|e <;> rw [e] at hd <;> omega
theorem fit_of {m : Int} (hf : Fit m) {j : Nat} (hj : 511 ≤ j) : bt m j = bt m 511 := by
  rw [Qng hf hj,Qng hf (Nat.le_refl _)]
set_option maxHeartbeats 4000000 in
theorem of_core (m : Int) (L : Nat) (hL1 : 512 ≤ L) (hL2 : L ≤ 4096) (r : Bool) (n : Int) (HT : Hid ((∀ j,511 ≤ j → j < L → bt m j = bt m 511) → r = true ∧ n = m)) (HF : Hid ((∃ j,511 ≤ j ∧ j < L ∧ bt m j ≠ bt m 511) → r = false ∧ n = 0)) (v : Value) (w : World) (h : BSl w v m L) :
    Calls Tryz.prog 107 #[v] w (Ret (.tuple #[W n,.bool r]) w) := by
  obtain ⟨ga,oa,ca,bca,ta,qa,rfl,hba,hga⟩ := h
  have HGA := Lib.hid hga
  clear hga
  have hg511 := HGA.out 511 (by omega)
  rw [show 511 * 1 = 511 from rfl] at hg511
  have hb511 := Qhe m 511
  obtain ⟨s,hs⟩ : ∃ s,s = bt m 511 := ⟨_,rfl⟩
  rw [← hs] at hg511 hb511
  have HS := Lib.hid hs
  clear hs
  go_enter Tryz.func107,Tryz.ntmps107
  have hp := Hp.start [] w
  go_wp2_with ((with_reducible apply Qag hp);exact ii;exact rfl;clear hp;(try clear w1);intro g w1 hp;simp only [zp,zq,z0,z1])
  rename_i g2 K hK
  obtain ⟨g4,rfl⟩ : ∃ x : Nat,x = g := ⟨_,rfl⟩
  go_loopw [5] (fun i wr => ∃ k : Nat,511 ≤ k ∧ k ≤ L ∧ i = .int .i64 k ∧ (∀ j,511 ≤ j → j < k → bt m j = s) ∧ Hp [] w [⟨g4,27,[.int .u64 0,.int .u64 0,.int .u64 0,.int .u64 0,.int .u64 0,.int .u64 0,.int .u64 0,.int .u64 0]⟩,⟨g2,27,[.int .u64 0,.int .u64 0,.int .u64 0,.int .u64 0,.int .u64 0,.int .u64 0,.int .u64 0,.int .u64 0]⟩] wr) (fun i _ => L - (intOf i).toNat)
  case atStart => exact ⟨511,by omega,by omega,rfl,fun j _ _ => by omega,hp⟩
  case round =>
    clear hp
    obtain ⟨k,hk0,hk,rfl,hall,hp⟩ := hrel
    have HALL := Lib.hid hall
    clear hall
    by_cases hk1 : k < L
    · have hk2 : (k : Int) < L := by omega
      have hgk := HGA.out k hk1
      have hbk := Qhe m k
      obtain ⟨a,ha⟩ : ∃ a,a = bt m k := ⟨_,rfl⟩
      rw [← ha] at hgk hbk
      have HA := Lib.hid ha
      clear ha
      by_cases he : a = s
      · subst he
        go_wp2_with (fail)
        have hq := hp
        refine Qad hp hq [] (.q 0 (.q 1 (.q 2 (.q 3 (.q 4 (.q 5 (.q 6 (.q 7 .nil)))))))) (by kernel_rfl) (by kernel_rfl) ?_
        clear hp hq;(try clear w1);intro w1 hp hq
        repeat' (first|(((with_reducible apply sd_q);exact zo rfl);(first|((with_reducible apply Qbl hp);exact rfl;exact zt rfl;assumption;exact ii;(assumption);simp only [zp,zq,z0,z1])|((with_reducible apply Qaq hp);(first|exact zi rfl|exact zs rfl);simp only [zp,zq,z0,z1])|((with_reducible apply Qas hp);exact rfl;exact zx rfl;exact zk rfl;exact ii;(exact OneTy.size);omega;omega;((try simp only [m0,Int.reduceToNat,m1,m2,Nat.reduceMul,Nat.reduceAdd,m3,m4,m5,n0]);exact rfl);simp only [zp,zq,z0,z1])|((with_reducible apply Qaj hp);exact rfl;(focus (intro _;go_simp;(try go_ints);try with_reducible rfl));simp only [zp,zq,z0,z1])))|((with_reducible apply Qao);clear hp;have hp := hq;clear hq))
        go_wp2
        go_roundw
        case rel =>
          refine ⟨k + 1,by omega,by omega,by go_num,fun j h1 h2 => ?_,hp⟩
          by_cases hj : j = k
          · rw [hj];exact HA.out.symm
          · exact HALL.out j h1 (by omega)
        case measure => simp [intOf];omega
      · obtain ⟨rfl,rfl⟩ := HF.out ⟨k,hk0,hk1,by rw [← HA.out,← HS.out];exact he⟩
        have hne : (a != s) = true := by simp [he]
        rw [show W 0 = .agg #[.int .u64 0,.int .u64 0,.int .u64 0,.int .u64 0,.int .u64 0,.int .u64 0,.int .u64 0,.int .u64 0] from Qfe]
        go_wp2_with (fail)
        have hq := hp
        refine Qad hp hq [] (.q 0 (.q 1 (.q 2 (.q 3 (.q 4 (.q 5 (.q 6 (.q 7 .nil)))))))) (by kernel_rfl) (by kernel_rfl) ?_
        clear hp hq;(try clear w1);intro w1 hp hq
        repeat' (first|(((with_reducible apply sd_q);exact zo rfl);(first|((with_reducible apply Qbl hp);exact rfl;exact zt rfl;assumption;exact ii;(assumption);simp only [zp,zq,z0,z1])|((with_reducible apply Qaq hp);(first|exact zi rfl|exact zs rfl);simp only [zp,zq,z0,z1])|((with_reducible apply Qas hp);exact rfl;exact zx rfl;exact zk rfl;exact ii;(exact OneTy.size);omega;omega;((try simp only [m0,Int.reduceToNat,m1,m2,Nat.reduceMul,Nat.reduceAdd,m3,m4,m5,n0]);exact rfl);simp only [zp,zq,z0,z1])|((with_reducible apply Qaj hp);exact rfl;(focus (intro _;go_simp;(try go_ints);try with_reducible rfl));simp only [zp,zq,z0,z1])))|((with_reducible apply Qao);clear hp;have hp := hq;clear hq))
        go_wp2_with ((with_reducible apply Qae hp);exact zt rfl;(exact za rfl);exact rfl;(exact AggTy.size);exact rfl;exact ii;(simp only [n0,Nat.reduceAdd,nn];try rfl);(exact zl rfl);exact rfl;exact ii;clear hp;(try clear w1);intro w1 hp)
        exact bodyPost_ret (Qan rfl ⟨_,rfl,Qac hp (Nat.le_of_ble_eq_true rfl)⟩ rfl) rfl ⟨rfl,hp.keep⟩
    · obtain rfl : k = L := by omega
      obtain ⟨rfl,rfl⟩ := HT.out fun j h1 h2 => by rw [HALL.out j h1 h2,HS.out]
      clear HALL HT HF hg511 hb511 HS hk0 hk1 hk
      go_wp2
      go_loopw [6] (fun i wr => ∃ k : Nat,k ≤ 512 ∧ i = .int .i64 ((k : Int) - 1) ∧ Hp [] w [⟨g4,27,LB (gl n k)⟩,⟨g2,27,[.int .u64 0,.int .u64 0,.int .u64 0,.int .u64 0,.int .u64 0,.int .u64 0,.int .u64 0,.int .u64 0]⟩] wr) (fun i _ => (intOf i + 1).toNat)
      case atStart => exact ⟨512,by omega,rfl,by rw [gl_none];exact hp⟩
      case round =>
        clear hp
        obtain ⟨j,hj,rfl,hp⟩ := hrel
        cases j with
        | zero =>
          rw [gl_all] at hp
          simp only [LB] at hp
          rw [show (((0 : Nat)) : Int) - 1 = -1 from rfl]
          go_wp2_with (first|((with_reducible apply Qab hp);exact zt rfl;exact ii;exact ii;(exact zl rfl);(simp only [n0,Nat.reduceAdd,nn];try rfl);simp only [zp,zq,z0,z1])|((with_reducible apply Qae hp);exact zt rfl;(exact za rfl);exact rfl;(exact AggTy.size);exact rfl;exact ii;(simp only [n0,Nat.reduceAdd,nn];try rfl);(exact zl rfl);exact rfl;exact ii;clear hp;(try clear w1);intro w1 hp))
          exact bodyPost_ret (Qan rfl ⟨_,rfl,Qac hp (Nat.le_of_ble_eq_true rfl)⟩ rfl) rfl ⟨rfl,hp.keep⟩
        | succ i =>
          rw [show ((i + 1 : Nat) : Int) - 1 = (i : Int) by omega]
          have hgi := HGA.out i (by omega)
          have hb := Qhe n i
          have hstep := gl_step n i
          have hlo := gl_bd n (i + 1) (i / 64)
          have hhi := gl_bd n i (i / 64)
          have HPUT := Lib.hid (gl_put n i)
          generalize gl n i (i / 64) = y2 at *
          obtain ⟨y,hy⟩ : ∃ y,y = gl n (i + 1) (i / 64) := ⟨_,rfl⟩
          rw [← hy] at hstep hlo
          have HY := Lib.hid hy
          clear hy
          generalize bt n i = b at *
          have hi8 : i / 64 < 8 := by omega
          go_wp2_with (fail)
          have hq0 : (0 : Int) ≤ (i : Int) / 64 := by omega
          have hq1 : (i : Int) / 64 < 8 := by omega
          have hq := hp
          refine Qad hp hq [16] (.q 0 (.q 1 (.q 2 (.q 3 (.q 4 (.q 5 (.q 6 (.q 7 (.q 8 (.q 9 (.q 10 (.q 11 (.q 12 (.q 13 (.l 14 (.q 15 (.l 16 .nil))))))))))))))))) (by kernel_rfl) (by kernel_rfl) ?_
          clear hp hq;(try clear w1);intro w1 hp hq
          repeat' (first|(((with_reducible apply sd_q);exact zo rfl);(first|((with_reducible apply Qba hp);exact rfl;exact zt rfl;exact ii;exact ii;(exact Qcp (by omega));simp only [zp,zq,z0,z1])|((with_reducible apply Qbl hp);exact rfl;exact zt rfl;assumption;exact ii;(assumption);simp only [zp,zq,z0,z1])|((with_reducible apply Qaq hp);(first|exact zi rfl|exact zs rfl);simp only [zp,zq,z0,z1])|((with_reducible apply Qas hp);exact rfl;exact zx rfl;exact zk rfl;exact ii;(exact OneTy.size);omega;omega;((try simp only [m0,Int.reduceToNat,m1,m2,Nat.reduceMul,Nat.reduceAdd,m3,m4,m5,n0]);exact rfl);simp only [zp,zq,z0,z1])|((with_reducible apply Qaj hp);exact rfl;(focus (intro _;go_simp;(try go_ints);try with_reducible rfl));simp only [zp,zq,z0,z1])))|(((with_reducible apply sd_l);exact zo rfl);(first|((with_reducible apply Qbb hq);exact rfl;exact zt rfl;(exact zi rfl);exact rfl;(exact OneTy.size);exact rfl;exact ii;(with_reducible exact Qfd (by omega));(exact Qhy (by omega));exact rfl;exact ii;exact rfl;clear hp hq;(try clear w1);intro w1 hq;have hp := True.intro)|((with_reducible apply sd_lpure hp);exact rfl;(focus (intro _;go_simp;(try go_ints);try with_reducible rfl));simp only [zp,zq,z0,z1])))|((with_reducible apply Qao);clear hp;have hp := hq;clear hq))
          go_wp2
          go_roundw
          case rel =>
            have e := HY.out
            rw [← e,HPUT.out _ (by rw [IntKind.wrap_u64,IntKind.wrap_u64];omega)] at hp
            exact ⟨i,by omega,rfl,hp⟩
          case measure => simp [intOf]
/-- ninepinref01.Of: the number of bits, of at least 512, if it fits. -/
theorem rof_any (m : Int) (L : Nat) (hL1 : 512 ≤ L) (hL2 : L ≤ 4096) (hm : -(2 ^ (L - 1)) ≤ m ∧ m < 2 ^ (L - 1)) (v : Value) (w : World) (h : BSl w v m L) : Calls Tryz.prog 107 #[v] w (Ret (.tuple #[W (if Fit m then m else 0),.bool (decide (Fit m))]) w) := by
  by_cases hf : Fit m
  · rw [if_pos hf,decide_eq_true hf]
    exact of_core m L hL1 hL2 true m (Lib.hid fun _ => ⟨rfl,rfl⟩) (Lib.hid fun ⟨j,h1,_,h2⟩ => (h2 (fit_of hf h1)).elim) v w h
  · rw [if_neg hf,decide_eq_false hf]
    exact of_core m L hL1 hL2 false 0 (Lib.hid fun H => (hf (of_fit hL1 hm H)).elim) (Lib.hid fun _ => ⟨rfl,rfl⟩) v w h
end Go.Proofs.YtdfdmeoalbpcdaaGreat
set_option linter.unusedSimpArgs false
set_option linter.unusedVariables false
set_option maxRecDepth 100000
namespace Go.Proofs.YtdfdmeoalbpcdaaGreat
open Go Go.RowKit
theorem lb7_neg {n : Int} (h : Fit n) (hn : n < 0) : 9223372036854775808 ≤ lb n 7 := by
  have := Qco h
  unfold ng at this
  rw [decide_eq_true hn] at this
  exact of_decide_eq_true this
theorem lb7_pos {n : Int} (h : Fit n) (hn : ¬ n < 0) : ¬ 9223372036854775808 ≤ lb n 7 := by
  have := Qco h
  unfold ng at this
  rw [decide_eq_false hn] at this
  exact of_decide_eq_false this
set_option maxHeartbeats 4000000 in
theorem Qel (n : Int) (hn : Fit n) (w : World) : Calls Tryz.prog 63 #[W n] w (Ret (.bool (decide (n < 0))) w) := by
  by_cases h : n < 0
  · rw [decide_eq_true h]
    have h7 := lb7_neg hn h
    clear hn h
    go_enter Tryz.func63,Tryz.ntmps63
    have hp := Hp.start [] w
    go_wp2_with (first|((with_reducible apply Qau hp);exact za rfl;exact rfl;clear hp;(try clear w1);intro g w1 hp;simp only [zp,zq,z0,z1])|((with_reducible apply Qai hp);exact zt rfl;exact ii;exact ii;(exact zio rfl);simp only [zp,zq,z0,z1]))
    exact bodyPost_ret (Qaa rfl rfl) rfl ⟨rfl,hp.keep⟩
  · rw [decide_eq_false h]
    have h7 := lb7_pos hn h
    clear hn h
    go_enter Tryz.func63,Tryz.ntmps63
    have hp := Hp.start [] w
    go_wp2_with (first|((with_reducible apply Qau hp);exact za rfl;exact rfl;clear hp;(try clear w1);intro g w1 hp;simp only [zp,zq,z0,z1])|((with_reducible apply Qai hp);exact zt rfl;exact ii;exact ii;(exact zio rfl);simp only [zp,zq,z0,z1]))
    exact bodyPost_ret (Qaa rfl rfl) rfl ⟨rfl,hp.keep⟩
set_option maxHeartbeats 4000000 in
theorem Qgm (n : Int) (hn : Fit n) (w : World) : Calls Tryz.prog 31 #[W n] w (Ret (.int .i64 (sgn n)) w) := by
  have hb := fun w => Qel n hn w
  by_cases h : n < 0
  · rw [decide_eq_true h] at hb
    unfold sgn
    rw [if_pos h]
    have HB := Lib.hid hb
    clear hb h hn
    go_enter Tryz.func31,Tryz.ntmps31
    have hp := Hp.start [] w
    go_wp2_with (first|((with_reducible apply Qau hp);exact za rfl;exact rfl;clear hp;(try clear w1);intro g w1 hp;simp only [zp,zq,z0,z1])|((with_reducible apply Qab hp);exact zt rfl;exact ii;exact ii;(exact zl rfl);(simp only [n0,Nat.reduceAdd,nn];try rfl);simp only [zp,zq,z0,z1])|((with_reducible refine Qaf hp (HB.out _) ?_);clear hp;(try clear w1);intro w1 hp))
    exact bodyPost_ret (Qaa rfl rfl) rfl ⟨rfl,hp.keep⟩
  · rw [decide_eq_false h] at hb
    have HB := Lib.hid hb
    obtain ⟨s,hs⟩ : ∃ s,s = sgn n := ⟨_,rfl⟩
    have HP : Hid (n ≠ 0 → s = 1) := Lib.hid fun h0 => by rw [hs];unfold sgn;rw [if_neg h,if_neg h0]
    have HZ : Hid (n = 0 → s = 0) := Lib.hid fun h0 => by rw [hs];unfold sgn;rw [if_neg h,if_pos h0]
    rw [← hs]
    have HN := Lib.hid hn
    clear hb h hn hs
    go_enter Tryz.func31,Tryz.ntmps31
    have hp := Hp.start [] w
    go_wp2_with (first|((with_reducible apply Qau hp);exact za rfl;exact rfl;clear hp;(try clear w1);intro g w1 hp;simp only [zp,zq,z0,z1])|((with_reducible apply Qab hp);exact zt rfl;exact ii;exact ii;(exact zl rfl);(simp only [n0,Nat.reduceAdd,nn];try rfl);simp only [zp,zq,z0,z1])|((with_reducible refine Qaf hp (HB.out _) ?_);clear hp;(try clear w1);intro w1 hp))
    obtain ⟨g1,rfl⟩ : ∃ x : Nat,x = g := ⟨_,rfl⟩
    go_loopw [3] (fun i wr => ∃ k : Nat,k ≤ 8 ∧ i = .int .i64 k ∧ (∀ j,j < k → lb n j = 0) ∧ Hp [] w [⟨g1,27,LB (lb n)⟩] wr) (fun i _ => 8 - (intOf i).toNat)
    case atStart => exact ⟨0,by omega,rfl,fun j _ => by omega,hp⟩
    case round =>
      clear hp
      obtain ⟨k,hk,rfl,hall,hp⟩ := hrel
      have HALL := Lib.hid hall
      clear hall
      by_cases hk1 : k < 8
      · have hk2 : (k : Int) < 8 := by omega
        obtain ⟨a,ha⟩ : ∃ a,a = lb n k := ⟨_,rfl⟩
        have HA := Lib.hid ha
        by_cases he : lb n k = 0
        · have hne : (lb n k != 0) = false := by simp [he]
          have HE := Lib.hid he
          clear he ha
          go_wp2_with ((with_reducible apply Qai hp);exact zt rfl;exact ii;exact ii;(exact Qcp (by omega));simp only [zp,zq,z0,z1])
          go_roundw
          case rel =>
            refine ⟨k + 1,by omega,by go_num,fun j h1 => ?_,hp⟩
            by_cases hj : j = k
            · rw [hj];exact HE.out
            · exact HALL.out j (by omega)
          case measure => simp [intOf];omega
        · obtain rfl := HP.out fun h0 => he (by rw [h0,Qcy])
          have hne : (lb n k != 0) = true := by simp [he]
          clear he ha
          go_wp2_with ((with_reducible apply Qai hp);exact zt rfl;exact ii;exact ii;(exact Qcp (by omega));simp only [zp,zq,z0,z1])
          exact bodyPost_ret (Qaa rfl rfl) rfl ⟨rfl,hp.keep⟩
      · obtain rfl : k = 8 := by omega
        obtain rfl := HZ.out (eq_of_lb HN.out Qbp fun i hi => by rw [HALL.out i hi,Qcy])
        go_wp2_with (fail)
        exact bodyPost_ret (Qaa rfl rfl) rfl ⟨rfl,hp.keep⟩
end Go.Proofs.YtdfdmeoalbpcdaaGreat
set_option linter.unusedSimpArgs false
set_option linter.unusedVariables false
set_option maxRecDepth 100000
namespace Go.Proofs.YtdfdmeoalbpcdaaGreat
open Go Go.RowKit
set_option maxHeartbeats 4000000 in
theorem rsmall_any (n : Int) (h0 : -9223372036854775808 ≤ n) (h1 : n < 9223372036854775808) (w : World) : Calls Tryz.prog 66 #[.int .i64 n] w (Ret (W n) w) := by
  go_enter Tryz.func66,Tryz.ntmps66
  have hp := Hp.start [] w
  go_wp2_with ((with_reducible apply Qag hp);exact ii;exact rfl;clear hp;(try clear w1);intro g w1 hp;simp only [zp,zq,z0,z1])
  rename_i ga K hK
  obtain ⟨f,hf⟩ : ∃ f : Int,f = if n < 0 then 18446744073709551615 else 0 := ⟨_,rfl⟩
  have HF := Lib.hid hf
  go_loopw [4] (fun i wr => ∃ (k : Nat) (F : Nat → Int),k ≤ 8 ∧ i = .int .i64 k ∧ (∀ j,j < k → F j = f) ∧ (0 ≤ n → ∀ j,F j = 0) ∧
      Hp [] w [⟨g,27,LB F⟩,⟨ga,27,[.int .u64 0,.int .u64 0,.int .u64 0,.int .u64 0,.int .u64 0,.int .u64 0,.int .u64 0,.int .u64 0]⟩] wr) (fun i _ => 8 - (intOf i).toNat)
  case atStart => exact ⟨0,fun _ => 0,by omega,rfl,fun j h => by omega,fun _ _ => rfl,hp⟩
  case round =>
    clear hp
    obtain ⟨k,F,hk,rfl,hlo,hz,hp⟩ := hrel
    have Hlo := Lib.hid hlo
    have Hz := Lib.hid hz
    clear hlo hz
    by_cases hlt : k < 8
    · by_cases hn : n < 0
      · rw [if_pos hn] at hf
        go_wp2_with ((with_reducible apply Qae hp);exact zt rfl;(exact zi rfl);exact rfl;(exact OneTy.size);exact rfl;exact ii;(with_reducible exact Qfd (by omega));(exact Qhy (by omega));exact rfl;exact ii;clear hp;(try clear w1);intro w1 hp)
        go_roundw
        case rel =>
          refine ⟨k + 1,upd F k 18446744073709551615,by omega,by go_num,?_,fun h => by omega,hp⟩
          intro j hj
          by_cases e : j = k
          · subst e;rw [Qct,hf]
          · rw [Qep _ _ e];exact Hlo.out j (by omega)
        case measure => simp [intOf];omega
      · rw [if_neg hn] at hf
        go_wp2_with (fail)
        go_roundw
        case rel =>
          refine ⟨k + 1,F,by omega,by go_num,fun j hj => ?_,Hz.out,hp⟩
          rw [Hz.out (by omega) j,hf]
        case measure => simp [intOf];omega
    · obtain rfl : k = 8 := by omega
      have e : LB F = LB (fun _ => f) := Qed fun j hj => Hlo.out j hj
      rw [e] at hp
      clear e Hlo Hz hf
      have e0 : IntKind.u64.wrap n = lb n 0 := by rw [IntKind.wrap_u64,Qlw]
      have E0 := Lib.hid e0
      clear e0
      have hp' : Hp [] w [⟨g,27,[.int .u64 f,.int .u64 f,.int .u64 f,.int .u64 f,.int .u64 f,.int .u64 f,.int .u64 f,.int .u64 f]⟩,⟨ga,27,[.int .u64 0,.int .u64 0,.int .u64 0,.int .u64 0,.int .u64 0,.int .u64 0,.int .u64 0,.int .u64 0]⟩] wr := hp
      clear hp
      have hp := hp'
      clear hp'
      go_wp2_with (first|((with_reducible apply Qab hp);exact zt rfl;exact ii;exact ii;(exact zl rfl);(simp only [n0,Nat.reduceAdd,nn];try rfl);simp only [zp,zq,z0,z1])|((with_reducible apply Qae hp);exact zt rfl;(first|exact za rfl|exact zi rfl);exact rfl;exact Sz.z;exact rfl;exact ii;(simp only [n0,Nat.reduceAdd,nn];try rfl);(exact zl rfl);exact rfl;exact ii;clear hp;(try clear w1);intro w1 hp))
      have hl : ∀ i,1 ≤ i → f = lb n i := fun i hi => by rw [lb_small n h0 h1 i hi,HF.out]
      have e : W n = .agg #[.int .u64 (IntKind.u64.wrap n),.int .u64 f,.int .u64 f,.int .u64 f,.int .u64 f,.int .u64 f,.int .u64 f,.int .u64 f] := by
        simp only [W,← hl 1 (by omega),← hl 2 (by omega),← hl 3 (by omega),← hl 4 (by omega),← hl 5 (by omega),← hl 6 (by omega),← hl 7 (by omega),E0.out]
      exact bodyPost_ret (Qaa rfl ⟨_,rfl,Qac hp (Nat.le_of_ble_eq_true rfl)⟩) rfl ⟨congrArg Ending.returned e.symm,hp.keep⟩
/-- How many bits there are up to the last 1. -/
def tp (x : Int) : Nat → Nat
  | 0 => 0
  | k + 1 => if bt x k = 0 then tp x k else k + 1
theorem tp_le (x : Int) : ∀ k,tp x k ≤ k
  | 0 => Nat.le_refl _
  | k + 1 => by
    unfold tp
    split
    · exact Nat.le_succ_of_le (tp_le x k)
    · exact Nat.le_refl _
theorem Qnt (x : Int) : ∀ {k j : Nat},tp x k ≤ j → j < k → bt x j = 0
  | 0,j,h,hj => by omega
  | k + 1,j,h,hj => by
    unfold tp at h
    split at h
    · by_cases e : j = k
      · rw [e];assumption
      · exact Qnt x h (by omega)
    · omega
set_option maxHeartbeats 4000000 in
theorem Qnm (x : Int) (L : Nat) (hL : L ≤ 4096) (v : Value) (w : World) (h : BSl w v x L) : Calls Tryz.prog 102 #[v] w (Ret (.int .i64 (tp x L)) w) := by
  obtain ⟨ga,oa,ca,bca,ta,qa,rfl,hba,hga⟩ := h
  have HGA := Lib.hid hga
  clear hga
  go_enter Tryz.func102,Tryz.ntmps102
  have hp := Hp.start [] w
  go_wp2_with (fail)
  go_loopw [3] (fun i wr => ∃ k : Nat,k ≤ L ∧ i = .int .i64 k ∧ tp x k = tp x L ∧ Hp [] w [] wr) (fun i _ => (intOf i).toNat)
  case atStart => exact ⟨L,by omega,rfl,rfl,hp⟩
  case round =>
    clear hp
    obtain ⟨k,hk,rfl,ht,hp⟩ := hrel
    have HT := Lib.hid ht
    clear ht
    cases k with
    | zero =>
      rw [show (((0 : Nat)) : Int) = 0 from rfl]
      go_wp2_with (fail)
      exact bodyPost_ret (Qaa rfl rfl) rfl ⟨by rw [← HT.out];rfl,hp.keep⟩
    | succ j =>
      have hgj := HGA.out j (by omega)
      obtain ⟨c,hc⟩ : ∃ c : Int,c = ((j + 1 : Nat) : Int) := ⟨_,rfl⟩
      have HC := Lib.hid hc
      rw [← hc]
      have hc1 : c - 1 = (j : Int) := by omega
      have hc0 : (0 : Int) < c := by omega
      have hc2 : c ≤ 4096 := by omega
      have hj2 : (j : Int) < L := by omega
      clear hc
      by_cases hb : bt x j = 0
      · have HB := Lib.hid hb
        rw [hb] at hgj
        clear hb
        go_wp2_with (first|((with_reducible apply Qar);exact zx rfl;exact zk rfl;exact ii;(exact OneTy.size);omega;omega;((try simp only [m0,Int.reduceToNat,m1,m2,Nat.reduceMul,Nat.reduceAdd,m3,m4,m5,n0]);exact rfl);simp only [zp,zq,z0,z1])|((with_reducible apply Qbf hp);exact zt rfl;assumption;exact ii;(assumption);simp only [zp,zq,z0,z1])|((with_reducible apply Qbm);exact rfl))
        go_roundw
        case rel =>
          refine ⟨j,by omega,by go_num,?_,hp⟩
          rw [← HT.out]
          exact (if_pos HB.out).symm
        case measure => simp [intOf];omega
      · have HB := Lib.hid hb
        obtain ⟨b,hbb⟩ : ∃ b,b = bt x j := ⟨_,rfl⟩
        rw [← hbb] at hgj hb
        clear hbb
        have hb1 : (b == 0) = false := by simp [hb]
        clear hb
        go_wp2_with (first|((with_reducible apply Qar);exact zx rfl;exact zk rfl;exact ii;(exact OneTy.size);omega;omega;((try simp only [m0,Int.reduceToNat,m1,m2,Nat.reduceMul,Nat.reduceAdd,m3,m4,m5,n0]);exact rfl);simp only [zp,zq,z0,z1])|((with_reducible apply Qbf hp);exact zt rfl;assumption;exact ii;(assumption);simp only [zp,zq,z0,z1])|((with_reducible apply Qbm);exact rfl))
        exact bodyPost_ret (Qaa rfl rfl) rfl ⟨by rw [← HT.out,show tp x (j + 1) = j + 1 from if_neg HB.out,HC.out];rfl,hp.keep⟩
theorem Qgo (n : Int) (hn : Fit n) (w : World) : Calls Tryz.prog 110 #[W n,.int .i64 520] w (RetN (fun g => .slice (some ⟨g,0,none⟩) 520 520) 3 (tab (bt n) 520) w) := long_any n hn 520 (by omega) w
theorem M511_520 : M511 * 256 = 2 ^ (520 - 1) := by
  have h1 : (2 : Int) ^ (520 - 1) = 2 ^ (64 * 7) * 2 ^ 71 := by rw [← Int.pow_add]
  rw [h1,pow448]
  rfl
theorem Qmh (m : Int) (hm : -(M511 * 256) ≤ m ∧ m < M511 * 256) (v : Value) (w : World) (h : BSl w v m 520) : Calls Tryz.prog 107 #[v] w (Ret (.tuple #[W (fz m),.bool (decide (Fit m))]) w) := by
  rw [M511_520] at hm
  exact rof_any m 520 (by omega) (by omega) hm v w h
theorem room_add {a b : Int} (ha : Fit a) (hb : Fit b) : -(M511 * 256) ≤ a + b ∧ a + b < M511 * 256 := by unfold Fit M511 at *;omega
theorem room_sub {a b : Int} (ha : Fit a) (hb : Fit b) : -(M511 * 256) ≤ a + -b ∧ a + -b < M511 * 256 := by unfold Fit M511 at *;omega
set_option maxHeartbeats 4000000 in
theorem Qnk (a b : Int) (ha : Fit a) (hb : Fit b) (w : World) : Calls Tryz.prog 109 #[W a,W b] w (Ret (.tuple #[W (fz (a + b)),.bool (decide (Fit (a + b)))]) w) := by
  have HM := room_add ha hb
  go_enter Tryz.func109,Tryz.ntmps109
  have hp := Hp.start [] w
  go_upto_region 1 with (first|((with_reducible apply Qau hp);(exact za rfl);exact rfl;clear hp;(try clear w1);intro g w1 hp;simp only [zp,zq,z0,z1])|((with_reducible apply Qag hp);exact ii;exact rfl;clear hp;(try clear w1);intro g w1 hp;simp only [zp,zq,z0,z1]))
  have hq := hp
  clear hp
  have hp := hq.sub (List.sublist_cons_self _ _)
  refine Qad hp hq [8] (.q 0 (.q 2 (.l 1 (.l 3 (.l 4 (.l 5 (.q 6 (.q 7 (.l 8 (.q 9 .nil)))))))))) (by kernel_rfl) (by kernel_rfl) ?_
  clear hp hq;(try clear w1);intro w1 hp hq
  repeat' (first|(((with_reducible apply sd_q);exact zo rfl);(first|((with_reducible apply Qah hp);exact rfl;exact zt rfl;exact ii;exact ii;(exact zl rfl);(simp only [n0,Nat.reduceAdd,nn];try rfl);simp only [zp,zq,z0,z1])|((with_reducible apply Qat hp);exact zb rfl;simp only [zp,zq,z0,z1])|((with_reducible apply Qaj hp);exact rfl;(focus (intro _;go_simp;(try go_ints);try with_reducible rfl));simp only [zp,zq,z0,z1])))|(((with_reducible apply sd_l);exact zo rfl);(first|((with_reducible apply Qcu hq);(repeat (first|exact sb0|apply sb3));exact rfl;(focus (intro _;go_simp;try first|with_reducible rfl|exact ⟨rfl,rfl⟩));(with_reducible exact Qgo a ha _);clear hp hq;(try clear w1);intro g w1 hp hq;simp only [zp,zq,z0,z1])|((with_reducible apply Qcu hq);(repeat (first|exact sb0|apply sb3));exact rfl;(focus (intro _;go_simp;try first|with_reducible rfl|exact ⟨rfl,rfl⟩));(with_reducible exact Qgo b hb _);clear hp hq;(try clear w1);intro g w1 hp hq;simp only [zp,zq,z0,z1])|((with_reducible apply Qcu hq);(repeat (first|exact sb0|apply sb3));exact rfl;(focus (intro _;go_simp;try first|with_reducible rfl|exact ⟨rfl,rfl⟩));(with_reducible exact Qfp a b 520 (by omega) _ _ _ (BSl.of hq.blk) (BSl.of hq.blk));clear hp hq;(try clear w1);intro g w1 hp hq;simp only [zp,zq,z0,z1])|((with_reducible apply Qck hp);exact rfl;(focus (intro _;go_simp;try first|with_reducible rfl|exact ⟨rfl,rfl⟩));(with_reducible exact Qmh (a + b) HM _ _ (BSl.of hq.blk));exact hq;clear hp hq;(try clear w1);intro w1 hp hq;simp only [zp,zq,z0,z1])|((with_reducible apply Qam hq);exact rfl;exact zt rfl;(exact za rfl);exact rfl;(exact AggTy.size);exact rfl;exact ii;(simp only [n0,Nat.reduceAdd,nn];try rfl);(exact zl rfl);exact rfl;exact ii;(repeat (first|exact sb0|apply sb3));clear hp hq;(try clear w1);intro w1 hp hq)))|((with_reducible apply Qao);clear hp;have hp := hq;clear hq))
  go_wp2
  exact bodyPost_ret (Qan rfl ⟨_,rfl,Qac hp (Nat.le_of_ble_eq_true rfl)⟩ rfl) rfl ⟨rfl,hp.keep⟩
set_option maxHeartbeats 4000000 in
theorem rsub_any (a b : Int) (ha : Fit a) (hb : Fit b) (w : World) : Calls Tryz.prog 118 #[W a,W b] w (Ret (.tuple #[W (fz (a - b)),.bool (decide (Fit (a - b)))]) w) := by
  have HM := room_sub ha hb
  rw [Int.sub_eq_add_neg]
  go_enter Tryz.func118,Tryz.ntmps118
  have hp := Hp.start [] w
  go_upto_region 1 with (first|((with_reducible apply Qau hp);(exact za rfl);exact rfl;clear hp;(try clear w1);intro g w1 hp;simp only [zp,zq,z0,z1])|((with_reducible apply Qag hp);exact ii;exact rfl;clear hp;(try clear w1);intro g w1 hp;simp only [zp,zq,z0,z1]))
  have hq := hp
  clear hp
  have hp := hq.sub (List.sublist_cons_self _ _)
  refine Qad hp hq [9] (.q 0 (.q 2 (.l 1 (.l 3 (.l 4 (.l 5 (.l 6 (.q 7 (.q 8 (.l 9 (.q 10 .nil))))))))))) (by kernel_rfl) (by kernel_rfl) ?_
  clear hp hq;(try clear w1);intro w1 hp hq
  repeat' (first|(((with_reducible apply sd_q);exact zo rfl);(first|((with_reducible apply Qah hp);exact rfl;exact zt rfl;exact ii;exact ii;(exact zl rfl);(simp only [n0,Nat.reduceAdd,nn];try rfl);simp only [zp,zq,z0,z1])|((with_reducible apply Qat hp);exact zb rfl;simp only [zp,zq,z0,z1])|((with_reducible apply Qaj hp);exact rfl;(focus (intro _;go_simp;(try go_ints);try with_reducible rfl));simp only [zp,zq,z0,z1])))|(((with_reducible apply sd_l);exact zo rfl);(first|((with_reducible apply Qcu hq);(repeat (first|exact sb0|apply sb3));exact rfl;(focus (intro _;go_simp;try first|with_reducible rfl|exact ⟨rfl,rfl⟩));(with_reducible exact Qgo a ha _);clear hp hq;(try clear w1);intro g w1 hp hq;simp only [zp,zq,z0,z1])|((with_reducible apply Qcu hq);(repeat (first|exact sb0|apply sb3));exact rfl;(focus (intro _;go_simp;try first|with_reducible rfl|exact ⟨rfl,rfl⟩));(with_reducible exact Qgo b hb _);clear hp hq;(try clear w1);intro g w1 hp hq;simp only [zp,zq,z0,z1])|((with_reducible apply Qcu hq);(repeat (first|exact sb0|apply sb3));exact rfl;(focus (intro _;go_simp;try first|with_reducible rfl|exact ⟨rfl,rfl⟩));(with_reducible exact Qcx b 520 (by omega) _ _ (BSl.of hq.blk));clear hp hq;(try clear w1);intro g w1 hp hq;simp only [zp,zq,z0,z1])|((with_reducible apply Qcu hq);(repeat (first|exact sb0|apply sb3));exact rfl;(focus (intro _;go_simp;try first|with_reducible rfl|exact ⟨rfl,rfl⟩));(with_reducible exact Qfp a (-b) 520 (by omega) _ _ _ (BSl.of hq.blk) (BSl.of hq.blk));clear hp hq;(try clear w1);intro g w1 hp hq;simp only [zp,zq,z0,z1])|((with_reducible apply Qck hp);exact rfl;(focus (intro _;go_simp;try first|with_reducible rfl|exact ⟨rfl,rfl⟩));(with_reducible exact Qmh (a + -b) HM _ _ (BSl.of hq.blk));exact hq;clear hp hq;(try clear w1);intro w1 hp hq;simp only [zp,zq,z0,z1])|((with_reducible apply Qam hq);exact rfl;exact zt rfl;(exact za rfl);exact rfl;(exact AggTy.size);exact rfl;exact ii;(simp only [n0,Nat.reduceAdd,nn];try rfl);(exact zl rfl);exact rfl;exact ii;(repeat (first|exact sb0|apply sb3));clear hp hq;(try clear w1);intro w1 hp hq)))|((with_reducible apply Qao);clear hp;have hp := hq;clear hq))
  go_wp2
  exact bodyPost_ret (Qan rfl ⟨_,rfl,Qac hp (Nat.le_of_ble_eq_true rfl)⟩ rfl) rfl ⟨rfl,hp.keep⟩
/-- The absolute value. -/
def ab (n : Int) : Int := if n < 0 then -n else n
set_option maxHeartbeats 4000000 in
theorem Qhv (n : Int) (hn : Fit n) (w : World) : Calls Tryz.prog 101 #[W n] w (RetN (fun g => .slice (some ⟨g,0,none⟩) 520 520) 3 (tab (bt (ab n)) 520) w) := by
  have hb := fun w => Qel n hn w
  by_cases h : n < 0
  · rw [decide_eq_true h] at hb
    unfold ab
    rw [if_pos h]
    have HB := Lib.hid hb
    clear hb h
    go_enter Tryz.func101,Tryz.ntmps101
    have hp := Hp.start [] w
    go_wp2_with (first|((with_reducible apply Qau hp);exact za rfl;exact rfl;clear hp;(try clear w1);intro g w1 hp;simp only [zp,zq,z0,z1])|((with_reducible apply Qab hp);exact zt rfl;exact ii;exact ii;(exact zl rfl);(simp only [n0,Nat.reduceAdd,nn];try rfl);simp only [zp,zq,z0,z1])|((with_reducible refine Qaf hp (HB.out _) ?_);clear hp;(try clear w1);intro w1 hp)|((with_reducible refine Qci hp (Qgo n hn _) ?_);clear hp;(try clear w1);intro g w1 hp)|((with_reducible refine Qci hp (Qcx n 520 (by omega) _ _ (BSl.of hp.blk)) ?_);clear hp;(try clear w1);intro g w1 hp))
    exact bodyPost_ret (Qaa rfl rfl) rfl ⟨g,rfl,hp.keep,hp.fresh,hp.blk⟩
  · rw [decide_eq_false h] at hb
    unfold ab
    rw [if_neg h]
    have HB := Lib.hid hb
    clear hb h
    go_enter Tryz.func101,Tryz.ntmps101
    have hp := Hp.start [] w
    go_wp2_with (first|((with_reducible apply Qau hp);exact za rfl;exact rfl;clear hp;(try clear w1);intro g w1 hp;simp only [zp,zq,z0,z1])|((with_reducible apply Qab hp);exact zt rfl;exact ii;exact ii;(exact zl rfl);(simp only [n0,Nat.reduceAdd,nn];try rfl);simp only [zp,zq,z0,z1])|((with_reducible refine Qaf hp (HB.out _) ?_);clear hp;(try clear w1);intro w1 hp)|((with_reducible refine Qci hp (Qgo n hn _) ?_);clear hp;(try clear w1);intro g w1 hp))
    exact bodyPost_ret (Qaa rfl rfl) rfl ⟨g,rfl,hp.keep,hp.fresh,hp.blk⟩
end Go.Proofs.YtdfdmeoalbpcdaaGreat
set_option linter.unusedSimpArgs false
set_option linter.unusedVariables false
set_option maxRecDepth 100000
namespace Go.Proofs.YtdfdmeoalbpcdaaGreat
open Go Go.RowKit
/-- A sum, of which so many bits are there. -/
def mx (S D : Int) (m : Nat) : Nat → Int := fun j => if j < m then bt (S + D) j else bt S j
theorem mx_at (S D : Int) (j : Nat) : mx S D j (j * 1) = bt S j := by
  unfold mx;rw [Nat.mul_one,if_neg (by omega)]
theorem mx_step {S D V : Int} {j L : Nat} (hV : V = bt (S + D) j) : tab (upd (mx S D j) (j * 1) V) L = tab (mx S D (j + 1)) L := by
  refine Qcv fun i _ => ?_
  rw [Nat.mul_one]
  unfold mx
  by_cases h : i = j
  · subst h
    rw [Qct,hV,if_pos (by omega)]
  · rw [Qep _ _ h]
    by_cases h2 : i < j
    · rw [if_pos h2,if_pos (by omega)]
    · rw [if_neg h2,if_neg (by omega)]
theorem Qee {i j : Nat} (h : j ≤ i) : (2 : Int) ^ i = 2 ^ j * 2 ^ (i - j) := by rw [← Int.pow_add,show j + (i - j) = i by omega]
theorem bt_low (S A : Int) {i j : Nat} (h : j < i) : bt (S + A * 2 ^ i) j = bt S j := by
  unfold bt
  have hp := Qak j
  have e : A * (2 : Int) ^ i = 2 ^ j * (A * 2 ^ (i - j)) := by rw [Qee (show j ≤ i by omega)];grind
  have e2 : A * (2 : Int) ^ (i - j) = 2 * (A * 2 ^ (i - j - 1)) := by
    rw [show i - j = (i - j - 1) + 1 by omega,Int.pow_succ]
    simp only [Nat.add_sub_cancel]
    grind
  rw [e,Int.add_mul_ediv_left _ _ (by omega),e2]
  omega
theorem mx_start (S A : Int) (i L : Nat) : tab (bt S) L = tab (mx S (A * 2 ^ i) i) L := by
  refine Qcv fun j _ => ?_
  unfold mx
  split
  · exact (bt_low S A (by assumption)).symm
  · rfl
theorem cb_start (S A : Int) (i : Nat) : cb S (A * 2 ^ i) 0 i = 0 := by
  unfold cb
  have hp := Qak i
  rw [Int.mul_emod_left,Int.add_zero,Int.add_zero,Int.ediv_eq_zero_of_lt (Int.emod_nonneg _ (by omega)) (Int.emod_lt_of_pos _ hp)]
theorem Qgr (A : Int) (i k : Nat) : bt (A * 2 ^ i) (i + k) = bt A k := by
  unfold bt
  rw [Int.pow_add,Int.mul_comm A,Int.mul_ediv_mul_of_pos _ _ (Qak i)]
/-- What has no bits from t on is less than 2^t. -/
theorem lt_top {A : Int} (hA : 0 ≤ A) {t L : Nat} (hl : A < 2 ^ L) (ht : t ≤ L) (H : ∀ j,t ≤ j → j < L → bt A j = 0) : A < 2 ^ t := by
  have hp := Qak t
  have h0 : 0 ≤ A / 2 ^ t := Int.ediv_nonneg hA (by omega)
  have h1 : A / 2 ^ t < 2 ^ (L - t) := by
    rw [Int.ediv_lt_iff_lt_mul hp,Int.mul_comm,← Qee ht];exact hl
  have h2 := Qhl (h := A / 2 ^ t) (L - t) fun s hs => by rw [Qmz];exact H _ (by omega) (by omega)
  rw [Int.emod_eq_of_lt h0 h1] at h2
  have := Int.mul_ediv_add_emod A (2 ^ t)
  have := Int.emod_lt_of_pos A hp
  rw [h2,Int.mul_zero] at *
  omega
theorem bt_small {A : Int} (hA : 0 ≤ A) {t k : Nat} (h : A < 2 ^ t) (hk : t ≤ k) : bt A k = 0 := by
  unfold bt
  have : A < 2 ^ k := by
    rw [Qee hk]
    have h1 := Qak (k - t)
    have h2 := Int.mul_le_mul_of_nonneg_left (show (1 : Int) ≤ 2 ^ (k - t) by omega) (Int.le_of_lt (Qak t))
    omega
  rw [Int.ediv_eq_zero_of_lt hA this];rfl
theorem shift_lt {A : Int} {t i k : Nat} (h : A < 2 ^ t) (hk : t ≤ k) : A * 2 ^ i < 2 ^ (i + k) := by
  rw [Int.pow_add,Int.mul_comm]
  refine Int.mul_lt_mul_of_pos_left ?_ (Qak i)
  have h1 := Qak (k - t)
  have h2 := Int.mul_le_mul_of_nonneg_left (show (1 : Int) ≤ 2 ^ (k - t) by omega) (Int.le_of_lt (Qak t))
  rw [Qee hk]
  omega
/-- Nothing is carried, and nothing is left to be added: the sum's other bits stand there. -/
theorem mx_end {S A : Int} {i k t L : Nat} (hA : 0 ≤ A) (h : A < 2 ^ t) (hk : t ≤ k) (hc : cb S (A * 2 ^ i) 0 (i + k) = 0) : tab (mx S (A * 2 ^ i) (i + k)) L = tab (bt (S + A * 2 ^ i)) L := by
  refine Qcv fun j _ => ?_
  unfold mx
  split
  · rfl
  · have hp := Qak (i + k)
    have hs : (S + A * 2 ^ i) / 2 ^ (i + k) = S / 2 ^ (i + k) := by
      have hd0 : 0 ≤ A * 2 ^ i := Int.mul_nonneg hA (Int.le_of_lt (Qak i))
      have hd1 := shift_lt (i := i) h hk
      unfold cb at hc
      rw [Int.add_zero,Int.emod_eq_of_lt hd0 hd1] at hc
      generalize A * 2 ^ i = D at *
      generalize (2 : Int) ^ (i + k) = P at *
      have h1 := Int.mul_ediv_add_emod S P
      have h2 := Int.emod_nonneg S (by omega : P ≠ 0)
      have h3 : S + D = (S % P + D) + P * (S / P) := by omega
      rw [h3,Int.add_mul_ediv_left _ _ (by omega),hc]
      omega
    have hj : j = (i + k) + (j - (i + k)) := by omega
    rw [hj,← Qmz,← Qmz,hs]
theorem mul_bit {A B : Int} {i : Nat} (hb : bt B i = 1) : A * (B % 2 ^ i) + A * 2 ^ i = A * (B % 2 ^ (i + 1)) := by
  have h := Qcg B (2 ^ i) 2 (Qak i) (by omega)
  unfold bt at hb
  rw [Int.pow_succ,h,hb]
  grind
theorem mul_nobit {A B : Int} {i : Nat} (hb : bt B i = 0) : A * (B % 2 ^ i) = A * (B % 2 ^ (i + 1)) := by
  have h := Qcg B (2 ^ i) 2 (Qak i) (by omega)
  unfold bt at hb
  rw [Int.pow_succ,h,hb]
  grind
/-- Something is carried: the place is still within the product. -/
theorem carry_room {A B : Int} {i k t E : Nat} (hA : 0 ≤ A) (hB : 0 ≤ B) (h : A < 2 ^ t) (hk : t ≤ k) (hb : bt B i = 1) (hAB : A * B < 2 ^ E) (hc : 0 < cb (A * (B % 2 ^ i)) (A * 2 ^ i) 0 (i + k)) : i + k < E := by
  rcases Nat.lt_or_ge (i + k) E with h1|h1
  · exact h1
  · exfalso
    have hS : 0 ≤ A * (B % 2 ^ i) := Int.mul_nonneg hA (Int.emod_nonneg _ (by have := Qak i;omega))
    have hd0 : 0 ≤ A * 2 ^ i := Int.mul_nonneg hA (Int.le_of_lt (Qak i))
    have hle : A * (B % 2 ^ i) + A * 2 ^ i ≤ A * B := by
      rw [mul_bit hb]
      exact Int.mul_le_mul_of_nonneg_left (Qjb hB (Qak _)) hA
    have hP : (2 : Int) ^ E ≤ 2 ^ (i + k) := by
      rw [Qee h1]
      have h2 := Qak (i + k - E)
      have := Int.mul_le_mul_of_nonneg_left (show (1 : Int) ≤ 2 ^ (i + k - E) by omega) (Int.le_of_lt (Qak E))
      omega
    have hp := Qak (i + k)
    have : cb (A * (B % 2 ^ i)) (A * 2 ^ i) 0 (i + k) = 0 := by
      unfold cb
      rw [Int.emod_eq_of_lt hS (by omega),Int.emod_eq_of_lt hd0 (by omega),Int.add_zero,Int.ediv_eq_zero_of_lt (by omega) (by omega)]
    omega
theorem Qof {n : Int} (h : Fit n) : 0 ≤ ab n ∧ ab n ≤ M511 := by unfold ab;unfold Fit at h;split <;> omega
theorem mul_ab {a b : Int} (h : (decide (a < 0) != decide (b < 0)) = false) : a * b = ab a * ab b := by
  unfold ab
  by_cases ha : a < 0 <;> by_cases hb : b < 0
  · rw [if_pos ha,if_pos hb,Int.neg_mul_neg]
  · simp [ha,hb] at h
  · simp [ha,hb] at h
  · rw [if_neg ha,if_neg hb]
theorem mul_ab_neg {a b : Int} (h : (decide (a < 0) != decide (b < 0)) = true) : a * b = -(ab a * ab b) := by
  unfold ab
  by_cases ha : a < 0 <;> by_cases hb : b < 0
  · simp [ha,hb] at h
  · rw [if_pos ha,if_neg hb,Int.neg_mul,Int.neg_neg]
  · rw [if_neg ha,if_pos hb,Int.mul_neg,Int.neg_neg]
  · simp [ha,hb] at h
/-- Products of two that fit, with room. -/
theorem prod_lt {a b : Int} (ha : Fit a) (hb : Fit b) {E : Nat} (hE : E = 1039) : ab a * ab b < 2 ^ E := by
  have h1 := Qof ha
  have h2 := Qof hb
  have h3 := Int.mul_le_mul h1.2 h2.2 h2.1 (Int.le_trans h1.1 h1.2)
  obtain ⟨c,hc⟩ : ∃ c : Nat,c = 511 := ⟨_,rfl⟩
  rw [Qis hc,← Int.pow_add] at h3
  have h4 : (2 : Int) ^ E = 2 ^ (c + c) * 2 ^ (E - (c + c)) := Qee (by omega)
  have h5 := Qak (c + c)
  have h6 : E - (c + c) = 16 + 1 := by omega
  rw [h6] at h4
  have : (2 : Int) ^ (16 + 1) = 131072 := rfl
  rw [this] at h4
  omega
theorem Qix {n : Int} (h : Fit n) {E : Nat} (hE : E = 520) : ab n < 2 ^ E := by
  have h1 := Qof h
  obtain ⟨c,hc⟩ : ∃ c : Nat,c = 511 := ⟨_,rfl⟩
  rw [Qis hc] at h1
  have h4 : (2 : Int) ^ E = 2 ^ c * 2 ^ (E - c) := Qee (by omega)
  have h5 := Qak c
  have h6 : E - c = 9 := by omega
  rw [h6] at h4
  have : (2 : Int) ^ 9 = 512 := rfl
  rw [this] at h4
  omega
end Go.Proofs.YtdfdmeoalbpcdaaGreat
set_option linter.unusedSimpArgs false
set_option linter.unusedVariables false
set_option maxRecDepth 100000
namespace Go.Proofs.YtdfdmeoalbpcdaaGreat
open Go Go.RowKit
theorem rof1040 (m : Int) {E : Nat} (hE : E = 1039) (hm : -(2 ^ E) ≤ m ∧ m < 2 ^ E) (v : Value) (w : World) (h : BSl w v m 1040) : Calls Tryz.prog 107 #[v] w (Ret (.tuple #[W (fz m),.bool (decide (Fit m))]) w) := by
  subst hE
  exact rof_any m 1040 (by omega) (by omega) hm v w h
set_option maxHeartbeats 8000000 in
theorem Qit (a b : Int) (ha : Fit a) (hb : Fit b) (w : World) : Calls Tryz.prog 108 #[W a,W b] w (Ret (.tuple #[W (fz (a * b)),.bool (decide (Fit (a * b)))]) w) := by
  have HA := Lib.hid (Qof ha)
  have HB := Lib.hid (Qof hb)
  have HAB := Lib.hid (prod_lt ha hb rfl)
  have HA5 := Lib.hid (Qix ha rfl)
  have HB5 := Lib.hid (Qix hb rfl)
  have HP := Lib.hid (@mul_ab a b)
  have HN := Lib.hid (@mul_ab_neg a b)
  have hba := fun w => Qel a ha w
  have hbb := fun w => Qel b hb w
  have hsa := fun w => Qhv a ha w
  have hsb := fun w => Qhv b hb w
  clear ha hb
  generalize a * b = m at *
  generalize decide (a < 0) = sa at *
  generalize decide (b < 0) = sb at *
  generalize ab a = A at *
  generalize ab b = B at *
  have HBA := Lib.hid hba
  have HBB := Lib.hid hbb
  have HSA := Lib.hid hsa
  have HSB := Lib.hid hsb
  clear hba hbb hsa hsb
  go_enter Tryz.func108,Tryz.ntmps108
  have hp := Hp.start [] w
  go_upto_region 1 with (first|((with_reducible apply Qau hp);(exact za rfl);exact rfl;clear hp;(try clear w1);intro g w1 hp;simp only [zp,zq,z0,z1])|((with_reducible apply Qag hp);exact ii;exact rfl;clear hp;(try clear w1);intro g w1 hp;simp only [zp,zq,z0,z1]))
  rename_i ga gb K hK
  obtain ⟨gp,rfl⟩ : ∃ x : Nat,x = g := ⟨_,rfl⟩
  have hq := hp
  refine Qad hp hq [] (.q 0 (.q 2 (.l 1 (.l 3 (.q 4 (.q 5 .nil)))))) (by kernel_rfl) (by kernel_rfl) ?_
  clear hp hq;(try clear w1);intro w1 hp hq
  repeat' (first|(((with_reducible apply sd_q);exact zo rfl);(first|((with_reducible apply Qah hp);exact rfl;exact zt rfl;exact ii;exact ii;(exact zl rfl);(simp only [n0,Nat.reduceAdd,nn];try rfl);simp only [zp,zq,z0,z1])|((with_reducible apply Qat hp);exact zs rfl;simp only [zp,zq,z0,z1])))|(((with_reducible apply sd_l);exact zo rfl);(first|((with_reducible apply Qcu hq);(repeat (first|exact sb0|apply sb3));exact rfl;(focus (intro _;go_simp;try first|with_reducible rfl|exact ⟨rfl,rfl⟩));(with_reducible exact HSA.out _);clear hp hq;(try clear w1);intro g w1 hp hq;simp only [zp,zq,z0,z1])|((with_reducible apply Qcu hq);(repeat (first|exact sb0|apply sb3));exact rfl;(focus (intro _;go_simp;try first|with_reducible rfl|exact ⟨rfl,rfl⟩));(with_reducible exact HSB.out _);clear hp hq;(try clear w1);intro g w1 hp hq;simp only [zp,zq,z0,z1])))|((with_reducible apply Qao);clear hp;have hp := hq;clear hq))
  rename_i gx
  obtain ⟨gy,rfl⟩ : ∃ x : Nat,x = g := ⟨_,rfl⟩
  go_wp2_with (first|((with_reducible refine Qaf hp (Qnm A 520 (by omega) _ _ (BSl.of hp.blk)) ?_);clear hp;(try clear w1);intro w1 hp)|((with_reducible apply Qdc (n := 1040) hp);exact ii;exact ii;exact (rfl : Value.int .i64 (1040 : Int) = _);exact (rfl : Value.int .i64 (1040 : Int) = _);omega;omega;clear hp;(try clear w1);intro g w1 hp;simp only [zp,zq,z0,z1]))
  obtain ⟨gs,rfl⟩ : ∃ x : Nat,x = g := ⟨_,rfl⟩
  have HT := Lib.hid (lt_top HA.out.1 HA5.out (tp_le A 520) fun j h1 h2 => Qnt A h1 h2)
  have hT := tp_le A 520
  generalize tp A 520 = T at *
  go_loopw [10] (fun iv wr => ∃ i : Nat,i ≤ 520 ∧ iv = .int .i64 i ∧ Hp [] w [⟨gs,3,tab (bt (A * (B % 2 ^ i))) 1040⟩,⟨gy,3,tab (bt B) 520⟩,⟨gx,3,tab (bt A) 520⟩,⟨gp,27,[.int .u64 0,.int .u64 0,.int .u64 0,.int .u64 0,.int .u64 0,.int .u64 0,.int .u64 0,.int .u64 0]⟩,⟨gb,27,[.int .u64 (lb (b) 0),.int .u64 (lb (b) 1),.int .u64 (lb (b) 2),.int .u64 (lb (b) 3),.int .u64 (lb (b) 4),.int .u64 (lb (b) 5),.int .u64 (lb (b) 6),.int .u64 (lb (b) 7)]⟩,⟨ga,27,[.int .u64 (lb (a) 0),.int .u64 (lb (a) 1),.int .u64 (lb (a) 2),.int .u64 (lb (a) 3),.int .u64 (lb (a) 4),.int .u64 (lb (a) 5),.int .u64 (lb (a) 6),.int .u64 (lb (a) 7)]⟩] wr) (fun iv _ => 520 - (intOf iv).toNat)
  case atStart => exact ⟨0,by omega,rfl,by rw [Int.pow_zero,Int.emod_one,Int.mul_zero,Qcv (fun j _ => Qia j)];exact hp⟩
  case round =>
    clear hp
    obtain ⟨i,hi,rfl,hp⟩ := hrel
    by_cases hi1 : i < 520
    · have hi2 : (i : Int) < 520 := by omega
      by_cases hb1 : bt B i = 1
      · have hbt : (bt B i == 1) = true := by simp [hb1]
        have HB1 := Lib.hid hb1
        clear hb1
        obtain ⟨S,hS⟩ : ∃ S,S = A * (B % 2 ^ i) := ⟨_,rfl⟩
        obtain ⟨D,hD⟩ : ∃ D,D = A * 2 ^ i := ⟨_,rfl⟩
        rw [← hS,mx_start S A i 1040,← hD] at hp
        have HS := Lib.hid hS
        have HD := Lib.hid hD
        clear hS hD
        go_wp2_with (first|((with_reducible apply Qai hp);exact zt rfl;exact ii;exact ii;(exact Qet (by omega));simp only [zp,zq,z0,z1])|((with_reducible apply Qar);exact zx rfl;exact zk rfl;exact ii;(exact OneTy.size);omega;omega;((try simp only [m0,Int.reduceToNat,m1,m2,Nat.reduceMul,Nat.reduceAdd,m3,m4,m5,n0]);exact rfl);simp only [zp,zq,z0,z1]))
        go_loopw [11,12] (fun cv kv wr => ∃ (k : Nat) (c : Int),kv = .int .i64 k ∧ cv = .int .i64 c ∧ c = cb S D 0 (i + k) ∧ Hp [] w [⟨gs,3,tab (mx S D (i + k)) 1040⟩,⟨gy,3,tab (bt B) 520⟩,⟨gx,3,tab (bt A) 520⟩,⟨gp,27,[.int .u64 0,.int .u64 0,.int .u64 0,.int .u64 0,.int .u64 0,.int .u64 0,.int .u64 0,.int .u64 0]⟩,⟨gb,27,[.int .u64 (lb (b) 0),.int .u64 (lb (b) 1),.int .u64 (lb (b) 2),.int .u64 (lb (b) 3),.int .u64 (lb (b) 4),.int .u64 (lb (b) 5),.int .u64 (lb (b) 6),.int .u64 (lb (b) 7)]⟩,⟨ga,27,[.int .u64 (lb (a) 0),.int .u64 (lb (a) 1),.int .u64 (lb (a) 2),.int .u64 (lb (a) 3),.int .u64 (lb (a) 4),.int .u64 (lb (a) 5),.int .u64 (lb (a) 6),.int .u64 (lb (a) 7)]⟩] wr) (fun _ kv _ => 1040 - (intOf kv).toNat)
        case atStart => exact ⟨0,0,rfl,rfl,by rw [HD.out];exact (cb_start S A i).symm,hp⟩
        case round =>
          clear hp
          obtain ⟨k,c,rfl,rfl,hc,hp⟩ := hrel
          have hcb := cb_bd S D 0 (i + k) (by omega) (by omega)
          have hsb := sum_bt S D 0 (i + k)
          have hcs := cb_succ S D 0 (i + k)
          rw [← hc] at hcb hsb hcs
          have hm := mx_at S D (i + k)
          rw [Nat.mul_one] at hm
          have hmb := Qhe S (i + k)
          rw [← hm] at hmb hsb hcs
          rw [HD.out,Qgr,Int.add_zero,← HD.out] at hsb
          rw [HD.out,Qgr,← HD.out] at hcs
          rw [Int.add_right_comm] at hsb hcs
          have HC := Lib.hid hc
          have HCS := Lib.hid hcs
          have HSB := Lib.hid hsb
          clear hc hcs hsb hm
          have hik : ((i : Int) + (k : Int)).toNat = i + k := by omega
          by_cases hk : k < T
          · have hk2 : (k : Int) < T := by omega
            have hk3 : k < 520 := by omega
            have hkb := Qhe A k
            have HIK := Lib.hid hik
            clear hik
            go_wp2_with (first|((with_reducible apply Qai hp);exact zt rfl;exact ii;exact ii;(exact Qet (by omega));simp only [zp,zq,z0,z1])|((with_reducible apply Qae hp);exact zt rfl;(exact zi rfl);exact rfl;(exact OneTy.size);exact rfl;exact ii;(with_reducible exact Qgl (by omega));(exact Qkm (by omega));exact rfl;exact ii;clear hp;(try clear w1);intro w1 hp)|((with_reducible apply Qar);exact zx rfl;exact zk rfl;exact ii;(exact OneTy.size);omega;omega;((try simp only [m0,Int.reduceToNat,m1,m2,Nat.reduceMul,Nat.reduceAdd,m3,m4,m5,n0]);exact rfl);simp only [zp,zq,z0,z1]))
            go_roundw
            case rel =>
              refine ⟨k + 1,_,by go_num,rfl,HCS.out,?_⟩
              rw [Nat.add_assoc i k 1 |>.symm,← mx_step HSB.out,← HIK.out]
              exact hp
            case measure => simp [intOf];omega
          · by_cases hc0 : 0 < c
            · have hk2 : ¬ (k : Int) < T := by omega
              have hka := bt_small HA.out.1 HT.out (show T ≤ k by omega)
              have hroom := carry_room HA.out.1 HB.out.1 HT.out (show T ≤ k by omega) HB1.out HAB.out (by rw [← HS.out,← HD.out,← HC.out];exact hc0)
              have HSB2 := HSB.out
              have HCS2 := HCS.out
              rw [hka,Int.add_zero] at HSB2 HCS2
              have HSB := Lib.hid HSB2
              have HCS := Lib.hid HCS2
              clear HSB2 HCS2 hka
              have HIK := Lib.hid hik
              clear hik
              go_wp2_with (first|((with_reducible apply Qai hp);exact zt rfl;exact ii;exact ii;(exact Qet (by omega));simp only [zp,zq,z0,z1])|((with_reducible apply Qae hp);exact zt rfl;(exact zi rfl);exact rfl;(exact OneTy.size);exact rfl;exact ii;(with_reducible exact Qgl (by omega));(exact Qkm (by omega));exact rfl;exact ii;clear hp;(try clear w1);intro w1 hp)|((with_reducible apply Qar);exact zx rfl;exact zk rfl;exact ii;(exact OneTy.size);omega;omega;((try simp only [m0,Int.reduceToNat,m1,m2,Nat.reduceMul,Nat.reduceAdd,m3,m4,m5,n0]);exact rfl);simp only [zp,zq,z0,z1])|((with_reducible apply Qbm);exact rfl))
              go_roundw
              case rel =>
                refine ⟨k + 1,_,by go_num,rfl,HCS.out,?_⟩
                rw [Nat.add_assoc i k 1 |>.symm,← mx_step HSB.out,← HIK.out]
                exact hp
              case measure => simp [intOf];omega
            · have hk2 : ¬ (k : Int) < T := by omega
              obtain rfl : c = 0 := by omega
              go_wp2_with ((with_reducible apply Qbm);exact rfl)
              go_roundw
              case rel =>
                refine ⟨i + 1,by omega,by go_num,?_⟩
                rw [← mul_bit HB1.out,← HS.out,← HD.out]
                rw [HD.out,mx_end HA.out.1 HT.out (show T ≤ k by omega) (by rw [← HD.out,← HC.out]),← HD.out] at hp
                exact hp
              case measure => simp [intOf];omega
      · have hbf : (bt B i == 1) = false := by simp [hb1]
        have HB1 := Lib.hid hb1
        clear hb1
        go_wp2_with (first|((with_reducible apply Qai hp);exact zt rfl;exact ii;exact ii;(exact Qet (by omega));simp only [zp,zq,z0,z1])|((with_reducible apply Qar);exact zx rfl;exact zk rfl;exact ii;(exact OneTy.size);omega;omega;((try simp only [m0,Int.reduceToNat,m1,m2,Nat.reduceMul,Nat.reduceAdd,m3,m4,m5,n0]);exact rfl);simp only [zp,zq,z0,z1]))
        go_roundw
        case rel =>
          refine ⟨i + 1,by omega,by go_num,?_⟩
          rw [← mul_nobit (by have := HB1.out;have := Qhe B i;omega)]
          exact hp
        case measure => simp [intOf];omega
    · obtain rfl : i = 520 := by omega
      rw [Int.emod_eq_of_lt HB.out.1 HB5.out] at hp
      rw [show ((520 : Nat) : Int) = 520 from rfl]
      go_wp2_with (fail)
      have h0 : 0 ≤ A * B := Int.mul_nonneg HA.out.1 HB.out.1
      have h1 := HAB.out
      clear HT hT hi hi1
      cases hs : (sa == sb) with
      | false =>
        obtain rfl := HN.out (by unfold bne;rw [hs];rfl)
        clear HN HP
        have HM : Hid (-(2 ^ 1039) ≤ -(A * B) ∧ -(A * B) < 2 ^ 1039) := Lib.hid (by generalize (2 : Int) ^ 1039 = P at *;omega)
        clear h0 h1
        have hq := hp
        refine Qad hp hq [] (.q 0 (.q 2 (.l 1 (.l 3 (.q 4 .nil))))) (by kernel_rfl) (by kernel_rfl) ?_
        clear hp hq;(try clear w1);intro w1 hp hq
        repeat' (first|(((with_reducible apply sd_q);exact zo rfl);(first|((with_reducible apply Qah hp);exact rfl;exact zt rfl;exact ii;exact ii;(exact zl rfl);(simp only [n0,Nat.reduceAdd,nn];try rfl);simp only [zp,zq,z0,z1])|((with_reducible apply Qaj hp);exact rfl;(focus (intro _;go_simp;(try go_ints);try with_reducible rfl));simp only [zp,zq,z0,z1])))|(((with_reducible apply sd_l);exact zo rfl);((with_reducible apply Qap hp);exact rfl;(focus (intro _;go_simp;try first|with_reducible rfl|exact ⟨rfl,rfl⟩));(with_reducible first|exact fun w => HBA.out w|exact fun w => HBB.out w);exact hq;clear hp hq;(try clear w1);intro w1 hp hq;simp only [zp,zq,z0,z1]))|((with_reducible apply Qao);clear hp;have hp := hq;clear hq))
        go_wp2_with (first|((with_reducible apply Qae hp);exact zt rfl;(exact za rfl);exact rfl;(exact AggTy.size);exact rfl;exact ii;(simp only [n0,Nat.reduceAdd,nn];try rfl);(exact zl rfl);exact rfl;exact ii;clear hp;(try clear w1);intro w1 hp)|((with_reducible refine Qci hp (Qcx (A * B) 1040 (by omega) _ _ (BSl.of hp.blk)) ?_);clear hp;(try clear w1);intro g w1 hp)|((with_reducible refine Qaf hp (rof1040 (-(A * B)) rfl HM.out _ _ (BSl.of hp.blk)) ?_);clear hp;(try clear w1);intro w1 hp))
        exact bodyPost_ret (Qan rfl ⟨_,rfl,Qac hp (Nat.le_of_ble_eq_true rfl)⟩ rfl) rfl ⟨rfl,hp.keep⟩
      | true =>
        obtain rfl := HP.out (by unfold bne;rw [hs];rfl)
        clear HN HP
        have HM : Hid (-(2 ^ 1039) ≤ A * B ∧ A * B < 2 ^ 1039) := Lib.hid (by generalize (2 : Int) ^ 1039 = P at *;omega)
        clear h0 h1
        have hq := hp
        refine Qad hp hq [] (.q 0 (.q 2 (.l 1 (.l 3 (.q 4 .nil))))) (by kernel_rfl) (by kernel_rfl) ?_
        clear hp hq;(try clear w1);intro w1 hp hq
        repeat' (first|(((with_reducible apply sd_q);exact zo rfl);(first|((with_reducible apply Qah hp);exact rfl;exact zt rfl;exact ii;exact ii;(exact zl rfl);(simp only [n0,Nat.reduceAdd,nn];try rfl);simp only [zp,zq,z0,z1])|((with_reducible apply Qaj hp);exact rfl;(focus (intro _;go_simp;(try go_ints);try with_reducible rfl));simp only [zp,zq,z0,z1])))|(((with_reducible apply sd_l);exact zo rfl);((with_reducible apply Qap hp);exact rfl;(focus (intro _;go_simp;try first|with_reducible rfl|exact ⟨rfl,rfl⟩));(with_reducible first|exact fun w => HBA.out w|exact fun w => HBB.out w);exact hq;clear hp hq;(try clear w1);intro w1 hp hq;simp only [zp,zq,z0,z1]))|((with_reducible apply Qao);clear hp;have hp := hq;clear hq))
        go_wp2_with (first|((with_reducible apply Qae hp);exact zt rfl;(exact za rfl);exact rfl;(exact AggTy.size);exact rfl;exact ii;(simp only [n0,Nat.reduceAdd,nn];try rfl);(exact zl rfl);exact rfl;exact ii;clear hp;(try clear w1);intro w1 hp)|((with_reducible refine Qaf hp (rof1040 (A * B) rfl HM.out _ _ (BSl.of hp.blk)) ?_);clear hp;(try clear w1);intro w1 hp))
        exact bodyPost_ret (Qan rfl ⟨_,rfl,Qac hp (Nat.le_of_ble_eq_true rfl)⟩ rfl) rfl ⟨rfl,hp.keep⟩
end Go.Proofs.YtdfdmeoalbpcdaaGreat
