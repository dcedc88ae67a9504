/-
  ninepinref15.Sum (contract; printed by gen_nk.py).
-/
import Derived.Test.YtdfdmeoalbpcdaaGreatNf
import Derived.Test.YtdfdmeoalbpcdaaGreatQa
set_option linter.unusedSimpArgs false
set_option linter.unusedVariables false
set_option maxRecDepth 100000
namespace Go.Proofs.YtdfdmeoalbpcdaaGreat
open Go Go.RowKit
attribute [local irreducible] wpList
theorem Qnw {P : Program} {X : List Nat} {w0 w : World} {H : List Bk} {ops : Array Oper} {Q : Exit → Act → World → Prop} {a : Act} {rest : List Oper} {d : Tmp} {tp t e : TypeId} {pos : String} {af : Array Edge} {x y : Operand} {n size bytes : Nat} {z : Value} {L : List Value}
    (hp : Hp X w0 H w) (ht : Qfk P t e) (he : Qgf P e z size bytes) (hx : a.eval x = .int .i64 n) (hy : a.eval y = .int .i64 n) (hb : bytes * n ≤ 281474976710656) (h63 : n ≤ 9223372036854775807) (hL : madeCells z.cells (n * size) = L.toArray)
    (hk : ∀ g w1,Hp X w0 (⟨g,e,L⟩ :: H) w1 → wpList P ops Q rest (a.put (some d) (.slice (some ⟨g,0,none⟩) n n)) w1) : wpList P ops Q (⟨some d,.makeSlice t x y,tp,pos,af,none⟩ :: rest) a w := by
  obtain ⟨i,hi,hi'⟩ : ∃ i,P.info? e = some i ∧ (i.zero,i.size,i.bytes) = (some z,size,bytes) := by
    have := he.info
    cases h : P.info? e with
    | none => rw [h] at this;cases this
    | some i => rw [h] at this;exact ⟨i,rfl,by simpa using this⟩
  simp only [Prod.mk.injEq] at hi'
  obtain ⟨hiz,his,hib⟩ := hi'
  have hb1 : ((bytes * n : Nat) : Int) ≤ 281474976710656 := by omega
  rw [Int.natCast_mul] at hb1
  have hr := run_make (P := P) w t e i z ht.und hi hiz .i64 .i64 n n (by omega) (by omega) (by rw [hib];exact hb1) (by omega)
  rw [his,Int.toNat_natCast,hL] at hr
  refine wpList_plain rfl fun K hK => ?_
  unfold Oper.wp
  simp only [execOp,hx,hy,Sem.run_bind,hr,Result.andThen_ok]
  exact hK _ _ (hk _ _ (hp.alloc e _))
theorem made24 : madeCells (Value.agg #[.int .u64 0,.int .u64 0,.int .u64 0,.int .u64 0,.int .u64 0,.int .u64 0,.int .u64 0,.int .u64 0]).cells (3 * 8) = ([.int .u64 0,.int .u64 0,.int .u64 0,.int .u64 0,.int .u64 0,.int .u64 0,.int .u64 0,.int .u64 0,.int .u64 0,.int .u64 0,.int .u64 0,.int .u64 0,.int .u64 0,.int .u64 0,.int .u64 0,.int .u64 0,.int .u64 0,.int .u64 0,.int .u64 0,.int .u64 0,.int .u64 0,.int .u64 0,.int .u64 0,.int .u64 0] : List Value).toArray := by kernel_rfl
set_option maxHeartbeats 16000000 in
theorem sum15_core (S : List P3) (ws : List Int) (X : P3) (d : Int) (q0 q1 q2 q3 r0 r1 r2 r3 : Int) (k0 k1 k2 k3 : Bool) (n g0 off cap g1 off1 cap1 : Nat) (bc bw : List Value) (t0 t1 : TypeId) (u0 u1 : Nat × Nat) (w : World) (hb : w.heap[g0]? = some (.cells bc.toArray t0 u0)) (hbw : w.heap[g1]? = some (.cells bw.toArray t1 u1))
    (Hn : Hid (n = S.length ∧ ws.length = S.length ∧ psm ws S n = X)) (hn : (n : Int) ≤ 4)
    (HS : Hid (∀ (k : Nat) (p : P3),S[k]? = some p → (bc.drop (off + k * 3)).take 3 = [.int .i64 p.x,.int .i64 p.y,.int .i64 p.z] ∧ off + k * 3 + 3 ≤ bc.length))
    (HW : Hid (∀ (k : Nat) (x : Int),ws[k]? = some x → (bw.drop (off1 + k * 8)).take 8 = [.int .u64 (lb (x) 0),.int .u64 (lb (x) 1),.int .u64 (lb (x) 2),.int .u64 (lb (x) 3),.int .u64 (lb (x) 4),.int .u64 (lb (x) 5),.int .u64 (lb (x) 6),.int .u64 (lb (x) 7)] ∧ off1 + k * 8 + 8 ≤ bw.length))
    (HAX : Hid (∀ (k : Nat) (p : P3),S[k]? = some p → ∀ w1,Calls Tryz.prog 67 #[PV p,.int .i64 0] w1 (Ret (.int .i64 p.x) w1) ∧ Calls Tryz.prog 67 #[PV p,.int .i64 1] w1 (Ret (.int .i64 p.y) w1) ∧ Calls Tryz.prog 67 #[PV p,.int .i64 2] w1 (Ret (.int .i64 p.z) w1)))
    (HO : Hid (∀ (k : Nat) (p : P3),S[k]? = some p → ∀ w1,Calls Tryz.prog 66 #[.int .i64 p.x] w1 (Ret (W p.x) w1) ∧ Calls Tryz.prog 66 #[.int .i64 p.y] w1 (Ret (W p.y) w1) ∧ Calls Tryz.prog 66 #[.int .i64 p.z] w1 (Ret (W p.z) w1)))
    (HT : Hid (∀ (k : Nat) (x : Int) (p : P3),ws[k]? = some x → S[k]? = some p → ∀ w1,Calls Tryz.prog 65 #[W x,W p.x] w1 (Ret (W (x * p.x)) w1) ∧ Calls Tryz.prog 65 #[W x,W p.y] w1 (Ret (W (x * p.y)) w1) ∧ Calls Tryz.prog 65 #[W x,W p.z] w1 (Ret (W (x * p.z)) w1)))
    (HP : Hid (∀ (k : Nat) (x : Int) (p : P3),ws[k]? = some x → S[k]? = some p → ∀ w1,Calls Tryz.prog 64 #[W (psm ws S k).x,W (x * p.x)] w1 (Ret (W (psm ws S (k + 1)).x) w1) ∧ Calls Tryz.prog 64 #[W (psm ws S k).y,W (x * p.y)] w1 (Ret (W (psm ws S (k + 1)).y) w1) ∧ Calls Tryz.prog 64 #[W (psm ws S k).z,W (x * p.z)] w1 (Ret (W (psm ws S (k + 1)).z) w1)))
    (HZ : Hid (∀ w1,Calls Tryz.prog 69 #[W X.x] w1 (Ret (W (ab X.x)) w1) ∧ Calls Tryz.prog 69 #[W X.y] w1 (Ret (W (ab X.y)) w1) ∧ Calls Tryz.prog 69 #[W X.z] w1 (Ret (W (ab X.z)) w1)))
    (HC : Hid (∀ w1,Calls Tryz.prog 68 #[W (axG d X 0),W (ab X.x)] w1 (Ret (W (axG d X 1)) w1) ∧ Calls Tryz.prog 68 #[W (axG d X 1),W (ab X.y)] w1 (Ret (W (axG d X 2)) w1) ∧ Calls Tryz.prog 68 #[W (axG d X 2),W (ab X.z)] w1 (Ret (W (axG d X 3)) w1)))
    (D0 : Hid (∀ w1,Calls Tryz.prog 70 #[W X.x,W (axG d X 3)] w1 (Ret (.tuple #[W q0,W r0,.bool k0]) w1))) (D1 : Hid (∀ w1,Calls Tryz.prog 70 #[W X.y,W (axG d X 3)] w1 (Ret (.tuple #[W q1,W r1,.bool k1]) w1)))
    (D2 : Hid (∀ w1,Calls Tryz.prog 70 #[W X.z,W (axG d X 3)] w1 (Ret (.tuple #[W q2,W r2,.bool k2]) w1))) (D3 : Hid (∀ w1,Calls Tryz.prog 70 #[W d,W (axG d X 3)] w1 (Ret (.tuple #[W q3,W r3,.bool k3]) w1))) :
    Calls Tryz.prog 32 #[.slice (some ⟨g0,off,none⟩) n cap,.slice (some ⟨g1,off1,none⟩) n cap1,W d] w (Ret (.tuple #[Sv q0 q1 q2,W q3]) w) := by
  go_enter Tryz.func32,Tryz.ntmps32
  have hp := Hp.start [] w
  go_wp2_with (first|((with_reducible apply Qau hp);exact za rfl;exact rfl;clear hp;(try clear w1);intro g w1 hp;simp only [zp,zq,z0,z1])|((with_reducible apply Qag hp);exact ii;exact rfl;clear hp;(try clear w1);intro g w1 hp;simp only [zp,zq,z0,z1])|((with_reducible apply Qab hp);exact zt rfl;exact ii;exact ii;(exact zl rfl);(simp only [n0,Nat.reduceAdd,nn];try rfl);simp only [zp,zq,z0,z1])|((with_reducible apply Qae hp);exact zt rfl;exact za rfl;exact rfl;(exact AggTy.size);exact rfl;exact ii;(simp only [n0,Nat.reduceAdd,nn];try rfl);(exact zl rfl);exact rfl;exact ii;clear hp;(try clear w1);intro w1 hp)|((with_reducible apply Qnw (n := 3) (L := [.int .u64 0,.int .u64 0,.int .u64 0,.int .u64 0,.int .u64 0,.int .u64 0,.int .u64 0,.int .u64 0,.int .u64 0,.int .u64 0,.int .u64 0,.int .u64 0,.int .u64 0,.int .u64 0,.int .u64 0,.int .u64 0,.int .u64 0,.int .u64 0,.int .u64 0,.int .u64 0,.int .u64 0,.int .u64 0,.int .u64 0,.int .u64 0]) hp);exact ii;exact ii;exact (rfl : Value.int .i64 (3 : Int) = _);exact (rfl : Value.int .i64 (3 : Int) = _);decide;decide;exact made24;clear hp;(try clear w1);intro g w1 hp;simp only [zp,zq,z0,z1]))
  rename_i g5 g6 g7 gn K9 hK9
  obtain ⟨g9,rfl⟩ : ∃ z : Nat,z = g := ⟨_,rfl⟩
  rw [show lb d = lb (axG d X 0) from rfl] at hp
  go_loopw [10] (fun cv wr => ∃ c : Int,(c = 0 ∧ Hp [] w [⟨g9,27,[.int .u64 (lb (axG d X 0) 0),.int .u64 (lb (axG d X 0) 1),.int .u64 (lb (axG d X 0) 2),.int .u64 (lb (axG d X 0) 3),.int .u64 (lb (axG d X 0) 4),.int .u64 (lb (axG d X 0) 5),.int .u64 (lb (axG d X 0) 6),.int .u64 (lb (axG d X 0) 7)]⟩,⟨gn,27,[.int .u64 0,.int .u64 0,.int .u64 0,.int .u64 0,.int .u64 0,.int .u64 0,.int .u64 0,.int .u64 0,.int .u64 0,.int .u64 0,.int .u64 0,.int .u64 0,.int .u64 0,.int .u64 0,.int .u64 0,.int .u64 0,.int .u64 0,.int .u64 0,.int .u64 0,.int .u64 0,.int .u64 0,.int .u64 0,.int .u64 0,.int .u64 0]⟩,⟨g7,27,[.int .u64 0,.int .u64 0,.int .u64 0,.int .u64 0,.int .u64 0,.int .u64 0,.int .u64 0,.int .u64 0]⟩,⟨g6,29,[.int .u64 0,.int .u64 0,.int .u64 0,.int .u64 0,.int .u64 0,.int .u64 0,.int .u64 0,.int .u64 0,.int .u64 0,.int .u64 0,.int .u64 0,.int .u64 0,.int .u64 0,.int .u64 0,.int .u64 0,.int .u64 0,.int .u64 0,.int .u64 0,.int .u64 0,.int .u64 0,.int .u64 0,.int .u64 0,.int .u64 0,.int .u64 0]⟩,⟨g5,27,[.int .u64 (lb (d) 0),.int .u64 (lb (d) 1),.int .u64 (lb (d) 2),.int .u64 (lb (d) 3),.int .u64 (lb (d) 4),.int .u64 (lb (d) 5),.int .u64 (lb (d) 6),.int .u64 (lb (d) 7)]⟩] wr ∨ c = 1 ∧ Hp [] w [⟨g9,27,[.int .u64 (lb (axG d X 1) 0),.int .u64 (lb (axG d X 1) 1),.int .u64 (lb (axG d X 1) 2),.int .u64 (lb (axG d X 1) 3),.int .u64 (lb (axG d X 1) 4),.int .u64 (lb (axG d X 1) 5),.int .u64 (lb (axG d X 1) 6),.int .u64 (lb (axG d X 1) 7)]⟩,⟨gn,27,[.int .u64 (lb (X.x) 0),.int .u64 (lb (X.x) 1),.int .u64 (lb (X.x) 2),.int .u64 (lb (X.x) 3),.int .u64 (lb (X.x) 4),.int .u64 (lb (X.x) 5),.int .u64 (lb (X.x) 6),.int .u64 (lb (X.x) 7),.int .u64 0,.int .u64 0,.int .u64 0,.int .u64 0,.int .u64 0,.int .u64 0,.int .u64 0,.int .u64 0,.int .u64 0,.int .u64 0,.int .u64 0,.int .u64 0,.int .u64 0,.int .u64 0,.int .u64 0,.int .u64 0]⟩,⟨g7,27,[.int .u64 0,.int .u64 0,.int .u64 0,.int .u64 0,.int .u64 0,.int .u64 0,.int .u64 0,.int .u64 0]⟩,⟨g6,29,[.int .u64 0,.int .u64 0,.int .u64 0,.int .u64 0,.int .u64 0,.int .u64 0,.int .u64 0,.int .u64 0,.int .u64 0,.int .u64 0,.int .u64 0,.int .u64 0,.int .u64 0,.int .u64 0,.int .u64 0,.int .u64 0,.int .u64 0,.int .u64 0,.int .u64 0,.int .u64 0,.int .u64 0,.int .u64 0,.int .u64 0,.int .u64 0]⟩,⟨g5,27,[.int .u64 (lb (d) 0),.int .u64 (lb (d) 1),.int .u64 (lb (d) 2),.int .u64 (lb (d) 3),.int .u64 (lb (d) 4),.int .u64 (lb (d) 5),.int .u64 (lb (d) 6),.int .u64 (lb (d) 7)]⟩] wr ∨ c = 2 ∧ Hp [] w [⟨g9,27,[.int .u64 (lb (axG d X 2) 0),.int .u64 (lb (axG d X 2) 1),.int .u64 (lb (axG d X 2) 2),.int .u64 (lb (axG d X 2) 3),.int .u64 (lb (axG d X 2) 4),.int .u64 (lb (axG d X 2) 5),.int .u64 (lb (axG d X 2) 6),.int .u64 (lb (axG d X 2) 7)]⟩,⟨gn,27,[.int .u64 (lb (X.x) 0),.int .u64 (lb (X.x) 1),.int .u64 (lb (X.x) 2),.int .u64 (lb (X.x) 3),.int .u64 (lb (X.x) 4),.int .u64 (lb (X.x) 5),.int .u64 (lb (X.x) 6),.int .u64 (lb (X.x) 7),.int .u64 (lb (X.y) 0),.int .u64 (lb (X.y) 1),.int .u64 (lb (X.y) 2),.int .u64 (lb (X.y) 3),.int .u64 (lb (X.y) 4),.int .u64 (lb (X.y) 5),.int .u64 (lb (X.y) 6),.int .u64 (lb (X.y) 7),.int .u64 0,.int .u64 0,.int .u64 0,.int .u64 0,.int .u64 0,.int .u64 0,.int .u64 0,.int .u64 0]⟩,⟨g7,27,[.int .u64 0,.int .u64 0,.int .u64 0,.int .u64 0,.int .u64 0,.int .u64 0,.int .u64 0,.int .u64 0]⟩,⟨g6,29,[.int .u64 0,.int .u64 0,.int .u64 0,.int .u64 0,.int .u64 0,.int .u64 0,.int .u64 0,.int .u64 0,.int .u64 0,.int .u64 0,.int .u64 0,.int .u64 0,.int .u64 0,.int .u64 0,.int .u64 0,.int .u64 0,.int .u64 0,.int .u64 0,.int .u64 0,.int .u64 0,.int .u64 0,.int .u64 0,.int .u64 0,.int .u64 0]⟩,⟨g5,27,[.int .u64 (lb (d) 0),.int .u64 (lb (d) 1),.int .u64 (lb (d) 2),.int .u64 (lb (d) 3),.int .u64 (lb (d) 4),.int .u64 (lb (d) 5),.int .u64 (lb (d) 6),.int .u64 (lb (d) 7)]⟩] wr ∨ c = 3 ∧ Hp [] w [⟨g9,27,[.int .u64 (lb (axG d X 3) 0),.int .u64 (lb (axG d X 3) 1),.int .u64 (lb (axG d X 3) 2),.int .u64 (lb (axG d X 3) 3),.int .u64 (lb (axG d X 3) 4),.int .u64 (lb (axG d X 3) 5),.int .u64 (lb (axG d X 3) 6),.int .u64 (lb (axG d X 3) 7)]⟩,⟨gn,27,[.int .u64 (lb (X.x) 0),.int .u64 (lb (X.x) 1),.int .u64 (lb (X.x) 2),.int .u64 (lb (X.x) 3),.int .u64 (lb (X.x) 4),.int .u64 (lb (X.x) 5),.int .u64 (lb (X.x) 6),.int .u64 (lb (X.x) 7),.int .u64 (lb (X.y) 0),.int .u64 (lb (X.y) 1),.int .u64 (lb (X.y) 2),.int .u64 (lb (X.y) 3),.int .u64 (lb (X.y) 4),.int .u64 (lb (X.y) 5),.int .u64 (lb (X.y) 6),.int .u64 (lb (X.y) 7),.int .u64 (lb (X.z) 0),.int .u64 (lb (X.z) 1),.int .u64 (lb (X.z) 2),.int .u64 (lb (X.z) 3),.int .u64 (lb (X.z) 4),.int .u64 (lb (X.z) 5),.int .u64 (lb (X.z) 6),.int .u64 (lb (X.z) 7)]⟩,⟨g7,27,[.int .u64 0,.int .u64 0,.int .u64 0,.int .u64 0,.int .u64 0,.int .u64 0,.int .u64 0,.int .u64 0]⟩,⟨g6,29,[.int .u64 0,.int .u64 0,.int .u64 0,.int .u64 0,.int .u64 0,.int .u64 0,.int .u64 0,.int .u64 0,.int .u64 0,.int .u64 0,.int .u64 0,.int .u64 0,.int .u64 0,.int .u64 0,.int .u64 0,.int .u64 0,.int .u64 0,.int .u64 0,.int .u64 0,.int .u64 0,.int .u64 0,.int .u64 0,.int .u64 0,.int .u64 0]⟩,⟨g5,27,[.int .u64 (lb (d) 0),.int .u64 (lb (d) 1),.int .u64 (lb (d) 2),.int .u64 (lb (d) 3),.int .u64 (lb (d) 4),.int .u64 (lb (d) 5),.int .u64 (lb (d) 6),.int .u64 (lb (d) 7)]⟩] wr) ∧ cv = .int .i64 c) (fun i _ => 3 - (intOf i).toNat)
  case atStart => exact ⟨0,.inl ⟨rfl,hp⟩,rfl⟩
  case round =>
    clear hp
    obtain ⟨c,hc,rfl⟩ := hrel
    rcases hc with ⟨rfl,hp⟩|⟨rfl,hp⟩|⟨rfl,hp⟩|⟨rfl,hp⟩
    · go_wp2_with (fail)
      obtain ⟨w3,hw3⟩ : ∃ x : World,x = wr := ⟨_,rfl⟩
      subst hw3
      go_loopw [11] (fun iv wr => ∃ k : Nat,k ≤ n ∧ iv = .int .i64 k ∧ Hp [] w [⟨g9,27,[.int .u64 (lb (axG d X 0) 0),.int .u64 (lb (axG d X 0) 1),.int .u64 (lb (axG d X 0) 2),.int .u64 (lb (axG d X 0) 3),.int .u64 (lb (axG d X 0) 4),.int .u64 (lb (axG d X 0) 5),.int .u64 (lb (axG d X 0) 6),.int .u64 (lb (axG d X 0) 7)]⟩,⟨gn,27,[.int .u64 (lb ((psm ws S k).x) 0),.int .u64 (lb ((psm ws S k).x) 1),.int .u64 (lb ((psm ws S k).x) 2),.int .u64 (lb ((psm ws S k).x) 3),.int .u64 (lb ((psm ws S k).x) 4),.int .u64 (lb ((psm ws S k).x) 5),.int .u64 (lb ((psm ws S k).x) 6),.int .u64 (lb ((psm ws S k).x) 7),.int .u64 0,.int .u64 0,.int .u64 0,.int .u64 0,.int .u64 0,.int .u64 0,.int .u64 0,.int .u64 0,.int .u64 0,.int .u64 0,.int .u64 0,.int .u64 0,.int .u64 0,.int .u64 0,.int .u64 0,.int .u64 0]⟩,⟨g7,27,[.int .u64 0,.int .u64 0,.int .u64 0,.int .u64 0,.int .u64 0,.int .u64 0,.int .u64 0,.int .u64 0]⟩,⟨g6,29,[.int .u64 0,.int .u64 0,.int .u64 0,.int .u64 0,.int .u64 0,.int .u64 0,.int .u64 0,.int .u64 0,.int .u64 0,.int .u64 0,.int .u64 0,.int .u64 0,.int .u64 0,.int .u64 0,.int .u64 0,.int .u64 0,.int .u64 0,.int .u64 0,.int .u64 0,.int .u64 0,.int .u64 0,.int .u64 0,.int .u64 0,.int .u64 0]⟩,⟨g5,27,[.int .u64 (lb (d) 0),.int .u64 (lb (d) 1),.int .u64 (lb (d) 2),.int .u64 (lb (d) 3),.int .u64 (lb (d) 4),.int .u64 (lb (d) 5),.int .u64 (lb (d) 6),.int .u64 (lb (d) 7)]⟩] wr) (fun i _ => n - (intOf i).toNat)
      case atStart =>
        refine ⟨0,by omega,rfl,?_⟩
        rw [show psm ws S 0 = ⟨0,0,0⟩ from rfl]
        simp only [Qcy]
        exact hp
      case round =>
        clear hp
        obtain ⟨k,hk,rfl,hp⟩ := hrel
        by_cases hkn : (k : Int) < n
        · obtain ⟨p,hpk⟩ : ∃ p,S[k]? = some p := ⟨_,List.getElem?_eq_getElem (by have := Hn.out.1;omega)⟩
          obtain ⟨x,hxk⟩ : ∃ x,ws[k]? = some x := ⟨_,List.getElem?_eq_getElem (by have := Hn.out;omega)⟩
          obtain ⟨f1,f2⟩ := HS.out k p hpk
          obtain ⟨f3,f4⟩ := HW.out k x hxk
          have AX := Lib.hid (fun w1 => (HAX.out k p hpk w1).1)
          have SM := Lib.hid (fun w1 => (HO.out k p hpk w1).1)
          have TM := Lib.hid (fun w1 => (HT.out k x p hxk hpk w1).1)
          have PL := Lib.hid (fun w1 => (HP.out k x p hxk hpk w1).1)
          clear hpk hxk
          have k0 : (0 : Int) ≤ (k : Int) := by omega
          obtain ⟨Y,hY⟩ : ∃ Y,Y = psm ws S (k + 1) := ⟨_,rfl⟩
          rw [← hY] at PL
          have HY := Lib.hid hY
          clear hY
          go_upto_region 9 with (fail)
          have hq := hp
          clear hp
          have hp := hq.sub ((List.Sublist.refl _).cons _ |>.cons_cons _)
          refine Qad hp hq [20] (.q 0 (.q 1 (.q 2 (.q 3 (.q 4 (.q 6 (.q 7 (.q 8 (.q 9 (.q 10 (.q 11 (.q 12 (.q 13 (.q 14 (.b2 5 (.l 15 (.l 16 (.l 17 (.l 18 (.q 19 (.l 20 .nil)))))) 15 (.b2 5 (.l 16 (.l 17 (.l 18 (.q 19 (.l 20 .nil))))) 16 (.b2 5 (.l 17 (.l 18 (.q 19 (.l 20 .nil)))) 17 (.l 5 (.l 18 (.q 19 (.l 20 .nil))))))))))))))))))))) (by kernel_rfl) (by kernel_rfl) ?_
          clear hp hq;(try clear w1);intro w1 hp hq
          repeat' (first|(((with_reducible apply sd_q);exact zo rfl);(first|((with_reducible apply Qbe hp);exact rfl;exact zt rfl;assumption;exact ii;assumption;(omega);simp only [zp,zq,z0,z1])|((with_reducible apply Qaq hp);(first|exact zi rfl|exact zs rfl);simp only [zp,zq,z0,z1])|((with_reducible apply Qas hp);exact rfl;exact zx rfl;exact zk rfl;exact ii;(exact AggTy.size);omega;omega;((try simp only [m0,Int.reduceToNat,m1,m2,Nat.reduceMul,Nat.reduceAdd,m3,m4,m5,n0]);exact rfl);simp only [zp,zq,z0,z1])))|(((with_reducible apply sd_l);exact zo rfl);(first|((with_reducible apply Qap hp);exact rfl;(focus (intro _;go_simp;try first|with_reducible rfl|exact ⟨rfl,rfl⟩));(with_reducible first|exact fun w => AX.out w|exact fun w => SM.out w|exact fun w => TM.out w|exact fun w => PL.out w);exact hq;clear hp hq;(try clear w1);intro w1 hp hq;simp only [zp,zq,z0,z1])|((with_reducible apply Qam hq);exact rfl;exact zt rfl;(exact za rfl);exact rfl;(exact AggTy.size);exact rfl;exact ii;(simp only [n0,Nat.reduceAdd,nn];try rfl);(exact zl rfl);exact rfl;exact ii;(repeat (first|exact sb0|apply sb2|apply sb3));clear hp hq;(try clear w1);intro w1 hp hq)|((with_reducible apply Qbo hp hq);exact rfl;exact zt rfl;exact ii;exact ii;(exact zl rfl);(simp only [n0,Nat.reduceAdd,nn];try rfl);simp only [zp,zq,z0,z1])))|(with_reducible apply Qfa)|((with_reducible apply Qao);clear hp;have hp := hq;clear hq))
          go_wp2_with (fail)
          all_goals
            go_roundw
            case rel => exact ⟨k + 1,by omega,by go_num,by rw [← HY.out];exact hp⟩
            case measure => simp [intOf];omega
        · obtain rfl : n = k := by omega
          have hfull := Hn.out.2.2
          rw [hfull] at hp
          have SZ := Lib.hid (fun w1 => (HZ.out w1).1)
          have CM := Lib.hid (fun w1 => (HC.out w1).1)
          clear hfull
          go_upto_region 10 with (fail)
          have hq := hp
          clear hp
          have hp := hq.sub ((List.Sublist.refl _).cons _)
          refine Qad hp hq [7] (.q 1 (.q 2 (.q 3 (.q 4 (.b2 0 (.l 5 (.l 6 (.l 7 .nil))) 5 (.l 0 (.l 6 (.l 7 .nil)))))))) (by kernel_rfl) (by kernel_rfl) ?_
          clear hp hq;(try clear w1);intro w1 hp hq
          repeat' (first|(((with_reducible apply sd_q);exact zo rfl);(first|((with_reducible apply Qah hp);exact rfl;exact zt rfl;exact ii;exact ii;(exact zl rfl);(simp only [n0,Nat.reduceAdd,nn];try rfl);simp only [zp,zq,z0,z1])|((with_reducible apply Qaq hp);(first|exact zi rfl|exact zs rfl);simp only [zp,zq,z0,z1])|((with_reducible apply Qas hp);exact rfl;exact zx rfl;exact zk rfl;exact ii;(exact AggTy.size);omega;omega;((try simp only [m0,Int.reduceToNat,m1,m2,Nat.reduceMul,Nat.reduceAdd,m3,m4,m5,n0]);exact rfl);simp only [zp,zq,z0,z1])))|(((with_reducible apply sd_l);exact zo rfl);(first|((with_reducible apply Qap hp);exact rfl;(focus (intro _;go_simp;try first|with_reducible rfl|exact ⟨rfl,rfl⟩));(with_reducible first|exact fun w => SZ.out w|exact fun w => CM.out w);exact hq;clear hp hq;(try clear w1);intro w1 hp hq;simp only [zp,zq,z0,z1])|((with_reducible apply Qam hq);exact rfl;exact zt rfl;(exact za rfl);exact rfl;(exact AggTy.size);exact rfl;exact ii;(simp only [n0,Nat.reduceAdd,nn];try rfl);(exact zl rfl);exact rfl;exact ii;(repeat (first|exact sb0|apply sb3));clear hp hq;(try clear w1);intro w1 hp hq)|((with_reducible apply Qbo hp hq);exact rfl;exact zt rfl;exact ii;exact ii;(exact zl rfl);(simp only [n0,Nat.reduceAdd,nn];try rfl);simp only [zp,zq,z0,z1])))|(with_reducible apply Qfa)|((with_reducible apply Qao);clear hp;have hp := hq;clear hq))
          go_wp2_with (fail)
          all_goals
            go_roundw
            case rel => exact ⟨1,.inr (.inl ⟨rfl,hp⟩),rfl⟩
            case measure => simp [intOf]
    · go_wp2_with (fail)
      obtain ⟨w3,hw3⟩ : ∃ x : World,x = wr := ⟨_,rfl⟩
      subst hw3
      go_loopw [11] (fun iv wr => ∃ k : Nat,k ≤ n ∧ iv = .int .i64 k ∧ Hp [] w [⟨g9,27,[.int .u64 (lb (axG d X 1) 0),.int .u64 (lb (axG d X 1) 1),.int .u64 (lb (axG d X 1) 2),.int .u64 (lb (axG d X 1) 3),.int .u64 (lb (axG d X 1) 4),.int .u64 (lb (axG d X 1) 5),.int .u64 (lb (axG d X 1) 6),.int .u64 (lb (axG d X 1) 7)]⟩,⟨gn,27,[.int .u64 (lb (X.x) 0),.int .u64 (lb (X.x) 1),.int .u64 (lb (X.x) 2),.int .u64 (lb (X.x) 3),.int .u64 (lb (X.x) 4),.int .u64 (lb (X.x) 5),.int .u64 (lb (X.x) 6),.int .u64 (lb (X.x) 7),.int .u64 (lb ((psm ws S k).y) 0),.int .u64 (lb ((psm ws S k).y) 1),.int .u64 (lb ((psm ws S k).y) 2),.int .u64 (lb ((psm ws S k).y) 3),.int .u64 (lb ((psm ws S k).y) 4),.int .u64 (lb ((psm ws S k).y) 5),.int .u64 (lb ((psm ws S k).y) 6),.int .u64 (lb ((psm ws S k).y) 7),.int .u64 0,.int .u64 0,.int .u64 0,.int .u64 0,.int .u64 0,.int .u64 0,.int .u64 0,.int .u64 0]⟩,⟨g7,27,[.int .u64 0,.int .u64 0,.int .u64 0,.int .u64 0,.int .u64 0,.int .u64 0,.int .u64 0,.int .u64 0]⟩,⟨g6,29,[.int .u64 0,.int .u64 0,.int .u64 0,.int .u64 0,.int .u64 0,.int .u64 0,.int .u64 0,.int .u64 0,.int .u64 0,.int .u64 0,.int .u64 0,.int .u64 0,.int .u64 0,.int .u64 0,.int .u64 0,.int .u64 0,.int .u64 0,.int .u64 0,.int .u64 0,.int .u64 0,.int .u64 0,.int .u64 0,.int .u64 0,.int .u64 0]⟩,⟨g5,27,[.int .u64 (lb (d) 0),.int .u64 (lb (d) 1),.int .u64 (lb (d) 2),.int .u64 (lb (d) 3),.int .u64 (lb (d) 4),.int .u64 (lb (d) 5),.int .u64 (lb (d) 6),.int .u64 (lb (d) 7)]⟩] wr) (fun i _ => n - (intOf i).toNat)
      case atStart =>
        refine ⟨0,by omega,rfl,?_⟩
        rw [show psm ws S 0 = ⟨0,0,0⟩ from rfl]
        simp only [Qcy]
        exact hp
      case round =>
        clear hp
        obtain ⟨k,hk,rfl,hp⟩ := hrel
        by_cases hkn : (k : Int) < n
        · obtain ⟨p,hpk⟩ : ∃ p,S[k]? = some p := ⟨_,List.getElem?_eq_getElem (by have := Hn.out.1;omega)⟩
          obtain ⟨x,hxk⟩ : ∃ x,ws[k]? = some x := ⟨_,List.getElem?_eq_getElem (by have := Hn.out;omega)⟩
          obtain ⟨f1,f2⟩ := HS.out k p hpk
          obtain ⟨f3,f4⟩ := HW.out k x hxk
          have AX := Lib.hid (fun w1 => (HAX.out k p hpk w1).2.1)
          have SM := Lib.hid (fun w1 => (HO.out k p hpk w1).2.1)
          have TM := Lib.hid (fun w1 => (HT.out k x p hxk hpk w1).2.1)
          have PL := Lib.hid (fun w1 => (HP.out k x p hxk hpk w1).2.1)
          clear hpk hxk
          have k0 : (0 : Int) ≤ (k : Int) := by omega
          obtain ⟨Y,hY⟩ : ∃ Y,Y = psm ws S (k + 1) := ⟨_,rfl⟩
          rw [← hY] at PL
          have HY := Lib.hid hY
          clear hY
          go_upto_region 9 with (fail)
          have hq := hp
          clear hp
          have hp := hq.sub ((List.Sublist.refl _).cons _ |>.cons_cons _)
          refine Qad hp hq [20] (.q 0 (.q 1 (.q 2 (.q 3 (.q 4 (.q 6 (.q 7 (.q 8 (.q 9 (.q 10 (.q 11 (.q 12 (.q 13 (.q 14 (.b2 5 (.l 15 (.l 16 (.l 17 (.l 18 (.q 19 (.l 20 .nil)))))) 15 (.b2 5 (.l 16 (.l 17 (.l 18 (.q 19 (.l 20 .nil))))) 16 (.b2 5 (.l 17 (.l 18 (.q 19 (.l 20 .nil)))) 17 (.l 5 (.l 18 (.q 19 (.l 20 .nil))))))))))))))))))))) (by kernel_rfl) (by kernel_rfl) ?_
          clear hp hq;(try clear w1);intro w1 hp hq
          repeat' (first|(((with_reducible apply sd_q);exact zo rfl);(first|((with_reducible apply Qbe hp);exact rfl;exact zt rfl;assumption;exact ii;assumption;(omega);simp only [zp,zq,z0,z1])|((with_reducible apply Qaq hp);(first|exact zi rfl|exact zs rfl);simp only [zp,zq,z0,z1])|((with_reducible apply Qas hp);exact rfl;exact zx rfl;exact zk rfl;exact ii;(exact AggTy.size);omega;omega;((try simp only [m0,Int.reduceToNat,m1,m2,Nat.reduceMul,Nat.reduceAdd,m3,m4,m5,n0]);exact rfl);simp only [zp,zq,z0,z1])))|(((with_reducible apply sd_l);exact zo rfl);(first|((with_reducible apply Qap hp);exact rfl;(focus (intro _;go_simp;try first|with_reducible rfl|exact ⟨rfl,rfl⟩));(with_reducible first|exact fun w => AX.out w|exact fun w => SM.out w|exact fun w => TM.out w|exact fun w => PL.out w);exact hq;clear hp hq;(try clear w1);intro w1 hp hq;simp only [zp,zq,z0,z1])|((with_reducible apply Qam hq);exact rfl;exact zt rfl;(exact za rfl);exact rfl;(exact AggTy.size);exact rfl;exact ii;(simp only [n0,Nat.reduceAdd,nn];try rfl);(exact zl rfl);exact rfl;exact ii;(repeat (first|exact sb0|apply sb2|apply sb3));clear hp hq;(try clear w1);intro w1 hp hq)|((with_reducible apply Qbo hp hq);exact rfl;exact zt rfl;exact ii;exact ii;(exact zl rfl);(simp only [n0,Nat.reduceAdd,nn];try rfl);simp only [zp,zq,z0,z1])))|(with_reducible apply Qfa)|((with_reducible apply Qao);clear hp;have hp := hq;clear hq))
          go_wp2_with (fail)
          all_goals
            go_roundw
            case rel => exact ⟨k + 1,by omega,by go_num,by rw [← HY.out];exact hp⟩
            case measure => simp [intOf];omega
        · obtain rfl : n = k := by omega
          have hfull := Hn.out.2.2
          rw [hfull] at hp
          have SZ := Lib.hid (fun w1 => (HZ.out w1).2.1)
          have CM := Lib.hid (fun w1 => (HC.out w1).2.1)
          clear hfull
          go_upto_region 10 with (fail)
          have hq := hp
          clear hp
          have hp := hq.sub ((List.Sublist.refl _).cons _)
          refine Qad hp hq [7] (.q 1 (.q 2 (.q 3 (.q 4 (.b2 0 (.l 5 (.l 6 (.l 7 .nil))) 5 (.l 0 (.l 6 (.l 7 .nil)))))))) (by kernel_rfl) (by kernel_rfl) ?_
          clear hp hq;(try clear w1);intro w1 hp hq
          repeat' (first|(((with_reducible apply sd_q);exact zo rfl);(first|((with_reducible apply Qah hp);exact rfl;exact zt rfl;exact ii;exact ii;(exact zl rfl);(simp only [n0,Nat.reduceAdd,nn];try rfl);simp only [zp,zq,z0,z1])|((with_reducible apply Qaq hp);(first|exact zi rfl|exact zs rfl);simp only [zp,zq,z0,z1])|((with_reducible apply Qas hp);exact rfl;exact zx rfl;exact zk rfl;exact ii;(exact AggTy.size);omega;omega;((try simp only [m0,Int.reduceToNat,m1,m2,Nat.reduceMul,Nat.reduceAdd,m3,m4,m5,n0]);exact rfl);simp only [zp,zq,z0,z1])))|(((with_reducible apply sd_l);exact zo rfl);(first|((with_reducible apply Qap hp);exact rfl;(focus (intro _;go_simp;try first|with_reducible rfl|exact ⟨rfl,rfl⟩));(with_reducible first|exact fun w => SZ.out w|exact fun w => CM.out w);exact hq;clear hp hq;(try clear w1);intro w1 hp hq;simp only [zp,zq,z0,z1])|((with_reducible apply Qam hq);exact rfl;exact zt rfl;(exact za rfl);exact rfl;(exact AggTy.size);exact rfl;exact ii;(simp only [n0,Nat.reduceAdd,nn];try rfl);(exact zl rfl);exact rfl;exact ii;(repeat (first|exact sb0|apply sb3));clear hp hq;(try clear w1);intro w1 hp hq)|((with_reducible apply Qbo hp hq);exact rfl;exact zt rfl;exact ii;exact ii;(exact zl rfl);(simp only [n0,Nat.reduceAdd,nn];try rfl);simp only [zp,zq,z0,z1])))|(with_reducible apply Qfa)|((with_reducible apply Qao);clear hp;have hp := hq;clear hq))
          go_wp2_with (fail)
          all_goals
            go_roundw
            case rel => exact ⟨2,.inr (.inr (.inl ⟨rfl,hp⟩)),rfl⟩
            case measure => simp [intOf]
    · go_wp2_with (fail)
      obtain ⟨w3,hw3⟩ : ∃ x : World,x = wr := ⟨_,rfl⟩
      subst hw3
      go_loopw [11] (fun iv wr => ∃ k : Nat,k ≤ n ∧ iv = .int .i64 k ∧ Hp [] w [⟨g9,27,[.int .u64 (lb (axG d X 2) 0),.int .u64 (lb (axG d X 2) 1),.int .u64 (lb (axG d X 2) 2),.int .u64 (lb (axG d X 2) 3),.int .u64 (lb (axG d X 2) 4),.int .u64 (lb (axG d X 2) 5),.int .u64 (lb (axG d X 2) 6),.int .u64 (lb (axG d X 2) 7)]⟩,⟨gn,27,[.int .u64 (lb (X.x) 0),.int .u64 (lb (X.x) 1),.int .u64 (lb (X.x) 2),.int .u64 (lb (X.x) 3),.int .u64 (lb (X.x) 4),.int .u64 (lb (X.x) 5),.int .u64 (lb (X.x) 6),.int .u64 (lb (X.x) 7),.int .u64 (lb (X.y) 0),.int .u64 (lb (X.y) 1),.int .u64 (lb (X.y) 2),.int .u64 (lb (X.y) 3),.int .u64 (lb (X.y) 4),.int .u64 (lb (X.y) 5),.int .u64 (lb (X.y) 6),.int .u64 (lb (X.y) 7),.int .u64 (lb ((psm ws S k).z) 0),.int .u64 (lb ((psm ws S k).z) 1),.int .u64 (lb ((psm ws S k).z) 2),.int .u64 (lb ((psm ws S k).z) 3),.int .u64 (lb ((psm ws S k).z) 4),.int .u64 (lb ((psm ws S k).z) 5),.int .u64 (lb ((psm ws S k).z) 6),.int .u64 (lb ((psm ws S k).z) 7)]⟩,⟨g7,27,[.int .u64 0,.int .u64 0,.int .u64 0,.int .u64 0,.int .u64 0,.int .u64 0,.int .u64 0,.int .u64 0]⟩,⟨g6,29,[.int .u64 0,.int .u64 0,.int .u64 0,.int .u64 0,.int .u64 0,.int .u64 0,.int .u64 0,.int .u64 0,.int .u64 0,.int .u64 0,.int .u64 0,.int .u64 0,.int .u64 0,.int .u64 0,.int .u64 0,.int .u64 0,.int .u64 0,.int .u64 0,.int .u64 0,.int .u64 0,.int .u64 0,.int .u64 0,.int .u64 0,.int .u64 0]⟩,⟨g5,27,[.int .u64 (lb (d) 0),.int .u64 (lb (d) 1),.int .u64 (lb (d) 2),.int .u64 (lb (d) 3),.int .u64 (lb (d) 4),.int .u64 (lb (d) 5),.int .u64 (lb (d) 6),.int .u64 (lb (d) 7)]⟩] wr) (fun i _ => n - (intOf i).toNat)
      case atStart =>
        refine ⟨0,by omega,rfl,?_⟩
        rw [show psm ws S 0 = ⟨0,0,0⟩ from rfl]
        simp only [Qcy]
        exact hp
      case round =>
        clear hp
        obtain ⟨k,hk,rfl,hp⟩ := hrel
        by_cases hkn : (k : Int) < n
        · obtain ⟨p,hpk⟩ : ∃ p,S[k]? = some p := ⟨_,List.getElem?_eq_getElem (by have := Hn.out.1;omega)⟩
          obtain ⟨x,hxk⟩ : ∃ x,ws[k]? = some x := ⟨_,List.getElem?_eq_getElem (by have := Hn.out;omega)⟩
          obtain ⟨f1,f2⟩ := HS.out k p hpk
          obtain ⟨f3,f4⟩ := HW.out k x hxk
          have AX := Lib.hid (fun w1 => (HAX.out k p hpk w1).2.2)
          have SM := Lib.hid (fun w1 => (HO.out k p hpk w1).2.2)
          have TM := Lib.hid (fun w1 => (HT.out k x p hxk hpk w1).2.2)
          have PL := Lib.hid (fun w1 => (HP.out k x p hxk hpk w1).2.2)
          clear hpk hxk
          have k0 : (0 : Int) ≤ (k : Int) := by omega
          obtain ⟨Y,hY⟩ : ∃ Y,Y = psm ws S (k + 1) := ⟨_,rfl⟩
          rw [← hY] at PL
          have HY := Lib.hid hY
          clear hY
          go_upto_region 9 with (fail)
          have hq := hp
          clear hp
          have hp := hq.sub ((List.Sublist.refl _).cons _ |>.cons_cons _)
          refine Qad hp hq [20] (.q 0 (.q 1 (.q 2 (.q 3 (.q 4 (.q 6 (.q 7 (.q 8 (.q 9 (.q 10 (.q 11 (.q 12 (.q 13 (.q 14 (.b2 5 (.l 15 (.l 16 (.l 17 (.l 18 (.q 19 (.l 20 .nil)))))) 15 (.b2 5 (.l 16 (.l 17 (.l 18 (.q 19 (.l 20 .nil))))) 16 (.b2 5 (.l 17 (.l 18 (.q 19 (.l 20 .nil)))) 17 (.l 5 (.l 18 (.q 19 (.l 20 .nil))))))))))))))))))))) (by kernel_rfl) (by kernel_rfl) ?_
          clear hp hq;(try clear w1);intro w1 hp hq
          repeat' (first|(((with_reducible apply sd_q);exact zo rfl);(first|((with_reducible apply Qbe hp);exact rfl;exact zt rfl;assumption;exact ii;assumption;(omega);simp only [zp,zq,z0,z1])|((with_reducible apply Qaq hp);(first|exact zi rfl|exact zs rfl);simp only [zp,zq,z0,z1])|((with_reducible apply Qas hp);exact rfl;exact zx rfl;exact zk rfl;exact ii;(exact AggTy.size);omega;omega;((try simp only [m0,Int.reduceToNat,m1,m2,Nat.reduceMul,Nat.reduceAdd,m3,m4,m5,n0]);exact rfl);simp only [zp,zq,z0,z1])))|(((with_reducible apply sd_l);exact zo rfl);(first|((with_reducible apply Qap hp);exact rfl;(focus (intro _;go_simp;try first|with_reducible rfl|exact ⟨rfl,rfl⟩));(with_reducible first|exact fun w => AX.out w|exact fun w => SM.out w|exact fun w => TM.out w|exact fun w => PL.out w);exact hq;clear hp hq;(try clear w1);intro w1 hp hq;simp only [zp,zq,z0,z1])|((with_reducible apply Qam hq);exact rfl;exact zt rfl;(exact za rfl);exact rfl;(exact AggTy.size);exact rfl;exact ii;(simp only [n0,Nat.reduceAdd,nn];try rfl);(exact zl rfl);exact rfl;exact ii;(repeat (first|exact sb0|apply sb2|apply sb3));clear hp hq;(try clear w1);intro w1 hp hq)|((with_reducible apply Qbo hp hq);exact rfl;exact zt rfl;exact ii;exact ii;(exact zl rfl);(simp only [n0,Nat.reduceAdd,nn];try rfl);simp only [zp,zq,z0,z1])))|(with_reducible apply Qfa)|((with_reducible apply Qao);clear hp;have hp := hq;clear hq))
          go_wp2_with (fail)
          all_goals
            go_roundw
            case rel => exact ⟨k + 1,by omega,by go_num,by rw [← HY.out];exact hp⟩
            case measure => simp [intOf];omega
        · obtain rfl : n = k := by omega
          have hfull := Hn.out.2.2
          rw [hfull] at hp
          have SZ := Lib.hid (fun w1 => (HZ.out w1).2.2)
          have CM := Lib.hid (fun w1 => (HC.out w1).2.2)
          clear hfull
          go_upto_region 10 with (fail)
          have hq := hp
          clear hp
          have hp := hq.sub ((List.Sublist.refl _).cons _)
          refine Qad hp hq [7] (.q 1 (.q 2 (.q 3 (.q 4 (.b2 0 (.l 5 (.l 6 (.l 7 .nil))) 5 (.l 0 (.l 6 (.l 7 .nil)))))))) (by kernel_rfl) (by kernel_rfl) ?_
          clear hp hq;(try clear w1);intro w1 hp hq
          repeat' (first|(((with_reducible apply sd_q);exact zo rfl);(first|((with_reducible apply Qah hp);exact rfl;exact zt rfl;exact ii;exact ii;(exact zl rfl);(simp only [n0,Nat.reduceAdd,nn];try rfl);simp only [zp,zq,z0,z1])|((with_reducible apply Qaq hp);(first|exact zi rfl|exact zs rfl);simp only [zp,zq,z0,z1])|((with_reducible apply Qas hp);exact rfl;exact zx rfl;exact zk rfl;exact ii;(exact AggTy.size);omega;omega;((try simp only [m0,Int.reduceToNat,m1,m2,Nat.reduceMul,Nat.reduceAdd,m3,m4,m5,n0]);exact rfl);simp only [zp,zq,z0,z1])))|(((with_reducible apply sd_l);exact zo rfl);(first|((with_reducible apply Qap hp);exact rfl;(focus (intro _;go_simp;try first|with_reducible rfl|exact ⟨rfl,rfl⟩));(with_reducible first|exact fun w => SZ.out w|exact fun w => CM.out w);exact hq;clear hp hq;(try clear w1);intro w1 hp hq;simp only [zp,zq,z0,z1])|((with_reducible apply Qam hq);exact rfl;exact zt rfl;(exact za rfl);exact rfl;(exact AggTy.size);exact rfl;exact ii;(simp only [n0,Nat.reduceAdd,nn];try rfl);(exact zl rfl);exact rfl;exact ii;(repeat (first|exact sb0|apply sb3));clear hp hq;(try clear w1);intro w1 hp hq)|((with_reducible apply Qbo hp hq);exact rfl;exact zt rfl;exact ii;exact ii;(exact zl rfl);(simp only [n0,Nat.reduceAdd,nn];try rfl);simp only [zp,zq,z0,z1])))|(with_reducible apply Qfa)|((with_reducible apply Qao);clear hp;have hp := hq;clear hq))
          go_wp2_with (fail)
          all_goals
            go_roundw
            case rel => exact ⟨3,.inr (.inr (.inr ⟨rfl,hp⟩)),rfl⟩
            case measure => simp [intOf]
    · clear HS HW HAX HO HT HP HZ HC
      generalize axG d X 3 = gg at *
      go_upto_region 11 with (fail)
      go_cut [12] (fun sa wx => ∃ ga,sa = .pointer (some ⟨ga,0,none⟩) ∧ Hp [] w [⟨ga,27,[.int .u64 (lb (q0) 0),.int .u64 (lb (q0) 1),.int .u64 (lb (q0) 2),.int .u64 (lb (q0) 3),.int .u64 (lb (q0) 4),.int .u64 (lb (q0) 5),.int .u64 (lb (q0) 6),.int .u64 (lb (q0) 7)]⟩,⟨g9,27,[.int .u64 (lb (gg) 0),.int .u64 (lb (gg) 1),.int .u64 (lb (gg) 2),.int .u64 (lb (gg) 3),.int .u64 (lb (gg) 4),.int .u64 (lb (gg) 5),.int .u64 (lb (gg) 6),.int .u64 (lb (gg) 7)]⟩,⟨gn,27,[.int .u64 (lb (X.x) 0),.int .u64 (lb (X.x) 1),.int .u64 (lb (X.x) 2),.int .u64 (lb (X.x) 3),.int .u64 (lb (X.x) 4),.int .u64 (lb (X.x) 5),.int .u64 (lb (X.x) 6),.int .u64 (lb (X.x) 7),.int .u64 (lb (X.y) 0),.int .u64 (lb (X.y) 1),.int .u64 (lb (X.y) 2),.int .u64 (lb (X.y) 3),.int .u64 (lb (X.y) 4),.int .u64 (lb (X.y) 5),.int .u64 (lb (X.y) 6),.int .u64 (lb (X.y) 7),.int .u64 (lb (X.z) 0),.int .u64 (lb (X.z) 1),.int .u64 (lb (X.z) 2),.int .u64 (lb (X.z) 3),.int .u64 (lb (X.z) 4),.int .u64 (lb (X.z) 5),.int .u64 (lb (X.z) 6),.int .u64 (lb (X.z) 7)]⟩,⟨g7,27,[.int .u64 0,.int .u64 0,.int .u64 0,.int .u64 0,.int .u64 0,.int .u64 0,.int .u64 0,.int .u64 0]⟩,⟨g6,29,[.int .u64 0,.int .u64 0,.int .u64 0,.int .u64 0,.int .u64 0,.int .u64 0,.int .u64 0,.int .u64 0,.int .u64 0,.int .u64 0,.int .u64 0,.int .u64 0,.int .u64 0,.int .u64 0,.int .u64 0,.int .u64 0,.int .u64 0,.int .u64 0,.int .u64 0,.int .u64 0,.int .u64 0,.int .u64 0,.int .u64 0,.int .u64 0]⟩,⟨g5,27,[.int .u64 (lb (d) 0),.int .u64 (lb (d) 1),.int .u64 (lb (d) 2),.int .u64 (lb (d) 3),.int .u64 (lb (d) 4),.int .u64 (lb (d) 5),.int .u64 (lb (d) 6),.int .u64 (lb (d) 7)]⟩] wx)
      case first =>
        skip
        have hq := hp
        refine Qad hp hq [] (.q 0 (.q 1 (.q 2 (.q 3 (.b3 4 (.q 5 (.q 6 (.q 7 (.q 8 (.b2 9 (.l 10 (.l 11 (.l 12 (.q 13 .nil)))) 10 (.l 9 (.l 11 (.l 12 (.q 13 .nil))))))))) 9 (.b2 4 (.q 5 (.q 6 (.q 7 (.q 8 (.l 10 (.l 11 (.l 12 (.q 13 .nil)))))))) 10 (.l 4 (.q 5 (.q 6 (.q 7 (.q 8 (.l 11 (.l 12 (.q 13 .nil))))))))) 10 (.b2 4 (.q 5 (.q 6 (.q 7 (.q 8 (.l 9 (.l 11 (.l 12 (.q 13 .nil)))))))) 9 (.l 4 (.q 5 (.q 6 (.q 7 (.q 8 (.l 11 (.l 12 (.q 13 .nil)))))))))))))) (by kernel_rfl) (by kernel_rfl) ?_
        clear hp hq;(try clear w1);intro w1 hp hq
        repeat' (first|(((with_reducible apply sd_q);exact zo rfl);(first|((with_reducible apply Qah hp);exact rfl;exact zt rfl;exact ii;exact ii;(exact zl rfl);(simp only [n0,Nat.reduceAdd,nn];try rfl);simp only [zp,zq,z0,z1])|((with_reducible apply Qaq hp);(first|exact zs rfl|exact zu rfl);simp only [zp,zq,z0,z1])|((with_reducible apply Qat hp);exact zb rfl;simp only [zp,zq,z0,z1])|((with_reducible apply Qas hp);exact rfl;exact zx rfl;exact zk rfl;exact ii;(exact AggTy.size);omega;omega;((try simp only [m0,Int.reduceToNat,m1,m2,Nat.reduceMul,Nat.reduceAdd,m3,m4,m5,n0]);exact rfl);simp only [zp,zq,z0,z1])|((with_reducible apply Qaj hp);exact rfl;(focus (intro _;go_simp;(try go_ints);try with_reducible rfl));simp only [zp,zq,z0,z1])))|(((with_reducible apply sd_l);exact zo rfl);(first|((with_reducible apply Qcm hq);(repeat (first|exact sb0|apply sb3));exact rfl;exact ii;exact rfl;clear hp hq;(try clear w1);intro g w1 hp hq;simp only [zp,zq,z0,z1])|((with_reducible apply Qap hp);exact rfl;(focus (intro _;go_simp;try first|with_reducible rfl|exact ⟨rfl,rfl⟩));(with_reducible exact fun w => D0.out w);exact hq;clear hp hq;(try clear w1);intro w1 hp hq;simp only [zp,zq,z0,z1])|((with_reducible apply Qam hq);exact rfl;exact zt rfl;(exact za rfl);exact rfl;(exact AggTy.size);exact rfl;exact ii;(simp only [n0,Nat.reduceAdd,nn];try rfl);(exact zl rfl);exact rfl;exact ii;(repeat (first|exact sb0|apply sb3));clear hp hq;(try clear w1);intro w1 hp hq)))|(with_reducible apply Qfa)|(with_reducible apply sd_b3)|((with_reducible apply Qao);clear hp;have hp := hq;clear hq))
        all_goals (go_wp2_with fail;go_meet;exact ⟨_,rfl,hp.sub (by repeat (first|exact sb0|apply sb2|apply sb3))⟩)
      case rest =>
        clear hp
        obtain ⟨ga0,rfl,hp⟩ := hcut
        go_upto_region 12 with (fail)
        go_cut [15] (fun sa wx => ∃ ga,sa = .pointer (some ⟨ga,0,none⟩) ∧ Hp [] w [⟨ga,27,[.int .u64 (lb (q1) 0),.int .u64 (lb (q1) 1),.int .u64 (lb (q1) 2),.int .u64 (lb (q1) 3),.int .u64 (lb (q1) 4),.int .u64 (lb (q1) 5),.int .u64 (lb (q1) 6),.int .u64 (lb (q1) 7)]⟩,⟨ga0,27,[.int .u64 (lb (q0) 0),.int .u64 (lb (q0) 1),.int .u64 (lb (q0) 2),.int .u64 (lb (q0) 3),.int .u64 (lb (q0) 4),.int .u64 (lb (q0) 5),.int .u64 (lb (q0) 6),.int .u64 (lb (q0) 7)]⟩,⟨g9,27,[.int .u64 (lb (gg) 0),.int .u64 (lb (gg) 1),.int .u64 (lb (gg) 2),.int .u64 (lb (gg) 3),.int .u64 (lb (gg) 4),.int .u64 (lb (gg) 5),.int .u64 (lb (gg) 6),.int .u64 (lb (gg) 7)]⟩,⟨gn,27,[.int .u64 (lb (X.x) 0),.int .u64 (lb (X.x) 1),.int .u64 (lb (X.x) 2),.int .u64 (lb (X.x) 3),.int .u64 (lb (X.x) 4),.int .u64 (lb (X.x) 5),.int .u64 (lb (X.x) 6),.int .u64 (lb (X.x) 7),.int .u64 (lb (X.y) 0),.int .u64 (lb (X.y) 1),.int .u64 (lb (X.y) 2),.int .u64 (lb (X.y) 3),.int .u64 (lb (X.y) 4),.int .u64 (lb (X.y) 5),.int .u64 (lb (X.y) 6),.int .u64 (lb (X.y) 7),.int .u64 (lb (X.z) 0),.int .u64 (lb (X.z) 1),.int .u64 (lb (X.z) 2),.int .u64 (lb (X.z) 3),.int .u64 (lb (X.z) 4),.int .u64 (lb (X.z) 5),.int .u64 (lb (X.z) 6),.int .u64 (lb (X.z) 7)]⟩,⟨g7,27,[.int .u64 0,.int .u64 0,.int .u64 0,.int .u64 0,.int .u64 0,.int .u64 0,.int .u64 0,.int .u64 0]⟩,⟨g6,29,[.int .u64 0,.int .u64 0,.int .u64 0,.int .u64 0,.int .u64 0,.int .u64 0,.int .u64 0,.int .u64 0,.int .u64 0,.int .u64 0,.int .u64 0,.int .u64 0,.int .u64 0,.int .u64 0,.int .u64 0,.int .u64 0,.int .u64 0,.int .u64 0,.int .u64 0,.int .u64 0,.int .u64 0,.int .u64 0,.int .u64 0,.int .u64 0]⟩,⟨g5,27,[.int .u64 (lb (d) 0),.int .u64 (lb (d) 1),.int .u64 (lb (d) 2),.int .u64 (lb (d) 3),.int .u64 (lb (d) 4),.int .u64 (lb (d) 5),.int .u64 (lb (d) 6),.int .u64 (lb (d) 7)]⟩] wx)
        case first =>
          skip
          have hq := hp
          refine Qad hp hq [] (.q 0 (.q 1 (.q 2 (.q 3 (.b3 4 (.q 5 (.q 6 (.q 7 (.q 8 (.b2 9 (.l 10 (.l 11 (.l 12 (.q 13 .nil)))) 10 (.l 9 (.l 11 (.l 12 (.q 13 .nil))))))))) 9 (.b2 4 (.q 5 (.q 6 (.q 7 (.q 8 (.l 10 (.l 11 (.l 12 (.q 13 .nil)))))))) 10 (.l 4 (.q 5 (.q 6 (.q 7 (.q 8 (.l 11 (.l 12 (.q 13 .nil))))))))) 10 (.b2 4 (.q 5 (.q 6 (.q 7 (.q 8 (.l 9 (.l 11 (.l 12 (.q 13 .nil)))))))) 9 (.l 4 (.q 5 (.q 6 (.q 7 (.q 8 (.l 11 (.l 12 (.q 13 .nil)))))))))))))) (by kernel_rfl) (by kernel_rfl) ?_
          clear hp hq;(try clear w1);intro w1 hp hq
          repeat' (first|(((with_reducible apply sd_q);exact zo rfl);(first|((with_reducible apply Qah hp);exact rfl;exact zt rfl;exact ii;exact ii;(exact zl rfl);(simp only [n0,Nat.reduceAdd,nn];try rfl);simp only [zp,zq,z0,z1])|((with_reducible apply Qaq hp);(first|exact zs rfl|exact zu rfl);simp only [zp,zq,z0,z1])|((with_reducible apply Qat hp);exact zb rfl;simp only [zp,zq,z0,z1])|((with_reducible apply Qas hp);exact rfl;exact zx rfl;exact zk rfl;exact ii;(exact AggTy.size);omega;omega;((try simp only [m0,Int.reduceToNat,m1,m2,Nat.reduceMul,Nat.reduceAdd,m3,m4,m5,n0]);exact rfl);simp only [zp,zq,z0,z1])|((with_reducible apply Qaj hp);exact rfl;(focus (intro _;go_simp;(try go_ints);try with_reducible rfl));simp only [zp,zq,z0,z1])))|(((with_reducible apply sd_l);exact zo rfl);(first|((with_reducible apply Qcm hq);(repeat (first|exact sb0|apply sb3));exact rfl;exact ii;exact rfl;clear hp hq;(try clear w1);intro g w1 hp hq;simp only [zp,zq,z0,z1])|((with_reducible apply Qap hp);exact rfl;(focus (intro _;go_simp;try first|with_reducible rfl|exact ⟨rfl,rfl⟩));(with_reducible exact fun w => D1.out w);exact hq;clear hp hq;(try clear w1);intro w1 hp hq;simp only [zp,zq,z0,z1])|((with_reducible apply Qam hq);exact rfl;exact zt rfl;(exact za rfl);exact rfl;(exact AggTy.size);exact rfl;exact ii;(simp only [n0,Nat.reduceAdd,nn];try rfl);(exact zl rfl);exact rfl;exact ii;(repeat (first|exact sb0|apply sb3));clear hp hq;(try clear w1);intro w1 hp hq)))|(with_reducible apply Qfa)|(with_reducible apply sd_b3)|((with_reducible apply Qao);clear hp;have hp := hq;clear hq))
          all_goals (go_wp2_with fail;go_meet;exact ⟨_,rfl,hp.sub (by repeat (first|exact sb0|apply sb2|apply sb3))⟩)
        case rest =>
          clear hp
          obtain ⟨ga1,rfl,hp⟩ := hcut
          go_upto_region 13 with (fail)
          go_cut [18] (fun sa wx => ∃ ga,sa = .pointer (some ⟨ga,0,none⟩) ∧ Hp [] w [⟨ga,27,[.int .u64 (lb (q2) 0),.int .u64 (lb (q2) 1),.int .u64 (lb (q2) 2),.int .u64 (lb (q2) 3),.int .u64 (lb (q2) 4),.int .u64 (lb (q2) 5),.int .u64 (lb (q2) 6),.int .u64 (lb (q2) 7)]⟩,⟨ga1,27,[.int .u64 (lb (q1) 0),.int .u64 (lb (q1) 1),.int .u64 (lb (q1) 2),.int .u64 (lb (q1) 3),.int .u64 (lb (q1) 4),.int .u64 (lb (q1) 5),.int .u64 (lb (q1) 6),.int .u64 (lb (q1) 7)]⟩,⟨ga0,27,[.int .u64 (lb (q0) 0),.int .u64 (lb (q0) 1),.int .u64 (lb (q0) 2),.int .u64 (lb (q0) 3),.int .u64 (lb (q0) 4),.int .u64 (lb (q0) 5),.int .u64 (lb (q0) 6),.int .u64 (lb (q0) 7)]⟩,⟨g9,27,[.int .u64 (lb (gg) 0),.int .u64 (lb (gg) 1),.int .u64 (lb (gg) 2),.int .u64 (lb (gg) 3),.int .u64 (lb (gg) 4),.int .u64 (lb (gg) 5),.int .u64 (lb (gg) 6),.int .u64 (lb (gg) 7)]⟩,⟨gn,27,[.int .u64 (lb (X.x) 0),.int .u64 (lb (X.x) 1),.int .u64 (lb (X.x) 2),.int .u64 (lb (X.x) 3),.int .u64 (lb (X.x) 4),.int .u64 (lb (X.x) 5),.int .u64 (lb (X.x) 6),.int .u64 (lb (X.x) 7),.int .u64 (lb (X.y) 0),.int .u64 (lb (X.y) 1),.int .u64 (lb (X.y) 2),.int .u64 (lb (X.y) 3),.int .u64 (lb (X.y) 4),.int .u64 (lb (X.y) 5),.int .u64 (lb (X.y) 6),.int .u64 (lb (X.y) 7),.int .u64 (lb (X.z) 0),.int .u64 (lb (X.z) 1),.int .u64 (lb (X.z) 2),.int .u64 (lb (X.z) 3),.int .u64 (lb (X.z) 4),.int .u64 (lb (X.z) 5),.int .u64 (lb (X.z) 6),.int .u64 (lb (X.z) 7)]⟩,⟨g7,27,[.int .u64 0,.int .u64 0,.int .u64 0,.int .u64 0,.int .u64 0,.int .u64 0,.int .u64 0,.int .u64 0]⟩,⟨g6,29,[.int .u64 0,.int .u64 0,.int .u64 0,.int .u64 0,.int .u64 0,.int .u64 0,.int .u64 0,.int .u64 0,.int .u64 0,.int .u64 0,.int .u64 0,.int .u64 0,.int .u64 0,.int .u64 0,.int .u64 0,.int .u64 0,.int .u64 0,.int .u64 0,.int .u64 0,.int .u64 0,.int .u64 0,.int .u64 0,.int .u64 0,.int .u64 0]⟩,⟨g5,27,[.int .u64 (lb (d) 0),.int .u64 (lb (d) 1),.int .u64 (lb (d) 2),.int .u64 (lb (d) 3),.int .u64 (lb (d) 4),.int .u64 (lb (d) 5),.int .u64 (lb (d) 6),.int .u64 (lb (d) 7)]⟩] wx)
          case first =>
            skip
            have hq := hp
            refine Qad hp hq [] (.q 0 (.q 1 (.q 2 (.q 3 (.b3 4 (.q 5 (.q 6 (.q 7 (.q 8 (.b2 9 (.l 10 (.l 11 (.l 12 (.q 13 .nil)))) 10 (.l 9 (.l 11 (.l 12 (.q 13 .nil))))))))) 9 (.b2 4 (.q 5 (.q 6 (.q 7 (.q 8 (.l 10 (.l 11 (.l 12 (.q 13 .nil)))))))) 10 (.l 4 (.q 5 (.q 6 (.q 7 (.q 8 (.l 11 (.l 12 (.q 13 .nil))))))))) 10 (.b2 4 (.q 5 (.q 6 (.q 7 (.q 8 (.l 9 (.l 11 (.l 12 (.q 13 .nil)))))))) 9 (.l 4 (.q 5 (.q 6 (.q 7 (.q 8 (.l 11 (.l 12 (.q 13 .nil)))))))))))))) (by kernel_rfl) (by kernel_rfl) ?_
            clear hp hq;(try clear w1);intro w1 hp hq
            repeat' (first|(((with_reducible apply sd_q);exact zo rfl);(first|((with_reducible apply Qah hp);exact rfl;exact zt rfl;exact ii;exact ii;(exact zl rfl);(simp only [n0,Nat.reduceAdd,nn];try rfl);simp only [zp,zq,z0,z1])|((with_reducible apply Qaq hp);(first|exact zs rfl|exact zu rfl);simp only [zp,zq,z0,z1])|((with_reducible apply Qat hp);exact zb rfl;simp only [zp,zq,z0,z1])|((with_reducible apply Qas hp);exact rfl;exact zx rfl;exact zk rfl;exact ii;(exact AggTy.size);omega;omega;((try simp only [m0,Int.reduceToNat,m1,m2,Nat.reduceMul,Nat.reduceAdd,m3,m4,m5,n0]);exact rfl);simp only [zp,zq,z0,z1])|((with_reducible apply Qaj hp);exact rfl;(focus (intro _;go_simp;(try go_ints);try with_reducible rfl));simp only [zp,zq,z0,z1])))|(((with_reducible apply sd_l);exact zo rfl);(first|((with_reducible apply Qcm hq);(repeat (first|exact sb0|apply sb3));exact rfl;exact ii;exact rfl;clear hp hq;(try clear w1);intro g w1 hp hq;simp only [zp,zq,z0,z1])|((with_reducible apply Qap hp);exact rfl;(focus (intro _;go_simp;try first|with_reducible rfl|exact ⟨rfl,rfl⟩));(with_reducible exact fun w => D2.out w);exact hq;clear hp hq;(try clear w1);intro w1 hp hq;simp only [zp,zq,z0,z1])|((with_reducible apply Qam hq);exact rfl;exact zt rfl;(exact za rfl);exact rfl;(exact AggTy.size);exact rfl;exact ii;(simp only [n0,Nat.reduceAdd,nn];try rfl);(exact zl rfl);exact rfl;exact ii;(repeat (first|exact sb0|apply sb3));clear hp hq;(try clear w1);intro w1 hp hq)))|(with_reducible apply Qfa)|(with_reducible apply sd_b3)|((with_reducible apply Qao);clear hp;have hp := hq;clear hq))
            all_goals (go_wp2_with fail;go_meet;exact ⟨_,rfl,hp.sub (by repeat (first|exact sb0|apply sb2|apply sb3))⟩)
          case rest =>
            clear hp
            obtain ⟨ga2,rfl,hp⟩ := hcut
            go_upto_region 15 with (first|((with_reducible apply Qag hp);exact ii;exact rfl;clear hp;(try clear w1);intro g w1 hp;simp only [zp,zq,z0,z1])|((with_reducible apply Qab hp);exact zt rfl;exact ii;exact ii;(exact zl rfl);(simp only [n0,Nat.reduceAdd,nn];try rfl);simp only [zp,zq,z0,z1])|((with_reducible apply Qae hp);exact zt rfl;exact za rfl;exact rfl;(exact AggTy.size);exact rfl;exact ii;(simp only [n0,Nat.reduceAdd,nn];try rfl);(exact zl rfl);exact rfl;exact ii;clear hp;(try clear w1);intro w1 hp)|((with_reducible refine Qaf hp (D3.out _) ?_);clear hp;(try clear w1);intro w1 hp))
            have hq := hp
            clear hp
            have hp := hq.sub (((List.Sublist.refl _).cons _).cons _ |>.cons_cons _ |>.cons_cons _ |>.cons_cons _ |>.cons_cons _ |>.cons_cons _ |>.cons_cons _ |>.cons_cons _)
            refine Qad hp hq [6] (.q 0 (.q 1 (.q 2 (.q 3 (.q 4 (.l 5 (.l 6 .nil))))))) (by kernel_rfl) (by kernel_rfl) ?_
            clear hp hq;(try clear w1);intro w1 hp hq
            repeat' (first|(((with_reducible apply sd_q);exact zo rfl);(first|((with_reducible apply Qah hp);exact rfl;exact zt rfl;exact ii;exact ii;(exact zl rfl);(simp only [n0,Nat.reduceAdd,nn];try rfl);simp only [zp,zq,z0,z1])|((with_reducible apply Qaj hp);exact rfl;(focus (intro _;go_simp;(try go_ints);try with_reducible rfl));simp only [zp,zq,z0,z1])))|(((with_reducible apply sd_l);exact zo rfl);((with_reducible apply Qam hq);exact rfl;exact zt rfl;(exact za rfl);exact rfl;(exact AggTy.size);exact rfl;exact ii;(simp only [n0,Nat.reduceAdd,nn];try rfl);(exact zl rfl);exact rfl;exact ii;(repeat (first|exact sb0|apply sb2|apply sb3));clear hp hq;(try clear w1);intro w1 hp hq))|((with_reducible apply Qao);clear hp;have hp := hq;clear hq))
            go_wp2
            exact bodyPost_ret (Qan rfl ⟨_,rfl,Qac hp (Nat.le_of_ble_eq_true rfl)⟩ ⟨_,rfl,Qac hp (Nat.le_of_ble_eq_true rfl)⟩) rfl ⟨rfl,hp.keep⟩
end Go.Proofs.YtdfdmeoalbpcdaaGreat
