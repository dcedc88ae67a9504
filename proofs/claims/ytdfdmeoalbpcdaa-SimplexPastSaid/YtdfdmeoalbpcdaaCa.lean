/-
  The Qer of points that each raised the rank (plain).
  Points in simplices: what is inside of a face, and the middle of two points, is inside (plain).
  Faces of simplices: what ninepinlaw07.OrientFaces asks, of points (plain).
  The rank by all choices is the spread's (plain).
  Slices of no element; appending what is part of a block, or nil.
  Package ninepinref07: Rank, Spread (contracts).
  Bits shifted up, and held against one another.
  Package ninepinref01: further, least (contracts).
-/
import Derived.Test.YtdfdmeoalbpcdaaHk
import Derived.Test.YtdfdmeoalbpcdaaHb
import Derived.Laws.AppendOwnNone
import Derived.Test.YtdfdmeoalbpcdaaBg
set_option linter.unusedSimpArgs false
set_option linter.unusedVariables false
namespace Go.Proofs.Ytdfdmeoalbpcdaa
open Go Go.RowKit
/-! ### The Qer of what was taken -/
/-- Each of these raises the rank of those before it. -/
def Raised : List P3 → List P3 → Prop
  | _,[] => True
  | tk,p :: ps => Qcl tk p = true ∧ Raised (tk ++ [p]) ps
theorem Raised.append : ∀ {ps : List P3} {tk : List P3} {p : P3},Raised tk ps → Qcl (tk ++ ps) p = true → Raised tk (ps ++ [p])
  | [],tk,p,_,h => by rw [List.append_nil] at h;exact ⟨h,trivial⟩
  | q :: ps,tk,p,h1,h => ⟨h1.1,Raised.append h1.2 (by simpa using h)⟩
theorem Qjm (ps : List P3) : ∀ k,Raised [] (spst ps k).1
  | 0 => trivial
  | k + 1 => by
    have ih := Qjm ps k
    unfold spst
    cases hp : ps[k]? with
    | none => exact ih
    | some p =>
      dsimp only
      split
      · rename_i hr
        exact ih.append (by simpa using hr)
      · exact ih
theorem Raised.take : ∀ {ps tk : List P3} (n : Nat),Raised tk ps → Raised tk (ps.take n)
  | _,_,0,_ => by simp [Raised]
  | [],_,_ + 1,_ => trivial
  | _ :: _,_,n + 1,h => ⟨h.1,Raised.take n h.2⟩
/-- The Qer of points that each raise the rank is all of them. -/
theorem Qpg {ps : List P3} (h : Raised [] ps) : ∀ k,k ≤ ps.length → (spst ps k).1 = ps.take k ∧ (spst ps k).2 = (List.range k).map (fun i : Nat => (i : Int))
  | 0,_ => ⟨rfl,rfl⟩
  | k + 1,hk => by
    obtain ⟨h1,h2⟩ := Qpg h k (by omega)
    have hp : ps[k]? = some ps[k] := List.getElem?_eq_getElem (by omega)
    have key : ∀ (l tk : List P3) (i : Nat) (q : P3),Raised tk l → l[i]? = some q → Qcl (tk ++ l.take i) q = true := by
      intro l
      induction l with
      | nil => intro tk i q _ hq;simp at hq
      | cons a l ih =>
        intro tk i q hr hq
        cases i with
        | zero => simp at hq;subst hq;simpa using hr.1
        | succ i =>
          have := ih (tk ++ [a]) i q hr.2 (by simpa using hq)
          simpa using this
    have hr := key ps [] k ps[k] h hp
    unfold spst
    rw [hp]
    dsimp only
    rw [h1,h2,if_pos (by simpa using hr)]
    exact ⟨by rw [List.take_add_one,hp];rfl,by rw [List.range_succ];simp⟩
theorem spread_all {ps : List P3} (h : Raised [] ps) : (Qer ps).length = ps.length := by
  unfold Qer
  rw [(Qpg h ps.length (Nat.le_refl _)).2]
  simp
end Go.Proofs.Ytdfdmeoalbpcdaa
set_option linter.unusedSimpArgs false
set_option linter.unusedVariables false
namespace Go.Proofs.Ytdfdmeoalbpcdaa
open Go Go.RowKit
/-- No plane parts p from these points. -/
def Cv (vs : List P3) (p : P3) : Prop := ∀ m x : P3,(∀ v ∈ vs,0 ≤ m.dot (v.sub x)) → 0 ≤ m.dot (p.sub x)
theorem Cv.mono {vs ws : List P3} {p : P3} (h : Cv vs p) (hs : ∀ v ∈ vs,v ∈ ws) : Cv ws p := fun m x hx => h m x fun v hv => hx v (hs v hv)
theorem Cv.self {vs : List P3} {p : P3} (h : p ∈ vs) : Cv vs p := fun m x hx => hx p h
def P3.scale (k : Int) (m : P3) : P3 := ⟨k * m.x,k * m.y,k * m.z⟩
theorem Qmc (k : Int) (m q : P3) : (m.scale k).dot q = k * m.dot q := by
  simp only [P3.scale,P3.dot]
  grind
theorem Cv.zero {vs : List P3} {p m x : P3} (h : Cv vs p) (hx : ∀ v ∈ vs,m.dot (v.sub x) = 0) : m.dot (p.sub x) = 0 := by
  have h1 := h m x fun v hv => by rw [hx v hv];omega
  have h2 := h (m.scale (-1)) x fun v hv => by rw [Qmc,hx v hv];omega
  rw [Qmc] at h2
  omega
theorem Qev (x : Int) : 0 ≤ x * x := by
  rcases Int.le_total 0 x with h|h
  · exact Int.mul_nonneg h h
  · have := Int.mul_nonneg (a := -x) (b := -x) (by omega) (by omega)
    rwa [Int.neg_mul_neg] at this
/-! ### A simplex, by what raised it -/
theorem spst_le (ps : List P3) : ∀ k,(spst ps k).1.length ≤ k
  | 0 => by simp [spst]
  | k + 1 => by
    have := spst_le ps k
    unfold spst
    cases ps[k]? with
    | none => dsimp only;omega
    | some p =>
      dsimp only
      split
      · simp;omega
      · omega
theorem Qmw (ps : List P3) : ∀ k,k ≤ ps.length → (spst ps k).1.length = k → (spst ps k).1 = ps.take k
  | 0,_,_ => by simp [spst]
  | k + 1,hk,h => by
    have hl := spst_le ps k
    have hp : ps[k]? = some ps[k] := List.getElem?_eq_getElem (by omega)
    unfold spst at h ⊢
    rw [hp] at h ⊢
    dsimp only at h ⊢
    split
    · rename_i hr
      rw [if_pos hr] at h
      simp only [List.length_append,List.length_cons,List.length_nil] at h
      rw [Qmw ps k (by omega) (by omega),List.take_add_one,hp]
      rfl
    · rename_i hr
      rw [if_neg hr] at h
      omega
theorem Qkc {ps : List P3} (h : Qft ps = true) : Qeg ps = true ∧ 1 ≤ ps.length ∧ ps.length ≤ 4 ∧ Raised [] ps := by
  unfold Qft at h
  simp only [decide_eq_true_eq] at h
  obtain ⟨h1,h4,he,hr⟩ := h
  unfold Qff at he hr
  have hs : (Qcm ps).2 = 0 := by
    split at he
    · assumption
    · exact he
  rw [if_pos hs] at hr
  have hf : Qeg ps = true ∧ Qcm ps = (Qer ps,0) := by
    unfold Qcm at hs ⊢
    split at hs
    · cases hs
    · rename_i hf
      rw [if_neg hf]
      split at hs
      · cases hs
      · rename_i h2
        rw [if_neg h2]
        exact ⟨by simpa using hf,rfl⟩
  rw [hf.2] at hr
  dsimp only at hr
  obtain ⟨_,hl,_⟩ := Qlw ps ps.length
  have hfull := Qmw ps ps.length (Nat.le_refl _) (by rw [hl];unfold Qer at hr;omega)
  rw [List.take_length] at hfull
  refine ⟨hf.1,h1,h4,?_⟩
  rw [← hfull]
  exact Qjm ps ps.length
theorem simplex_of {ps : List P3} (hf : Qeg ps = true) (h1 : 1 ≤ ps.length) (h4 : ps.length ≤ 4) (hr : Raised [] ps) : Qft ps = true := by
  unfold Qft
  simp only [decide_eq_true_eq]
  have hs : Qcm ps = (Qer ps,0) := by
    unfold Qcm
    rw [if_neg (by rw [hf];simp),if_neg (by omega)]
  unfold Qff
  rw [hs]
  dsimp only
  rw [if_pos rfl,spread_all hr]
  exact ⟨h1,h4,rfl,rfl⟩
/-! ### What no plane parts from a simplex is inside -/
theorem Qdp (n : P3) : 0 ≤ n.dot n := by
  have h1 := Qev n.x
  have h2 := Qev n.y
  have h3 := Qev n.z
  simp only [P3.dot]
  omega
end Go.Proofs.Ytdfdmeoalbpcdaa
set_option linter.unusedSimpArgs false
set_option linter.unusedVariables false
namespace Go.Proofs.Ytdfdmeoalbpcdaa
open Go Go.RowKit
theorem raised_two {a b : P3} : Raised [] [a,b] ↔ b ≠ a := by
  simp [Raised,Qcl]
theorem raised_three {a b c : P3} : Raised [] [a,b,c] ↔ b ≠ a ∧ (b.sub a).cross (c.sub a) ≠ ⟨0,0,0⟩ := by
  simp [Raised,Qcl]
theorem raised_four {a b c d : P3} : Raised [] [a,b,c,d] ↔ b ≠ a ∧ (b.sub a).cross (c.sub a) ≠ ⟨0,0,0⟩ ∧ P3.det (b.sub a) (c.sub a) (d.sub a) ≠ 0 := by
  simp [Raised,Qcl]
theorem Qiq {x y z : P3} (h : (y.sub x).cross (z.sub x) ≠ ⟨0,0,0⟩) : y ≠ x := by
  rintro rfl
  apply h
  simp only [P3.cross,P3.sub,P3.mk.injEq]
  refine ⟨by grind,by grind,by grind⟩
end Go.Proofs.Ytdfdmeoalbpcdaa

set_option linter.unusedSimpArgs false
set_option linter.unusedVariables false
namespace Go.Proofs.Ytdfdmeoalbpcdaa
open Go Go.RowKit
/-! ### Linear algebra -/
theorem Qmv {u v w : P3} (h : v.cross w = ⟨0,0,0⟩) : P3.det u v w = 0 := by
  unfold P3.det
  rw [h]
  simp [P3.dot]
/-! ### What was taken holds all -/
theorem sub_self (a : P3) : a.sub a = ⟨0,0,0⟩ := by simp [P3.sub]
theorem det_rot (a b c : P3) : P3.det a b c = P3.det c a b := by
  simp only [P3.det,P3.dot,P3.cross];grind
theorem pt_get {ps : List P3} {i : Nat} (h : i < ps.length) : ps[i]? = some (pt ps i) := by
  unfold pt
  rw [List.getD_eq_getElem?_getD,List.getElem?_eq_getElem h]
  rfl
/-! ### The Qer of a list that is longer -/
end Go.Proofs.Ytdfdmeoalbpcdaa

set_option linter.unusedSimpArgs false
set_option linter.unusedVariables false
namespace Go.Proofs.Ytdfdmeoalbpcdaa
open Go Go.RowKit
section
variable {P : Program} {X : List Nat} {w0 w : World} {H H1 : List Bk} {ops : Array Oper} {Q : Exit → Act → World → Prop} {a : Act} {rest : List Oper} {d : Tmp} {tp t : TypeId} {pos : String} {af : Array Edge}
end
end Go.Proofs.Ytdfdmeoalbpcdaa
set_option linter.unusedSimpArgs false
set_option linter.unusedVariables false
set_option maxRecDepth 100000
namespace Go.Proofs.Ytdfdmeoalbpcdaa
open Go Go.RowKit
theorem PSl.own {w : World} {g cap : Nat} {t : TypeId} {tk : List P3} {ja : List Value} (h : w.heap[g]? = some (.cells (pcs tk ++ ja).toArray t (0,0))) : PSl w (.slice (some ⟨g,0,none⟩) tk.length cap) tk :=
  .inr ⟨g,0,cap,_,t,_,rfl,h,by rw [List.drop_zero,← Qec,List.take_left'];rfl⟩
end Go.Proofs.Ytdfdmeoalbpcdaa

set_option linter.unusedSimpArgs false
set_option linter.unusedVariables false
set_option maxRecDepth 100000
namespace Go.Proofs.Ytdfdmeoalbpcdaa
open Go Go.RowKit
theorem Qoc (A : Int) {i j : Nat} (h : j < i) : bt (A * 2 ^ i) j = 0 := by
  have := bt_low 0 A h
  rw [Int.zero_add,Qgx] at this
  exact this
theorem fur_start (x : Int) (n L : Nat) : tab (fun _ => 0) L = tab (fun j => if j < 0 + n then bt (x * 2 ^ n) j else 0) L := by
  refine Qck fun j _ => ?_
  split
  · exact (Qoc x (by omega)).symm
  · rfl
theorem fur_step {x V : Int} {n k L : Nat} (hV : V = bt x k) : tab (upd (fun j => if j < k + n then bt (x * 2 ^ n) j else 0) ((k + n) * 1) V) L = tab (fun j => if j < k + 1 + n then bt (x * 2 ^ n) j else 0) L := by
  refine Qck fun j _ => ?_
  rw [Nat.mul_one]
  by_cases h : j = k + n
  · subst h
    rw [Qch,hV,if_pos (by omega),Nat.add_comm k n,Qfr]
  · rw [Qds _ _ h]
    by_cases h2 : j < k + n
    · rw [if_pos h2,if_pos (by omega)]
    · rw [if_neg h2,if_neg (by omega)]
set_option maxHeartbeats 4000000 in
theorem Qmo (x : Int) (L n : Nat) (hL : L ≤ 4096) (hn : n ≤ L) (v1 : Value) (w : World) (h1 : BSl w v1 x L) : Calls Try.prog 66 #[v1,.int .i64 n] w (RetN (fun g => .slice (some ⟨g,0,none⟩) L L) 3 (tab (bt (x * 2 ^ n)) L) w) := by
  obtain ⟨ga,oa,ca,bca,ta,qa,rfl,hba,hga⟩ := h1
  have HGA := Lib.hid hga
  clear hga
  go_enter Try.func66,Try.ntmps66
  have hp := Hp.start [] w
  go_wp2_with ((with_reducible apply Qco hp);exact ii;exact ii;exact zk rfl;exact zk rfl;omega;omega;clear hp;(try clear w1);intro g w1 hp;simp only [zp,zq,z0,z1])
  obtain ⟨gl,rfl⟩ : ∃ x : Nat,x = g := ⟨_,rfl⟩
  go_loopw [6] (fun i wr => ∃ (k : Nat),k + n ≤ L ∧ i = .int .i64 k ∧ Hp [] w [⟨gl,3,tab (fun j => if j < k + n then bt (x * 2 ^ n) j else 0) L⟩] wr) (fun i _ => L - (intOf i).toNat)
  case atStart => exact ⟨0,by omega,rfl,by rw [← fur_start];exact hp⟩
  case round =>
    clear hp
    obtain ⟨k,hk,rfl,hp⟩ := hrel
    by_cases hk1 : k + n < L
    · have hk2 : (k : Int) + n < L := by omega
      have ha := HGA.out k (by omega)
      have hs : bt x k = bt x k := rfl
      generalize hz : bt x k = a at *
      have HS := Lib.hid hz
      clear hz hs
      have hk3 : k < L := by omega
      have hkk : ((k : Int) + (n : Int)).toNat = k + n := by omega
      have HKK := Lib.hid hkk
      clear hkk
      go_wp2_with (first|((with_reducible apply Qaf hp);exact zt rfl;exact zi rfl;exact rfl;(exact OneTy.size);exact rfl;exact ii;(with_reducible exact Qfn (by omega));(exact Qij (by omega));exact rfl;exact ii;clear hp;(try clear w1);intro w1 hp)|((with_reducible apply Qas);exact zx rfl;exact zk rfl;exact ii;(exact OneTy.size);omega;omega;((try simp only [m0,Int.reduceToNat,m1,m2,Nat.reduceMul,Nat.reduceAdd,m3,m4,m5,n0]);exact rfl);simp only [zp,zq,z0,z1])|((with_reducible apply Qbe hp);exact zt rfl;assumption;exact ii;(assumption);simp only [zp,zq,z0,z1]))
      go_roundw
      case rel =>
        refine ⟨k + 1,by omega,by go_num,?_⟩
        rw [← fur_step HS.out.symm,← HKK.out]
        exact hp
      case measure => simp [intOf];omega
    · have hk2 : ¬ (k : Int) + n < L := by omega
      obtain rfl : L = k + n := by omega
      go_wp2_with (fail)
      rw [Qht] at hp
      exact bodyPost_ret (Qaa rfl rfl) rfl ⟨gl,rfl,hp.keep,hp.fresh,hp.blk⟩
theorem Qlx (x : Int) (i : Nat) : x / 2 ^ i = 2 * (x / 2 ^ (i + 1)) + bt x i := by
  unfold bt
  rw [Int.pow_succ,← Int.ediv_ediv_of_nonneg (Int.le_of_lt (Qaj i))]
  omega
theorem Qkv {x y : Int} {i : Nat} (h : x / 2 ^ i < y / 2 ^ i) : x < y := by
  rcases Int.lt_or_le x y with h1|h1
  · exact h1
  · have := Int.ediv_le_ediv (Qaj i) h1
    omega
theorem least_bit {x y : Int} {i : Nat} (h : x / 2 ^ (i + 1) = y / 2 ^ (i + 1)) (hne : bt x i ≠ bt y i) : decide (bt x i < bt y i) = decide (x < y) := by
  have h1 := Qlx x i
  have h2 := Qlx y i
  have h3 := Qfw x i
  have h4 := Qfw y i
  rw [decide_eq_decide]
  constructor
  · intro h5
    exact Qkv (i := i) (by omega)
  · intro h5
    rcases Int.lt_or_le (bt x i) (bt y i) with h6|h6
    · exact h6
    · have : y < x := Qkv (i := i) (by omega)
      omega
theorem least_bit' {x y a b : Int} {i : Nat} (ea : a = bt x i) (eb : b = bt y i) (h : x / 2 ^ (i + 1) = y / 2 ^ (i + 1)) (hne : (a == b) = false) : decide (a < b) = decide (x < y) := by
  subst ea eb
  exact least_bit h (by simpa using hne)
theorem least_same {x y a b : Int} {i : Nat} (ea : a = bt x i) (eb : b = bt y i) (h : x / 2 ^ (i + 1) = y / 2 ^ (i + 1)) (he : a = b) : x / 2 ^ i = y / 2 ^ i := by
  rw [Qlx x i,Qlx y i,h,← ea,← eb,he]
set_option maxHeartbeats 4000000 in
theorem Qkl (x y : Int) (L : Nat) (hL : L ≤ 4096) (hxy : x / 2 ^ L = y / 2 ^ L) (v1 v2 : Value) (w : World) (h1 : BSl w v1 x L) (h2 : BSl w v2 y L) : Calls Try.prog 67 #[v1,v2] w (Ret (.bool (decide (x < y))) w) := by
  obtain ⟨ga,oa,ca,bca,ta,qa,rfl,hba,hga⟩ := h1
  obtain ⟨gb,ob,cb',bcb,tb,qb,rfl,hbb,hgb⟩ := h2
  have HGA := Lib.hid hga
  have HGB := Lib.hid hgb
  have HXY := Lib.hid hxy
  clear hga hgb hxy
  go_enter Try.func67,Try.ntmps67
  have hp := Hp.start [] w
  go_wp2_with (fail)
  go_loopw [5] (fun i wr => ∃ (k : Nat) (c : Int),k ≤ L ∧ c = k - 1 ∧ i = .int .i64 c ∧ x / 2 ^ k = y / 2 ^ k ∧ Hp [] w [] wr) (fun i _ => (intOf i + 1).toNat)
  case atStart => exact ⟨L,_,by omega,rfl,rfl,HXY.out,hp⟩
  case round =>
    clear hp
    obtain ⟨k,c,hk,hc,rfl,he,hp⟩ := hrel
    have HE := Lib.hid he
    clear he
    cases k with
    | zero =>
      have hc0 : c < 0 := by omega
      have hx : x = y := by have := HE.out;simpa using this
      have e : decide (x < y) = false := by simp;omega
      have E := Lib.hid e
      clear hx e hc
      go_wp2_with (fail)
      exact bodyPost_ret (Qaa rfl rfl) rfl ⟨by rw [E.out];rfl,hp.keep⟩
    | succ j =>
      have ha := HGA.out j (by omega)
      have hb := HGB.out j (by omega)
      obtain rfl : c = (j : Int) := by omega
      have HX : Hid (bt x j = bt x j) := Lib.hid rfl
      generalize hza : bt x j = a at *
      generalize hzb : bt y j = b at *
      have HZA := Lib.hid hza
      have HZB := Lib.hid hzb
      clear hza hzb HX hc
      have hj : (j : Int) < L := by omega
      by_cases hab : a = b
      · have hbb : (a == b) = true := by simp [hab]
        have HAB := Lib.hid hab
        clear hab
        go_wp2_with (fail)
        have hq := hp
        refine Qac hp hq [] (.q 0 (.q 1 (.q 2 (.q 3 (.q 4 (.q 5 (.q 6 (.q 7 (.q 8 .nil))))))))) (by kernel_rfl) (by kernel_rfl) ?_
        clear hp hq;(try clear w1);intro w1 hp hq
        repeat' (first|(((with_reducible apply sd_q);exact zo rfl);(first|((with_reducible apply Qbm hp);exact rfl;exact zt rfl;assumption;exact ii;(assumption);simp only [zp,zq,z0,z1])|((with_reducible apply Qat hp);(first|exact zi rfl|exact zs rfl);simp only [zp,zq,z0,z1])|((with_reducible apply Qbc hp);exact rfl;exact zx rfl;exact zk rfl;exact ii;(exact OneTy.size);omega;omega;((try simp only [m0,Int.reduceToNat,m1,m2,Nat.reduceMul,Nat.reduceAdd,m3,m4,m5,n0]);exact rfl);simp only [zp,zq,z0,z1])|((with_reducible apply Qai hp);exact rfl;(focus (intro _;go_simp;(try go_ints);try with_reducible rfl));simp only [zp,zq,z0,z1])))|((with_reducible apply Qam);clear hp;have hp := hq;clear hq))
        go_wp2_with (fail)
        go_roundw
        case rel => exact ⟨j,_,by omega,rfl,rfl,least_same HZA.out.symm HZB.out.symm HE.out HAB.out,hp⟩
        case measure => simp [intOf]
      · have hbb : (a == b) = false := by simp [hab]
        clear hab
        have e := least_bit' HZA.out.symm HZB.out.symm HE.out hbb
        have E := Lib.hid e
        clear e
        go_wp2_with (fail)
        have hq := hp
        refine Qac hp hq [] (.q 0 (.q 1 (.q 2 (.q 3 (.q 4 (.q 5 (.q 6 (.q 7 (.q 8 .nil))))))))) (by kernel_rfl) (by kernel_rfl) ?_
        clear hp hq;(try clear w1);intro w1 hp hq
        repeat' (first|(((with_reducible apply sd_q);exact zo rfl);(first|((with_reducible apply Qbm hp);exact rfl;exact zt rfl;assumption;exact ii;(assumption);simp only [zp,zq,z0,z1])|((with_reducible apply Qat hp);(first|exact zi rfl|exact zs rfl);simp only [zp,zq,z0,z1])|((with_reducible apply Qbc hp);exact rfl;exact zx rfl;exact zk rfl;exact ii;(exact OneTy.size);omega;omega;((try simp only [m0,Int.reduceToNat,m1,m2,Nat.reduceMul,Nat.reduceAdd,m3,m4,m5,n0]);exact rfl);simp only [zp,zq,z0,z1])|((with_reducible apply Qai hp);exact rfl;(focus (intro _;go_simp;(try go_ints);try with_reducible rfl));simp only [zp,zq,z0,z1])))|((with_reducible apply Qam);clear hp;have hp := hq;clear hq))
        go_wp2_with (fail)
        have hq := hp
        refine Qac hp hq [] (.q 0 (.q 1 (.q 2 (.q 3 (.q 4 (.q 5 (.q 6 (.q 7 (.q 8 (.q 9 .nil)))))))))) (by kernel_rfl) (by kernel_rfl) ?_
        clear hp hq;(try clear w1);intro w1 hp hq
        repeat' (first|(((with_reducible apply sd_q);exact zo rfl);(first|((with_reducible apply Qbm hp);exact rfl;exact zt rfl;assumption;exact ii;(assumption);simp only [zp,zq,z0,z1])|((with_reducible apply Qat hp);(first|exact zi rfl|exact zs rfl);simp only [zp,zq,z0,z1])|((with_reducible apply Qan hp);exact zb rfl;simp only [zp,zq,z0,z1])|((with_reducible apply Qbc hp);exact rfl;exact zx rfl;exact zk rfl;exact ii;(exact OneTy.size);omega;omega;((try simp only [m0,Int.reduceToNat,m1,m2,Nat.reduceMul,Nat.reduceAdd,m3,m4,m5,n0]);exact rfl);simp only [zp,zq,z0,z1])|((with_reducible apply Qai hp);exact rfl;(focus (intro _;go_simp;(try go_ints);try with_reducible rfl));simp only [zp,zq,z0,z1])))|((with_reducible apply Qam);clear hp;have hp := hq;clear hq))
        go_wp2
        exact bodyPost_ret (Qaa rfl rfl) rfl ⟨by rw [← E.out];rfl,hp.keep⟩
end Go.Proofs.Ytdfdmeoalbpcdaa
