/-
  Slices of no element; appending what is part of a block, or nil.
  Package ninepinref07: Rank, Spread (contracts).
  Bits shifted up, and held against one another.
  Package ninepinref01: further, least (contracts).
  math/bits.Len64; package wide: length, half, left, Bits (contracts).
-/
import Derived.Test.YtdfdmeoalbpcdaaGreatHc
import Derived.Laws.AppendOwnNone
import Derived.Test.YtdfdmeoalbpcdaaGreatBk
import Derived.Test.YtdfdmeoalbpcdaaGreatBg
import Derived.Test.YtdfdmeoalbpcdaaGreatMc
import Derived.Lib.BitFns
import Derived.Laws.BitsAllLaws
set_option linter.unusedSimpArgs false
set_option linter.unusedVariables false
namespace Go.Proofs.YtdfdmeoalbpcdaaGreat
open Go Go.RowKit
section
variable {P : Program} {X : List Nat} {w0 w : World} {H H1 : List Bk} {ops : Array Oper} {Q : Exit → Act → World → Prop} {a : Act} {rest : List Oper} {d : Tmp} {tp t : TypeId} {pos : String} {af : Array Edge}
end
end Go.Proofs.YtdfdmeoalbpcdaaGreat
set_option linter.unusedSimpArgs false
set_option linter.unusedVariables false
set_option maxRecDepth 100000
namespace Go.Proofs.YtdfdmeoalbpcdaaGreat
open Go Go.RowKit
theorem PSl.own {w : World} {g cap : Nat} {t : TypeId} {tk : List P3} {ja : List Value} (h : w.heap[g]? = some (.cells (pcs tk ++ ja).toArray t (0,0))) : PSl w (.slice (some ⟨g,0,none⟩) tk.length cap) tk :=
  .inr ⟨g,0,cap,_,t,_,rfl,h,by rw [List.drop_zero,← Qdx,List.take_left'];rfl⟩
end Go.Proofs.YtdfdmeoalbpcdaaGreat

set_option linter.unusedSimpArgs false
set_option linter.unusedVariables false
set_option maxRecDepth 100000
namespace Go.Proofs.YtdfdmeoalbpcdaaGreat
open Go Go.RowKit
theorem bt_low0 (A : Int) {i j : Nat} (h : j < i) : bt (A * 2 ^ i) j = 0 := by
  have := bt_low 0 A h
  rw [Int.zero_add,Qia] at this
  exact this
theorem fur_start (x : Int) (n L : Nat) : tab (fun _ => 0) L = tab (fun j => if j < 0 + n then bt (x * 2 ^ n) j else 0) L := by
  refine Qcv fun j _ => ?_
  split
  · exact (bt_low0 x (by omega)).symm
  · rfl
theorem fur_step {x V : Int} {n k L : Nat} (hV : V = bt x k) : tab (upd (fun j => if j < k + n then bt (x * 2 ^ n) j else 0) ((k + n) * 1) V) L = tab (fun j => if j < k + 1 + n then bt (x * 2 ^ n) j else 0) L := by
  refine Qcv fun j _ => ?_
  rw [Nat.mul_one]
  by_cases h : j = k + n
  · subst h
    rw [Qct,hV,if_pos (by omega),Nat.add_comm k n,Qgr]
  · rw [Qep _ _ h]
    by_cases h2 : j < k + n
    · rw [if_pos h2,if_pos (by omega)]
    · rw [if_neg h2,if_neg (by omega)]
set_option maxHeartbeats 4000000 in
theorem Qny (x : Int) (L n : Nat) (hL : L ≤ 4096) (hn : n ≤ L) (v1 : Value) (w : World) (h1 : BSl w v1 x L) : Calls Tryz.prog 103 #[v1,.int .i64 n] w (RetN (fun g => .slice (some ⟨g,0,none⟩) L L) 3 (tab (bt (x * 2 ^ n)) L) w) := by
  obtain ⟨ga,oa,ca,bca,ta,qa,rfl,hba,hga⟩ := h1
  have HGA := Lib.hid hga
  clear hga
  go_enter Tryz.func103,Tryz.ntmps103
  have hp := Hp.start [] w
  go_wp2_with ((with_reducible apply Qdc hp);exact ii;exact ii;exact zk rfl;exact zk rfl;omega;omega;clear hp;(try clear w1);intro g w1 hp;simp only [zp,zq,z0,z1])
  obtain ⟨gl,rfl⟩ : ∃ x : Nat,x = g := ⟨_,rfl⟩
  go_loopw [6] (fun i wr => ∃ (k : Nat),k + n ≤ L ∧ i = .int .i64 k ∧ Hp [] w [⟨gl,3,tab (fun j => if j < k + n then bt (x * 2 ^ n) j else 0) L⟩] wr) (fun i _ => L - (intOf i).toNat)
  case atStart => exact ⟨0,by omega,rfl,by rw [← fur_start];exact hp⟩
  case round =>
    clear hp
    obtain ⟨k,hk,rfl,hp⟩ := hrel
    by_cases hk1 : k + n < L
    · have hk2 : (k : Int) + n < L := by omega
      have ha := HGA.out k (by omega)
      have hs : bt x k = bt x k := rfl
      generalize hz : bt x k = a at *
      have HS := Lib.hid hz
      clear hz hs
      have hk3 : k < L := by omega
      have hkk : ((k : Int) + (n : Int)).toNat = k + n := by omega
      have HKK := Lib.hid hkk
      clear hkk
      go_wp2_with (first|((with_reducible apply Qae hp);exact zt rfl;exact zi rfl;exact rfl;(exact OneTy.size);exact rfl;exact ii;(with_reducible exact Qgl (by omega));(exact Qkm (by omega));exact rfl;exact ii;clear hp;(try clear w1);intro w1 hp)|((with_reducible apply Qar);exact zx rfl;exact zk rfl;exact ii;(exact OneTy.size);omega;omega;((try simp only [m0,Int.reduceToNat,m1,m2,Nat.reduceMul,Nat.reduceAdd,m3,m4,m5,n0]);exact rfl);simp only [zp,zq,z0,z1])|((with_reducible apply Qbf hp);exact zt rfl;assumption;exact ii;(assumption);simp only [zp,zq,z0,z1]))
      go_roundw
      case rel =>
        refine ⟨k + 1,by omega,by go_num,?_⟩
        rw [← fur_step HS.out.symm,← HKK.out]
        exact hp
      case measure => simp [intOf];omega
    · have hk2 : ¬ (k : Int) + n < L := by omega
      obtain rfl : L = k + n := by omega
      go_wp2_with (fail)
      rw [Qiw] at hp
      exact bodyPost_ret (Qaa rfl rfl) rfl ⟨gl,rfl,hp.keep,hp.fresh,hp.blk⟩
theorem Qns (x : Int) (i : Nat) : x / 2 ^ i = 2 * (x / 2 ^ (i + 1)) + bt x i := by
  unfold bt
  rw [Int.pow_succ,← Int.ediv_ediv_of_nonneg (Int.le_of_lt (Qak i))]
  omega
theorem Qmd {x y : Int} {i : Nat} (h : x / 2 ^ i < y / 2 ^ i) : x < y := by
  rcases Int.lt_or_le x y with h1|h1
  · exact h1
  · have := Int.ediv_le_ediv (Qak i) h1
    omega
theorem least_bit {x y : Int} {i : Nat} (h : x / 2 ^ (i + 1) = y / 2 ^ (i + 1)) (hne : bt x i ≠ bt y i) : decide (bt x i < bt y i) = decide (x < y) := by
  have h1 := Qns x i
  have h2 := Qns y i
  have h3 := Qhe x i
  have h4 := Qhe y i
  rw [decide_eq_decide]
  constructor
  · intro h5
    exact Qmd (i := i) (by omega)
  · intro h5
    rcases Int.lt_or_le (bt x i) (bt y i) with h6|h6
    · exact h6
    · have : y < x := Qmd (i := i) (by omega)
      omega
theorem least_bit' {x y a b : Int} {i : Nat} (ea : a = bt x i) (eb : b = bt y i) (h : x / 2 ^ (i + 1) = y / 2 ^ (i + 1)) (hne : (a == b) = false) : decide (a < b) = decide (x < y) := by
  subst ea eb
  exact least_bit h (by simpa using hne)
theorem least_same {x y a b : Int} {i : Nat} (ea : a = bt x i) (eb : b = bt y i) (h : x / 2 ^ (i + 1) = y / 2 ^ (i + 1)) (he : a = b) : x / 2 ^ i = y / 2 ^ i := by
  rw [Qns x i,Qns y i,h,← ea,← eb,he]
set_option maxHeartbeats 4000000 in
theorem Qlt (x y : Int) (L : Nat) (hL : L ≤ 4096) (hxy : x / 2 ^ L = y / 2 ^ L) (v1 v2 : Value) (w : World) (h1 : BSl w v1 x L) (h2 : BSl w v2 y L) : Calls Tryz.prog 104 #[v1,v2] w (Ret (.bool (decide (x < y))) w) := by
  obtain ⟨ga,oa,ca,bca,ta,qa,rfl,hba,hga⟩ := h1
  obtain ⟨gb,ob,cb',bcb,tb,qb,rfl,hbb,hgb⟩ := h2
  have HGA := Lib.hid hga
  have HGB := Lib.hid hgb
  have HXY := Lib.hid hxy
  clear hga hgb hxy
  go_enter Tryz.func104,Tryz.ntmps104
  have hp := Hp.start [] w
  go_wp2_with (fail)
  go_loopw [5] (fun i wr => ∃ (k : Nat) (c : Int),k ≤ L ∧ c = k - 1 ∧ i = .int .i64 c ∧ x / 2 ^ k = y / 2 ^ k ∧ Hp [] w [] wr) (fun i _ => (intOf i + 1).toNat)
  case atStart => exact ⟨L,_,by omega,rfl,rfl,HXY.out,hp⟩
  case round =>
    clear hp
    obtain ⟨k,c,hk,hc,rfl,he,hp⟩ := hrel
    have HE := Lib.hid he
    clear he
    cases k with
    | zero =>
      have hc0 : c < 0 := by omega
      have hx : x = y := by have := HE.out;simpa using this
      have e : decide (x < y) = false := by simp;omega
      have E := Lib.hid e
      clear hx e hc
      go_wp2_with (fail)
      exact bodyPost_ret (Qaa rfl rfl) rfl ⟨by rw [E.out];rfl,hp.keep⟩
    | succ j =>
      have ha := HGA.out j (by omega)
      have hb := HGB.out j (by omega)
      obtain rfl : c = (j : Int) := by omega
      have HX : Hid (bt x j = bt x j) := Lib.hid rfl
      generalize hza : bt x j = a at *
      generalize hzb : bt y j = b at *
      have HZA := Lib.hid hza
      have HZB := Lib.hid hzb
      clear hza hzb HX hc
      have hj : (j : Int) < L := by omega
      by_cases hab : a = b
      · have hbb : (a == b) = true := by simp [hab]
        have HAB := Lib.hid hab
        clear hab
        go_wp2_with (fail)
        have hq := hp
        refine Qad hp hq [] (.q 0 (.q 1 (.q 2 (.q 3 (.q 4 (.q 5 (.q 6 (.q 7 (.q 8 .nil))))))))) (by kernel_rfl) (by kernel_rfl) ?_
        clear hp hq;(try clear w1);intro w1 hp hq
        repeat' (first|(((with_reducible apply sd_q);exact zo rfl);(first|((with_reducible apply Qbl hp);exact rfl;exact zt rfl;assumption;exact ii;(assumption);simp only [zp,zq,z0,z1])|((with_reducible apply Qaq hp);(first|exact zi rfl|exact zs rfl);simp only [zp,zq,z0,z1])|((with_reducible apply Qas hp);exact rfl;exact zx rfl;exact zk rfl;exact ii;(exact OneTy.size);omega;omega;((try simp only [m0,Int.reduceToNat,m1,m2,Nat.reduceMul,Nat.reduceAdd,m3,m4,m5,n0]);exact rfl);simp only [zp,zq,z0,z1])|((with_reducible apply Qaj hp);exact rfl;(focus (intro _;go_simp;(try go_ints);try with_reducible rfl));simp only [zp,zq,z0,z1])))|((with_reducible apply Qao);clear hp;have hp := hq;clear hq))
        go_wp2_with (fail)
        go_roundw
        case rel => exact ⟨j,_,by omega,rfl,rfl,least_same HZA.out.symm HZB.out.symm HE.out HAB.out,hp⟩
        case measure => simp [intOf]
      · have hbb : (a == b) = false := by simp [hab]
        clear hab
        have e := least_bit' HZA.out.symm HZB.out.symm HE.out hbb
        have E := Lib.hid e
        clear e
        go_wp2_with (fail)
        have hq := hp
        refine Qad hp hq [] (.q 0 (.q 1 (.q 2 (.q 3 (.q 4 (.q 5 (.q 6 (.q 7 (.q 8 .nil))))))))) (by kernel_rfl) (by kernel_rfl) ?_
        clear hp hq;(try clear w1);intro w1 hp hq
        repeat' (first|(((with_reducible apply sd_q);exact zo rfl);(first|((with_reducible apply Qbl hp);exact rfl;exact zt rfl;assumption;exact ii;(assumption);simp only [zp,zq,z0,z1])|((with_reducible apply Qaq hp);(first|exact zi rfl|exact zs rfl);simp only [zp,zq,z0,z1])|((with_reducible apply Qas hp);exact rfl;exact zx rfl;exact zk rfl;exact ii;(exact OneTy.size);omega;omega;((try simp only [m0,Int.reduceToNat,m1,m2,Nat.reduceMul,Nat.reduceAdd,m3,m4,m5,n0]);exact rfl);simp only [zp,zq,z0,z1])|((with_reducible apply Qaj hp);exact rfl;(focus (intro _;go_simp;(try go_ints);try with_reducible rfl));simp only [zp,zq,z0,z1])))|((with_reducible apply Qao);clear hp;have hp := hq;clear hq))
        go_wp2_with (fail)
        have hq := hp
        refine Qad hp hq [] (.q 0 (.q 1 (.q 2 (.q 3 (.q 4 (.q 5 (.q 6 (.q 7 (.q 8 (.q 9 .nil)))))))))) (by kernel_rfl) (by kernel_rfl) ?_
        clear hp hq;(try clear w1);intro w1 hp hq
        repeat' (first|(((with_reducible apply sd_q);exact zo rfl);(first|((with_reducible apply Qbl hp);exact rfl;exact zt rfl;assumption;exact ii;(assumption);simp only [zp,zq,z0,z1])|((with_reducible apply Qaq hp);(first|exact zi rfl|exact zs rfl);simp only [zp,zq,z0,z1])|((with_reducible apply Qat hp);exact zb rfl;simp only [zp,zq,z0,z1])|((with_reducible apply Qas hp);exact rfl;exact zx rfl;exact zk rfl;exact ii;(exact OneTy.size);omega;omega;((try simp only [m0,Int.reduceToNat,m1,m2,Nat.reduceMul,Nat.reduceAdd,m3,m4,m5,n0]);exact rfl);simp only [zp,zq,z0,z1])|((with_reducible apply Qaj hp);exact rfl;(focus (intro _;go_simp;(try go_ints);try with_reducible rfl));simp only [zp,zq,z0,z1])))|((with_reducible apply Qao);clear hp;have hp := hq;clear hq))
        go_wp2
        exact bodyPost_ret (Qaa rfl rfl) rfl ⟨by rw [← E.out];rfl,hp.keep⟩
end Go.Proofs.YtdfdmeoalbpcdaaGreat

set_option linter.unusedSimpArgs false
set_option linter.unusedVariables false
set_option maxRecDepth 100000
namespace Go.Proofs.YtdfdmeoalbpcdaaGreat
open Go Go.RowKit
theorem Qpg : ∀ (f x : Nat),x < 2 ^ f → f ≤ 64 → x < 2 ^ Lib.bitLen x ∧ (x ≠ 0 → 2 ^ (Lib.bitLen x - 1) ≤ x ∧ 1 ≤ Lib.bitLen x)
  | 0,x,h,_ => by
    obtain rfl : x = 0 := by simpa using h
    exact ⟨by decide,fun h => absurd rfl h⟩
  | f + 1,x,h,hf => by
    by_cases h0 : x = 0
    · subst h0;exact ⟨by decide,fun h => absurd rfl h⟩
    · have h64 : x < 2 ^ 64 := Nat.lt_of_lt_of_le h (Nat.pow_le_pow_right (by omega) hf)
      obtain ⟨i1,i2⟩ := Qpg f (x / 2) (by rw [Nat.pow_succ] at h;omega) (by omega)
      rw [Lib.bitLen_half x h0 h64]
      refine ⟨by rw [Nat.add_comm,Nat.pow_succ];omega,fun _ => ⟨?_,by omega⟩⟩
      by_cases h1 : x / 2 = 0
      · have : x = 1 := by omega
        subst this
        decide
      · obtain ⟨j1,j2⟩ := i2 h1
        rw [show 1 + Lib.bitLen (x / 2) - 1 = (Lib.bitLen (x / 2) - 1) + 1 by omega,Nat.pow_succ]
        omega
theorem Qgn (y : Int) (h0 : 0 ≤ y) (h1 : y < 256) : 0 ≤ y ∧ y < (Lib.len8tab.size : Int) := by
  rw [Lib.len8tab_size];omega
theorem Qop (y : Int) (h0 : 0 ≤ y) (h1 : y < 256) (h : y.toNat < Lib.len8tab.size) : ((Lib.len8tab[y.toNat]'h).toNat : Int) = (Lib.bitLen y.toNat : Int) ∧ Lib.bitLen y.toNat ≤ 8 := by
  have e : ((Lib.len8tab[y.toNat]'h).toNat : Int) = Lib.len8 y := by
    unfold Lib.len8
    rw [getElem?_pos Lib.len8tab y.toNat h]
    rfl
  rw [e,Lib.len8_of y h0 (by omega)]
  exact ⟨rfl,Lib.bitLen_le8' y h0 (by omega)⟩
theorem Qhi (k : Nat) (hk : k ≤ 56) (y : Int) (h0 : 0 ≤ y) (h1 : y < 256) (h : y.toNat < Lib.len8tab.size) (x : Nat) (hx : Lib.bitLen x = k + Lib.bitLen y.toNat) : RowKit.wrap64 ((k : Int) + RowKit.wrap64 ((Lib.len8tab[y.toNat]'h).toNat : Int)) = (Lib.bitLen x : Int) := by
  obtain ⟨e,hb⟩ := Qop y h0 h1 h
  rw [e,hx]
  unfold RowKit.wrap64
  omega
theorem len_fin0 (y : Int) (h0 : 0 ≤ y) (h1 : y < 256) (h : y.toNat < Lib.len8tab.size) (x : Nat) (hx : Lib.bitLen x = Lib.bitLen y.toNat) : RowKit.wrap64 (RowKit.wrap64 ((Lib.len8tab[y.toNat]'h).toNat : Int)) = (Lib.bitLen x : Int) := by
  obtain ⟨e,hb⟩ := Qop y h0 h1 h
  rw [e,hx]
  unfold RowKit.wrap64
  omega
set_option maxHeartbeats 4000000 in
theorem len64_any (x : Int) (h0 : 0 ≤ x) (h1 : x < 18446744073709551616) (w : World) : Calls Tryz.prog 111 #[.int .u64 x] w (Ret (.int .i64 (Lib.bitLen x.toNat)) w) := by
  by_cases c1 : 4294967296 ≤ x
  · by_cases c2 : 65536 ≤ x / 4294967296
    · by_cases c3 : 256 ≤ x / 4294967296 / 65536
      · have hin := Qgn (x / 4294967296 / 65536 / 256) (by omega) (by omega)
        have hb : Lib.bitLen x.toNat = 56 + Lib.bitLen (x / 4294967296 / 65536 / 256).toNat := by
          rw [Lib.bitLen_shift56 x.toNat (by omega) (by omega),show (x / 4294967296 / 65536 / 256).toNat = x.toNat / 72057594037927936 by omega]
        have HB := Lib.hid hb
        clear hb
        go_enter Tryz.func111,Tryz.ntmps111
        have hp := Hp.start [] w
        go_wp2_with (fail)
        exact bodyPost_ret (Qaa rfl rfl) rfl ⟨congrArg Ending.returned (congrArg (Value.int IntKind.i64) (Qhi 56 (by omega) _ (by omega) (by omega) _ _ HB.out)),hp.keep⟩
      · have hin := Qgn (x / 4294967296 / 65536) (by omega) (by omega)
        have hb : Lib.bitLen x.toNat = 48 + Lib.bitLen (x / 4294967296 / 65536).toNat := by
          rw [Lib.bitLen_shift48 x.toNat (by omega) (by omega),show (x / 4294967296 / 65536).toNat = x.toNat / 281474976710656 by omega]
        have HB := Lib.hid hb
        clear hb
        go_enter Tryz.func111,Tryz.ntmps111
        have hp := Hp.start [] w
        go_wp2_with (fail)
        exact bodyPost_ret (Qaa rfl rfl) rfl ⟨congrArg Ending.returned (congrArg (Value.int IntKind.i64) (Qhi 48 (by omega) _ (by omega) (by omega) _ _ HB.out)),hp.keep⟩
    · by_cases c3 : 256 ≤ x / 4294967296
      · have hin := Qgn (x / 4294967296 / 256) (by omega) (by omega)
        have hb : Lib.bitLen x.toNat = 40 + Lib.bitLen (x / 4294967296 / 256).toNat := by
          rw [Lib.bitLen_shift40 x.toNat (by omega) (by omega),show (x / 4294967296 / 256).toNat = x.toNat / 1099511627776 by omega]
        have HB := Lib.hid hb
        clear hb
        go_enter Tryz.func111,Tryz.ntmps111
        have hp := Hp.start [] w
        go_wp2_with (fail)
        exact bodyPost_ret (Qaa rfl rfl) rfl ⟨congrArg Ending.returned (congrArg (Value.int IntKind.i64) (Qhi 40 (by omega) _ (by omega) (by omega) _ _ HB.out)),hp.keep⟩
      · have hin := Qgn (x / 4294967296) (by omega) (by omega)
        have hb : Lib.bitLen x.toNat = 32 + Lib.bitLen (x / 4294967296).toNat := by
          rw [Lib.bitLen_shift32 x.toNat (by omega) (by omega),show (x / 4294967296).toNat = x.toNat / 4294967296 by omega]
        have HB := Lib.hid hb
        clear hb
        go_enter Tryz.func111,Tryz.ntmps111
        have hp := Hp.start [] w
        go_wp2_with (fail)
        exact bodyPost_ret (Qaa rfl rfl) rfl ⟨congrArg Ending.returned (congrArg (Value.int IntKind.i64) (Qhi 32 (by omega) _ (by omega) (by omega) _ _ HB.out)),hp.keep⟩
  · by_cases c2 : 65536 ≤ x
    · by_cases c3 : 256 ≤ x / 65536
      · have hin := Qgn (x / 65536 / 256) (by omega) (by omega)
        have hb : Lib.bitLen x.toNat = 24 + Lib.bitLen (x / 65536 / 256).toNat := by
          rw [Lib.bitLen_shift24 x.toNat (by omega) (by omega),show (x / 65536 / 256).toNat = x.toNat / 16777216 by omega]
        have HB := Lib.hid hb
        clear hb
        go_enter Tryz.func111,Tryz.ntmps111
        have hp := Hp.start [] w
        go_wp2_with (fail)
        exact bodyPost_ret (Qaa rfl rfl) rfl ⟨congrArg Ending.returned (congrArg (Value.int IntKind.i64) (Qhi 24 (by omega) _ (by omega) (by omega) _ _ HB.out)),hp.keep⟩
      · have hin := Qgn (x / 65536) (by omega) (by omega)
        have hb : Lib.bitLen x.toNat = 16 + Lib.bitLen (x / 65536).toNat := by
          rw [Lib.bitLen_shift16 x.toNat (by omega) (by omega),show (x / 65536).toNat = x.toNat / 65536 by omega]
        have HB := Lib.hid hb
        clear hb
        go_enter Tryz.func111,Tryz.ntmps111
        have hp := Hp.start [] w
        go_wp2_with (fail)
        exact bodyPost_ret (Qaa rfl rfl) rfl ⟨congrArg Ending.returned (congrArg (Value.int IntKind.i64) (Qhi 16 (by omega) _ (by omega) (by omega) _ _ HB.out)),hp.keep⟩
    · by_cases c3 : 256 ≤ x
      · have hin := Qgn (x / 256) (by omega) (by omega)
        have hb : Lib.bitLen x.toNat = 8 + Lib.bitLen (x / 256).toNat := by
          rw [Lib.bitLen_shift8 x.toNat (by omega) (by omega),show (x / 256).toNat = x.toNat / 256 by omega]
        have HB := Lib.hid hb
        clear hb
        go_enter Tryz.func111,Tryz.ntmps111
        have hp := Hp.start [] w
        go_wp2_with (fail)
        exact bodyPost_ret (Qaa rfl rfl) rfl ⟨congrArg Ending.returned (congrArg (Value.int IntKind.i64) (Qhi 8 (by omega) _ (by omega) (by omega) _ _ HB.out)),hp.keep⟩
      · have hin := Qgn (x) (by omega) (by omega)
        have hb : Lib.bitLen x.toNat = Lib.bitLen (x).toNat := rfl
        have HB := Lib.hid hb
        clear hb
        go_enter Tryz.func111,Tryz.ntmps111
        have hp := Hp.start [] w
        go_wp2_with (fail)
        exact bodyPost_ret (Qaa rfl rfl) rfl ⟨congrArg Ending.returned (congrArg (Value.int IntKind.i64) (len_fin0 _ (by omega) (by omega) _ _ rfl)),hp.keep⟩
/-- How many bits a number from 0 on has. -/
def nb (x : Int) : Nat := if x = 0 then 0 else x.toNat.log2 + 1
theorem nb_zero : nb 0 = 0 := rfl
theorem Qgd (m : Nat) : ((2 ^ m : Nat) : Int) = (2 : Int) ^ m := by rw [Int.natCast_pow];rfl
theorem Qkj {x : Int} (h : 0 ≤ x) : x < 2 ^ nb x ∧ (x ≠ 0 → (2 : Int) ^ (nb x - 1) ≤ x ∧ 1 ≤ nb x) := by
  unfold nb
  split
  · rename_i h0;subst h0;exact ⟨by decide,fun h => absurd rfl h⟩
  · rename_i h0
    have h1 := Nat.lt_log2_self (n := x.toNat)
    have h2 := Nat.log2_self_le (n := x.toNat) (by omega)
    have e1 := Qgd (x.toNat.log2 + 1)
    have e2 := Qgd x.toNat.log2
    refine ⟨by omega,fun _ => ⟨?_,by omega⟩⟩
    rw [Nat.add_sub_cancel]
    omega
theorem nb_is {x : Int} {m : Nat} (hm : 1 ≤ m) (h1 : (2 : Int) ^ (m - 1) ≤ x) (h2 : x < 2 ^ m) : nb x = m := by
  have hp := Qak (m - 1)
  unfold nb
  rw [if_neg (by omega)]
  have e1 := Qgd (m - 1)
  have e2 := Qgd m
  have : x.toNat.log2 = m - 1 := (Nat.log2_eq_iff (by omega)).2 ⟨by omega,by rw [show m - 1 + 1 = m by omega];omega⟩
  omega
/-- The limb's bits, above those of the limbs below. -/
theorem nb_limb {x : Int} (h0 : 0 ≤ x) {k : Nat} (hx : x < 2 ^ (64 * (k + 1))) (hl : lb x k ≠ 0) : ((nb x : Nat) : Int) = 64 * (k : Int) + Lib.bitLen (lb x k).toNat := by
  have a0 := Qbj x k
  have a1 := Qfz x k
  obtain ⟨b1,b2⟩ := Qpg 64 (lb x k).toNat (by omega) (Nat.le_refl _)
  obtain ⟨b3,b4⟩ := b2 (by omega)
  have hs := Qlo x k
  rw [Int.emod_eq_of_lt h0 hx] at hs
  have hP := Qak (64 * k)
  have r0 := Int.emod_nonneg x (show (2 : Int) ^ (64 * k) ≠ 0 by omega)
  have r1 := Int.emod_lt_of_pos x hP
  generalize Lib.bitLen (lb x k).toNat = m at *
  have c1 := Qgd m
  have c2 := Qgd (m - 1)
  have e := nb_is (x := x) (m := 64 * k + m) (by omega) (by
      rw [show 64 * k + m - 1 = 64 * k + (m - 1) by omega,Int.pow_add]
      have := Int.mul_le_mul_of_nonneg_left (show (2 : Int) ^ (m - 1) ≤ lb x k by omega) (Int.le_of_lt hP)
      omega) (by
      rw [Int.pow_add]
      have := Int.mul_le_mul_of_nonneg_left (show lb x k + 1 ≤ (2 : Int) ^ m by omega) (Int.le_of_lt hP)
      rw [Int.mul_add] at this
      omega)
  rw [e]
  omega
set_option maxHeartbeats 4000000 in
theorem Qlu (x : Int) (h0 : 0 ≤ x) (h1 : x < M512) (w : World) : Calls Tryz.prog 78 #[W x] w (Ret (.int .i64 (nb x)) w) := by
  have HX := Lib.hid (show x < 2 ^ (64 * 8) by rw [← M512_eq];exact h1)
  clear h1
  have HN := Lib.hid h0
  go_enter Tryz.func78,Tryz.ntmps78
  have hp := Hp.start [] w
  go_wp2_with ((with_reducible apply Qau hp);exact za rfl;exact rfl;clear hp;(try clear w1);intro g w1 hp;simp only [zp,zq,z0,z1])
  obtain ⟨g1,rfl⟩ : ∃ y : Nat,y = g := ⟨_,rfl⟩
  go_loopw [3] (fun i wr => ∃ k : Nat,k ≤ 8 ∧ i = .int .i64 ((k : Int) - 1) ∧ x < 2 ^ (64 * k) ∧ Hp [] w [⟨g1,51,LB (lb x)⟩] wr) (fun i _ => (intOf i + 1).toNat)
  case atStart => exact ⟨8,by omega,rfl,HX.out,hp⟩
  case round =>
    clear hp
    obtain ⟨k,hk,rfl,hx,hp⟩ := hrel
    have HK := Lib.hid hx
    clear hx
    cases k with
    | zero =>
      have hz : x = 0 := by have := HK.out;simp at this;omega
      rw [show (((0 : Nat)) : Int) - 1 = -1 from rfl]
      go_wp2_with (fail)
      exact bodyPost_ret (Qaa rfl rfl) rfl ⟨by rw [hz,nb_zero];rfl,hp.keep⟩
    | succ i =>
      rw [show ((i + 1 : Nat) : Int) - 1 = (i : Int) by omega]
      have hi : i < 8 := by omega
      have hi8 : (i : Int) < 8 := by omega
      have hl0 := Qbj x i
      have hl1 := Qfz x i
      by_cases hz : lb x i = 0
      · have hne : (lb x i == 0) = true := by simp [hz]
        have HZ := Lib.hid hz
        clear hz
        go_wp2_with ((with_reducible apply Qai hp);exact zt rfl;exact ii;exact ii;(exact Qcp (by omega));simp only [zp,zq,z0,z1])
        go_roundw
        case rel =>
          refine ⟨i,by omega,rfl,?_,hp⟩
          have := Qlo x i
          rw [Int.emod_eq_of_lt HN.out HK.out,HZ.out] at this
          have hb := Int.emod_lt_of_pos x (Qak (64 * i))
          omega
        case measure => simp [intOf]
      · have hne : (lb x i == 0) = false := by simp [hz]
        have hl64 := len64_any (lb x i) hl0 hl1
        have e := nb_limb h0 HK.out hz
        have hbl := Lib.bitLen_le (lb x i).toNat 64 (by omega) (by omega)
        generalize Lib.bitLen (lb x i).toNat = m at *
        have HL := Lib.hid hl64
        have E := Lib.hid e
        clear hz hl64 e
        go_wp2_with (first|((with_reducible apply Qai hp);exact zt rfl;exact ii;exact ii;(exact Qcp (by omega));simp only [zp,zq,z0,z1])|((with_reducible refine Qaf hp (HL.out _) ?_);clear hp;(try clear w1);intro w1 hp))
        exact bodyPost_ret (Qaa rfl rfl) rfl ⟨by rw [E.out];rfl,hp.keep⟩
end Go.Proofs.YtdfdmeoalbpcdaaGreat
