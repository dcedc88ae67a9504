/-
  What Prime hands back: plain.
  Package ninepinref06: size, Common, Prime; ninepinlaw06.GridPrime (contracts).
  Package wide: Shr (contract).
  Package wide: Shl, Int, Bits (contracts).
  Package ninepinref01: Cmp, Shl; package ninepinref02: Within (contracts).
  The arguments of a law: slices of points.
  Package simplex: times, plus, less, from, square, Past (contracts).
-/
import Derived.Test.YtdfdmeoalbpcdaaGreatFi
import Derived.Test.YtdfdmeoalbpcdaaGreatCd
import Derived.Test.YtdfdmeoalbpcdaaGreatDb
import Derived.Test.YtdfdmeoalbpcdaaGreatDd
import Derived.Test.YtdfdmeoalbpcdaaGreatBg
import Derived.Test.YtdfdmeoalbpcdaaGreatDf
import Derived.Test.YtdfdmeoalbpcdaaGreatBn
import Derived.Test.YtdfdmeoalbpcdaaGreatDa
import Derived.Test.YtdfdmeoalbpcdaaGreatHc
import Derived.WalkKit
import Derived.ProofKit
import Derived.OpenShut
import Derived.ShutString
import Derived.ChangeOld
import Derived.Below
import Derived.Lib.SmallJoins
import Derived.Deep.Slices
import Derived.Test.YtdfdmeoalbpcdaaGreatBi
set_option linter.unusedSimpArgs false
set_option linter.unusedVariables false
set_option maxRecDepth 100000
namespace Go.Proofs.YtdfdmeoalbpcdaaGreat
open Go Go.RowKit
/-- The greatest common divisor of three. -/
def g3 (x y z : Int) : Nat := Nat.gcd (Nat.gcd x.natAbs y.natAbs) z.natAbs
end Go.Proofs.YtdfdmeoalbpcdaaGreat

set_option linter.unusedSimpArgs false
set_option linter.unusedVariables false
set_option maxRecDepth 100000
namespace Go.Proofs.YtdfdmeoalbpcdaaGreat
open Go Go.RowKit
attribute [local irreducible] wpList
set_option maxHeartbeats 8000000 in
theorem Qgz (a b : Int) (ha : Fit a) (hb : Fit b) (ha0 : 0 ≤ a) (hb0 : 0 ≤ b) (w : World) : Calls Tryz.prog 68 #[W a,W b] w (Ret (W (cg a b)) w) := by
  have HA := Lib.hid ha
  have HB := Lib.hid hb
  clear ha hb
  go_enter Tryz.func68,Tryz.ntmps68
  have hp := Hp.start [] w
  go_wp2_with (first|((with_reducible apply Qau hp);exact za rfl;exact rfl;clear hp;(try clear w1);intro g w1 hp;simp only [zp,zq,z0,z1])|((with_reducible apply Qag hp);exact ii;exact rfl;clear hp;(try clear w1);intro g w1 hp;simp only [zp,zq,z0,z1]))
  rename_i ga gb K hK
  obtain ⟨gp,rfl⟩ : ∃ z : Nat,z = g := ⟨_,rfl⟩
  go_loopw [7] (fun ok wr => ∃ x y : Int,Fit x ∧ Fit y ∧ 0 ≤ x ∧ 0 ≤ y ∧ cg x y = cg a b ∧ Hp [] w [⟨gp,27,[.int .u64 0,.int .u64 0,.int .u64 0,.int .u64 0,.int .u64 0,.int .u64 0,.int .u64 0,.int .u64 0]⟩,⟨gb,27,[.int .u64 (lb (y) 0),.int .u64 (lb (y) 1),.int .u64 (lb (y) 2),.int .u64 (lb (y) 3),.int .u64 (lb (y) 4),.int .u64 (lb (y) 5),.int .u64 (lb (y) 6),.int .u64 (lb (y) 7)]⟩,⟨ga,27,[.int .u64 (lb (x) 0),.int .u64 (lb (x) 1),.int .u64 (lb (x) 2),.int .u64 (lb (x) 3),.int .u64 (lb (x) 4),.int .u64 (lb (x) 5),.int .u64 (lb (x) 6),.int .u64 (lb (x) 7)]⟩] wr) (fun _ wr => bval gb wr)
  case atStart => exact ⟨a,b,HA.out,HB.out,ha0,hb0,rfl,hp⟩
  case round =>
    clear hp
    obtain ⟨x,y,hx,hy,hx0,hy0,hg,hp⟩ := hrel
    have HX := Lib.hid hx
    have HY := Lib.hid hy
    have HG := Lib.hid hg
    have HSG : Hid (∀ w,Calls Tryz.prog 31 #[W y] w (Ret (.int .i64 (sgn y)) w)) := Lib.hid fun w => Qgm y hy w
    by_cases h0 : y = 0
    · have hsg : (sgn y == 0) = true := by rw [h0];rfl
      have e : cg a b = x := by rw [← hg,h0,Qgy hx0]
      have E := Lib.hid e
      clear hx hy hg h0 HX HY HG e
      go_wp2_with (first|((with_reducible apply Qab hp);exact zt rfl;exact ii;exact ii;(exact zl rfl);(simp only [n0,Nat.reduceAdd,nn];try rfl);simp only [zp,zq,z0,z1])|((with_reducible apply Qae hp);exact zt rfl;exact za rfl;exact rfl;(exact AggTy.size);exact rfl;exact ii;(simp only [n0,Nat.reduceAdd,nn];try rfl);(exact zl rfl);exact rfl;exact ii;clear hp;(try clear w1);intro w1 hp)|((with_reducible refine Qaf hp (HSG.out _) ?_);clear hp;(try clear w1);intro w1 hp))
      exact bodyPost_ret (Qaa rfl ⟨_,rfl,Qac hp (Nat.le_of_ble_eq_true rfl)⟩) rfl ⟨by rw [E.out];rfl,hp.keep⟩
    · have hsg : (sgn y == 0) = false := by have := Qky h0;simp [this]
      have hm := Qdm (g := gb) (y := y) hp hy0 (by unfold Fit M511 at hy;unfold M512;omega)
      have hok : dvok x y := ⟨h0,by unfold fq Fit at *;rw [if_neg (by omega)];have := Int.ediv_nonneg hx0 hy0;have := Int.ediv_le_self y hx0;omega⟩
      have hr : dvr x y = x % y := by
        unfold dvr
        rw [if_pos hok]
        exact (Qfh (q := x / y) (by have := Int.mul_ediv_add_emod x y;rw [Int.mul_comm] at this;omega) (.inl ⟨by omega,Int.emod_nonneg _ h0,Int.emod_lt_of_pos _ (by omega)⟩)).2
      have hd := rdiv_any x y hx hy
      rw [hr] at hd
      have HD := Lib.hid hd
      have HM := Lib.hid hm
      have HY0 := Lib.hid h0
      clear hd hr hok hm h0 hx hy hg
      go_wp2_with (first|((with_reducible apply Qag hp);exact ii;exact rfl;clear hp;(try clear w1);intro g w1 hp;simp only [zp,zq,z0,z1])|((with_reducible apply Qab hp);exact zt rfl;exact ii;exact ii;(exact zl rfl);(simp only [n0,Nat.reduceAdd,nn];try rfl);simp only [zp,zq,z0,z1])|((with_reducible apply Qae hp);exact zt rfl;exact za rfl;exact rfl;(exact AggTy.size);exact rfl;exact ii;(simp only [n0,Nat.reduceAdd,nn];try rfl);(exact zl rfl);exact rfl;exact ii;clear hp;(try clear w1);intro w1 hp)|((with_reducible first|refine Qaf hp (HSG.out _) ?_|refine Qaf hp (HD.out _) ?_);clear hp;(try clear w1);intro w1 hp))
      go_roundw
      case rel =>
        have := Int.emod_lt_of_pos x (show 0 < y by have := HY0.out;omega)
        have h2 := Int.emod_nonneg x HY0.out
        refine ⟨y,x % y,HY.out,?_,hy0,h2,?_,?_⟩
        · have := HY.out
          unfold Fit at *;omega
        · rw [Qhb hx0 (by have := HY0.out;omega)];exact HG.out
        · exact hp.sub ((List.Sublist.refl _).cons _ |>.cons _)
      case measure =>
        have h1 := Int.emod_lt_of_pos x (show 0 < y by have := HY0.out;omega)
        have h2 := Int.emod_nonneg x HY0.out
        have h3 := HY.out
        rw [HM.out,Qdm (g := gb) (y := x % y) hp h2 (by unfold Fit M511 at h3;unfold M512;omega)]
        omega
end Go.Proofs.YtdfdmeoalbpcdaaGreat

set_option linter.unusedSimpArgs false
set_option linter.unusedVariables false
set_option maxRecDepth 100000
namespace Go.Proofs.YtdfdmeoalbpcdaaGreat
open Go Go.RowKit
/-! ### A limb of a number that was Qeu down -/
/-- The limbs of a number that was Qeu down, so many of them. -/
def rf (x : Int) (n k : Nat) : Nat → Int := fun j => if j < k then lb (x / 2 ^ n) j else 0
end Go.Proofs.YtdfdmeoalbpcdaaGreat

set_option linter.unusedSimpArgs false
set_option linter.unusedVariables false
set_option maxRecDepth 100000
namespace Go.Proofs.YtdfdmeoalbpcdaaGreat
open Go Go.RowKit
/-- Is there such a multiple by a power of two? -/
def shok (a n : Int) : Prop := 0 ≤ n ∧ (a = 0 ∨ (n ≤ 511 ∧ Fit (a * 2 ^ n.toNat)))
instance (a n : Int) : Decidable (shok a n) := inferInstanceAs (Decidable (_ ∧ (_ ∨ (_ ∧ _))))
/-! ### Small ones -/
instance (n : Int) : Decidable (I64 n) := inferInstanceAs (Decidable (_ ∧ _))
end Go.Proofs.YtdfdmeoalbpcdaaGreat

set_option linter.unusedSimpArgs false
set_option linter.unusedVariables false
set_option maxRecDepth 100000
namespace Go.Proofs.YtdfdmeoalbpcdaaGreat
open Go Go.RowKit
attribute [local irreducible] wpList
theorem bt_top {x : Int} {E : Nat} (h : -(2 ^ E) ≤ x ∧ x < 2 ^ E) : bt x E = if x < 0 then 1 else 0 := by
  unfold bt
  have hp := Qak E
  generalize (2 : Int) ^ E = P at *
  split
  · have : x / P = -1 := by
      rw [Int.ediv_eq_iff_of_pos hp]
      omega
    rw [this];rfl
  · rw [Int.ediv_eq_zero_of_lt (by omega) (by omega)];rfl
theorem low_step {x : Int} {k : Nat} (h : x % 2 ^ k = 0) (hb : bt x k = 0) : x % 2 ^ (k + 1) = 0 := by
  rw [Int.pow_succ,Qcg x _ _ (Qak k) (by omega),h]
  unfold bt at hb
  rw [hb]
  omega
theorem low_one {x : Int} {k : Nat} (hb : bt x k = 1) : x ≠ 0 := fun h => by
  rw [h,Qia] at hb
  omega
theorem low_all {x : Int} {E : Nat} (h0 : 0 ≤ x) (h1 : x < 2 ^ E) (h : x % 2 ^ (E + 1) = 0) : x = 0 := by
  rw [Int.emod_eq_of_lt h0 (by rw [Int.pow_succ];have := Qak E;omega)] at h
  exact h
theorem cmp_room {a b : Int} (ha : Fit a) (hb : Fit b) {E : Nat} (hE : E = 519) : -(2 ^ E) ≤ a + -b ∧ a + -b < 2 ^ E := by
  obtain ⟨c,hc⟩ : ∃ c : Nat,c = 511 := ⟨_,rfl⟩
  have h4 : (2 : Int) ^ E = 2 ^ c * 2 ^ (E - c) := Qee (by omega)
  rw [← Qis hc,show E - c = 8 by omega] at h4
  have : (2 : Int) ^ 8 = 256 := rfl
  rw [h4,this]
  unfold Fit M511 at *
  omega
set_option maxHeartbeats 4000000 in
theorem rcmp1_any (a b : Int) (ha : Fit a) (hb : Fit b) (w : World) : Calls Tryz.prog 72 #[W a,W b] w (Ret (.int .i64 (sgn (a - b))) w) := by
  rw [Int.sub_eq_add_neg]
  have HT := Lib.hid (bt_top (cmp_room ha hb rfl))
  have HL := Lib.hid (@low_all (a + -b) 519)
  have HR := Lib.hid (cmp_room ha hb rfl)
  have RP : Hid (∀ v1 v2 w,BSl w v1 a 520 → BSl w v2 (-b) 520 → Calls Tryz.prog 105 #[v1,v2] w (RetN (fun g => .slice (some ⟨g,0,none⟩) 520 520) 3 (tab (bt (a + -b)) 520) w)) := Lib.hid fun v1 v2 w h1 h2 => Qfp a (-b) 520 (by omega) v1 v2 w h1 h2
  generalize a + -b = x at *
  have LA := Lib.hid fun w => Qgo a ha w
  have LB' := Lib.hid fun w => Qgo b hb w
  clear ha hb
  go_enter Tryz.func72,Tryz.ntmps72
  have hp := Hp.start [] w
  go_upto_region 1 with ((with_reducible apply Qau hp);(exact za rfl);exact rfl;clear hp;(try clear w1);intro g w1 hp;simp only [zp,zq,z0,z1])
  rename_i ga K hK
  obtain ⟨gb,rfl⟩ : ∃ k : Nat,k = g := ⟨_,rfl⟩
  have hq := hp
  refine Qad hp hq [] (.q 0 (.q 2 (.l 1 (.l 3 (.l 4 (.l 5 (.q 6 .nil))))))) (by kernel_rfl) (by kernel_rfl) ?_
  clear hp hq;(try clear w1);intro w1 hp hq
  repeat' (first|(((with_reducible apply sd_q);exact zo rfl);(first|((with_reducible apply Qah hp);exact rfl;exact zt rfl;exact ii;exact ii;(exact zl rfl);(simp only [n0,Nat.reduceAdd,nn];try rfl);simp only [zp,zq,z0,z1])|((with_reducible apply Qat hp);exact zs rfl;simp only [zp,zq,z0,z1])))|(((with_reducible apply sd_l);exact zo rfl);(first|((with_reducible apply Qcu hq);(repeat (first|exact sb0|apply sb3));exact rfl;(focus (intro _;go_simp;try first|with_reducible rfl|exact ⟨rfl,rfl⟩));(with_reducible exact LA.out _);clear hp hq;(try clear w1);intro g w1 hp hq;simp only [zp,zq,z0,z1])|((with_reducible apply Qcu hq);(repeat (first|exact sb0|apply sb3));exact rfl;(focus (intro _;go_simp;try first|with_reducible rfl|exact ⟨rfl,rfl⟩));(with_reducible exact LB'.out _);clear hp hq;(try clear w1);intro g w1 hp hq;simp only [zp,zq,z0,z1])|((with_reducible apply Qcu hq);(repeat (first|exact sb0|apply sb3));exact rfl;(focus (intro _;go_simp;try first|with_reducible rfl|exact ⟨rfl,rfl⟩));(with_reducible exact Qcx b 520 (by omega) _ _ (BSl.of hq.blk));clear hp hq;(try clear w1);intro g w1 hp hq;simp only [zp,zq,z0,z1])|((with_reducible apply Qcu hq);(repeat (first|exact sb0|apply sb3));exact rfl;(focus (intro _;go_simp;try first|with_reducible rfl|exact ⟨rfl,rfl⟩));(with_reducible exact RP.out _ _ _ (BSl.of hq.blk) (BSl.of hq.blk));clear hp hq;(try clear w1);intro g w1 hp hq;simp only [zp,zq,z0,z1])))|((with_reducible apply Qao);clear hp;have hp := hq;clear hq))
  obtain ⟨gl,rfl⟩ : ∃ k : Nat,k = g := ⟨_,rfl⟩
  by_cases hneg : x < 0
  · have hb1 : bt x 519 = 1 := by rw [HT.out,if_pos hneg]
    have hb2 : (bt x 519 == 1) = true := by rw [hb1];rfl
    have e : sgn x = -1 := if_pos hneg
    have HEE := Lib.hid e
    clear hb1 e hneg
    go_wp2_with (first|((with_reducible apply Qai hp);exact zt rfl;exact ii;exact ii;(exact zio rfl);simp only [zp,zq,z0,z1])|((with_reducible apply Qar);exact zx rfl;exact zk rfl;exact ii;(exact OneTy.size);omega;omega;((try simp only [m0,Int.reduceToNat,m1,m2,Nat.reduceMul,Nat.reduceAdd,m3,m4,m5,n0]);exact rfl);simp only [zp,zq,z0,z1]))
    exact bodyPost_ret (Qaa rfl rfl) rfl ⟨by rw [HEE.out];rfl,hp.keep⟩
  · have hb1 : bt x 519 = 0 := by rw [HT.out,if_neg hneg]
    have hb2 : (bt x 519 == 1) = false := by rw [hb1];rfl
    have HNG := Lib.hid hneg
    clear hb1 hneg
    have hp' := hp.sub (H' := [⟨gl,3,tab (bt x) 520⟩]) (by repeat (first|exact sb0|apply sb2|apply sb3))
    clear hp
    have hp := hp'
    clear hp'
    go_wp2_with (first|((with_reducible apply Qai hp);exact zt rfl;exact ii;exact ii;(exact zio rfl);simp only [zp,zq,z0,z1])|((with_reducible apply Qar);exact zx rfl;exact zk rfl;exact ii;(exact OneTy.size);omega;omega;((try simp only [m0,Int.reduceToNat,m1,m2,Nat.reduceMul,Nat.reduceAdd,m3,m4,m5,n0]);exact rfl);simp only [zp,zq,z0,z1]))
    clear hb2
    go_loopw [6] (fun i wr => ∃ k : Nat,k ≤ 520 ∧ i = .int .i64 k ∧ x % 2 ^ k = 0 ∧ Hp [] w [⟨gl,3,tab (bt x) 520⟩] wr) (fun i _ => 520 - (intOf i).toNat)
    case atStart => exact ⟨0,by omega,rfl,by rw [Int.pow_zero,Int.emod_one],hp⟩
    case round =>
      clear hp
      obtain ⟨k,hk,rfl,hlow,hp⟩ := hrel
      have HLO := Lib.hid hlow
      clear hlow
      by_cases hk1 : k < 520
      · have hk2 : (k : Int) < 520 := by omega
        by_cases hb : bt x k = 1
        · have hb2 : (bt x k == 1) = true := by rw [hb];rfl
          have e : sgn x = 1 := by unfold sgn;rw [if_neg (show ¬ x < 0 by have := HNG.out;omega),if_neg (low_one hb)]
          have HEE := Lib.hid e
          clear hb e
          go_wp2_with (first|((with_reducible apply Qai hp);exact zt rfl;exact ii;exact ii;(exact Qet (by omega));simp only [zp,zq,z0,z1])|((with_reducible apply Qar);exact zx rfl;exact zk rfl;exact ii;(exact OneTy.size);omega;omega;((try simp only [m0,Int.reduceToNat,m1,m2,Nat.reduceMul,Nat.reduceAdd,m3,m4,m5,n0]);exact rfl);simp only [zp,zq,z0,z1]))
          exact bodyPost_ret (Qaa rfl rfl) rfl ⟨by rw [HEE.out];rfl,hp.keep⟩
        · have hb2 : (bt x k == 1) = false := by simp [hb]
          have HB := Lib.hid hb
          clear hb
          go_wp2_with (first|((with_reducible apply Qai hp);exact zt rfl;exact ii;exact ii;(exact Qet (by omega));simp only [zp,zq,z0,z1])|((with_reducible apply Qar);exact zx rfl;exact zk rfl;exact ii;(exact OneTy.size);omega;omega;((try simp only [m0,Int.reduceToNat,m1,m2,Nat.reduceMul,Nat.reduceAdd,m3,m4,m5,n0]);exact rfl);simp only [zp,zq,z0,z1]))
          go_roundw
          case rel => exact ⟨k + 1,by omega,by go_num,low_step HLO.out (by have := HB.out;have := Qhe x k;omega),hp⟩
          case measure => simp [intOf];omega
      · obtain rfl : k = 520 := by omega
        have e : sgn x = 0 := by rw [HL.out (by have := HNG.out;omega) HR.out.2 HLO.out];rfl
        have HEE := Lib.hid e
        clear e
        rw [show ((520 : Nat) : Int) = 520 from rfl]
        go_wp2_with (fail)
        exact bodyPost_ret (Qaa rfl rfl) rfl ⟨by rw [HEE.out];rfl,hp.keep⟩
/-! ### Brought in -/
/-! ### Further up -/
end Go.Proofs.YtdfdmeoalbpcdaaGreat

set_option linter.unusedVariables false
set_option maxRecDepth 100000
namespace Go.Proofs.YtdfdmeoalbpcdaaGreat
open Go Go.ChangeShapes Go.WideShapes Go.ChangeAt Go.RowKit Go.Joins
/-! ### Slices of points -/
theorem pcs_of : ∀ (ps : List P3) (bc : List Value) (off : Nat),(∀ i p,ps[i]? = some p → bc[off + i * 3]? = some (.int .i64 p.x) ∧ bc[off + i * 3 + 1]? = some (.int .i64 p.y) ∧ bc[off + i * 3 + 2]? = some (.int .i64 p.z)) → (bc.drop off).take (ps.length * 3) = pcs ps
  | [],_,_,_ => by simp [pcs]
  | p :: ps,bc,off,h => by
    obtain ⟨h0,h1,h2⟩ := h 0 p rfl
    have cons : ∀ {k : Nat} {v : Value},bc[k]? = some v → bc.drop k = v :: bc.drop (k + 1) := fun {k v} hk => by
      obtain ⟨hlt,rfl⟩ := List.getElem?_eq_some_iff.1 hk
      exact List.drop_eq_getElem_cons hlt
    simp only [Nat.zero_mul,Nat.add_zero] at h0 h1 h2
    rw [cons h0,cons h1,cons h2,List.length_cons,Nat.add_mul,Nat.one_mul,pcs]
    simp only [n1,show ps.length * 3 + 3 = (ps.length * 3 + 2) + 1 by omega]
    congr 3
    exact pcs_of ps bc (off + 1 + 1 + 1) fun i q hq => by
      have := h (i + 1) q hq
      rw [show off + 1 + 1 + 1 + i * 3 = off + (i + 1) * 3 by omega]
      exact this
/-- A slice of points that came in. -/
theorem open_points {H : Type} {enc : TypeId × Value → H} {W : World} {r : Reach} {b0 base : Nat} {spare : Nat → Bool} {held : Bool} {v : Value} {d : DataW H} {p : List MemPlace}
    (hv : Value.okWide Tryz.prog W r b0 22 v) (h : DataW.Trod enc Tryz.prog W base spare held 22 v d p) : ∃ ps : List P3,PSl W v ps ∧ ps.length ≤ maxLen ∧ ∀ q ∈ ps,q.i64 := by
  have hu := Tryz.underlying22
  have hok : Cell.ok Tryz.prog W r b0 22 v := by
    simpa only [Value.okWide,hu,Cell.okWide] using hv
  unfold Cell.ok at hok
  rw [hu] at hok
  obtain ⟨fuel,h⟩ := h
  rcases Deep.open_slice hu h with ⟨h1,_⟩|⟨a,len,cap,m,n,D,Pl,h1,_,hlc,hcm,hm,_,hx⟩
  · refine ⟨[],.inl ⟨?_,rfl⟩,Nat.zero_le _,by simp⟩
    cases v <;> first|(exact hok.elim)|(simp [Value.cells] at h1;obtain ⟨rfl,rfl,rfl⟩ := h1;rfl)
  · obtain rfl : v = .slice (some a) len cap := by
      cases v <;> first|(exact hok.elim)|(simp [Value.cells] at h1;obtain ⟨rfl,rfl,rfl⟩ := h1;rfl)
    obtain ⟨_,_,hhas⟩ := hok
    obtain ⟨_,hsp,row,cells,hshape,_⟩ := hhas
    obtain ⟨g,off,spot⟩ := a
    dsimp only at hsp hshape
    subst hsp
    obtain ⟨c,t,z,hblk⟩ : ∃ c t z,W.heap[g]? = some (.cells c t z) := by
      unfold World.shape? at hshape
      split at hshape
      · rename_i c t z hq;exact ⟨c,t,z,hq⟩
      · cases hshape
    have hlm : len ≤ m := by rw [hm];split <;> omega
    have hone : ∀ i,i < len → ∃ q : P3,q.i64 ∧ c.toList[off + i * 3]? = some (.int .i64 q.x) ∧ c.toList[off + i * 3 + 1]? = some (.int .i64 q.y) ∧ c.toList[off + i * 3 + 2]? = some (.int .i64 q.z) := by
      intro i hi
      obtain ⟨cs',hc,ht⟩ := hx i (by omega)
      rw [cellsPoint] at hc
      obtain ⟨_,hlen,hcell⟩ := World.cells?_some hc
      obtain ⟨xs,k,_,_,_,hxl,hf⟩ := DataW.trod_struct Tryz.underlying39 ht
      match xs,hxl,cs',hlen with
      | [y0,y1,y2],_,[v0,v1,v2],_ =>
        have g0 := hf 0 _ rfl
        have g1 := hf 1 _ rfl
        have g2 := hf 2 _ rfl
        have ci : Tryz.prog.cellsOf 2 = 1 := by kernel_rfl
        simp [ci] at g0 g1 g2
        obtain ⟨x,e0,_,w0⟩ := DataW.trod_int Tryz.underlying2 g0
        obtain ⟨y,e1,_,w1⟩ := DataW.trod_int Tryz.underlying2 g1
        obtain ⟨z',e2,_,w2⟩ := DataW.trod_int Tryz.underlying2 g2
        simp at e0 e1 e2
        subst e0 e1 e2
        have c0 := hcell 0 (by omega)
        have c1 := hcell 1 (by omega)
        have c2 := hcell 2 (by omega)
        simp only [Qon,cell_of_row W g _ c t z hblk] at c0 c1 c2
        refine ⟨⟨x,y,z'⟩,⟨i64_wf w0,i64_wf w1,i64_wf w2⟩,?_,?_,?_⟩
        · simpa using c0
        · simpa using c1
        · simpa using c2
    haveI : Inhabited P3 := ⟨⟨0,0,0⟩⟩
    obtain ⟨f,hf⟩ := Deep.choose_lt hone
    refine ⟨(List.range len).map f,.inr ⟨g,off,cap,c.toList,t,z,by simp,by simpa using hblk,?_⟩,by simp;omega,?_⟩
    · refine pcs_of _ _ _ fun i q hq => ?_
      simp only [List.getElem?_map,Option.map_eq_some_iff] at hq
      obtain ⟨j,hj,rfl⟩ := hq
      obtain ⟨hi,rfl⟩ := List.getElem?_eq_some_iff.1 hj
      simp only [List.length_range] at hi
      simp only [List.getElem_range]
      exact (hf i hi).2
    · intro q hq
      obtain ⟨i,hi,rfl⟩ := List.mem_map.1 hq
      exact (hf i (List.mem_range.1 hi)).1
end Go.Proofs.YtdfdmeoalbpcdaaGreat

set_option linter.unusedSimpArgs false
set_option linter.unusedVariables false
set_option maxRecDepth 100000
namespace Go.Proofs.YtdfdmeoalbpcdaaGreat
open Go Go.RowKit
set_option maxHeartbeats 1000000 in
theorem Qch (a b : Int) (ha : Fit a) (hb : Fit b) (w : World) : Calls Tryz.prog 18 #[W a,W b] w (Ret (W (fz (a * b))) w) := by
  have HC := Lib.hid (mul_any a b ha hb)
  clear ha hb
  go_enter Tryz.func18,Tryz.ntmps18
  have hp := Hp.start [] w
  go_wp2_with (first|((with_reducible apply Qau hp);exact za rfl;exact rfl;clear hp;(try clear w1);intro g w1 hp;simp only [zp,zq,z0,z1])|((with_reducible apply Qag hp);exact ii;exact rfl;clear hp;(try clear w1);intro g w1 hp;simp only [zp,zq,z0,z1])|((with_reducible apply Qab hp);exact zt rfl;exact ii;exact ii;(exact zl rfl);(simp only [n0,Nat.reduceAdd,nn];try rfl);simp only [zp,zq,z0,z1])|((with_reducible apply Qae hp);exact zt rfl;exact za rfl;exact rfl;(exact AggTy.size);exact rfl;exact ii;(simp only [n0,Nat.reduceAdd,nn];try rfl);(exact zl rfl);exact rfl;exact ii;clear hp;(try clear w1);intro w1 hp)|((with_reducible refine Qaf hp (HC.out _) ?_);clear hp;(try clear w1);intro w1 hp))
  exact bodyPost_ret (Qaa rfl ⟨_,rfl,Qac hp (Nat.le_of_ble_eq_true rfl)⟩) rfl ⟨rfl,hp.keep⟩
set_option maxHeartbeats 1000000 in
theorem Qhn (a b : Int) (ha : Fit a) (hb : Fit b) (w : World) : Calls Tryz.prog 40 #[W a,W b] w (Ret (W (fz (a + b))) w) := by
  have HC := Lib.hid (add_any a b ha hb)
  clear ha hb
  go_enter Tryz.func40,Tryz.ntmps40
  have hp := Hp.start [] w
  go_wp2_with (first|((with_reducible apply Qau hp);exact za rfl;exact rfl;clear hp;(try clear w1);intro g w1 hp;simp only [zp,zq,z0,z1])|((with_reducible apply Qag hp);exact ii;exact rfl;clear hp;(try clear w1);intro g w1 hp;simp only [zp,zq,z0,z1])|((with_reducible apply Qab hp);exact zt rfl;exact ii;exact ii;(exact zl rfl);(simp only [n0,Nat.reduceAdd,nn];try rfl);simp only [zp,zq,z0,z1])|((with_reducible apply Qae hp);exact zt rfl;exact za rfl;exact rfl;(exact AggTy.size);exact rfl;exact ii;(simp only [n0,Nat.reduceAdd,nn];try rfl);(exact zl rfl);exact rfl;exact ii;clear hp;(try clear w1);intro w1 hp)|((with_reducible refine Qaf hp (HC.out _) ?_);clear hp;(try clear w1);intro w1 hp))
  exact bodyPost_ret (Qaa rfl ⟨_,rfl,Qac hp (Nat.le_of_ble_eq_true rfl)⟩) rfl ⟨rfl,hp.keep⟩
set_option maxHeartbeats 1000000 in
theorem Qer (a b : Int) (ha : Fit a) (hb : Fit b) (w : World) : Calls Tryz.prog 55 #[W a,W b] w (Ret (W (fz (a - b))) w) := by
  have HC := Lib.hid (sub_any a b ha hb)
  clear ha hb
  go_enter Tryz.func55,Tryz.ntmps55
  have hp := Hp.start [] w
  go_wp2_with (first|((with_reducible apply Qau hp);exact za rfl;exact rfl;clear hp;(try clear w1);intro g w1 hp;simp only [zp,zq,z0,z1])|((with_reducible apply Qag hp);exact ii;exact rfl;clear hp;(try clear w1);intro g w1 hp;simp only [zp,zq,z0,z1])|((with_reducible apply Qab hp);exact zt rfl;exact ii;exact ii;(exact zl rfl);(simp only [n0,Nat.reduceAdd,nn];try rfl);simp only [zp,zq,z0,z1])|((with_reducible apply Qae hp);exact zt rfl;exact za rfl;exact rfl;(exact AggTy.size);exact rfl;exact ii;(simp only [n0,Nat.reduceAdd,nn];try rfl);(exact zl rfl);exact rfl;exact ii;clear hp;(try clear w1);intro w1 hp)|((with_reducible refine Qaf hp (HC.out _) ?_);clear hp;(try clear w1);intro w1 hp))
  exact bodyPost_ret (Qaa rfl ⟨_,rfl,Qac hp (Nat.le_of_ble_eq_true rfl)⟩) rfl ⟨rfl,hp.keep⟩
theorem Qfu (a b : P3) (h : (a.sub b).i64) (w : World) : Calls Tryz.prog 50 #[PV a,PV b] w (Ret (PV (a.sub b)) w) := by
  obtain ⟨⟨h1,h2⟩,⟨h3,h4⟩,h5,h6⟩ := h
  obtain ⟨x,y,z⟩ := a
  obtain ⟨u,v,t⟩ := b
  dsimp only [P3.sub] at *
  go_enter Tryz.func50,Tryz.ntmps50
  have hp := Hp.start [] w
  go_wp2_with (first|((with_reducible apply Qau hp);exact za rfl;exact rfl;clear hp;(try clear w1);intro g w1 hp;simp only [zp,zq,z0,z1])|((with_reducible apply Qag hp);exact ii;exact rfl;clear hp;(try clear w1);intro g w1 hp;simp only [zp,zq,z0,z1])|((with_reducible apply Qai hp);exact zt rfl;exact ii;exact ii;(exact zio rfl);simp only [zp,zq,z0,z1])|((with_reducible apply Qae hp);exact zt rfl;exact za rfl;exact rfl;(exact AggTy.size);exact rfl;exact ii;(simp only [n0,Nat.reduceAdd,nn];try rfl);(exact zl rfl);exact rfl;exact ii;clear hp;(try clear w1);intro w1 hp))
  exact bodyPost_ret (Qaa rfl ⟨_,rfl,Qac hp (Nat.le_of_ble_eq_true rfl)⟩) rfl ⟨rfl,hp.keep⟩
/-- A span's square, as the program reckons it. -/
def sqF (x y z : Int) : Int := fz (fz (fz (x * x) + fz (y * y)) + fz (z * z))
theorem sqF_fit (x y z : Int) : Fit (sqF x y z) := Qbx _
set_option maxHeartbeats 2000000 in
theorem Qha (x y z : Int) (hx : Fit x) (hy : Fit y) (hz0 : Fit z) (w : World) : Calls Tryz.prog 19 #[Sv x y z] w (Ret (W (sqF x y z)) w) := by
  unfold sqF
  have T1 := Lib.hid (Qch x x hx hx)
  have T2 := Lib.hid (Qch y y hy hy)
  have T3 := Lib.hid (Qch z z hz0 hz0)
  have P1 := Lib.hid (Qhn (fz (x * x)) (fz (y * y)) (Qbx _) (Qbx _))
  have P2 := Lib.hid (Qhn (fz (fz (x * x) + fz (y * y))) (fz (z * z)) (Qbx _) (Qbx _))
  clear hx hy hz0
  go_enter Tryz.func19,Tryz.ntmps19
  have hp := Hp.start [] w
  go_upto_region 1 with (first|((with_reducible apply Qau hp);(exact za rfl);exact rfl;clear hp;(try clear w1);intro g w1 hp;simp only [zp,zq,z0,z1])|((with_reducible apply Qag hp);exact ii;exact rfl;clear hp;(try clear w1);intro g w1 hp;simp only [zp,zq,z0,z1]))
  have hq := hp
  refine Qad hp hq [17] (.q 0 (.q 1 (.q 2 (.q 3 (.q 5 (.q 6 (.q 7 (.q 8 (.q 11 (.q 12 (.q 13 (.q 14 (.l 4 (.l 9 (.l 10 (.l 15 (.l 16 (.l 17 .nil)))))))))))))))))) (by kernel_rfl) (by kernel_rfl) ?_
  clear hp hq;(try clear w1);intro w1 hp hq
  repeat' (first|(((with_reducible apply sd_q);exact zo rfl);(first|((with_reducible apply Qah hp);exact rfl;exact zt rfl;exact ii;exact ii;(exact zl rfl);(simp only [n0,Nat.reduceAdd,nn];try rfl);simp only [zp,zq,z0,z1])|((with_reducible apply Qaj hp);exact rfl;(focus (intro _;go_simp;(try go_ints);try with_reducible rfl));simp only [zp,zq,z0,z1])))|(((with_reducible apply sd_l);exact zo rfl);(first|((with_reducible apply Qap hp);exact rfl;(focus (intro _;go_simp;try first|with_reducible rfl|exact ⟨rfl,rfl⟩));(with_reducible first|exact fun w => T1.out w|exact fun w => T2.out w|exact fun w => T3.out w|exact fun w => P1.out w|exact fun w => P2.out w);exact hq;clear hp hq;(try clear w1);intro w1 hp hq;simp only [zp,zq,z0,z1])|((with_reducible apply Qbb hq);exact rfl;exact zt rfl;(exact za rfl);exact rfl;(exact AggTy.size);exact rfl;exact ii;(simp only [n0,Nat.reduceAdd,nn];try rfl);(exact zl rfl);exact rfl;exact ii;exact rfl;clear hp hq;(try clear w1);intro w1 hq;have hp := True.intro)))|((with_reducible apply Qao);clear hp;have hp := hq;clear hq))
  go_wp2
  exact bodyPost_ret (Qaa rfl ⟨_,rfl,Qac hp (Nat.le_of_ble_eq_true rfl)⟩) rfl ⟨rfl,hp.keep⟩
/-- A nearest one, as it lies. -/
abbrev NrV (x y z d : Int) (s : Value) : Value := .agg #[.int .u64 (lb (x) 0),.int .u64 (lb (x) 1),.int .u64 (lb (x) 2),.int .u64 (lb (x) 3),.int .u64 (lb (x) 4),.int .u64 (lb (x) 5),.int .u64 (lb (x) 6),.int .u64 (lb (x) 7),.int .u64 (lb (y) 0),.int .u64 (lb (y) 1),.int .u64 (lb (y) 2),.int .u64 (lb (y) 3),.int .u64 (lb (y) 4),.int .u64 (lb (y) 5),.int .u64 (lb (y) 6),.int .u64 (lb (y) 7),.int .u64 (lb (z) 0),.int .u64 (lb (z) 1),.int .u64 (lb (z) 2),.int .u64 (lb (z) 3),.int .u64 (lb (z) 4),.int .u64 (lb (z) 5),.int .u64 (lb (z) 6),.int .u64 (lb (z) 7),.int .u64 (lb (d) 0),.int .u64 (lb (d) 1),.int .u64 (lb (d) 2),.int .u64 (lb (d) 3),.int .u64 (lb (d) 4),.int .u64 (lb (d) 5),.int .u64 (lb (d) 6),.int .u64 (lb (d) 7),s]
def alF (x y z : Int) (p : P3) : Int := (acc (nth x y z) (nth p.x p.y p.z) [0,1,2]).getD 0
/-- Is p past it? -/
def pastF (x y z d : Int) (p : P3) : Bool := decide (cmp (fz (alF x y z p * d)) (sqF x y z) < 0)
set_option maxHeartbeats 4000000 in
theorem spast_core (x y z d : Int) (p : P3) (s : Value) (al pd sq cc : Int) (ok : Bool) (AL : Hid (∀ w,Calls Tryz.prog 16 #[Sv x y z,Pv p.x p.y p.z] w (Ret (.tuple #[W al,.bool ok]) w))) (T1 : Hid (∀ w,Calls Tryz.prog 18 #[W al,W d] w (Ret (W pd) w)))
    (S1 : Hid (∀ w,Calls Tryz.prog 19 #[Sv x y z] w (Ret (W sq) w))) (C1 : Hid (∀ w,Calls Tryz.prog 17 #[W pd,W sq] w (Ret (.int .i64 cc) w))) (w : World) :
    Calls Tryz.prog 9 #[NrV x y z d s,PV p] w (Ret (.bool (decide (cc < 0))) w) := by
  go_enter Tryz.func9,Tryz.ntmps9
  have hp := Hp.start [] w
  go_wp2_with (first|((with_reducible apply Qau hp);exact za rfl;exact rfl;clear hp;(try clear w1);intro g w1 hp;simp only [zp,zq,z0,z1])|((with_reducible apply Qag hp);exact ii;exact rfl;clear hp;(try clear w1);intro g w1 hp;simp only [zp,zq,z0,z1])|((with_reducible apply Qab hp);exact zt rfl;exact ii;exact ii;(exact zl rfl);(simp only [n0,Nat.reduceAdd,nn];try rfl);simp only [zp,zq,z0,z1])|((with_reducible apply Qae hp);exact zt rfl;exact za rfl;exact rfl;(exact AggTy.size);exact rfl;exact ii;(simp only [n0,Nat.reduceAdd,nn];try rfl);(exact zl rfl);exact rfl;exact ii;clear hp;(try clear w1);intro w1 hp)|((with_reducible refine Qaf hp (AL.out _) ?_);clear hp;(try clear w1);intro w1 hp))
  have hq := hp
  refine Qad hp hq [] (.q 0 (.q 1 (.q 2 (.q 4 (.q 5 (.l 3 (.l 6 (.l 7 (.q 8 (.q 9 .nil)))))))))) (by kernel_rfl) (by kernel_rfl) ?_
  clear hp hq;(try clear w1);intro w1 hp hq
  repeat' (first|(((with_reducible apply sd_q);exact zo rfl);(first|((with_reducible apply Qah hp);exact rfl;exact zt rfl;exact ii;exact ii;(exact zl rfl);(simp only [n0,Nat.reduceAdd,nn];try rfl);simp only [zp,zq,z0,z1])|((with_reducible apply Qat hp);exact zb rfl;simp only [zp,zq,z0,z1])|((with_reducible apply Qaj hp);exact rfl;(focus (intro _;go_simp;(try go_ints);try with_reducible rfl));simp only [zp,zq,z0,z1])))|(((with_reducible apply sd_l);exact zo rfl);((with_reducible apply Qap hp);exact rfl;(focus (intro _;go_simp;try first|with_reducible rfl|exact ⟨rfl,rfl⟩));(with_reducible first|exact fun w => T1.out w|exact fun w => S1.out w|exact fun w => C1.out w);exact hq;clear hp hq;(try clear w1);intro w1 hp hq;simp only [zp,zq,z0,z1]))|((with_reducible apply Qao);clear hp;have hp := hq;clear hq))
  go_wp2
  exact bodyPost_ret (Qaa rfl rfl) rfl ⟨rfl,hp.keep⟩
theorem step_fit {a b : Fin 3 → Int} {o : Option Int} {i : Fin 3} {s : Int} (h : step a b o i = some s) : Fit s := by
  unfold step at h
  cases o with
  | none => cases h
  | some u =>
    simp only [Option.bind_some] at h
    split at h
    · rename_i hf
      injection h with h
      rw [← h]
      exact hf.2
    · cases h
theorem alF_fit (x y z : Int) (p : P3) : Fit (alF x y z p) := by
  unfold alF
  cases h : acc (nth x y z) (nth p.x p.y p.z) [0,1,2] with
  | none => exact Qbp
  | some s =>
    rw [show ([0,1,2] : List (Fin 3)) = [0,1] ++ [2] from rfl,Qhu] at h
    exact step_fit h
theorem spast_any (x y z d : Int) (hx : Fit x) (hy : Fit y) (hz0 : Fit z) (hd : Fit d) (p : P3) (hp : p.i64) (s : Value) (w : World) : Calls Tryz.prog 9 #[NrV x y z d s,PV p] w (Ret (.bool (pastF x y z d p)) w) :=
  spast_core x y z d p s _ _ _ _ _ (Lib.hid (Qjm x y z p.x p.y p.z hx hy hz0 hp.1 hp.2.1 hp.2.2)) (Lib.hid (Qch _ _ (alF_fit x y z p) hd)) (Lib.hid (Qha x y z hx hy hz0)) (Lib.hid (cmp_any _ _ (Qbx _) (sqF_fit x y z))) w
end Go.Proofs.YtdfdmeoalbpcdaaGreat
