/-
  Package wide: Shr (contract).
  Package wide: Shl, Int, Bits (contracts).
  Package ninepinref01: Cmp, Shl; package ninepinref02: Within (contracts).
  The arguments of a law: slices of points.
  Points moved alike: no answer of package orient changes (plain).
-/
import Derived.Test.YtdfdmeoalbpcdaaDb
import Derived.Test.YtdfdmeoalbpcdaaDd
import Derived.Test.YtdfdmeoalbpcdaaBg
import Derived.Test.YtdfdmeoalbpcdaaDf
import Derived.Test.YtdfdmeoalbpcdaaGb
import Derived.Test.YtdfdmeoalbpcdaaDa
import Derived.Test.YtdfdmeoalbpcdaaCa
import Derived.Test.YtdfdmeoalbpcdaaLk
import Derived.Test.YtdfdmeoalbpcdaaHb
import Derived.WalkKit
import Derived.ProofKit
import Derived.OpenShut
import Derived.ShutString
import Derived.ChangeOld
import Derived.Below
import Derived.Lib.SmallJoins
import Derived.Deep.Slices
import Derived.Test.YtdfdmeoalbpcdaaHk
set_option linter.unusedSimpArgs false
set_option linter.unusedVariables false
set_option maxRecDepth 100000
namespace Go.Proofs.Ytdfdmeoalbpcdaa
open Go Go.RowKit
/-! ### A limb of a number that was taken down -/
/-- The limbs of a number that was taken down, so many of them. -/
def rf (x : Int) (n k : Nat) : Nat → Int := fun j => if j < k then lb (x / 2 ^ n) j else 0
end Go.Proofs.Ytdfdmeoalbpcdaa

set_option linter.unusedSimpArgs false
set_option linter.unusedVariables false
set_option maxRecDepth 100000
namespace Go.Proofs.Ytdfdmeoalbpcdaa
open Go Go.RowKit
/-- Is there such a multiple by a power of two? -/
def shok (a n : Int) : Prop := 0 ≤ n ∧ (a = 0 ∨ (n ≤ 511 ∧ Fit (a * 2 ^ n.toNat)))
instance (a n : Int) : Decidable (shok a n) := inferInstanceAs (Decidable (_ ∧ (_ ∨ (_ ∧ _))))
/-! ### Small ones -/
instance (n : Int) : Decidable (I64 n) := inferInstanceAs (Decidable (_ ∧ _))
end Go.Proofs.Ytdfdmeoalbpcdaa

set_option linter.unusedSimpArgs false
set_option linter.unusedVariables false
set_option maxRecDepth 100000
namespace Go.Proofs.Ytdfdmeoalbpcdaa
open Go Go.RowKit
attribute [local irreducible] wpList
theorem bt_top {x : Int} {E : Nat} (h : -(2 ^ E) ≤ x ∧ x < 2 ^ E) : bt x E = if x < 0 then 1 else 0 := by
  unfold bt
  have hp := Qaj E
  generalize (2 : Int) ^ E = P at *
  split
  · have : x / P = -1 := by
      rw [Int.ediv_eq_iff_of_pos hp]
      omega
    rw [this];rfl
  · rw [Int.ediv_eq_zero_of_lt (by omega) (by omega)];rfl
theorem low_step {x : Int} {k : Nat} (h : x % 2 ^ k = 0) (hb : bt x k = 0) : x % 2 ^ (k + 1) = 0 := by
  rw [Int.pow_succ,Qbv x _ _ (Qaj k) (by omega),h]
  unfold bt at hb
  rw [hb]
  omega
theorem low_one {x : Int} {k : Nat} (hb : bt x k = 1) : x ≠ 0 := fun h => by
  rw [h,Qgx] at hb
  omega
theorem low_all {x : Int} {E : Nat} (h0 : 0 ≤ x) (h1 : x < 2 ^ E) (h : x % 2 ^ (E + 1) = 0) : x = 0 := by
  rw [Int.emod_eq_of_lt h0 (by rw [Int.pow_succ];have := Qaj E;omega)] at h
  exact h
theorem cmp_room {a b : Int} (ha : Fit a) (hb : Fit b) {E : Nat} (hE : E = 519) : -(2 ^ E) ≤ a + -b ∧ a + -b < 2 ^ E := by
  obtain ⟨c,hc⟩ : ∃ c : Nat,c = 511 := ⟨_,rfl⟩
  have h4 : (2 : Int) ^ E = 2 ^ c * 2 ^ (E - c) := Qdh (by omega)
  rw [← Qhu hc,show E - c = 8 by omega] at h4
  have : (2 : Int) ^ 8 = 256 := rfl
  rw [h4,this]
  unfold Fit M511 at *
  omega
set_option maxHeartbeats 4000000 in
theorem Qnn (a b : Int) (ha : Fit a) (hb : Fit b) (w : World) : Calls Try.prog 30 #[W a,W b] w (Ret (.int .i64 (sgn (a - b))) w) := by
  rw [Int.sub_eq_add_neg]
  have HT := Lib.hid (bt_top (cmp_room ha hb rfl))
  have HL := Lib.hid (@low_all (a + -b) 519)
  have HR := Lib.hid (cmp_room ha hb rfl)
  have RP : Hid (∀ v1 v2 w,BSl w v1 a 520 → BSl w v2 (-b) 520 → Calls Try.prog 53 #[v1,v2] w (RetN (fun g => .slice (some ⟨g,0,none⟩) 520 520) 3 (tab (bt (a + -b)) 520) w)) := Lib.hid fun v1 v2 w h1 h2 => Qfo a (-b) 520 (by omega) v1 v2 w h1 h2
  generalize a + -b = x at *
  have LA := Lib.hid fun w => Qha a ha w
  have LB' := Lib.hid fun w => Qha b hb w
  clear ha hb
  go_enter Try.func30,Try.ntmps30
  have hp := Hp.start [] w
  go_upto_region 1 with ((with_reducible apply Qav hp);(exact za rfl);exact rfl;clear hp;(try clear w1);intro g w1 hp;simp only [zp,zq,z0,z1])
  rename_i ga K hK
  obtain ⟨gb,rfl⟩ : ∃ k : Nat,k = g := ⟨_,rfl⟩
  have hq := hp
  refine Qac hp hq [] (.q 0 (.q 2 (.l 1 (.l 3 (.l 4 (.l 5 (.q 6 .nil))))))) (by kernel_rfl) (by kernel_rfl) ?_
  clear hp hq;(try clear w1);intro w1 hp hq
  repeat' (first|(((with_reducible apply sd_q);exact zo rfl);(first|((with_reducible apply Qah hp);exact rfl;exact zt rfl;exact ii;exact ii;(exact zl rfl);(simp only [n0,Nat.reduceAdd,nn];try rfl);simp only [zp,zq,z0,z1])|((with_reducible apply Qan hp);exact zs rfl;simp only [zp,zq,z0,z1])))|(((with_reducible apply sd_l);exact zo rfl);(first|((with_reducible apply Qde hq);(repeat (first|exact sb0|apply sb3));exact rfl;(focus (intro _;go_simp;try first|with_reducible rfl|exact ⟨rfl,rfl⟩));(with_reducible exact LA.out _);clear hp hq;(try clear w1);intro g w1 hp hq;simp only [zp,zq,z0,z1])|((with_reducible apply Qde hq);(repeat (first|exact sb0|apply sb3));exact rfl;(focus (intro _;go_simp;try first|with_reducible rfl|exact ⟨rfl,rfl⟩));(with_reducible exact LB'.out _);clear hp hq;(try clear w1);intro g w1 hp hq;simp only [zp,zq,z0,z1])|((with_reducible apply Qde hq);(repeat (first|exact sb0|apply sb3));exact rfl;(focus (intro _;go_simp;try first|with_reducible rfl|exact ⟨rfl,rfl⟩));(with_reducible exact Qcp b 520 (by omega) _ _ (BSl.of hq.blk));clear hp hq;(try clear w1);intro g w1 hp hq;simp only [zp,zq,z0,z1])|((with_reducible apply Qde hq);(repeat (first|exact sb0|apply sb3));exact rfl;(focus (intro _;go_simp;try first|with_reducible rfl|exact ⟨rfl,rfl⟩));(with_reducible exact RP.out _ _ _ (BSl.of hq.blk) (BSl.of hq.blk));clear hp hq;(try clear w1);intro g w1 hp hq;simp only [zp,zq,z0,z1])))|((with_reducible apply Qam);clear hp;have hp := hq;clear hq))
  obtain ⟨gl,rfl⟩ : ∃ k : Nat,k = g := ⟨_,rfl⟩
  by_cases hneg : x < 0
  · have hb1 : bt x 519 = 1 := by rw [HT.out,if_pos hneg]
    have hb2 : (bt x 519 == 1) = true := by rw [hb1];rfl
    have e : sgn x = -1 := if_pos hneg
    have HEE := Lib.hid e
    clear hb1 e hneg
    go_wp2_with (first|((with_reducible apply Qak hp);exact zt rfl;exact ii;exact ii;(exact zio rfl);simp only [zp,zq,z0,z1])|((with_reducible apply Qas);exact zx rfl;exact zk rfl;exact ii;(exact OneTy.size);omega;omega;((try simp only [m0,Int.reduceToNat,m1,m2,Nat.reduceMul,Nat.reduceAdd,m3,m4,m5,n0]);exact rfl);simp only [zp,zq,z0,z1]))
    exact bodyPost_ret (Qaa rfl rfl) rfl ⟨by rw [HEE.out];rfl,hp.keep⟩
  · have hb1 : bt x 519 = 0 := by rw [HT.out,if_neg hneg]
    have hb2 : (bt x 519 == 1) = false := by rw [hb1];rfl
    have HNG := Lib.hid hneg
    clear hb1 hneg
    have hp' := hp.sub (H' := [⟨gl,3,tab (bt x) 520⟩]) (by repeat (first|exact sb0|apply sb2|apply sb3))
    clear hp
    have hp := hp'
    clear hp'
    go_wp2_with (first|((with_reducible apply Qak hp);exact zt rfl;exact ii;exact ii;(exact zio rfl);simp only [zp,zq,z0,z1])|((with_reducible apply Qas);exact zx rfl;exact zk rfl;exact ii;(exact OneTy.size);omega;omega;((try simp only [m0,Int.reduceToNat,m1,m2,Nat.reduceMul,Nat.reduceAdd,m3,m4,m5,n0]);exact rfl);simp only [zp,zq,z0,z1]))
    clear hb2
    go_loopw [6] (fun i wr => ∃ k : Nat,k ≤ 520 ∧ i = .int .i64 k ∧ x % 2 ^ k = 0 ∧ Hp [] w [⟨gl,3,tab (bt x) 520⟩] wr) (fun i _ => 520 - (intOf i).toNat)
    case atStart => exact ⟨0,by omega,rfl,by rw [Int.pow_zero,Int.emod_one],hp⟩
    case round =>
      clear hp
      obtain ⟨k,hk,rfl,hlow,hp⟩ := hrel
      have HLO := Lib.hid hlow
      clear hlow
      by_cases hk1 : k < 520
      · have hk2 : (k : Int) < 520 := by omega
        by_cases hb : bt x k = 1
        · have hb2 : (bt x k == 1) = true := by rw [hb];rfl
          have e : sgn x = 1 := by unfold sgn;rw [if_neg (show ¬ x < 0 by have := HNG.out;omega),if_neg (low_one hb)]
          have HEE := Lib.hid e
          clear hb e
          go_wp2_with (first|((with_reducible apply Qak hp);exact zt rfl;exact ii;exact ii;(exact Qdy (by omega));simp only [zp,zq,z0,z1])|((with_reducible apply Qas);exact zx rfl;exact zk rfl;exact ii;(exact OneTy.size);omega;omega;((try simp only [m0,Int.reduceToNat,m1,m2,Nat.reduceMul,Nat.reduceAdd,m3,m4,m5,n0]);exact rfl);simp only [zp,zq,z0,z1]))
          exact bodyPost_ret (Qaa rfl rfl) rfl ⟨by rw [HEE.out];rfl,hp.keep⟩
        · have hb2 : (bt x k == 1) = false := by simp [hb]
          have HB := Lib.hid hb
          clear hb
          go_wp2_with (first|((with_reducible apply Qak hp);exact zt rfl;exact ii;exact ii;(exact Qdy (by omega));simp only [zp,zq,z0,z1])|((with_reducible apply Qas);exact zx rfl;exact zk rfl;exact ii;(exact OneTy.size);omega;omega;((try simp only [m0,Int.reduceToNat,m1,m2,Nat.reduceMul,Nat.reduceAdd,m3,m4,m5,n0]);exact rfl);simp only [zp,zq,z0,z1]))
          go_roundw
          case rel => exact ⟨k + 1,by omega,by go_num,low_step HLO.out (by have := HB.out;have := Qfw x k;omega),hp⟩
          case measure => simp [intOf];omega
      · obtain rfl : k = 520 := by omega
        have e : sgn x = 0 := by rw [HL.out (by have := HNG.out;omega) HR.out.2 HLO.out];rfl
        have HEE := Lib.hid e
        clear e
        rw [show ((520 : Nat) : Int) = 520 from rfl]
        go_wp2_with (fail)
        exact bodyPost_ret (Qaa rfl rfl) rfl ⟨by rw [HEE.out];rfl,hp.keep⟩
/-! ### Brought in -/
/-! ### Further up -/
end Go.Proofs.Ytdfdmeoalbpcdaa

set_option linter.unusedVariables false
set_option maxRecDepth 100000
namespace Go.Proofs.Ytdfdmeoalbpcdaa
open Go Go.ChangeShapes Go.WideShapes Go.ChangeAt Go.RowKit Go.Joins
/-! ### Slices of points -/
theorem pcs_of : ∀ (ps : List P3) (bc : List Value) (off : Nat),(∀ i p,ps[i]? = some p → bc[off + i * 3]? = some (.int .i64 p.x) ∧ bc[off + i * 3 + 1]? = some (.int .i64 p.y) ∧ bc[off + i * 3 + 2]? = some (.int .i64 p.z)) → (bc.drop off).take (ps.length * 3) = pcs ps
  | [],_,_,_ => by simp [pcs]
  | p :: ps,bc,off,h => by
    obtain ⟨h0,h1,h2⟩ := h 0 p rfl
    have cons : ∀ {k : Nat} {v : Value},bc[k]? = some v → bc.drop k = v :: bc.drop (k + 1) := fun {k v} hk => by
      obtain ⟨hlt,rfl⟩ := List.getElem?_eq_some_iff.1 hk
      exact List.drop_eq_getElem_cons hlt
    simp only [Nat.zero_mul,Nat.add_zero] at h0 h1 h2
    rw [cons h0,cons h1,cons h2,List.length_cons,Nat.add_mul,Nat.one_mul,pcs]
    simp only [n1,show ps.length * 3 + 3 = (ps.length * 3 + 2) + 1 by omega]
    congr 3
    exact pcs_of ps bc (off + 1 + 1 + 1) fun i q hq => by
      have := h (i + 1) q hq
      rw [show off + 1 + 1 + 1 + i * 3 = off + (i + 1) * 3 by omega]
      exact this
/-- A slice of points that came in. -/
theorem Qix {H : Type} {enc : TypeId × Value → H} {W : World} {r : Reach} {b0 base : Nat} {spare : Nat → Bool} {held : Bool} {v : Value} {d : DataW H} {p : List MemPlace}
    (hv : Value.okWide Try.prog W r b0 22 v) (h : DataW.Trod enc Try.prog W base spare held 22 v d p) : ∃ ps : List P3,PSl W v ps ∧ ps.length ≤ maxLen ∧ ∀ q ∈ ps,q.i64 := by
  have hu := Try.underlying22
  have hok : Cell.ok Try.prog W r b0 22 v := by
    simpa only [Value.okWide,hu,Cell.okWide] using hv
  unfold Cell.ok at hok
  rw [hu] at hok
  obtain ⟨fuel,h⟩ := h
  rcases Deep.open_slice hu h with ⟨h1,_⟩|⟨a,len,cap,m,n,D,Pl,h1,_,hlc,hcm,hm,_,hx⟩
  · refine ⟨[],.inl ⟨?_,rfl⟩,Nat.zero_le _,by simp⟩
    cases v <;> first|(exact hok.elim)|(simp [Value.cells] at h1;obtain ⟨rfl,rfl,rfl⟩ := h1;rfl)
  · obtain rfl : v = .slice (some a) len cap := by
      cases v <;> first|(exact hok.elim)|(simp [Value.cells] at h1;obtain ⟨rfl,rfl,rfl⟩ := h1;rfl)
    obtain ⟨_,_,hhas⟩ := hok
    obtain ⟨_,hsp,row,cells,hshape,_⟩ := hhas
    obtain ⟨g,off,spot⟩ := a
    dsimp only at hsp hshape
    subst hsp
    obtain ⟨c,t,z,hblk⟩ : ∃ c t z,W.heap[g]? = some (.cells c t z) := by
      unfold World.shape? at hshape
      split at hshape
      · rename_i c t z hq;exact ⟨c,t,z,hq⟩
      · cases hshape
    have hlm : len ≤ m := by rw [hm];split <;> omega
    have hone : ∀ i,i < len → ∃ q : P3,q.i64 ∧ c.toList[off + i * 3]? = some (.int .i64 q.x) ∧ c.toList[off + i * 3 + 1]? = some (.int .i64 q.y) ∧ c.toList[off + i * 3 + 2]? = some (.int .i64 q.z) := by
      intro i hi
      obtain ⟨cs',hc,ht⟩ := hx i (by omega)
      rw [Qkt] at hc
      obtain ⟨_,hlen,hcell⟩ := World.cells?_some hc
      obtain ⟨xs,k,_,_,_,hxl,hf⟩ := DataW.trod_struct Try.underlying24 ht
      match xs,hxl,cs',hlen with
      | [y0,y1,y2],_,[v0,v1,v2],_ =>
        have g0 := hf 0 _ rfl
        have g1 := hf 1 _ rfl
        have g2 := hf 2 _ rfl
        have ci : Try.prog.cellsOf 2 = 1 := by kernel_rfl
        simp [ci] at g0 g1 g2
        obtain ⟨x,e0,_,w0⟩ := DataW.trod_int Try.underlying2 g0
        obtain ⟨y,e1,_,w1⟩ := DataW.trod_int Try.underlying2 g1
        obtain ⟨z',e2,_,w2⟩ := DataW.trod_int Try.underlying2 g2
        simp at e0 e1 e2
        subst e0 e1 e2
        have c0 := hcell 0 (by omega)
        have c1 := hcell 1 (by omega)
        have c2 := hcell 2 (by omega)
        simp only [Qma,cell_of_row W g _ c t z hblk] at c0 c1 c2
        refine ⟨⟨x,y,z'⟩,⟨Qkh w0,Qkh w1,Qkh w2⟩,?_,?_,?_⟩
        · simpa using c0
        · simpa using c1
        · simpa using c2
    haveI : Inhabited P3 := ⟨⟨0,0,0⟩⟩
    obtain ⟨f,hf⟩ := Deep.choose_lt hone
    refine ⟨(List.range len).map f,.inr ⟨g,off,cap,c.toList,t,z,by simp,by simpa using hblk,?_⟩,by simp;omega,?_⟩
    · refine pcs_of _ _ _ fun i q hq => ?_
      simp only [List.getElem?_map,Option.map_eq_some_iff] at hq
      obtain ⟨j,hj,rfl⟩ := hq
      obtain ⟨hi,rfl⟩ := List.getElem?_eq_some_iff.1 hj
      simp only [List.length_range] at hi
      simp only [List.getElem_range]
      exact (hf i hi).2
    · intro q hq
      obtain ⟨i,hi,rfl⟩ := List.mem_map.1 hq
      exact (hf i (List.mem_range.1 hi)).1
end Go.Proofs.Ytdfdmeoalbpcdaa

set_option linter.unusedSimpArgs false
set_option linter.unusedVariables false
namespace Go.Proofs.Ytdfdmeoalbpcdaa
open Go Go.RowKit
/-- A point, moved. -/
def P3.add (a b : P3) : P3 := ⟨a.x + b.x,a.y + b.y,a.z + b.z⟩
end Go.Proofs.Ytdfdmeoalbpcdaa
