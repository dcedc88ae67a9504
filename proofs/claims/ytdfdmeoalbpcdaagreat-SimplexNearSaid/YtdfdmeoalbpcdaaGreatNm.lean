/-
  ninepinref15.Near (contract; printed by gen_nm.py).
-/
import Derived.Test.YtdfdmeoalbpcdaaGreatNl
import Derived.Test.YtdfdmeoalbpcdaaGreatBi
set_option linter.unusedSimpArgs false
set_option linter.unusedVariables false
set_option maxRecDepth 100000
namespace Go.Proofs.YtdfdmeoalbpcdaaGreat
open Go Go.RowKit
attribute [local irreducible] wpList
/-! ### The first choice -/
theorem find_one (P : List Nat → Bool) (n i : Nat) (h4 : n ≤ 4) (hi : i < n) (h : ∀ t,t < i → P [t] = false) (hs : P [i] = true) : (chs n).find? P = some [i] := by
  have hn : n = 1 ∨ n = 2 ∨ n = 3 ∨ n = 4 := by omega
  have hi' : i = 0 ∨ i = 1 ∨ i = 2 ∨ i = 3 := by omega
  rcases hn with rfl|rfl|rfl|rfl <;> rcases hi' with rfl|rfl|rfl|rfl <;> first|omega|simp [chs,List.find?,hs,h]
theorem find_two (P : List Nat → Bool) (n i k : Nat) (h4 : n ≤ 4) (hi : i < k) (hk : k < n) (h1 : ∀ t,t < n → P [t] = false) (h2 : ∀ a b,a < b → b < n → (a < i ∨ a = i ∧ b < k) → P [a,b] = false) (hs : P [i,k] = true) : (chs n).find? P = some [i,k] := by
  have hn : n = 1 ∨ n = 2 ∨ n = 3 ∨ n = 4 := by omega
  have hi' : i = 0 ∨ i = 1 ∨ i = 2 := by omega
  have hk' : k = 1 ∨ k = 2 ∨ k = 3 := by omega
  rcases hn with rfl|rfl|rfl|rfl <;> rcases hi' with rfl|rfl|rfl <;> rcases hk' with rfl|rfl|rfl <;> first|omega|simp [chs,List.find?,hs,h1,h2]
theorem find_three (P : List Nat → Bool) (n i k j : Nat) (h4 : n ≤ 4) (hi : i < k) (hk : k < j) (hj : j < n) (h1 : ∀ t,t < n → P [t] = false) (h2 : ∀ a b,a < b → b < n → P [a,b] = false) (h3 : ∀ a b c,a < b → b < c → c < n → (a < i ∨ a = i ∧ (b < k ∨ b = k ∧ c < j)) → P [a,b,c] = false) (hs : P [i,k,j] = true) : (chs n).find? P = some [i,k,j] := by
  have hn : n = 3 ∨ n = 4 := by omega
  have hi' : i = 0 ∨ i = 1 := by omega
  have hk' : k = 1 ∨ k = 2 := by omega
  have hj' : j = 2 ∨ j = 3 := by omega
  rcases hn with rfl|rfl <;> rcases hi' with rfl|rfl <;> rcases hk' with rfl|rfl <;> rcases hj' with rfl|rfl <;> first|omega|simp [chs,List.find?,hs,h1,h2,h3]
theorem find_four (P : List Nat → Bool) (n : Nat) (h4 : n ≤ 4) (h1 : ∀ t,t < n → P [t] = false) (h2 : ∀ a b,a < b → b < n → P [a,b] = false) (h3 : ∀ a b c,a < b → b < c → c < n → P [a,b,c] = false) (ks : List Nat) (hs : (chs n).find? P = some ks) : n = 4 ∧ ks = [0,1,2,3] ∧ P [0,1,2,3] = true := by
  have hn : n = 0 ∨ n = 1 ∨ n = 2 ∨ n = 3 ∨ n = 4 := by omega
  rcases hn with rfl|rfl|rfl|rfl|rfl
  · simp [chs] at hs
  · simp [chs,List.find?,h1] at hs
  · simp [chs,List.find?,h1,h2] at hs
  · simp [chs,List.find?,h1,h2,h3] at hs
  · refine ⟨rfl,?_⟩
    cases hp : P [0,1,2,3] with
    | false => simp [chs,List.find?,h1,h2,h3,hp] at hs
    | true =>
      simp [chs,List.find?,h1,h2,h3,hp] at hs
      exact ⟨hs.symm,rfl⟩
/-- The numbers of a choice. -/
def xnv (l : List P3) (ks : List Nat) : P3 × Int := nrm (cmb (cw (pts l ks)) (pts l ks)) (wd (pts l ks))
theorem Qnf {l : List P3} {ks : List Nat} (h : Qea l = 0 ∧ Qgv l = some ks) : Qda l = ks ∧ Qdt l = xnv l ks := by
  obtain ⟨hE,hF⟩ := h
  have e : Qda l = ks := by unfold Qda;rw [if_pos hE,hF];rfl
  refine ⟨e,?_⟩
  unfold Qdt xnv
  rw [if_pos hE,e]
set_option maxHeartbeats 16000000 in
theorem near15_core (l : List P3) (n : Nat) (Hn : Hid (n = l.length)) (h1 : 1 ≤ n) (h4 : n ≤ 4) (g0 off cap : Nat) (w : World) (P : List Nat → Bool)
    (HE : Hid (Qea l = 0 ∧ ∀ ks,(chs n).find? P = some ks → Qgv l = some ks)) (HX : Hid (∃ ks,(chs n).find? P = some ks))
    (FN : Hid (∀ w1,Keep [] w w1 → Calls Tryz.prog 14 #[.slice (some ⟨g0,off,none⟩) n cap] w1 (Ret (.bool true) w1)))
    (TR : Hid (∀ (ks : List Nat) (g cap1 : Nat) (w1 : World),ks ≠ [] → ks.length ≤ 4 → (∀ k ∈ ks,k < n) → Keep [] w w1 → w1.heap[g]? = some (.cells (ks.map fun k : Nat => Value.int .i64 (k : Int)).toArray 3 (0,0)) → Calls Tryz.prog 15 #[.slice (some ⟨g0,off,none⟩) n cap,.slice (some ⟨g,0,none⟩) ks.length cap1] w1 (Ret (.tuple #[if P ks = true then NrV (xnv l ks).1.x (xnv l ks).1.y (xnv l ks).1.z (xnv l ks).2 (.slice (some ⟨g,0,none⟩) ks.length cap1) else NrZ,.bool (P ks)]) w1))) :
    Calls Tryz.prog 6 #[.slice (some ⟨g0,off,none⟩) n cap] w (Qfi (Qdt l).1 (Qdt l).2 (Qda l) 0 w) := by
  have hn1 : ¬ (n : Int) < 1 := by omega
  have hn4 : ¬ (4 : Int) < n := by omega
  go_enter Tryz.func6,Tryz.ntmps6
  have hp := Hp.start [] w
  go_wp2_with (first|((with_reducible apply Qag hp);exact ii;exact rfl;clear hp;(try clear w1);intro g w1 hp;simp only [zp,zq,z0,z1])|((with_reducible refine Qaf hp (FN.out _ hp.keep) ?_);clear hp;(try clear w1);intro w1 hp)|((with_reducible apply Qbm);exact rfl))
  obtain ⟨g2,rfl⟩ : ∃ z : Nat,z = g := ⟨_,rfl⟩
  go_loopw [5] (fun iv wr => ∃ i : Nat,i ≤ n ∧ iv = .int .i64 i ∧ Hid (∀ t,t < i → P [t] = false) ∧ Hp [] w [⟨g2,32,(.int .u64 0 :: .int .u64 0 :: .int .u64 0 :: .int .u64 0 :: .int .u64 0 :: .int .u64 0 :: .int .u64 0 :: .int .u64 0 :: .int .u64 0 :: .int .u64 0 :: .int .u64 0 :: .int .u64 0 :: .int .u64 0 :: .int .u64 0 :: .int .u64 0 :: .int .u64 0 :: .int .u64 0 :: .int .u64 0 :: .int .u64 0 :: .int .u64 0 :: .int .u64 0 :: .int .u64 0 :: .int .u64 0 :: .int .u64 0 :: .int .u64 0 :: .int .u64 0 :: .int .u64 0 :: .int .u64 0 :: .int .u64 0 :: .int .u64 0 :: .int .u64 0 :: .int .u64 0 :: .slice none 0 0 :: [])⟩] wr) (fun iv _ => n - (intOf iv).toNat)
  case atStart => exact ⟨0,by omega,rfl,fun t h => absurd h (by omega),hp⟩
  case round =>
    clear hp
    obtain ⟨i,hi,rfl,hall,hp⟩ := hrel
    by_cases hin : (i : Int) < n
    · cases hP : P [i] with
      | true =>
        have T1 : Hid (∀ (g cap1 : Nat) (w1 : World),Keep [] w w1 → w1.heap[g]? = some (.cells (([[.int .i64 (i : Nat)]].flatten : List Value)).toArray 3 (0,0)) → Calls Tryz.prog 15 #[.slice (some ⟨g0,off,none⟩) n cap,.slice (some ⟨g,0,none⟩) 1 cap1] w1 (Ret (.tuple #[NrV (xnv l [i]).1.x (xnv l [i]).1.y (xnv l [i]).1.z (xnv l [i]).2 (.slice (some ⟨g,0,none⟩) 1 cap1),.bool true]) w1)) := fun g cap1 w1 hk hb => by
          have := TR.out [i] g cap1 w1 (by simp) (by simp) (by intro q hq;simp at hq;omega) hk hb
          rw [hP] at this
          exact this
        have EF : Hid (Qea l = 0 ∧ Qgv l = some [i]) := ⟨HE.out.1,HE.out.2 _ (find_one P n i h4 (by omega) hall.out hP)⟩
        clear hP hall TR HX
        go_wp2_with (first|((with_reducible apply Qav hp);exact ii;(exact OneTy.size);exact ii;exact zl rfl;decide;exact (rfl : _ = Qbk 0 [Value.int .i64 _]);exact rfl;exact (rfl : _ = List.map (fun x : List Value => x.toArray) [[Value.int .i64 _]]);(intro l hl <;> simp only [List.mem_cons,List.not_mem_nil,or_false] at hl <;> rcases hl with rfl|rfl|rfl|rfl <;> rfl);exact rfl;clear hp;(try clear w1);intro g w1 hp;simp only [zp,zq,z0,z1])|((with_reducible apply Qag hp);exact ii;exact rfl;clear hp;(try clear w1);intro g w1 hp;simp only [zp,zq,z0,z1])|((with_reducible apply Qab hp);exact zt rfl;exact ii;exact ii;(exact zl rfl);(simp only [n0,Nat.reduceAdd,nn];try rfl);simp only [zp,zq,z0,z1])|((with_reducible apply Qae hp);exact zt rfl;exact za rfl;exact rfl;(exact AggTy.size);exact rfl;exact ii;(simp only [n0,Nat.reduceAdd,nn];try rfl);(exact zl rfl);exact rfl;exact ii;clear hp;(try clear w1);intro w1 hp)|((with_reducible refine Qaf hp (T1.out _ _ _ hp.keep hp.blk) ?_);clear hp;(try clear w1);intro w1 hp))
        obtain ⟨eK,eN⟩ := Qnf EF.out
        rw [eN,eK]
        exact bodyPost_ret (Qan rfl ⟨_,rfl,Qac hp (Nat.le_of_ble_eq_true rfl)⟩ rfl) rfl ⟨.slice (some ⟨_,0,none⟩) 1 _,rfl,hp.keep,.inr ⟨_,_,[],rfl,hp.blk⟩,fun g o n c e => by cases e;exact hp.fresh⟩
      | false =>
        have T1 : Hid (∀ (g cap1 : Nat) (w1 : World),Keep [] w w1 → w1.heap[g]? = some (.cells (([[.int .i64 (i : Nat)]].flatten : List Value)).toArray 3 (0,0)) → Calls Tryz.prog 15 #[.slice (some ⟨g0,off,none⟩) n cap,.slice (some ⟨g,0,none⟩) 1 cap1] w1 (Ret (.tuple #[NrZ,.bool false]) w1)) := fun g cap1 w1 hk hb => by
          have := TR.out [i] g cap1 w1 (by simp) (by simp) (by intro q hq;simp at hq;omega) hk hb
          rw [hP] at this
          exact this
        have HP := Lib.hid hP
        clear hP
        go_wp2_with (first|((with_reducible apply Qav hp);exact ii;(exact OneTy.size);exact ii;exact zl rfl;decide;exact (rfl : _ = Qbk 0 [Value.int .i64 _]);exact rfl;exact (rfl : _ = List.map (fun x : List Value => x.toArray) [[Value.int .i64 _]]);(intro l hl <;> simp only [List.mem_cons,List.not_mem_nil,or_false] at hl <;> rcases hl with rfl|rfl|rfl|rfl <;> rfl);exact rfl;clear hp;(try clear w1);intro g w1 hp;simp only [zp,zq,z0,z1])|((with_reducible apply Qag hp);exact ii;exact rfl;clear hp;(try clear w1);intro g w1 hp;simp only [zp,zq,z0,z1])|((with_reducible apply Qae hp);exact zt rfl;exact za rfl;exact rfl;(exact AggTy.size);exact rfl;exact ii;(simp only [n0,Nat.reduceAdd,nn];try rfl);(exact zl rfl);exact rfl;exact ii;clear hp;(try clear w1);intro w1 hp)|((with_reducible refine Qaf hp (T1.out _ _ _ hp.keep hp.blk) ?_);clear hp;(try clear w1);intro w1 hp))
        go_roundw
        case rel =>
          refine ⟨i + 1,by omega,by go_num,?_,hp.sub (by repeat (first|exact sb0|apply sb3))⟩
          intro t ht
          rcases Nat.lt_or_ge t i with h|h
          · exact hall.out t h
          · rw [show t = i by omega];exact HP.out
        case measure => simp [intOf];omega
    · obtain rfl : n = i := by omega
      have H1 := hall
      clear hall hi
      go_wp2_with (fail)
      obtain ⟨w3,hw3⟩ : ∃ x : World,x = wr := ⟨_,rfl⟩
      subst hw3
      go_loopw [8] (fun iv wr => ∃ i : Nat,i ≤ n ∧ iv = .int .i64 i ∧ Hid (∀ a b,a < b → b < n → a < i → P [a,b] = false) ∧ Hp [] w [⟨g2,32,(.int .u64 0 :: .int .u64 0 :: .int .u64 0 :: .int .u64 0 :: .int .u64 0 :: .int .u64 0 :: .int .u64 0 :: .int .u64 0 :: .int .u64 0 :: .int .u64 0 :: .int .u64 0 :: .int .u64 0 :: .int .u64 0 :: .int .u64 0 :: .int .u64 0 :: .int .u64 0 :: .int .u64 0 :: .int .u64 0 :: .int .u64 0 :: .int .u64 0 :: .int .u64 0 :: .int .u64 0 :: .int .u64 0 :: .int .u64 0 :: .int .u64 0 :: .int .u64 0 :: .int .u64 0 :: .int .u64 0 :: .int .u64 0 :: .int .u64 0 :: .int .u64 0 :: .int .u64 0 :: .slice none 0 0 :: [])⟩] wr) (fun iv _ => n - (intOf iv).toNat)
      case atStart => exact ⟨0,by omega,rfl,fun a b _ _ h => absurd h (by omega),hp⟩
      case round =>
        clear hp
        obtain ⟨i,hi,rfl,hall,hp⟩ := hrel
        by_cases hin2 : (i : Int) < n
        · have HI := Lib.hid hi
          go_wp2_with (fail)
          obtain ⟨w4,hw4⟩ : ∃ x : World,x = wr := ⟨_,rfl⟩
          subst hw4
          go_loopw [9] (fun kv wr => ∃ k : Nat,i + 1 ≤ k ∧ k ≤ n ∧ kv = .int .i64 k ∧ Hid (∀ b,i < b → b < k → P [i,b] = false) ∧ Hp [] w [⟨g2,32,(.int .u64 0 :: .int .u64 0 :: .int .u64 0 :: .int .u64 0 :: .int .u64 0 :: .int .u64 0 :: .int .u64 0 :: .int .u64 0 :: .int .u64 0 :: .int .u64 0 :: .int .u64 0 :: .int .u64 0 :: .int .u64 0 :: .int .u64 0 :: .int .u64 0 :: .int .u64 0 :: .int .u64 0 :: .int .u64 0 :: .int .u64 0 :: .int .u64 0 :: .int .u64 0 :: .int .u64 0 :: .int .u64 0 :: .int .u64 0 :: .int .u64 0 :: .int .u64 0 :: .int .u64 0 :: .int .u64 0 :: .int .u64 0 :: .int .u64 0 :: .int .u64 0 :: .int .u64 0 :: .slice none 0 0 :: [])⟩] wr) (fun kv _ => n - (intOf kv).toNat)
          case atStart => exact ⟨i + 1,by omega,by omega,by go_num,fun b h h' => absurd h' (by omega),hp⟩
          case round =>
            clear hp
            obtain ⟨k,hik,hk,rfl,hrow,hp⟩ := hrel
            by_cases hkn : (k : Int) < n
            · cases hP : P [i,k] with
              | true =>
                have T1 : Hid (∀ (g cap1 : Nat) (w1 : World),Keep [] w w1 → w1.heap[g]? = some (.cells (([[.int .i64 (i : Nat)],[.int .i64 (k : Nat)]].flatten : List Value)).toArray 3 (0,0)) → Calls Tryz.prog 15 #[.slice (some ⟨g0,off,none⟩) n cap,.slice (some ⟨g,0,none⟩) 2 cap1] w1 (Ret (.tuple #[NrV (xnv l [i,k]).1.x (xnv l [i,k]).1.y (xnv l [i,k]).1.z (xnv l [i,k]).2 (.slice (some ⟨g,0,none⟩) 2 cap1),.bool true]) w1)) := fun g cap1 w1 hk hb => by
                  have := TR.out [i,k] g cap1 w1 (by simp) (by simp) (by intro q hq;simp at hq;omega) hk hb
                  rw [hP] at this
                  exact this
                have EF : Hid (Qea l = 0 ∧ Qgv l = some [i,k]) := ⟨HE.out.1,HE.out.2 _ (find_two P n i k h4 (by omega) (by omega) H1.out (fun a b h1 h2 h3 => by
                  rcases h3 with h3|⟨rfl,h3⟩
                  · exact hall.out a b h1 h2 h3
                  · exact hrow.out b h1 h3) hP)⟩
                clear hP hall hrow TR HX
                go_wp2_with (first|((with_reducible apply Qav hp);exact ii;(exact OneTy.size);exact ii;exact zl rfl;decide;exact (rfl : _ = Qbk 0 [Value.int .i64 _,Value.int .i64 _]);exact rfl;exact (rfl : _ = List.map (fun x : List Value => x.toArray) [[Value.int .i64 _],[Value.int .i64 _]]);(intro l hl <;> simp only [List.mem_cons,List.not_mem_nil,or_false] at hl <;> rcases hl with rfl|rfl|rfl|rfl <;> rfl);exact rfl;clear hp;(try clear w1);intro g w1 hp;simp only [zp,zq,z0,z1])|((with_reducible apply Qag hp);exact ii;exact rfl;clear hp;(try clear w1);intro g w1 hp;simp only [zp,zq,z0,z1])|((with_reducible apply Qab hp);exact zt rfl;exact ii;exact ii;(exact zl rfl);(simp only [n0,Nat.reduceAdd,nn];try rfl);simp only [zp,zq,z0,z1])|((with_reducible apply Qae hp);exact zt rfl;exact za rfl;exact rfl;(exact AggTy.size);exact rfl;exact ii;(simp only [n0,Nat.reduceAdd,nn];try rfl);(exact zl rfl);exact rfl;exact ii;clear hp;(try clear w1);intro w1 hp)|((with_reducible refine Qaf hp (T1.out _ _ _ hp.keep hp.blk) ?_);clear hp;(try clear w1);intro w1 hp))
                obtain ⟨eK,eN⟩ := Qnf EF.out
                rw [eN,eK]
                exact bodyPost_ret (Qan rfl ⟨_,rfl,Qac hp (Nat.le_of_ble_eq_true rfl)⟩ rfl) rfl ⟨.slice (some ⟨_,0,none⟩) 2 _,rfl,hp.keep,.inr ⟨_,_,[],rfl,hp.blk⟩,fun g o n c e => by cases e;exact hp.fresh⟩
              | false =>
                have T1 : Hid (∀ (g cap1 : Nat) (w1 : World),Keep [] w w1 → w1.heap[g]? = some (.cells (([[.int .i64 (i : Nat)],[.int .i64 (k : Nat)]].flatten : List Value)).toArray 3 (0,0)) → Calls Tryz.prog 15 #[.slice (some ⟨g0,off,none⟩) n cap,.slice (some ⟨g,0,none⟩) 2 cap1] w1 (Ret (.tuple #[NrZ,.bool false]) w1)) := fun g cap1 w1 hk hb => by
                  have := TR.out [i,k] g cap1 w1 (by simp) (by simp) (by intro q hq;simp at hq;omega) hk hb
                  rw [hP] at this
                  exact this
                have HP := Lib.hid hP
                clear hP
                go_wp2_with (first|((with_reducible apply Qav hp);exact ii;(exact OneTy.size);exact ii;exact zl rfl;decide;exact (rfl : _ = Qbk 0 [Value.int .i64 _,Value.int .i64 _]);exact rfl;exact (rfl : _ = List.map (fun x : List Value => x.toArray) [[Value.int .i64 _],[Value.int .i64 _]]);(intro l hl <;> simp only [List.mem_cons,List.not_mem_nil,or_false] at hl <;> rcases hl with rfl|rfl|rfl|rfl <;> rfl);exact rfl;clear hp;(try clear w1);intro g w1 hp;simp only [zp,zq,z0,z1])|((with_reducible apply Qag hp);exact ii;exact rfl;clear hp;(try clear w1);intro g w1 hp;simp only [zp,zq,z0,z1])|((with_reducible apply Qae hp);exact zt rfl;exact za rfl;exact rfl;(exact AggTy.size);exact rfl;exact ii;(simp only [n0,Nat.reduceAdd,nn];try rfl);(exact zl rfl);exact rfl;exact ii;clear hp;(try clear w1);intro w1 hp)|((with_reducible refine Qaf hp (T1.out _ _ _ hp.keep hp.blk) ?_);clear hp;(try clear w1);intro w1 hp))
                go_roundw
                case rel =>
                  refine ⟨k + 1,by omega,by omega,by go_num,?_,hp.sub (by repeat (first|exact sb0|apply sb3))⟩
                  intro b h h'
                  rcases Nat.lt_or_ge b k with h2|h2
                  · exact hrow.out b h h2
                  · rw [show b = k by omega];exact HP.out
                case measure => simp [intOf];omega
            · obtain rfl : n = k := by omega
              go_wp2_with (fail)
              go_roundw
              case rel =>
                refine ⟨i + 1,by omega,by go_num,?_,hp⟩
                intro a b h h' h''
                rcases Nat.lt_or_ge a i with h2|h2
                · exact hall.out a b h h' h2
                · obtain rfl : a = i := by omega
                  exact hrow.out b h h'
              case measure => simp [intOf];omega
        · have H2 : Hid (∀ a b,a < b → b < n → P [a,b] = false) := fun a b h h' => hall.out a b h h' (by omega)
          clear hall
          obtain rfl : n = i := by omega
          clear hi
          go_wp2_with (fail)
          obtain ⟨w4,hw4⟩ : ∃ x : World,x = wr := ⟨_,rfl⟩
          subst hw4
          go_loopw [12] (fun iv wr => ∃ i : Nat,i ≤ n ∧ iv = .int .i64 i ∧ Hid (∀ a b c,a < b → b < c → c < n → a < i → P [a,b,c] = false) ∧ Hp [] w [⟨g2,32,(.int .u64 0 :: .int .u64 0 :: .int .u64 0 :: .int .u64 0 :: .int .u64 0 :: .int .u64 0 :: .int .u64 0 :: .int .u64 0 :: .int .u64 0 :: .int .u64 0 :: .int .u64 0 :: .int .u64 0 :: .int .u64 0 :: .int .u64 0 :: .int .u64 0 :: .int .u64 0 :: .int .u64 0 :: .int .u64 0 :: .int .u64 0 :: .int .u64 0 :: .int .u64 0 :: .int .u64 0 :: .int .u64 0 :: .int .u64 0 :: .int .u64 0 :: .int .u64 0 :: .int .u64 0 :: .int .u64 0 :: .int .u64 0 :: .int .u64 0 :: .int .u64 0 :: .int .u64 0 :: .slice none 0 0 :: [])⟩] wr) (fun iv _ => n - (intOf iv).toNat)
          case atStart => exact ⟨0,by omega,rfl,fun a b c _ _ _ h => absurd h (by omega),hp⟩
          case round =>
            clear hp
            obtain ⟨i,hi,rfl,hall,hp⟩ := hrel
            by_cases hin3 : (i : Int) < n
            · go_wp2_with (fail)
              obtain ⟨w5,hw5⟩ : ∃ x : World,x = wr := ⟨_,rfl⟩
              subst hw5
              go_loopw [13] (fun kv wr => ∃ k : Nat,i + 1 ≤ k ∧ k ≤ n ∧ kv = .int .i64 k ∧ Hid (∀ b c,i < b → b < c → c < n → b < k → P [i,b,c] = false) ∧ Hp [] w [⟨g2,32,(.int .u64 0 :: .int .u64 0 :: .int .u64 0 :: .int .u64 0 :: .int .u64 0 :: .int .u64 0 :: .int .u64 0 :: .int .u64 0 :: .int .u64 0 :: .int .u64 0 :: .int .u64 0 :: .int .u64 0 :: .int .u64 0 :: .int .u64 0 :: .int .u64 0 :: .int .u64 0 :: .int .u64 0 :: .int .u64 0 :: .int .u64 0 :: .int .u64 0 :: .int .u64 0 :: .int .u64 0 :: .int .u64 0 :: .int .u64 0 :: .int .u64 0 :: .int .u64 0 :: .int .u64 0 :: .int .u64 0 :: .int .u64 0 :: .int .u64 0 :: .int .u64 0 :: .int .u64 0 :: .slice none 0 0 :: [])⟩] wr) (fun kv _ => n - (intOf kv).toNat)
              case atStart => exact ⟨i + 1,by omega,by omega,by go_num,fun b c h h' h2 h3 => absurd h3 (by omega),hp⟩
              case round =>
                clear hp
                obtain ⟨k,hik,hk,rfl,hrow,hp⟩ := hrel
                by_cases hkn : (k : Int) < n
                · go_wp2_with (fail)
                  obtain ⟨w6,hw6⟩ : ∃ x : World,x = wr := ⟨_,rfl⟩
                  subst hw6
                  go_loopw [14] (fun jv wr => ∃ j : Nat,k + 1 ≤ j ∧ j ≤ n ∧ jv = .int .i64 j ∧ Hid (∀ c,k < c → c < j → P [i,k,c] = false) ∧ Hp [] w [⟨g2,32,(.int .u64 0 :: .int .u64 0 :: .int .u64 0 :: .int .u64 0 :: .int .u64 0 :: .int .u64 0 :: .int .u64 0 :: .int .u64 0 :: .int .u64 0 :: .int .u64 0 :: .int .u64 0 :: .int .u64 0 :: .int .u64 0 :: .int .u64 0 :: .int .u64 0 :: .int .u64 0 :: .int .u64 0 :: .int .u64 0 :: .int .u64 0 :: .int .u64 0 :: .int .u64 0 :: .int .u64 0 :: .int .u64 0 :: .int .u64 0 :: .int .u64 0 :: .int .u64 0 :: .int .u64 0 :: .int .u64 0 :: .int .u64 0 :: .int .u64 0 :: .int .u64 0 :: .int .u64 0 :: .slice none 0 0 :: [])⟩] wr) (fun jv _ => n - (intOf jv).toNat)
                  case atStart => exact ⟨k + 1,by omega,by omega,by go_num,fun c h h' => absurd h' (by omega),hp⟩
                  case round =>
                    clear hp
                    obtain ⟨j,hkj,hj,rfl,hlast,hp⟩ := hrel
                    by_cases hjn : (j : Int) < n
                    · cases hP : P [i,k,j] with
                      | true =>
                        have T1 : Hid (∀ (g cap1 : Nat) (w1 : World),Keep [] w w1 → w1.heap[g]? = some (.cells (([[.int .i64 (i : Nat)],[.int .i64 (k : Nat)],[.int .i64 (j : Nat)]].flatten : List Value)).toArray 3 (0,0)) → Calls Tryz.prog 15 #[.slice (some ⟨g0,off,none⟩) n cap,.slice (some ⟨g,0,none⟩) 3 cap1] w1 (Ret (.tuple #[NrV (xnv l [i,k,j]).1.x (xnv l [i,k,j]).1.y (xnv l [i,k,j]).1.z (xnv l [i,k,j]).2 (.slice (some ⟨g,0,none⟩) 3 cap1),.bool true]) w1)) := fun g cap1 w1 hk hb => by
                          have := TR.out [i,k,j] g cap1 w1 (by simp) (by simp) (by intro q hq;simp at hq;omega) hk hb
                          rw [hP] at this
                          exact this
                        have EF : Hid (Qea l = 0 ∧ Qgv l = some [i,k,j]) := ⟨HE.out.1,HE.out.2 _ (find_three P n i k j h4 (by omega) (by omega) (by omega) H1.out H2.out (fun a b c h1 h2 h3 h5 => by
                          rcases h5 with h5|⟨rfl,h5|⟨rfl,h5⟩⟩
                          · exact hall.out a b c h1 h2 h3 h5
                          · exact hrow.out b c h1 h2 h3 h5
                          · exact hlast.out c h2 h5) hP)⟩
                        clear hP hall hrow hlast TR HX
                        go_wp2_with (first|((with_reducible apply Qav hp);exact ii;(exact OneTy.size);exact ii;exact zl rfl;decide;exact (rfl : _ = Qbk 0 [Value.int .i64 _,Value.int .i64 _,Value.int .i64 _]);exact rfl;exact (rfl : _ = List.map (fun x : List Value => x.toArray) [[Value.int .i64 _],[Value.int .i64 _],[Value.int .i64 _]]);(intro l hl <;> simp only [List.mem_cons,List.not_mem_nil,or_false] at hl <;> rcases hl with rfl|rfl|rfl|rfl <;> rfl);exact rfl;clear hp;(try clear w1);intro g w1 hp;simp only [zp,zq,z0,z1])|((with_reducible apply Qag hp);exact ii;exact rfl;clear hp;(try clear w1);intro g w1 hp;simp only [zp,zq,z0,z1])|((with_reducible apply Qab hp);exact zt rfl;exact ii;exact ii;(exact zl rfl);(simp only [n0,Nat.reduceAdd,nn];try rfl);simp only [zp,zq,z0,z1])|((with_reducible apply Qae hp);exact zt rfl;exact za rfl;exact rfl;(exact AggTy.size);exact rfl;exact ii;(simp only [n0,Nat.reduceAdd,nn];try rfl);(exact zl rfl);exact rfl;exact ii;clear hp;(try clear w1);intro w1 hp)|((with_reducible refine Qaf hp (T1.out _ _ _ hp.keep hp.blk) ?_);clear hp;(try clear w1);intro w1 hp))
                        obtain ⟨eK,eN⟩ := Qnf EF.out
                        rw [eN,eK]
                        exact bodyPost_ret (Qan rfl ⟨_,rfl,Qac hp (Nat.le_of_ble_eq_true rfl)⟩ rfl) rfl ⟨.slice (some ⟨_,0,none⟩) 3 _,rfl,hp.keep,.inr ⟨_,_,[],rfl,hp.blk⟩,fun g o n c e => by cases e;exact hp.fresh⟩
                      | false =>
                        have T1 : Hid (∀ (g cap1 : Nat) (w1 : World),Keep [] w w1 → w1.heap[g]? = some (.cells (([[.int .i64 (i : Nat)],[.int .i64 (k : Nat)],[.int .i64 (j : Nat)]].flatten : List Value)).toArray 3 (0,0)) → Calls Tryz.prog 15 #[.slice (some ⟨g0,off,none⟩) n cap,.slice (some ⟨g,0,none⟩) 3 cap1] w1 (Ret (.tuple #[NrZ,.bool false]) w1)) := fun g cap1 w1 hk hb => by
                          have := TR.out [i,k,j] g cap1 w1 (by simp) (by simp) (by intro q hq;simp at hq;omega) hk hb
                          rw [hP] at this
                          exact this
                        have HP := Lib.hid hP
                        clear hP
                        go_wp2_with (first|((with_reducible apply Qav hp);exact ii;(exact OneTy.size);exact ii;exact zl rfl;decide;exact (rfl : _ = Qbk 0 [Value.int .i64 _,Value.int .i64 _,Value.int .i64 _]);exact rfl;exact (rfl : _ = List.map (fun x : List Value => x.toArray) [[Value.int .i64 _],[Value.int .i64 _],[Value.int .i64 _]]);(intro l hl <;> simp only [List.mem_cons,List.not_mem_nil,or_false] at hl <;> rcases hl with rfl|rfl|rfl|rfl <;> rfl);exact rfl;clear hp;(try clear w1);intro g w1 hp;simp only [zp,zq,z0,z1])|((with_reducible apply Qag hp);exact ii;exact rfl;clear hp;(try clear w1);intro g w1 hp;simp only [zp,zq,z0,z1])|((with_reducible apply Qae hp);exact zt rfl;exact za rfl;exact rfl;(exact AggTy.size);exact rfl;exact ii;(simp only [n0,Nat.reduceAdd,nn];try rfl);(exact zl rfl);exact rfl;exact ii;clear hp;(try clear w1);intro w1 hp)|((with_reducible refine Qaf hp (T1.out _ _ _ hp.keep hp.blk) ?_);clear hp;(try clear w1);intro w1 hp))
                        go_roundw
                        case rel =>
                          refine ⟨j + 1,by omega,by omega,by go_num,?_,hp.sub (by repeat (first|exact sb0|apply sb3))⟩
                          intro c h h'
                          rcases Nat.lt_or_ge c j with h2|h2
                          · exact hlast.out c h h2
                          · rw [show c = j by omega];exact HP.out
                        case measure => simp [intOf];omega
                    · obtain rfl : n = j := by omega
                      go_wp2_with (fail)
                      go_roundw
                      case rel =>
                        refine ⟨k + 1,by omega,by omega,by go_num,?_,hp⟩
                        intro b c h h' h2 h3
                        rcases Nat.lt_or_ge b k with h5|h5
                        · exact hrow.out b c h h' h2 h5
                        · obtain rfl : b = k := by omega
                          exact hlast.out c h' h2
                      case measure => simp [intOf];omega
                · obtain rfl : n = k := by omega
                  go_wp2_with (fail)
                  go_roundw
                  case rel =>
                    refine ⟨i + 1,by omega,by go_num,?_,hp⟩
                    intro a b c h h' h2 h3
                    rcases Nat.lt_or_ge a i with h5|h5
                    · exact hall.out a b c h h' h2 h5
                    · obtain rfl : a = i := by omega
                      exact hrow.out b c h h' h2 (by omega)
                  case measure => simp [intOf];omega
            · have H3 : Hid (∀ a b c,a < b → b < c → c < n → P [a,b,c] = false) := fun a b c h h' h2 => hall.out a b c h h' h2 (by omega)
              clear hall
              obtain rfl : n = i := by omega
              clear hi
              obtain ⟨ks,hks⟩ := HX.out
              obtain ⟨rfl,rfl,hP⟩ := find_four P n h4 H1.out H2.out H3.out ks hks
              have T1 : Hid (∀ (g cap1 : Nat) (w1 : World),Keep [] w w1 → w1.heap[g]? = some (.cells (([[.int .i64 0],[.int .i64 1],[.int .i64 2],[.int .i64 3]].flatten : List Value)).toArray 3 (0,0)) → Calls Tryz.prog 15 #[.slice (some ⟨g0,off,none⟩) 4 cap,.slice (some ⟨g,0,none⟩) 4 cap1] w1 (Ret (.tuple #[NrV (xnv l [0,1,2,3]).1.x (xnv l [0,1,2,3]).1.y (xnv l [0,1,2,3]).1.z (xnv l [0,1,2,3]).2 (.slice (some ⟨g,0,none⟩) 4 cap1),.bool true]) w1)) := fun g cap1 w1 hk hb => by
                have := TR.out [0,1,2,3] g cap1 w1 (by simp) (by simp) (by intro q hq;simp at hq;omega) hk hb
                rw [hP] at this
                exact this
              have EF : Hid (Qea l = 0 ∧ Qgv l = some [0,1,2,3]) := ⟨HE.out.1,HE.out.2 _ hks⟩
              clear hP TR HX hks H1 H2 H3
              go_wp2_with (first|((with_reducible apply Qav hp);exact ii;(exact OneTy.size);exact ii;exact zl rfl;decide;exact (rfl : _ = Qbk 0 [Value.int .i64 _,Value.int .i64 _,Value.int .i64 _,Value.int .i64 _]);exact rfl;exact (rfl : _ = List.map (fun x : List Value => x.toArray) [[Value.int .i64 _],[Value.int .i64 _],[Value.int .i64 _],[Value.int .i64 _]]);(intro l hl <;> simp only [List.mem_cons,List.not_mem_nil,or_false] at hl <;> rcases hl with rfl|rfl|rfl|rfl <;> rfl);exact rfl;clear hp;(try clear w1);intro g w1 hp;simp only [zp,zq,z0,z1])|((with_reducible apply Qag hp);exact ii;exact rfl;clear hp;(try clear w1);intro g w1 hp;simp only [zp,zq,z0,z1])|((with_reducible apply Qab hp);exact zt rfl;exact ii;exact ii;(exact zl rfl);(simp only [n0,Nat.reduceAdd,nn];try rfl);simp only [zp,zq,z0,z1])|((with_reducible apply Qae hp);exact zt rfl;exact za rfl;exact rfl;(exact AggTy.size);exact rfl;exact ii;(simp only [n0,Nat.reduceAdd,nn];try rfl);(exact zl rfl);exact rfl;exact ii;clear hp;(try clear w1);intro w1 hp)|((with_reducible refine Qaf hp (T1.out _ _ _ hp.keep hp.blk) ?_);clear hp;(try clear w1);intro w1 hp))
              obtain ⟨eK,eN⟩ := Qnf EF.out
              rw [eN,eK]
              exact bodyPost_ret (Qan rfl ⟨_,rfl,Qac hp (Nat.le_of_ble_eq_true rfl)⟩ rfl) rfl ⟨.slice (some ⟨_,0,none⟩) 4 _,rfl,hp.keep,.inr ⟨_,_,[],rfl,hp.blk⟩,fun g o n c e => by cases e;exact hp.fresh⟩
end Go.Proofs.YtdfdmeoalbpcdaaGreat
