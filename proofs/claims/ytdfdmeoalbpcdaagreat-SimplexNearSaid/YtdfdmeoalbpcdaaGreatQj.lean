/-
  Package simplex: sized (contract).
-/
import Derived.Test.YtdfdmeoalbpcdaaGreatQi
set_option linter.unusedSimpArgs false
set_option linter.unusedVariables false
set_option maxRecDepth 100000
namespace Go.Proofs.YtdfdmeoalbpcdaaGreat
open Go Go.RowKit
attribute [local irreducible] wpList
def pop (x : Nat) : Int := [0,1,1,2,1,2,2,3,1,2,2,3,2,3,3,4].getD x 0
set_option maxHeartbeats 4000000 in
theorem ones64_any (x : Nat) (hx : x < 16) (w : World) : Calls Tryz.prog 88 #[.int .u64 (x : Int)] w (Ret (.int .i64 (pop x)) w) := by
  have hc : x = 0 ∨ x = 1 ∨ x = 2 ∨ x = 3 ∨ x = 4 ∨ x = 5 ∨ x = 6 ∨ x = 7 ∨ x = 8 ∨ x = 9 ∨ x = 10 ∨ x = 11 ∨ x = 12 ∨ x = 13 ∨ x = 14 ∨ x = 15 := by omega
  rcases hc with rfl|rfl|rfl|rfl|rfl|rfl|rfl|rfl|rfl|rfl|rfl|rfl|rfl|rfl|rfl|rfl
  all_goals
    go_enter Tryz.func88,Tryz.ntmps88
    have hp := Hp.start [] w
    go_wp2_with (fail)
    exact bodyPost_ret (Qaa rfl rfl) rfl ⟨by kernel_rfl,hp.keep⟩
theorem ones_any (x : Nat) (hx : x < 16) (w : World) : Calls Tryz.prog 49 #[.int .u64 (x : Int)] w (Ret (.int .i64 (pop x)) w) := by
  have H := Lib.hid (ones64_any x hx)
  clear hx
  go_enter Tryz.func49,Tryz.ntmps49
  have hp := Hp.start [] w
  go_wp2_with ((with_reducible refine Qaf hp (H.out _) ?_);clear hp;(try clear w1);intro w1 hp)
  exact bodyPost_ret (Qaa rfl rfl) rfl ⟨rfl,hp.keep⟩
/-- Is place k of n in set s? -/
def bitv (n s k : Nat) : Bool := bits BinOp.and IntKind.i64 ((s : Int) / 2 ^ (n - 1 - k)) 1 == 1
def innk (n s k : Nat) : List Nat := (List.range k).filter (bitv n s)
theorem Qpj (n s k : Nat) : innk n s (k + 1) = if bitv n s k = true then innk n s k ++ [k] else innk n s k := by
  unfold innk
  rw [List.range_succ,List.filter_append,List.filter_cons,List.filter_nil]
  split <;> simp
/-- The choices of the sets above s. -/
def lsz (n z M s : Nat) : List (List Nat) := (((List.range (M - s)).map (M - ·)).filter (fun t => decide (pop t = (z : Int)))).map (fun t => innk n t n)
theorem lsz_step {n z M s : Nat} (h : s + 1 ≤ M) : lsz n z M s = if pop (s + 1) = (z : Int) then lsz n z M (s + 1) ++ [innk n (s + 1) n] else lsz n z M (s + 1) := by
  unfold lsz
  rw [show M - s = (M - (s + 1)) + 1 by omega,List.range_succ,List.map_append,List.filter_append,List.map_append]
  have e : M - (M - (s + 1)) = s + 1 := by omega
  simp only [List.map_cons,List.map_nil,e,List.filter_cons,List.filter_nil,decide_eq_true_eq]
  split <;> simp
/-- A slice of ints that lies in one of the blocks. -/
def SLs (Bs : List Bk) (v : Value) (ks : List Nat) : Prop := (v = .slice none 0 0 ∧ ks = []) ∨ ∃ (b : Bk) (cap : Nat) (junk : List Value),b ∈ Bs ∧ b.t = 3 ∧ v = .slice (some ⟨b.g,0,none⟩) ks.length cap ∧ b.cs = (ks.map fun k : Nat => Value.int .i64 (k : Int)) ++ junk
theorem SLs.mono {Bs Cs : List Bk} {v : Value} {ks : List Nat} (h : SLs Bs v ks) (hs : ∀ b ∈ Bs,b ∈ Cs) : SLs Cs v ks := by
  rcases h with h|⟨b,cap,junk,h1,h2⟩
  · exact .inl h
  · exact .inr ⟨b,cap,junk,hs b h1,h2⟩
/-- Slices, one by one. -/
inductive SLL (Bs : List Bk) : List Value → List (List Nat) → Prop
  | nil : SLL Bs [] []
  | snoc {vs : List Value} {L : List (List Nat)} {v : Value} {ks : List Nat} : SLL Bs vs L → SLs Bs v ks → SLL Bs (vs ++ [v]) (L ++ [ks])
theorem SLL.mono {Bs Cs : List Bk} {vs : List Value} {L : List (List Nat)} (h : SLL Bs vs L) (hs : ∀ b ∈ Bs,b ∈ Cs) : SLL Cs vs L := by
  induction h with
  | nil => exact .nil
  | snoc _ h2 ih => exact .snoc ih (h2.mono hs)
theorem SLL.length {Bs : List Bk} {vs : List Value} {L : List (List Nat)} (h : SLL Bs vs L) : vs.length = L.length := by
  induction h with
  | nil => rfl
  | snoc _ _ ih => simp [ih]
theorem SLL.get {Bs : List Bk} {vs : List Value} {L : List (List Nat)} (h : SLL Bs vs L) : ∀ {k : Nat} {ks : List Nat},L[k]? = some ks → ∃ v,vs[k]? = some v ∧ SLs Bs v ks := by
  induction h with
  | nil => intro k ks h;simp at h
  | @snoc vs L v ks' h1 h2 ih =>
    intro k ks h
    have hl := h1.length
    rcases Nat.lt_or_ge k L.length with hk|hk
    · rw [List.getElem?_append_left hk] at h
      obtain ⟨u,e,hu⟩ := ih h
      exact ⟨u,by rw [List.getElem?_append_left (by omega)];exact e,hu⟩
    · rw [List.getElem?_append_right hk] at h
      have : k = L.length := by
        rcases Nat.lt_or_ge k (L.length + 1) with h' | h'
        · omega
        · rw [List.getElem?_eq_none (by simp;omega)] at h;cases h
      subst this
      simp at h
      subst h
      exact ⟨v,by rw [List.getElem?_append_right (by omega)];simp [hl],h2⟩
/-- What was gathered so far. -/
def OF (ov : Value) (L : List (List Nat)) (H : List Bk) : Prop := (ov = .slice none 0 0 ∧ L = [] ∧ H = []) ∨ ∃ (g cap : Nat) (vs junk : List Value) (Bs : List Bk),ov = .slice (some ⟨g,0,none⟩) vs.length cap ∧ (vs ++ junk).length = cap * 1 ∧ vs.length ≤ cap ∧ cap ≤ maxLen ∧ SLL Bs vs L ∧ H = ⟨g,30,vs ++ junk⟩ :: Bs
def LF (lv : Value) (ks : List Nat) (H0 H : List Bk) : Prop := (lv = .slice none 0 0 ∧ ks = [] ∧ H = H0) ∨ ∃ (g cap : Nat) (junk : List Value),lv = .slice (some ⟨g,0,none⟩) ks.length cap ∧ ((ks.map fun k : Nat => Value.int .i64 (k : Int)) ++ junk).length = cap * 1 ∧ ks.length ≤ cap ∧ cap ≤ maxLen ∧ H = ⟨g,3,(ks.map fun k : Nat => Value.int .i64 (k : Int)) ++ junk⟩ :: H0
def RetS (L : List (List Nat)) (w : World) (e : Ending) (w' : World) : Prop := ∃ (v : Value) (H : List Bk),e = .returned v ∧ OF v L H ∧ Hp [] w H w'
theorem LF.sls {lv : Value} {ks : List Nat} {H0 H : List Bk} (h : LF lv ks H0 H) : SLs H lv ks ∧ ∀ b ∈ H0,b ∈ H := by
  rcases h with ⟨rfl,rfl,rfl⟩|⟨g,cap,junk,rfl,_,_,_,rfl⟩
  · exact ⟨.inl ⟨rfl,rfl⟩,fun b h => h⟩
  · exact ⟨.inr ⟨_,cap,junk,List.mem_cons_self ..,rfl,rfl,rfl⟩,fun b h => List.mem_cons_of_mem _ h⟩
set_option maxHeartbeats 8000000 in
theorem sized_any (n z M : Nat) (hn : (n : Int) ≤ 4) (hM : (M : Int) ≤ 15) (hw : wrap64 (wrap64 (2 ^ n) - 1) = (M : Int)) (w : World) : Calls Tryz.prog 24 #[.int .i64 (n : Int),.int .i64 (z : Int)] w (RetS (lsz n z M 0) w) := by
  go_enter Tryz.func24,Tryz.ntmps24
  have hp := Hp.start [] w
  go_wp2_with (fail)
  go_loopw [5,6] (fun ov sv wr => ∃ (s : Nat) (H : List Bk),(s : Int) ≤ M ∧ sv = .int .i64 s ∧ Hid (OF ov (lsz n z M s) H) ∧ Hp [] w H wr) (fun _ i _ => (intOf i).toNat)
  case atStart => exact ⟨M,[],by omega,by rw [hw],.inl ⟨rfl,by unfold lsz;simp,rfl⟩,hp⟩
  case round =>
    clear hp hw
    obtain ⟨s,H,hs,rfl,hOF,hp⟩ := hrel
    by_cases hs0 : (0 : Int) < s
    · obtain ⟨t,rfl⟩ : ∃ t,s = t + 1 := ⟨s - 1,by omega⟩
      have hst := lsz_step (n := n) (z := z) (M := M) (s := t) (by omega)
      obtain ⟨s,hs1⟩ : ∃ s,s = t + 1 := ⟨_,rfl⟩
      rw [← hs1] at hst hOF hs hs0
      rw [← hs1]
      have HT := Lib.hid hs1
      clear hs1
      by_cases hpop : pop s = (z : Int)
      · rw [if_pos hpop] at hst
        have OC := Lib.hid (fun w1 => by have := ones_any s (by omega) w1;rw [hpop] at this;exact this)
        have HST := Lib.hid hst
        clear hst hpop
        go_wp2_with ((with_reducible refine Qaf hp (OC.out _) ?_);clear hp;(try clear w1);intro w1 hp)
        obtain ⟨w3,hw3⟩ : ∃ x : World,x = wr := ⟨_,rfl⟩
        subst hw3
        go_loopw [7,22] (fun lv kv wr => ∃ (k : Nat) (H1 : List Bk),(k : Int) ≤ n ∧ kv = .int .i64 k ∧ Hid (LF lv (innk n s k) H H1) ∧ Hp [] w H1 wr) (fun _ i _ => n - (intOf i).toNat)
        case atStart => exact ⟨0,H,by omega,rfl,.inl ⟨rfl,rfl,rfl⟩,hp⟩
        case round =>
          clear hp
          obtain ⟨k,H1,hk,rfl,hLF,hp⟩ := hrel
          by_cases hkn : (k : Int) < n
          · have k0 : (0 : Int) ≤ (k : Int) := by omega
            cases hbit : bitv n s k with
            | false =>
              have hb : (bits BinOp.and IntKind.i64 ((s : Int) / 2 ^ (n - 1 - k)) 1 == 1) = false := hbit
              have hin : Hid (innk n s (k + 1) = innk n s k) := by rw [Qpj,hbit];rfl
              clear hbit
              go_wp2_with (fail)
              go_roundw
              case rel => exact ⟨k + 1,H1,by omega,rfl,by rw [hin.out];exact hLF,hp⟩
              case measure => simp [intOf];omega
            | true =>
              have hb : (bits BinOp.and IntKind.i64 ((s : Int) / 2 ^ (n - 1 - k)) 1 == 1) = true := hbit
              have hin : Hid (innk n s (k + 1) = innk n s k ++ [k]) := by rw [Qpj,hbit];rfl
              clear hbit
              rcases hLF.out with ⟨rfl,hks,rfl⟩|⟨g,cap,junk,rfl,hl1,hl2,hl3,rfl⟩
              · have HKS := Lib.hid hks
                clear hks hLF
                go_wp2_with (first|((with_reducible apply Qav hp);exact ii;(exact OneTy.size);exact ii;exact zl rfl;decide;(exact zk1 rfl);exact rfl;(exact zm1 rfl);(intro l hl <;> simp only [List.mem_cons,List.not_mem_nil,or_false] at hl <;> rcases hl with rfl|rfl|rfl|rfl <;> rfl);exact rfl;clear hp;(try clear w1);intro g w1 hp;simp only [zp,zq,z0,z1])|((with_reducible apply Qbq hp);exact ii;exact ii;exact rfl;decide;exact (rfl : _ = Value.slice none 0 0);exact zy rfl;exact ii;exact rfl;exact rfl;decide;(unfold maxLen;decide);decide;clear hp;(try clear w1);intro g cap junk w1 hl1 hl2 hl3 hp;simp only [zp,zq,z0,z1]))
                go_roundw
                case rel =>
                  have e : innk n s (k + 1) = [k] := by rw [hin.out,HKS.out];rfl
                  exact ⟨k + 1,⟨g,3,[Value.int .i64 (k : Int)] ++ junk⟩ :: H1,by omega,rfl,by rw [e];exact .inr ⟨g,cap,junk,rfl,hl1,hl2,hl3,rfl⟩,hp.sub (.cons_cons _ (.cons _ (List.Sublist.refl _)))⟩
                case measure => simp [intOf];omega
              · have HK0 : Hid ((innk n s k).length ≤ k) := by
                  have := List.length_filter_le (bitv n s) (List.range k)
                  rw [List.length_range] at this
                  exact this
                generalize innk n s k = ks at *
                have hk9 : (ks.length : Int) ≤ 4 := by have := HK0.out;omega
                clear hLF
                go_wp2_with (first|((with_reducible apply Qav hp);exact ii;(exact OneTy.size);exact ii;exact zl rfl;decide;(exact zk1 rfl);exact rfl;(exact zm1 rfl);(intro l hl <;> simp only [List.mem_cons,List.not_mem_nil,or_false] at hl <;> rcases hl with rfl|rfl|rfl|rfl <;> rfl);exact rfl;clear hp;(try clear w1);intro g w1 hp;simp only [zp,zq,z0,z1])|((with_reducible apply Qdn hp);exact ii;exact ii;exact rfl;decide;exact zy rfl;(exact pm1);(simp only [List.length_map,Nat.mul_one]);assumption;assumption;assumption;exact zy rfl;exact ii;exact rfl;exact rfl;decide;(unfold maxLen;omega);omega;clear hp;(try clear w1);intro g cap junk w1 hl1 hl2 hl3 hp;(try dsimp only [List.cons_append,List.nil_append] at hp);simp only [zp,zq,z0,z1]))
                go_roundw
                case rel =>
                  have e2 : ((ks ++ [k]).map fun k : Nat => Value.int .i64 (k : Int)) = (ks.map fun k : Nat => Value.int .i64 (k : Int)) ++ [Value.int .i64 (k : Int)] := by simp
                  refine ⟨k + 1,⟨g,3,((ks.map fun k : Nat => Value.int .i64 (k : Int)) ++ [Value.int .i64 (k : Int)]) ++ junk⟩ :: H,by omega,rfl,?_,hp.sub (.cons_cons _ (.cons _ (List.Sublist.refl _)))⟩
                  rw [hin.out]
                  refine .inr ⟨g,cap,junk,by simp,by rw [e2];exact hl1,by simpa using hl2,hl3,by rw [e2]⟩
                case measure => simp [intOf];omega
          · obtain rfl : k = n := by omega
            have e9 : innk k s k = innk k s k := rfl
            generalize innk k s k = ks at *
            clear e9
            rcases hOF.out with ⟨rfl,hL,rfl⟩|⟨g,cap,vs,junk,Bs,rfl,hl1,hl2,hl3,hSL,rfl⟩
            · have HL := Lib.hid hL
              clear hL hOF
              have hlv : ∃ b nn c,u7 = Value.slice b nn c := by
                rcases hLF.out with ⟨rfl,_⟩|⟨g,cap,junk,rfl,_⟩
                · exact ⟨none,0,0,rfl⟩
                · exact ⟨_,_,_,rfl⟩
              obtain ⟨b0,nn,c0,rfl⟩ := hlv
              go_wp2_with (first|((with_reducible apply Qav hp);exact ii;(exact OneTy.size);exact ii;exact zl rfl;decide;(exact zk1 rfl);exact rfl;(exact zm1 rfl);(intro l hl <;> simp only [List.mem_cons,List.not_mem_nil,or_false] at hl <;> rcases hl with rfl|rfl|rfl|rfl <;> rfl);exact rfl;clear hp;(try clear w1);intro g w1 hp;simp only [zp,zq,z0,z1])|((with_reducible apply Qbq hp);exact ii;exact ii;exact rfl;decide;exact (rfl : _ = Value.slice none 0 0);exact zy rfl;exact ii;exact rfl;exact rfl;decide;(unfold maxLen;decide);decide;clear hp;(try clear w1);intro g cap junk w1 hl1 hl2 hl3 hp;simp only [zp,zq,z0,z1]))
              go_roundw
              case rel =>
                refine ⟨t,⟨g,30,[Value.slice b0 nn c0] ++ junk⟩ :: H1,by have := HT.out;omega,by have := HT.out;congr 1;omega,?_,hp.sub (.cons_cons _ (.cons _ (List.Sublist.refl _)))⟩
                rw [HST.out,HL.out]
                exact .inr ⟨g,cap,[Value.slice b0 nn c0],junk,H1,rfl,hl1,hl2,hl3,.snoc .nil hLF.out.sls.1,rfl⟩
              case measure => simp [intOf];omega
            · have hv9 : Hid (vs.length ≤ 15) := by
                rw [Hid,hSL.length]
                unfold lsz
                rw [List.length_map]
                refine Nat.le_trans (List.length_filter_le _ _) ?_
                rw [List.length_map,List.length_range]
                omega
              have hv8 : (vs.length : Int) ≤ 15 := by have := hv9.out;omega
              have HSL := Lib.hid hSL
              clear hSL hOF
              have hSS := Lib.hid hLF.out.sls
              rcases hLF.out with ⟨rfl,hks,rfl⟩|⟨gl,capl,junkl,rfl,hl4,hl5,hl6,rfl⟩
              · have HK := Lib.hid hks
                clear hks hLF
                go_wp2_with (first|((with_reducible apply Qav hp);exact ii;(exact OneTy.size);exact ii;exact zl rfl;decide;(exact zk1 rfl);exact rfl;(exact zm1 rfl);(intro l hl <;> simp only [List.mem_cons,List.not_mem_nil,or_false] at hl <;> rcases hl with rfl|rfl|rfl|rfl <;> rfl);exact rfl;clear hp;(try clear w1);intro g w1 hp;simp only [zp,zq,z0,z1])|((with_reducible apply Qdn hp);exact ii;exact ii;exact rfl;decide;exact zy rfl;(exact pm1);(simp only [List.length_map,Nat.mul_one]);assumption;assumption;assumption;exact zy rfl;exact ii;exact rfl;exact rfl;decide;(unfold maxLen;omega);omega;clear hp;(try clear w1);intro g cap junk w1 hl1 hl2 hl3 hp;(try dsimp only [List.cons_append,List.nil_append] at hp);simp only [zp,zq,z0,z1]))
                go_roundw
                case rel =>
                  refine ⟨t,⟨g,30,(vs ++ [Value.slice none 0 0]) ++ junk⟩ :: Bs,by have := HT.out;omega,by have := HT.out;congr 1;omega,?_,hp.sub (.cons_cons _ (.cons _ (List.Sublist.refl _)))⟩
                  rw [HST.out]
                  refine .inr ⟨g,cap,vs ++ [Value.slice none 0 0],junk,Bs,by simp,hl1,by simpa using hl2,hl3,.snoc HSL.out (.inl ⟨rfl,HK.out⟩),rfl⟩
                case measure => simp [intOf];omega
              · clear hLF
                go_wp2_with (first|((with_reducible apply Qav hp);exact ii;(exact OneTy.size);exact ii;exact zl rfl;decide;(exact zk1 rfl);exact rfl;(exact zm1 rfl);(intro l hl <;> simp only [List.mem_cons,List.not_mem_nil,or_false] at hl <;> rcases hl with rfl|rfl|rfl|rfl <;> rfl);exact rfl;clear hp;(try clear w1);intro g w1 hp;simp only [zp,zq,z0,z1])|((with_reducible apply Qdn hp);exact ii;exact ii;exact rfl;decide;exact zy rfl;(exact pm2);(simp only [List.length_map,Nat.mul_one]);assumption;assumption;assumption;exact zy rfl;exact ii;exact rfl;exact rfl;decide;(unfold maxLen;omega);omega;clear hp;(try clear w1);intro g cap junk w1 hl1 hl2 hl3 hp;(try dsimp only [List.cons_append,List.nil_append] at hp);simp only [zp,zq,z0,z1]))
                go_roundw
                case rel =>
                  refine ⟨t,⟨g,30,(vs ++ [Value.slice (some ⟨gl,0,none⟩) ks.length capl]) ++ junk⟩ :: ⟨gl,3,(ks.map fun k : Nat => Value.int .i64 (k : Int)) ++ junkl⟩ :: Bs,by have := HT.out;omega,by have := HT.out;congr 1;omega,?_,hp.sub (.cons_cons _ (.cons _ (List.Sublist.refl _)))⟩
                  rw [HST.out]
                  exact .inr ⟨g,cap,vs ++ [Value.slice (some ⟨gl,0,none⟩) ks.length capl],junk,_,by simp,hl1,by simpa using hl2,hl3,.snoc (HSL.out.mono fun b hb => List.mem_cons_of_mem _ hb) (.inr ⟨_,capl,junkl,List.mem_cons_self ..,rfl,rfl,rfl⟩),rfl⟩
                case measure => simp [intOf];omega
      · rw [if_neg hpop] at hst
        obtain ⟨po,hpo⟩ : ∃ po,pop s = po := ⟨_,rfl⟩
        have hne : (po == (z : Int)) = false := by rw [← hpo];exact beq_eq_false_iff_ne.2 hpop
        have OC := Lib.hid (fun w1 => by have := ones_any s (by omega) w1;rw [hpo] at this;exact this)
        have HST := Lib.hid hst
        clear hst hpop hpo
        go_wp2_with ((with_reducible refine Qaf hp (OC.out _) ?_);clear hp;(try clear w1);intro w1 hp)
        go_roundw
        case rel => exact ⟨t,H,by have := HT.out;omega,by have := HT.out;congr 1;omega,by rw [HST.out];exact hOF,hp⟩
        case measure => simp [intOf];omega
    · obtain rfl : s = 0 := by omega
      have hov : ∃ b nn c,u5 = Value.slice b nn c := by
        rcases hOF.out with ⟨rfl,_⟩|⟨g,cap,vs,junk,Bs,rfl,_⟩
        · exact ⟨none,0,0,rfl⟩
        · exact ⟨_,_,_,rfl⟩
      obtain ⟨b0,nn,c0,rfl⟩ := hov
      go_wp2_with (fail)
      exact bodyPost_ret (Qaa rfl rfl) rfl ⟨_,H,rfl,hOF.out,hp⟩
/-- The choices by their size. -/
theorem sized_at (n z : Nat) (hn : (n : Int) ≤ 4) (w : World) : Calls Tryz.prog 24 #[.int .i64 (n : Int),.int .i64 (z : Int)] w (RetS (lsz n z (2 ^ n - 1) 0) w) := by
  have h : n = 0 ∨ n = 1 ∨ n = 2 ∨ n = 3 ∨ n = 4 := by omega
  have hw : wrap64 (wrap64 (2 ^ n) - 1) = ((2 ^ n - 1 : Nat) : Int) := by
    rcases h with rfl|rfl|rfl|rfl|rfl <;> simp [wrap64]
  refine sized_any n z (2 ^ n - 1) hn ?_ hw w
  rcases h with rfl|rfl|rfl|rfl|rfl <;> decide
theorem chs_sized (n : Nat) (h1 : 1 ≤ n) (h4 : n ≤ 4) : (List.range n).flatMap (fun j => lsz n (j + 1) (2 ^ n - 1) 0) = chs n := by
  have h : n = 1 ∨ n = 2 ∨ n = 3 ∨ n = 4 := by omega
  have c1 : (List.range 1).flatMap (fun j => lsz 1 (j + 1) (2 ^ 1 - 1) 0) = chs 1 := by kernel_rfl
  have c2 : (List.range 2).flatMap (fun j => lsz 2 (j + 1) (2 ^ 2 - 1) 0) = chs 2 := by kernel_rfl
  have c3 : (List.range 3).flatMap (fun j => lsz 3 (j + 1) (2 ^ 3 - 1) 0) = chs 3 := by kernel_rfl
  have c4 : (List.range 4).flatMap (fun j => lsz 4 (j + 1) (2 ^ 4 - 1) 0) = chs 4 := by kernel_rfl
  rcases h with rfl|rfl|rfl|rfl
  · exact c1
  · exact c2
  · exact c3
  · exact c4
end Go.Proofs.YtdfdmeoalbpcdaaGreat
