/-
  SimplexBest (the walk).
-/
import Derived.Test.YtdfdmeoalbpcdaaQu
set_option linter.unusedSimpArgs false
set_option linter.unusedVariables false
set_option maxRecDepth 100000
namespace Go.Proofs.Ytdfdmeoalbpcdaa
open Go Go.RowKit
attribute [local irreducible] wpList
set_option maxHeartbeats 4000000 in
theorem best_bad (b : Option Addr) (n c : Nat) (e : Int) (he : e = 7 ∨ e = 2 ∧ ((n : Int) < 1 ∨ ¬ (n : Int) < 1 ∧ (4 : Int) < n)) (w : World)
    (NR : Hid (∀ w1,Keep [] w w1 → Calls Try.prog 8 #[.slice b n c] w1 (Qeg ⟨0,0,0⟩ 0 [] e w1)))
    (SM : Hid (∀ s w1,Calls Try.prog 14 #[NrV 0 0 0 0 s,NrZ] w1 (Ret (.bool true) w1))) : Calls Try.prog 7 #[.slice b n c] w (Ret (.bool true) w) := by
  have AW := Lib.hid Qkq
  rcases he with rfl|⟨rfl,h|⟨h,h2⟩⟩
  all_goals
    go_enter Try.func7,Try.ntmps7
    have hp := Hp.start [] w
    go_wp2_with (first|((with_reducible apply Qae hp);exact ii;exact rfl;clear hp;(try clear w1);intro g w1 hp;simp only [zp,zq,z0,z1])|((with_reducible apply Qaa hp);exact zt rfl;exact ii;exact ii;(exact zl rfl);(simp only [n0,Nat.reduceAdd,nn];try rfl);simp only [zp,zq,z0,z1])|((with_reducible apply Qai hp);exact zt rfl;exact ii;exact ii;(exact zso rfl);simp only [zp,zq,z0,z1])|((with_reducible apply Qad hp);exact zt rfl;exact za rfl;exact rfl;(exact AggTy.size);exact rfl;exact ii;(simp only [n0,Nat.reduceAdd,nn];try rfl);(exact zl rfl);exact rfl;exact ii;clear hp;(try clear w1);intro w1 hp)|((with_reducible first|refine Qah hp (AW.out _) ?_|refine Qah hp (SM.out _ _) ?_);clear hp;(try clear w1);intro w1 hp)|((with_reducible refine Qgz hp (NR.out _ hp.keep) ?_);clear hp;(try clear w1);intro bC cC w1 hp)|((with_reducible apply Qcc);exact rfl))
    exact bodyPost_ret (Qab rfl rfl) rfl ⟨rfl,hp.keep⟩
theorem PSl.whole {w : World} {g cap : Nat} {t : TypeId} {tk : List P3} {n : Nat} {junk : List Value} (hn : tk.length = n) (h : w.heap[g]? = some (.cells (pcs tk ++ junk).toArray t (0,0))) : PSl w (.slice (some ⟨g,0,none⟩) n cap) tk := by
  subst hn
  refine .inr ⟨g,0,cap,_,_,_,rfl,h,?_⟩
  rw [List.drop_zero,← Qck,List.take_left']
  rfl
/-- Memory between two rounds: k points are taken. -/
def SpB (w : World) (L : List Bk) (tk : List P3) (k : Nat) (tv : Value) (wr : World) : Prop :=
  (k = 0 ∧ tv = .slice none 0 0 ∧ Hp [] w L wr) ∨
  ∃ ga ca ja,0 < k ∧ tv = .slice (some ⟨ga,0,none⟩) (tk.take k).length ca ∧ (pcs (tk.take k) ++ ja).length = ca * 3 ∧ (tk.take k).length ≤ ca ∧ ca ≤ maxLen ∧ Hp [] w (⟨ga,24,pcs (tk.take k) ++ ja⟩ :: L) wr
set_option maxHeartbeats 8000000 in
theorem best_good (l : List P3) (n : Nat) (Hn : Hid (n = l.length)) (hn4 : n ≤ 4) (ks js : List Nat) (hks : ks ≠ []) (hjs : js ≠ []) (N : P3) (d : Int) (out : List Int) (Ho : Hid ((ks.map fun k : Nat => Value.int .i64 (k : Int)) = out.map (Value.int .i64))) (hol : ks.length = out.length) (hjl : js.length = out.length) (h4 : out.length ≤ 4) (h1 : 1 ≤ out.length)
    (tk : List P3) (hlen : tk.length = out.length)
    (Hpl : Hid (∀ (i : Nat) (n : Int),out[i]? = some n → 0 ≤ n ∧ n < l.length ∧ tk[i]? = l[n.toNat]?)) (Hrise : Hid (∀ (i : Nat) (m n : Int),out[i]? = some m → out[i + 1]? = some n → m < n))
    (g0 off cap : Nat) (bc : List Value) (t : TypeId) {z : Nat × Nat} (w : World) (hb : w.heap[g0]? = some (.cells bc.toArray t z)) (Hv : Hid ((bc.drop off).take (l.length * 3) = pcs l))
    (NR : Hid (∀ w1,Keep [] w w1 → Calls Try.prog 8 #[.slice (some ⟨g0,off,none⟩) n cap] w1 (Qeg N d ks 0 w1)))
    (PA : Hid (∀ (k : Nat) (p : P3),l[k]? = some p → ∀ s w1,Calls Try.prog 10 #[NrV N.x N.y N.z d s,PV p] w1 (Ret (.bool false) w1)))
    (RK : Hid (∀ v1 w1,PSl w1 v1 tk → Calls Try.prog 19 #[v1] w1 (Ret (.tuple #[.int .i64 (out.length - 1),.int .i64 0]) w1)))
    (NO : Hid (∀ v1 w1,PSl w1 v1 tk → Calls Try.prog 8 #[v1] w1 (Qeg N d js 0 w1)))
    (SM : Hid (∀ s s' w1,Calls Try.prog 14 #[NrV N.x N.y N.z d s,NrV N.x N.y N.z d s'] w1 (Ret (.bool true) w1)))
    (SG : Hid (∀ w1,Calls Try.prog 20 #[W d] w1 (Ret (.int .i64 1) w1)))
    (SL : Hid (∀ s w1,Calls Try.prog 21 #[NrV N.x N.y N.z d s] w1 (Ret (.bool true) w1))) :
    Calls Try.prog 7 #[.slice (some ⟨g0,off,none⟩) n cap] w (Ret (.bool true) w) := by
  have AW := Lib.hid Qkq
  have HK := Lib.hid hks
  have HJ := Lib.hid hjs
  have HM := Lib.hid hol
  have HM2 := Lib.hid hjl
  clear hks hjs hol hjl
  go_enter Try.func7,Try.ntmps7
  have hp := Hp.start [] w
  go_wp2_with (first|((with_reducible apply Qae hp);exact ii;exact rfl;clear hp;(try clear w1);intro g w1 hp;simp only [zp,zq,z0,z1])|((with_reducible apply Qad hp);exact zt rfl;exact za rfl;exact rfl;(exact AggTy.size);exact rfl;exact ii;(simp only [n0,Nat.reduceAdd,nn];try rfl);(exact zl rfl);exact rfl;exact ii;clear hp;(try clear w1);intro w1 hp)|((with_reducible refine Qej hp (NR.out _ hp.keep) HK.out HM.out ?_);clear hp;(try clear w1);intro gC cC jC w1 hp))
  rw [Ho.out] at hp
  obtain ⟨gn,rfl⟩ : ∃ x : Nat,x = g := ⟨_,rfl⟩
  go_loopw [5] (fun i wr => ∃ k : Nat,k ≤ n ∧ i = .int .i64 k ∧ Hp [] w [⟨gn,33,[.int .u64 (lb (N.x) 0),.int .u64 (lb (N.x) 1),.int .u64 (lb (N.x) 2),.int .u64 (lb (N.x) 3),.int .u64 (lb (N.x) 4),.int .u64 (lb (N.x) 5),.int .u64 (lb (N.x) 6),.int .u64 (lb (N.x) 7),.int .u64 (lb (N.y) 0),.int .u64 (lb (N.y) 1),.int .u64 (lb (N.y) 2),.int .u64 (lb (N.y) 3),.int .u64 (lb (N.y) 4),.int .u64 (lb (N.y) 5),.int .u64 (lb (N.y) 6),.int .u64 (lb (N.y) 7),.int .u64 (lb (N.z) 0),.int .u64 (lb (N.z) 1),.int .u64 (lb (N.z) 2),.int .u64 (lb (N.z) 3),.int .u64 (lb (N.z) 4),.int .u64 (lb (N.z) 5),.int .u64 (lb (N.z) 6),.int .u64 (lb (N.z) 7),.int .u64 (lb (d) 0),.int .u64 (lb (d) 1),.int .u64 (lb (d) 2),.int .u64 (lb (d) 3),.int .u64 (lb (d) 4),.int .u64 (lb (d) 5),.int .u64 (lb (d) 6),.int .u64 (lb (d) 7),.slice (some ⟨gC,0,none⟩) out.length cC]⟩,⟨gC,3,out.map (Value.int .i64) ++ jC⟩] wr) (fun i _ => n - (intOf i).toNat)
  case atStart => exact ⟨0,by omega,rfl,hp⟩
  case round =>
    clear hp
    obtain ⟨k,hk,rfl,hp⟩ := hrel
    by_cases hk1 : k < n
    · obtain ⟨q,hq⟩ : ∃ q,l[k]? = some q := ⟨_,List.getElem?_eq_getElem (by rw [← Hn.out];exact hk1)⟩
      have PQ := Lib.hid (PA.out k q hq)
      have hat := Qfu Hv.out hq
      have hroom : off + k * 3 + 3 ≤ bc.length := by
        rcases Qdp Hv.out with h|h
        · subst h;simp at hq
        · rw [← Hn.out] at h;omega
      have hk2 : (k : Int) < n := by omega
      clear hq
      go_wp2_with (fail)
      have hq := hp
      refine Qac hp hq [] (.q 0 (.q 1 (.q 2 (.q 3 (.q 4 (.l 5 .nil)))))) (by kernel_rfl) (by kernel_rfl) ?_
      clear hp hq;(try clear w1);intro w1 hp hq
      repeat' (first|(((with_reducible apply sd_q);exact zo rfl);(first|((with_reducible apply Qaf hp);exact rfl;exact zt rfl;exact ii;exact ii;(exact zl rfl);(simp only [n0,Nat.reduceAdd,nn];try rfl);simp only [zp,zq,z0,z1])|((with_reducible apply Qbk hp);exact rfl;exact zt rfl;assumption;exact ii;assumption;(omega);simp only [zp,zq,z0,z1])|((with_reducible apply Qar hp);(first|exact zi rfl|exact zs rfl);simp only [zp,zq,z0,z1])|((with_reducible apply Qbe hp);exact rfl;exact zx rfl;exact zk rfl;exact ii;(exact AggTy.size);omega;omega;((try simp only [m0,Int.reduceToNat,m1,m2,Nat.reduceMul,Nat.reduceAdd,m3,m4,m5,n0]);exact rfl);simp only [zp,zq,z0,z1])))|(((with_reducible apply sd_l);exact zo rfl);((with_reducible apply Qap hp);exact rfl;(focus (intro _;go_simp;try first|with_reducible rfl|exact ⟨rfl,rfl⟩));(with_reducible exact fun w => PQ.out _ w);exact hq;clear hp hq;(try clear w1);intro w1 hp hq;simp only [zp,zq,z0,z1]))|((with_reducible apply Qam);clear hp;have hp := hq;clear hq))
      go_wp2_with (fail)
      go_roundw
      case rel => exact ⟨k + 1,by omega,by go_num,hp⟩
      case measure => simp [intOf];omega
    · obtain rfl : n = k := by omega
      clear hk hk1 PA
      go_wp2_with (fail)
      go_loopw [6,7] (fun tv i wr => ∃ k : Nat,k ≤ out.length ∧ i = .int .i64 k ∧ SpB w [⟨gn,33,[.int .u64 (lb (N.x) 0),.int .u64 (lb (N.x) 1),.int .u64 (lb (N.x) 2),.int .u64 (lb (N.x) 3),.int .u64 (lb (N.x) 4),.int .u64 (lb (N.x) 5),.int .u64 (lb (N.x) 6),.int .u64 (lb (N.x) 7),.int .u64 (lb (N.y) 0),.int .u64 (lb (N.y) 1),.int .u64 (lb (N.y) 2),.int .u64 (lb (N.y) 3),.int .u64 (lb (N.y) 4),.int .u64 (lb (N.y) 5),.int .u64 (lb (N.y) 6),.int .u64 (lb (N.y) 7),.int .u64 (lb (N.z) 0),.int .u64 (lb (N.z) 1),.int .u64 (lb (N.z) 2),.int .u64 (lb (N.z) 3),.int .u64 (lb (N.z) 4),.int .u64 (lb (N.z) 5),.int .u64 (lb (N.z) 6),.int .u64 (lb (N.z) 7),.int .u64 (lb (d) 0),.int .u64 (lb (d) 1),.int .u64 (lb (d) 2),.int .u64 (lb (d) 3),.int .u64 (lb (d) 4),.int .u64 (lb (d) 5),.int .u64 (lb (d) 6),.int .u64 (lb (d) 7),.slice (some ⟨gC,0,none⟩) out.length cC]⟩,⟨gC,3,out.map (Value.int .i64) ++ jC⟩] tk k tv wr) (fun _ i _ => out.length - (intOf i).toNat)
      case atStart => exact ⟨0,by omega,rfl,.inl ⟨rfl,rfl,hp⟩⟩
      case round =>
        clear hp
        obtain ⟨k,hk,rfl,hI⟩ := hrel
        by_cases hk1 : k < out.length
        · obtain ⟨m,hm⟩ : ∃ m,out[k]? = some m := ⟨_,List.getElem?_eq_getElem hk1⟩
          obtain ⟨hm0,hm1,hmq⟩ := Hpl.out k m hm
          have hk2 : (k : Int) < out.length := by omega
          have hmn : m < n := by rw [Hn.out];exact hm1
          have hmn' : ¬ (n : Int) ≤ m := by omega
          have hm0' : ¬ m < 0 := by omega
          obtain ⟨q,hq⟩ : ∃ q,tk[k]? = some q := ⟨_,List.getElem?_eq_getElem (by omega)⟩
          have hpq : l[m.toNat]? = some q := by rw [← hmq];exact hq
          have hat := Qfu Hv.out hpq
          have hroom : off + m.toNat * 3 + 3 ≤ bc.length := by
            rcases Qdp Hv.out with h|h
            · subst h;simp at hpq
            · rw [← Hn.out] at h;omega
          have hget : (out.map (Value.int .i64) ++ jC)[k * 1]? = some (.int .i64 m) := by
            rw [Nat.mul_one,List.getElem?_append_left (by simpa using hk1),List.getElem?_map,hm];rfl
          have htake : tk.take (k + 1) = tk.take k ++ [q] := by rw [List.take_add_one,hq];rfl
          have hrise := Hrise.out (k - 1)
          have HT := Lib.hid htake
          have HR := Lib.hid hrise
          have HMm := Lib.hid hm
          clear htake hrise hpq hq hmq hm hm1 hlen
          rcases hI with ⟨rfl,rfl,hp⟩|⟨ga,ca,ja,hk0,rfl,hja,hca,hcam,hp⟩
          · rw [show (((0 : Nat)) : Int) = 0 from rfl]
            rw [Nat.zero_mul] at hget
            clear NR RK NO SM SG SL
            go_wp2_with ((with_reducible apply Qai hp);exact zt rfl;exact ii;exact ii;(exact zso rfl);simp only [zp,zq,z0,z1])
            replace hm0' : ¬ m < 0 := by omega
            replace hmn' : ¬ (n : Int) ≤ m := by omega
            have hq := hp
            refine Qac hp hq [] (.q 0 (.q 1 (.q 2 (.q 3 (.q 4 (.q 5 (.q 6 (.q 7 (.q 8 (.q 9 (.q 10 (.q 11 (.q 12 (.q 13 (.q 14 (.q 15 (.q 16 (.q 17 (.q 18 (.q 19 (.q 20 (.q 21 (.q 22 (.q 23 (.q 24 (.q 25 (.q 26 (.q 27 (.q 28 (.q 29 (.q 30 (.q 31 (.q 32 (.q 33 .nil)))))))))))))))))))))))))))))))))) (by kernel_rfl) (by kernel_rfl) ?_
            clear hp hq;(try clear w1);intro w1 hp hq
            repeat' (first|(((with_reducible apply sd_q);exact zo rfl);(first|((with_reducible apply Qaz hp);exact rfl;exact zt rfl;exact ii;exact ii;(first|exact zso rfl|assumption);simp only [zp,zq,z0,z1])|((with_reducible apply Qar hp);(first|exact zb rfl|exact zi rfl);simp only [zp,zq,z0,z1])|((with_reducible apply Qbe hp);exact rfl;exact zx rfl;exact zk rfl;exact ii;(exact OneTy.size);omega;omega;((try simp only [m0,Int.reduceToNat,m1,m2,Nat.reduceMul,Nat.reduceAdd,m3,m4,m5,n0]);exact rfl);simp only [zp,zq,z0,z1])|((with_reducible apply Qaj hp);exact rfl;(focus (intro _;go_simp;(try go_ints);try with_reducible rfl));simp only [zp,zq,z0,z1])|((with_reducible apply Qoy hp);exact rfl;simp only [zp,zq,z0,z1])))|((with_reducible apply Qam);clear hp;have hp := hq;clear hq))
            go_wp2_with (first|((with_reducible apply Qai hp);exact zt rfl;exact ii;exact ii;(first|exact zso rfl|assumption);simp only [zp,zq,z0,z1])|((with_reducible apply Qba);exact zx rfl;exact zk rfl;exact ii;exact Sz.z;omega;omega;((try simp only [m0,Int.reduceToNat,m1,m2,Nat.reduceMul,Nat.reduceAdd,m3,m4,m5,n0]);exact rfl);simp only [zp,zq,z0,z1])|((with_reducible apply Qbj hp);exact zt rfl;assumption;exact ii;assumption;(omega);simp only [zp,zq,z0,z1])|((with_reducible apply Qbc hp);exact ii;(exact AggTy.size);exact ii;exact zl rfl;decide;(exact zk1 rfl);exact rfl;(exact zm1 rfl);(intro l hl <;> simp only [List.mem_cons,List.not_mem_nil,or_false] at hl <;> rcases hl with rfl|rfl|rfl|rfl <;> rfl);exact rfl;clear hp;(try clear w1);intro g w1 hp;simp only [zp,zq,z0,z1])|((with_reducible apply Qby hp);exact ii;exact ii;exact rfl;decide;exact (rfl : _ = Value.slice none 0 0);exact zy rfl;exact ii;exact rfl;exact rfl;decide;(unfold maxLen;decide);decide;clear hp;(try clear w1);intro g cap junk w1 hl1 hl2 hl3 hp;simp only [zp,zq,z0,z1]))
            go_roundw
            case rel =>
              have e1 : tk.take 1 = [q] := by simpa using HT.out
              refine ⟨1,by omega,rfl,?_⟩
              unfold SpB
              rw [e1]
              exact .inr ⟨_,_,_,by omega,rfl,by assumption,by assumption,by assumption,hp.sub (by repeat (first|exact sb0|apply sb2|apply sb3))⟩
            case measure => simp [intOf];omega
          · obtain ⟨j,rfl⟩ : ∃ j,k = j + 1 := ⟨k - 1,by omega⟩
            obtain ⟨m',hm'⟩ : ∃ m',out[j]? = some m' := ⟨_,List.getElem?_eq_getElem (by omega)⟩
            have hlt : m' < m := HR.out m' m (by simpa using hm') (by simpa using HMm.out)
            have hget' : (out.map (Value.int .i64) ++ jC)[j * 1]? = some (.int .i64 m') := by
              rw [Nat.mul_one,List.getElem?_append_left (by simp;omega),List.getElem?_map,hm'];rfl
            clear hm'
            have hlt' : ¬ m ≤ m' := by omega
            have hj0 : (0 : Int) < ((j + 1 : Nat) : Int) := by omega
            have hl4 : (tk.take (j + 1)).length ≤ 4 := by rw [List.length_take];omega
            clear NR RK NO SM SG SL
            generalize tk.take (j + 1) = tkk at *
            go_wp2_with ((with_reducible apply Qai hp);exact zt rfl;exact ii;exact ii;(exact zso rfl);simp only [zp,zq,z0,z1])
            replace hm0' : ¬ m < 0 := by omega
            replace hmn' : ¬ (n : Int) ≤ m := by omega
            replace hlt' : ¬ m ≤ m' := by omega
            replace hj0 : (0 : Int) < ((j + 1 : Nat) : Int) := by omega
            have hq := hp
            refine Qac hp hq [] (.q 0 (.q 1 (.q 2 (.q 3 (.q 4 (.q 5 (.q 6 (.q 7 (.q 8 (.q 9 (.q 10 (.q 11 (.q 12 (.q 13 (.q 14 (.q 15 (.q 16 (.q 17 (.q 18 (.q 19 (.q 20 (.q 21 (.q 22 (.q 23 (.q 24 (.q 25 (.q 26 (.q 27 (.q 28 (.q 29 (.q 30 (.q 31 (.q 32 (.q 33 .nil)))))))))))))))))))))))))))))))))) (by kernel_rfl) (by kernel_rfl) ?_
            clear hp hq;(try clear w1);intro w1 hp hq
            repeat' (first|(((with_reducible apply sd_q);exact zo rfl);(first|((with_reducible apply Qaz hp);exact rfl;exact zt rfl;exact ii;exact ii;(first|exact zso rfl|assumption);simp only [zp,zq,z0,z1])|((with_reducible apply Qar hp);(first|exact zb rfl|exact zi rfl);simp only [zp,zq,z0,z1])|((with_reducible apply Qbe hp);exact rfl;exact zx rfl;exact zk rfl;exact ii;(exact OneTy.size);omega;omega;((try simp only [m0,Int.reduceToNat,m1,m2,Nat.reduceMul,Nat.reduceAdd,m3,m4,m5,n0]);exact rfl);simp only [zp,zq,z0,z1])|((with_reducible apply Qaj hp);exact rfl;(focus (intro _;go_simp;(try go_ints);try with_reducible rfl));simp only [zp,zq,z0,z1])))|((with_reducible apply Qam);clear hp;have hp := hq;clear hq))
            go_wp2_with (first|((with_reducible apply Qai hp);exact zt rfl;exact ii;exact ii;(first|exact zso rfl|assumption);simp only [zp,zq,z0,z1])|((with_reducible apply Qba);exact zx rfl;exact zk rfl;exact ii;exact Sz.z;omega;omega;((try simp only [m0,Int.reduceToNat,m1,m2,Nat.reduceMul,Nat.reduceAdd,m3,m4,m5,n0]);exact rfl);simp only [zp,zq,z0,z1])|((with_reducible apply Qbj hp);exact zt rfl;assumption;exact ii;assumption;(omega);simp only [zp,zq,z0,z1])|((with_reducible apply Qbc hp);exact ii;(exact AggTy.size);exact ii;exact zl rfl;decide;(exact zk1 rfl);exact rfl;(exact zm1 rfl);(intro l hl <;> simp only [List.mem_cons,List.not_mem_nil,or_false] at hl <;> rcases hl with rfl|rfl|rfl|rfl <;> rfl);exact rfl;clear hp;(try clear w1);intro g w1 hp;simp only [zp,zq,z0,z1])|((with_reducible apply Qek hp);exact ii;exact ii;exact rfl;decide;exact zy rfl;(exact pm1);(exact Qck _);assumption;assumption;assumption;exact zy rfl;exact ii;exact rfl;exact rfl;decide;(unfold maxLen;omega);omega;clear hp;(try clear w1);intro g cap junk w1 hl1 hl2 hl3 hp;(try dsimp only [List.cons_append,List.nil_append] at hp);simp only [zp,zq,z0,z1]))
            go_roundw
            case rel =>
              have e1 : pcs (tkk ++ [q]) = pcs tkk ++ [Value.int .i64 q.x,.int .i64 q.y,.int .i64 q.z] := by rw [Qeq];rfl
              have e2 : (tkk ++ [q]).length = tkk.length + 1 := by simp
              refine ⟨j + 1 + 1,by omega,by go_num,?_⟩
              unfold SpB
              rw [HT.out,e1,e2]
              exact .inr ⟨_,_,_,by omega,rfl,by assumption,by assumption,by assumption,hp.sub (by repeat (first|exact sb0|apply sb2|apply sb3))⟩
            case measure => simp [intOf];omega
        · obtain rfl : k = out.length := by omega
          have htk : tk.take out.length = tk := List.take_of_length_le (by omega)
          rcases hI with ⟨h0,_,_⟩|⟨ga,ca,ja,hk0,rfl,hja,hca,hcam,hp⟩
          · omega
          rw [htk] at hp
          rw [htk,hlen]
          clear hja hca NR Hpl Hrise hk htk hk1
          have HL := Lib.hid hlen
          clear hlen
          generalize out.length = mm at *
          have hmm : mm = 1 ∨ mm = 2 ∨ mm = 3 ∨ mm = 4 := by omega
          clear h4 h1 hk0 hn4
          rcases hmm with rfl|rfl|rfl|rfl
          all_goals
            go_wp2_with (first|((with_reducible apply Qae hp);exact ii;exact rfl;clear hp;(try clear w1);intro g w1 hp;simp only [zp,zq,z0,z1])|((with_reducible apply Qaa hp);exact zt rfl;exact ii;exact ii;(exact zl rfl);(simp only [n0,Nat.reduceAdd,nn];try rfl);simp only [zp,zq,z0,z1])|((with_reducible apply Qai hp);exact zt rfl;exact ii;exact ii;(exact zso rfl);simp only [zp,zq,z0,z1])|((with_reducible apply Qad hp);exact zt rfl;exact za rfl;exact rfl;(exact AggTy.size);exact rfl;exact ii;(simp only [n0,Nat.reduceAdd,nn];try rfl);(exact zl rfl);exact rfl;exact ii;clear hp;(try clear w1);intro w1 hp)|((with_reducible first|refine Qah hp (SM.out _ _ _) ?_|refine Qah hp (SG.out _) ?_|refine Qah hp (SL.out _ _) ?_|refine Qah hp (AW.out _) ?_);clear hp;(try clear w1);intro w1 hp)|((with_reducible refine Qah hp (RK.out _ _ (PSl.whole HL.out hp.blk)) ?_);clear hp;(try clear w1);intro w1 hp)|((with_reducible refine Qej hp (NO.out _ _ (PSl.whole HL.out hp.blk)) HJ.out HM2.out ?_);clear hp;(try clear w1);intro gM cM jM w1 hp)|((with_reducible apply Qcc);exact rfl))
            exact bodyPost_ret (Qab rfl rfl) rfl ⟨rfl,hp.keep⟩
end Go.Proofs.Ytdfdmeoalbpcdaa
