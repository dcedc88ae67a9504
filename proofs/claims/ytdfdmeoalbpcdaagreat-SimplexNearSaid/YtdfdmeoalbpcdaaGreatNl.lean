/-
  Regions that draw: an empty literal, append of what lay there, a call of Near; '=='; ninepinlaw15.same (contract).
  ninepinref15.try (contract).
-/
import Derived.Test.YtdfdmeoalbpcdaaGreatQt
import Derived.Test.YtdfdmeoalbpcdaaGreatNj
set_option linter.unusedSimpArgs false
set_option linter.unusedVariables false
set_option maxRecDepth 100000
namespace Go.Proofs.YtdfdmeoalbpcdaaGreat
open Go Go.RowKit
attribute [local irreducible] wpList
section
variable {P : Program} {X : List Nat} {w0 w : World} {H Hq H' : List Bk} {g : Nat} {t : TypeId} {cs cs' : List Value}
variable {ops : Array Oper} {Q : Exit → Act → World → Prop} {a : Act} {N : List Nat} {i : Nat} {rest : Sc} {d p : Tmp} {tp ty : TypeId} {pos : String} {af : Array Edge} {gd : Option (Nat × Bool)} {off n : Nat}
end
end Go.Proofs.YtdfdmeoalbpcdaaGreat

set_option linter.unusedSimpArgs false
set_option linter.unusedVariables false
set_option maxRecDepth 100000
namespace Go.Proofs.YtdfdmeoalbpcdaaGreat
open Go Go.RowKit
attribute [local irreducible] wpList
set_option maxHeartbeats 8000000 in
theorem try_flat (v va : Value) (S : List P3) (m : Nat) (hm : S.length = m) (hm1 : 1 ≤ m) (hm4 : m ≤ 4) (r : Int) (hr : (r != (m : Int) - 1) = true) (w : World)
    (CH : Hid (∀ w1,Keep [] w w1 → Calls Tryz.prog 28 #[v,va] w1 (RetP S w1)))
    (OF : Hid (∀ v1 w1,PSl w1 v1 S → Calls Tryz.prog 29 #[v1] w1 (Ret (.int .i64 r) w1))) :
    Calls Tryz.prog 15 #[v,va] w (Ret (.tuple #[NrZ,.bool false]) w) := by
  have HM := Lib.hid hm
  clear hm
  go_enter Tryz.func15,Tryz.ntmps15
  have hp := Hp.start [] w
  go_wp2_with (first|((with_reducible apply Qag hp);exact ii;exact rfl;clear hp;(try clear w1);intro g w1 hp;simp only [zp,zq,z0,z1])|((with_reducible apply Qae hp);exact zt rfl;exact za rfl;exact rfl;(exact AggTy.size);exact rfl;exact ii;(simp only [n0,Nat.reduceAdd,nn];try rfl);(exact zl rfl);exact rfl;exact ii;clear hp;(try clear w1);intro w1 hp)|((with_reducible refine sx_callP hp (CH.out _ hp.keep) HM.out ?_);clear hp;(try clear w1);intro gS cS jS w1 hp)|((with_reducible refine Qaf hp (OF.out _ _ (Qnr HM.out hp.blk)) ?_);clear hp;(try clear w1);intro w1 hp))
  exact bodyPost_ret (Qan rfl ⟨_,rfl,Qac hp (Nat.le_of_ble_eq_true rfl)⟩ rfl) rfl ⟨rfl,hp.keep⟩
set_option maxHeartbeats 16000000 in
theorem try_core (l S : List P3) (ws : List Int) (d : Int) (x y z q : Int) (ok pos : Bool) (res : Value) (ps : Nat → Bool) (n m g0 off cap : Nat) (va : Value) (bc : List Value) (t0 : TypeId) (u0 : Nat × Nat) (w : World) (hb : w.heap[g0]? = some (.cells bc.toArray t0 u0)) (Hn : Hid (n = l.length)) (hn : (n : Int) ≤ 4) (HM : Hid (S.length = m)) (hm1 : 1 ≤ m) (hm4 : m ≤ 4) (Hw : Hid (ws.length = m))
    (HS : Hid (∀ (k : Nat) (p : P3),l[k]? = some p → (bc.drop (off + k * 3)).take 3 = [.int .i64 p.x,.int .i64 p.y,.int .i64 p.z] ∧ off + k * 3 + 3 ≤ bc.length))
    (CH : Hid (∀ w1,Keep [] w w1 → Calls Tryz.prog 28 #[.slice (some ⟨g0,off,none⟩) n cap,va] w1 (RetP S w1)))
    (OF : Hid (∀ v1 w1,PSl w1 v1 S → Calls Tryz.prog 29 #[v1] w1 (Ret (.int .i64 ((m : Int) - 1)) w1)))
    (WT : Hid (∀ v1 w1,PSl w1 v1 S → Calls Tryz.prog 30 #[v1] w1 (RetW ws d w1)))
    (SG : Hid (∀ (k : Nat) (x : Int),ws[k]? = some x → ∀ w1,Calls Tryz.prog 31 #[W x] w1 (Ret (.int .i64 (sgn x)) w1)))
    (HP : Hid (pos = true ↔ ∀ x ∈ ws,0 < x))
    (SM : Hid (pos = true → ∀ v1 v2 w1,PSl w1 v1 S → FSl WL 8 w1 v2 ws → Calls Tryz.prog 32 #[v1,v2,W d] w1 (Ret (.tuple #[Sv x y z,W q]) w1)))
    (PA : Hid (pos = true → ∀ (k : Nat) (p : P3),l[k]? = some p → ∀ w1,Calls Tryz.prog 33 #[Sv x y z,W q,PV p] w1 (Ret (.bool (ps k)) w1)))
    (Hok : Hid (ok = true ↔ pos = true ∧ ∀ k : Nat,k < n → ps k = false)) (HR1 : Hid (ok = true → res = NrV x y z q va)) (HR0 : Hid (ok = false → res = NrZ)) (va0 : Option Addr) (vac : Nat) (hva : va = .slice va0 m vac) :
    Calls Tryz.prog 15 #[.slice (some ⟨g0,off,none⟩) n cap,va] w (Ret (.tuple #[res,.bool ok]) w) := by
  subst hva
  go_enter Tryz.func15,Tryz.ntmps15
  have hp := Hp.start [] w
  go_wp2_with (first|((with_reducible apply Qag hp);exact ii;exact rfl;clear hp;(try clear w1);intro g w1 hp;simp only [zp,zq,z0,z1])|((with_reducible apply Qae hp);exact zt rfl;exact za rfl;exact rfl;(exact AggTy.size);exact rfl;exact ii;(simp only [n0,Nat.reduceAdd,nn];try rfl);(exact zl rfl);exact rfl;exact ii;clear hp;(try clear w1);intro w1 hp)|((with_reducible refine sx_callP hp (CH.out _ hp.keep) HM.out ?_);clear hp;(try clear w1);intro gS cS jS w1 hp)|((with_reducible refine Qaf hp (OF.out _ _ (Qnr HM.out hp.blk)) ?_);clear hp;(try clear w1);intro w1 hp)|((with_reducible refine sx_callWn hp (WT.out _ _ (Qnr HM.out hp.blk)) Hw.out ?_);clear hp;(try clear w1);intro gw cw' junk w1 hp))
  rename_i g4 K hK
  obtain ⟨gd,rfl⟩ : ∃ z : Nat,z = g := ⟨_,rfl⟩
  go_loopw [9] (fun i wr => ∃ k : Nat,(k : Int) ≤ m ∧ i = .int .i64 k ∧ Hid (∀ (j : Nat) (x : Int),j < k → ws[j]? = some x → 0 < x) ∧ Hp [] w [⟨gd,27,[.int .u64 (lb (d) 0),.int .u64 (lb (d) 1),.int .u64 (lb (d) 2),.int .u64 (lb (d) 3),.int .u64 (lb (d) 4),.int .u64 (lb (d) 5),.int .u64 (lb (d) 6),.int .u64 (lb (d) 7)]⟩,⟨gw,27,ws.flatMap WL ++ junk⟩,⟨gS,39,pcs S ++ jS⟩,⟨g4,32,(.int .u64 0 :: .int .u64 0 :: .int .u64 0 :: .int .u64 0 :: .int .u64 0 :: .int .u64 0 :: .int .u64 0 :: .int .u64 0 :: .int .u64 0 :: .int .u64 0 :: .int .u64 0 :: .int .u64 0 :: .int .u64 0 :: .int .u64 0 :: .int .u64 0 :: .int .u64 0 :: .int .u64 0 :: .int .u64 0 :: .int .u64 0 :: .int .u64 0 :: .int .u64 0 :: .int .u64 0 :: .int .u64 0 :: .int .u64 0 :: .int .u64 0 :: .int .u64 0 :: .int .u64 0 :: .int .u64 0 :: .int .u64 0 :: .int .u64 0 :: .int .u64 0 :: .int .u64 0 :: .slice none 0 0 :: [])⟩] wr) (fun i _ => m - (intOf i).toNat)
  case atStart => exact ⟨0,by omega,rfl,fun j x hj => absurd hj (by omega),hp⟩
  case round =>
    clear hp
    obtain ⟨k,hk,rfl,hall,hp⟩ := hrel
    by_cases hkn : (k : Int) < m
    · obtain ⟨v,hv⟩ : ∃ v,ws[k]? = some v := ⟨_,List.getElem?_eq_getElem (by have := Hw.out;omega)⟩
      obtain ⟨f1,f2⟩ := fl_at0 (junk := junk) hv
      have k0 : (0 : Int) ≤ (k : Int) := by omega
      have HV := Lib.hid hv
      by_cases hv0 : 0 < v
      · have S1 := Lib.hid (fun w1 => by have := SG.out k v hv w1;rw [show sgn v = 1 from by unfold sgn;rw [if_neg (by omega),if_neg (by omega)]] at this;exact this)
        have HV0 := Lib.hid hv0
        clear hv hv0
        go_wp2_with (first|((with_reducible apply Qab hp);exact zt rfl;exact ii;exact ii;(assumption);(assumption);simp only [zp,zq,z0,z1])|((with_reducible apply Qar);exact zx rfl;exact zk rfl;exact ii;(exact AggTy.size);omega;omega;((try simp only [m0,Int.reduceToNat,m1,m2,Nat.reduceMul,Nat.reduceAdd,m3,m4,m5,n0]);exact rfl);simp only [zp,zq,z0,z1])|((with_reducible refine Qaf hp (S1.out _) ?_);clear hp;(try clear w1);intro w1 hp))
        go_roundw
        case rel =>
          refine ⟨k + 1,by omega,rfl,?_,hp.sub (by repeat (exact sb0))⟩
          intro j x hj hx
          rcases Nat.lt_or_ge j k with h|h
          · exact hall.out j x h hx
          · rw [show j = k by omega,HV.out] at hx
            cases hx
            exact HV0.out
        case measure => simp [intOf];omega
      · have hpf : pos = false := by
          cases hpos : pos with
          | false => rfl
          | true => exact absurd (HP.out.1 hpos v (List.mem_of_getElem? hv)) hv0
        have hof : ok = false := by
          cases hok : ok with
          | false => rfl
          | true => rw [(Hok.out.1 hok).1] at hpf;cases hpf
        obtain rfl := HR0.out hof
        obtain ⟨sg,hsg,hs0⟩ : ∃ sg,sgn v = sg ∧ sg ≤ 0 := ⟨_,rfl,by unfold sgn;split;omega;split <;> omega⟩
        have S1 := Lib.hid (fun w1 => by have := SG.out k v hv w1;rw [hsg] at this;exact this)
        clear hv hv0 hpf hsg
        subst hof
        go_wp2_with (first|((with_reducible apply Qab hp);exact zt rfl;exact ii;exact ii;(assumption);(assumption);simp only [zp,zq,z0,z1])|((with_reducible apply Qae hp);exact zt rfl;exact za rfl;exact rfl;(exact AggTy.size);exact rfl;exact ii;(simp only [n0,Nat.reduceAdd,nn];try rfl);(exact zl rfl);exact rfl;exact ii;clear hp;(try clear w1);intro w1 hp)|((with_reducible apply Qar);exact zx rfl;exact zk rfl;exact ii;(exact AggTy.size);omega;omega;((try simp only [m0,Int.reduceToNat,m1,m2,Nat.reduceMul,Nat.reduceAdd,m3,m4,m5,n0]);exact rfl);simp only [zp,zq,z0,z1])|((with_reducible refine Qaf hp (S1.out _) ?_);clear hp;(try clear w1);intro w1 hp))
        exact bodyPost_ret (Qan rfl ⟨_,rfl,Qac hp (Nat.le_of_ble_eq_true rfl)⟩ rfl) rfl ⟨rfl,hp.keep⟩
    · have hpt : pos = true := HP.out.2 fun x hx => by
        obtain ⟨j,hj,e⟩ := List.mem_iff_getElem.1 hx
        exact hall.out j x (by have := Hw.out;omega) (by rw [List.getElem?_eq_getElem hj,e])
      have S1 := Lib.hid (SM.out hpt)
      have P1 := Lib.hid (PA.out hpt)
      have HPT := Lib.hid hpt
      have HW2 : Hid (m = ws.length) := Hw.out.symm
      clear hpt hall
      go_wp2_with (first|((with_reducible apply Qag hp);exact ii;exact rfl;clear hp;(try clear w1);intro g w1 hp;simp only [zp,zq,z0,z1])|((with_reducible apply Qab hp);exact zt rfl;exact ii;exact ii;(exact zl rfl);(simp only [n0,Nat.reduceAdd,nn];try rfl);simp only [zp,zq,z0,z1])|((with_reducible apply Qae hp);exact zt rfl;exact za rfl;exact rfl;(exact AggTy.size);exact rfl;exact ii;(simp only [n0,Nat.reduceAdd,nn];try rfl);(exact zl rfl);exact rfl;exact ii;clear hp;(try clear w1);intro w1 hp)|((with_reducible refine Qaf hp (S1.out _ _ _ (Qnr HM.out hp.blk) (FSl.own Qdd HW2.out hp.blk)) ?_);clear hp;(try clear w1);intro w1 hp))
      rename_i g10 K2 hK2
      obtain ⟨g11,rfl⟩ : ∃ z : Nat,z = g := ⟨_,rfl⟩
      obtain ⟨w3,hw3⟩ : ∃ x : World,x = wr := ⟨_,rfl⟩
      subst hw3
      go_loopw [12] (fun i wr => ∃ k : Nat,(k : Int) ≤ n ∧ i = .int .i64 k ∧ Hid (∀ j : Nat,j < k → ps j = false) ∧ Hp [] w [⟨g11,27,[.int .u64 (lb (q) 0),.int .u64 (lb (q) 1),.int .u64 (lb (q) 2),.int .u64 (lb (q) 3),.int .u64 (lb (q) 4),.int .u64 (lb (q) 5),.int .u64 (lb (q) 6),.int .u64 (lb (q) 7)]⟩,⟨g10,29,[.int .u64 (lb (x) 0),.int .u64 (lb (x) 1),.int .u64 (lb (x) 2),.int .u64 (lb (x) 3),.int .u64 (lb (x) 4),.int .u64 (lb (x) 5),.int .u64 (lb (x) 6),.int .u64 (lb (x) 7),.int .u64 (lb (y) 0),.int .u64 (lb (y) 1),.int .u64 (lb (y) 2),.int .u64 (lb (y) 3),.int .u64 (lb (y) 4),.int .u64 (lb (y) 5),.int .u64 (lb (y) 6),.int .u64 (lb (y) 7),.int .u64 (lb (z) 0),.int .u64 (lb (z) 1),.int .u64 (lb (z) 2),.int .u64 (lb (z) 3),.int .u64 (lb (z) 4),.int .u64 (lb (z) 5),.int .u64 (lb (z) 6),.int .u64 (lb (z) 7)]⟩,⟨gd,27,[.int .u64 (lb (d) 0),.int .u64 (lb (d) 1),.int .u64 (lb (d) 2),.int .u64 (lb (d) 3),.int .u64 (lb (d) 4),.int .u64 (lb (d) 5),.int .u64 (lb (d) 6),.int .u64 (lb (d) 7)]⟩,⟨gw,27,ws.flatMap WL ++ junk⟩,⟨gS,39,pcs S ++ jS⟩,⟨g4,32,(.int .u64 0 :: .int .u64 0 :: .int .u64 0 :: .int .u64 0 :: .int .u64 0 :: .int .u64 0 :: .int .u64 0 :: .int .u64 0 :: .int .u64 0 :: .int .u64 0 :: .int .u64 0 :: .int .u64 0 :: .int .u64 0 :: .int .u64 0 :: .int .u64 0 :: .int .u64 0 :: .int .u64 0 :: .int .u64 0 :: .int .u64 0 :: .int .u64 0 :: .int .u64 0 :: .int .u64 0 :: .int .u64 0 :: .int .u64 0 :: .int .u64 0 :: .int .u64 0 :: .int .u64 0 :: .int .u64 0 :: .int .u64 0 :: .int .u64 0 :: .int .u64 0 :: .int .u64 0 :: .slice none 0 0 :: [])⟩] wr) (fun i _ => n - (intOf i).toNat)
      case atStart => exact ⟨0,by omega,rfl,fun j hj => absurd hj (by omega),hp⟩
      case round =>
        clear hp
        obtain ⟨k,hk,rfl,hall,hp⟩ := hrel
        by_cases hkn : (k : Int) < n
        · obtain ⟨p,hpk⟩ : ∃ p,l[k]? = some p := ⟨_,List.getElem?_eq_getElem (by have := Hn.out;omega)⟩
          obtain ⟨f1,f2⟩ := HS.out k p hpk
          have k0 : (0 : Int) ≤ (k : Int) := by omega
          have P2 := P1.out k p hpk
          cases hps : ps k with
          | true =>
            rw [hps] at P2
            have P2 := Lib.hid P2
            have hof : ok = false := by
              cases hok : ok with
              | false => rfl
              | true => rw [(Hok.out.1 hok).2 k (by omega)] at hps;cases hps
            obtain rfl := HR0.out hof
            clear hps hpk
            subst hof
            go_wp2_with (fail)
            have hq := hp
            refine Qad hp hq [] (.q 0 (.q 1 (.q 2 (.q 3 (.q 4 (.q 5 (.l 6 .nil))))))) (by kernel_rfl) (by kernel_rfl) ?_
            clear hp hq;(try clear w1);intro w1 hp hq
            repeat' (first|(((with_reducible apply sd_q);exact zo rfl);(first|((with_reducible apply Qah hp);exact rfl;exact zt rfl;exact ii;exact ii;(exact zl rfl);(simp only [n0,Nat.reduceAdd,nn];try rfl);simp only [zp,zq,z0,z1])|((with_reducible apply Qbe hp);exact rfl;exact zt rfl;assumption;exact ii;assumption;(omega);simp only [zp,zq,z0,z1])|((with_reducible apply Qaq hp);(first|exact zi rfl|exact zs rfl);simp only [zp,zq,z0,z1])|((with_reducible apply Qas hp);exact rfl;exact zx rfl;exact zk rfl;exact ii;(exact AggTy.size);omega;omega;((try simp only [m0,Int.reduceToNat,m1,m2,Nat.reduceMul,Nat.reduceAdd,m3,m4,m5,n0]);exact rfl);simp only [zp,zq,z0,z1])))|(((with_reducible apply sd_l);exact zo rfl);((with_reducible apply Qap hp);exact rfl;(focus (intro _;go_simp;try first|with_reducible rfl|exact ⟨rfl,rfl⟩));(with_reducible exact fun w => P2.out w);exact hq;clear hp hq;(try clear w1);intro w1 hp hq;simp only [zp,zq,z0,z1]))|((with_reducible apply Qao);clear hp;have hp := hq;clear hq))
            go_wp2_with ((with_reducible apply Qae hp);exact zt rfl;exact za rfl;exact rfl;(exact AggTy.size);exact rfl;exact ii;(simp only [n0,Nat.reduceAdd,nn];try rfl);(exact zl rfl);exact rfl;exact ii;clear hp;(try clear w1);intro w1 hp)
            exact bodyPost_ret (Qan rfl ⟨_,rfl,Qac hp (Nat.le_of_ble_eq_true rfl)⟩ rfl) rfl ⟨rfl,hp.keep⟩
          | false =>
            rw [hps] at P2
            have P2 := Lib.hid P2
            have HPS := Lib.hid hps
            clear hps hpk
            go_wp2_with (fail)
            have hq := hp
            refine Qad hp hq [] (.q 0 (.q 1 (.q 2 (.q 3 (.q 4 (.q 5 (.l 6 .nil))))))) (by kernel_rfl) (by kernel_rfl) ?_
            clear hp hq;(try clear w1);intro w1 hp hq
            repeat' (first|(((with_reducible apply sd_q);exact zo rfl);(first|((with_reducible apply Qah hp);exact rfl;exact zt rfl;exact ii;exact ii;(exact zl rfl);(simp only [n0,Nat.reduceAdd,nn];try rfl);simp only [zp,zq,z0,z1])|((with_reducible apply Qbe hp);exact rfl;exact zt rfl;assumption;exact ii;assumption;(omega);simp only [zp,zq,z0,z1])|((with_reducible apply Qaq hp);(first|exact zi rfl|exact zs rfl);simp only [zp,zq,z0,z1])|((with_reducible apply Qas hp);exact rfl;exact zx rfl;exact zk rfl;exact ii;(exact AggTy.size);omega;omega;((try simp only [m0,Int.reduceToNat,m1,m2,Nat.reduceMul,Nat.reduceAdd,m3,m4,m5,n0]);exact rfl);simp only [zp,zq,z0,z1])))|(((with_reducible apply sd_l);exact zo rfl);((with_reducible apply Qap hp);exact rfl;(focus (intro _;go_simp;try first|with_reducible rfl|exact ⟨rfl,rfl⟩));(with_reducible exact fun w => P2.out w);exact hq;clear hp hq;(try clear w1);intro w1 hp hq;simp only [zp,zq,z0,z1]))|((with_reducible apply Qao);clear hp;have hp := hq;clear hq))
            go_wp2_with (fail)
            go_roundw
            case rel =>
              refine ⟨k + 1,by omega,rfl,?_,hp⟩
              intro j hj
              rcases Nat.lt_or_ge j k with h|h
              · exact hall.out j h
              · rw [show j = k by omega];exact HPS.out
            case measure => simp [intOf];omega
        · have hot : ok = true := Hok.out.2 ⟨HPT.out,fun j hj => hall.out j (by omega)⟩
          obtain rfl := HR1.out hot
          subst hot
          clear hall
          go_wp2_with (first|((with_reducible apply Qab hp);exact zt rfl;exact ii;exact ii;(exact zl rfl);(simp only [n0,Nat.reduceAdd,nn];try rfl);simp only [zp,zq,z0,z1])|((with_reducible apply Qae hp);exact zt rfl;exact za rfl;exact rfl;(exact AggTy.size);exact rfl;exact ii;(simp only [n0,Nat.reduceAdd,nn];try rfl);(exact zl rfl);exact rfl;exact ii;clear hp;(try clear w1);intro w1 hp))
          exact bodyPost_ret (Qan rfl ⟨_,rfl,Qac hp (Nat.le_of_ble_eq_true rfl)⟩ rfl) rfl ⟨rfl,hp.keep⟩
end Go.Proofs.YtdfdmeoalbpcdaaGreat
