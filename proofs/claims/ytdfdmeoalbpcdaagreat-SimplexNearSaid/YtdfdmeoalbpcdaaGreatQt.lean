/-
  ninepinlaw15: same, awake (contracts).
-/
import Derived.Test.YtdfdmeoalbpcdaaGreatQo
set_option linter.unusedSimpArgs false
set_option linter.unusedVariables false
set_option maxRecDepth 100000
namespace Go.Proofs.YtdfdmeoalbpcdaaGreat
open Go Go.RowKit
attribute [local irreducible] wpList
/-- What lies behind a literal of points. -/
theorem psl_lit {w : World} {g n cap : Nat} {t : TypeId} {cs : List Value} {z : Nat × Nat} {L : List P3} (h : w.heap[g]? = some (.cells cs.toArray t z)) (hn : n = L.length) (hc : cs = pcs L) : PSl w (.slice (some ⟨g,0,none⟩) n cap) L := by
  subst hn hc
  refine .inr ⟨g,0,cap,_,_,_,rfl,h,?_⟩
  rw [List.drop_zero,← Qdx,List.take_length]
theorem Qpe {P : Program} {X : List Nat} {w0 w : World} {H : List Bk} {f : FuncId} {args : Array Value} {N : P3} {d err : Int} {ks : List Nat} {R : Ending → World → Prop} (hp : Hp X w0 H w) (hc : Calls P f args w (Qfi N d ks err w)) (hne : ks ≠ []) {n : Nat} (hn : ks.length = n) (V : Value → Value) (hV : ∀ s,NrV N.x N.y N.z d s = V s)
    (hk : ∀ g cap junk w1,Hp X w0 (⟨g,3,(ks.map fun k : Nat => Value.int .i64 (k : Int)) ++ junk⟩ :: H) w1 → R (.returned (.tuple #[V (.slice (some ⟨g,0,none⟩) n cap),.int .i64 err])) w1) : Calls P f args w R :=
  Qkt hp hc hne hn fun g cap junk w1 h => by rw [hV];exact hk g cap junk w1 h
theorem sx_callNy {P : Program} {X : List Nat} {w0 w : World} {H : List Bk} {f : FuncId} {args : Array Value} {N : P3} {d err : Int} {R : Ending → World → Prop} (hp : Hp X w0 H w) (hc : Calls P f args w (Qfi N d [] err w)) (V : Value → Value) (hV : ∀ s,NrV N.x N.y N.z d s = V s)
    (hk : ∀ b c w1,Hp X w0 H w1 → R (.returned (.tuple #[V (.slice b 0 c),.int .i64 err])) w1) : Calls P f args w R :=
  Qjn hp hc fun b c w1 h => by rw [hV];exact hk b c w1 h
def la1 : List P3 := [⟨1,0,0⟩,⟨0,1,0⟩]
def la2 : List P3 := [⟨3,4,0⟩]
theorem la1_E : Qea la1 = 0 := by kernel_rfl
theorem la2_E : Qea la2 = 0 := by kernel_rfl
theorem la1_K : Qda la1 = [0,1] := by kernel_rfl
theorem la2_K : Qda la2 = [0] := by kernel_rfl
theorem la1_N : Qdt la1 = (⟨1,1,0⟩,2) := by kernel_rfl
theorem la2_N : Qdt la2 = (⟨3,4,0⟩,1) := by kernel_rfl
set_option maxHeartbeats 1000000 in
theorem awake15 (w : World) : Calls Tryz.prog 4 #[] w (Ret (.bool true) w) := by
  have N1 : Hid (∀ (g : Nat) (cs : List Value) (w1 : World),w1.heap[g]? = some (.cells cs.toArray 39 (0,0)) → cs = pcs la1 → Calls Tryz.prog 5 #[.slice (some ⟨g,0,none⟩) 2 2] w1 (Qfi ⟨1,1,0⟩ 2 [0,1] 0 w1)) := fun g cs w1 h hc => by
    have := Qhp (l := la1) (by unfold maxLen;decide) w1 (psl_lit (n := 2) (cap := 2) h rfl hc)
    rw [la1_E,la1_K,la1_N] at this
    exact this
  have N2 : Hid (∀ (g : Nat) (cs : List Value) (w1 : World),w1.heap[g]? = some (.cells cs.toArray 39 (0,0)) → cs = pcs la2 → Calls Tryz.prog 5 #[.slice (some ⟨g,0,none⟩) 1 1] w1 (Qfi ⟨3,4,0⟩ 1 [0] 0 w1)) := fun g cs w1 h hc => by
    have := Qhp (l := la2) (by unfold maxLen;decide) w1 (psl_lit (n := 1) (cap := 1) h rfl hc)
    rw [la2_E,la2_K,la2_N] at this
    exact this
  have N3 : Hid (∀ (w1 : World),Calls Tryz.prog 5 #[.slice none 0 0] w1 (Qfi ⟨0,0,0⟩ 0 [] 2 w1)) := fun w1 => Qhp (l := []) (by unfold maxLen;decide) w1 (.inl ⟨rfl,rfl⟩)
  have O1 := Lib.hid (Qor 1 (by unfold I64;omega))
  have O2 := Lib.hid (Qor 2 (by unfold I64;omega))
  have nb2 : Nb ⟨3,4,0⟩ 1 := by have := near_nb la2_E;rwa [la2_N] at this
  have nb1 : Nb ⟨1,1,0⟩ 2 := by have := near_nb la1_E;rwa [la1_N] at this
  have P1 : (∀ (s : Value) (w1 : World),Calls Tryz.prog 9 #[NrV 3 4 0 1 s,.agg #[.int .i64 0,.int .i64 5,.int .i64 0]] w1 (Ret (.bool true) w1)) := fun s w1 => Qmm nb2 (p := ⟨0,5,0⟩) (by decide) s w1
  have P2 : (∀ (s : Value) (w1 : World),Calls Tryz.prog 9 #[NrV 3 4 0 1 s,.agg #[.int .i64 7,.int .i64 1,.int .i64 0]] w1 (Ret (.bool false) w1)) := fun s w1 => Qmm nb2 (p := ⟨7,1,0⟩) (by decide) s w1
  have C1 : (∀ (s s' : Value) (w1 : World),Calls Tryz.prog 10 #[NrV 1 1 0 2 s,NrV 3 4 0 1 s'] w1 (Ret (.int .i64 (-1)) w1)) := fun s s' w1 => scmp_any nb1 nb2 s s' w1
  clear nb1 nb2
  have V1 : ∀ s,NrV 1 1 0 2 s = (fun s => (.agg (.int .u64 (lb (1) 0) :: .int .u64 (lb (1) 1) :: .int .u64 (lb (1) 2) :: .int .u64 (lb (1) 3) :: .int .u64 (lb (1) 4) :: .int .u64 (lb (1) 5) :: .int .u64 (lb (1) 6) :: .int .u64 (lb (1) 7) :: .int .u64 (lb (1) 0) :: .int .u64 (lb (1) 1) :: .int .u64 (lb (1) 2) :: .int .u64 (lb (1) 3) :: .int .u64 (lb (1) 4) :: .int .u64 (lb (1) 5) :: .int .u64 (lb (1) 6) :: .int .u64 (lb (1) 7) :: .int .u64 0 :: .int .u64 0 :: .int .u64 0 :: .int .u64 0 :: .int .u64 0 :: .int .u64 0 :: .int .u64 0 :: .int .u64 0 :: .int .u64 (lb (2) 0) :: .int .u64 (lb (2) 1) :: .int .u64 (lb (2) 2) :: .int .u64 (lb (2) 3) :: .int .u64 (lb (2) 4) :: .int .u64 (lb (2) 5) :: .int .u64 (lb (2) 6) :: .int .u64 (lb (2) 7) :: s :: [] : List Value).toArray)) s := fun s => by simp only [NrV,Qcy]
  have V2 : ∀ s,NrV 3 4 0 1 s = (fun s => (.agg (.int .u64 (lb (3) 0) :: .int .u64 (lb (3) 1) :: .int .u64 (lb (3) 2) :: .int .u64 (lb (3) 3) :: .int .u64 (lb (3) 4) :: .int .u64 (lb (3) 5) :: .int .u64 (lb (3) 6) :: .int .u64 (lb (3) 7) :: .int .u64 (lb (4) 0) :: .int .u64 (lb (4) 1) :: .int .u64 (lb (4) 2) :: .int .u64 (lb (4) 3) :: .int .u64 (lb (4) 4) :: .int .u64 (lb (4) 5) :: .int .u64 (lb (4) 6) :: .int .u64 (lb (4) 7) :: .int .u64 0 :: .int .u64 0 :: .int .u64 0 :: .int .u64 0 :: .int .u64 0 :: .int .u64 0 :: .int .u64 0 :: .int .u64 0 :: .int .u64 (lb (1) 0) :: .int .u64 (lb (1) 1) :: .int .u64 (lb (1) 2) :: .int .u64 (lb (1) 3) :: .int .u64 (lb (1) 4) :: .int .u64 (lb (1) 5) :: .int .u64 (lb (1) 6) :: .int .u64 (lb (1) 7) :: s :: [] : List Value).toArray)) s := fun s => by simp only [NrV,Qcy]
  have V3 : ∀ s,NrV 0 0 0 0 s = (fun s => .agg ((.int .u64 0 :: .int .u64 0 :: .int .u64 0 :: .int .u64 0 :: .int .u64 0 :: .int .u64 0 :: .int .u64 0 :: .int .u64 0 :: .int .u64 0 :: .int .u64 0 :: .int .u64 0 :: .int .u64 0 :: .int .u64 0 :: .int .u64 0 :: .int .u64 0 :: .int .u64 0 :: .int .u64 0 :: .int .u64 0 :: .int .u64 0 :: .int .u64 0 :: .int .u64 0 :: .int .u64 0 :: .int .u64 0 :: .int .u64 0 :: .int .u64 0 :: .int .u64 0 :: .int .u64 0 :: .int .u64 0 :: .int .u64 0 :: .int .u64 0 :: .int .u64 0 :: .int .u64 0 :: s :: [] : List Value)).toArray) s := fun s => by simp only [NrV,Qcy]
  simp only [V1,V2] at P1 P2 C1
  have P1 := Lib.hid P1
  have P2 := Lib.hid P2
  have C1 := Lib.hid C1
  have V1 := Lib.hid V1
  have V2 := Lib.hid V2
  have V3 := Lib.hid V3
  go_enter Tryz.func4,Tryz.ntmps4
  have hp := Hp.start [] w
  go_upto_region 2 with (first|((with_reducible apply Qag hp);exact ii;exact rfl;clear hp;(try clear w1);intro g w1 hp;simp only [zp,zq,z0,z1])|((with_reducible apply Qae hp);exact zt rfl;exact za rfl;exact rfl;(exact AggTy.size);exact rfl;exact ii;(simp only [n0,Nat.reduceAdd,nn];try rfl);(exact zl rfl);exact rfl;exact ii;clear hp;(try clear w1);intro w1 hp)|((with_reducible apply Qav hp);exact ii;(exact AggTy.size);exact ii;exact zl rfl;decide;(exact zk2 rfl);exact rfl;(exact zm2 rfl);(intro l hl <;> simp only [List.mem_cons,List.not_mem_nil,or_false] at hl <;> rcases hl with rfl|rfl|rfl|rfl <;> rfl);exact rfl;clear hp;(try clear w1);intro g w1 hp;simp only [zp,zq,z0,z1])|((with_reducible refine Qpe hp (N1.out _ _ _ hp.blk rfl) (by simp) (n := 2) rfl _ V1.out ?_);clear hp;(try clear w1);intro gA cA jA w1 hp))
  go_upto_region 3 with (first|((with_reducible apply Qag hp);exact ii;exact rfl;clear hp;(try clear w1);intro g w1 hp;simp only [zp,zq,z0,z1])|((with_reducible apply Qae hp);exact zt rfl;exact za rfl;exact rfl;(exact AggTy.size);exact rfl;exact ii;(simp only [n0,Nat.reduceAdd,nn];try rfl);(exact zl rfl);exact rfl;exact ii;clear hp;(try clear w1);intro w1 hp)|((with_reducible refine Qaf hp (O1.out _) ?_);clear hp;(try clear w1);intro w1 hp))
  go_upto_region 4 with (first|((with_reducible apply Qag hp);exact ii;exact rfl;clear hp;(try clear w1);intro g w1 hp;simp only [zp,zq,z0,z1])|((with_reducible apply Qae hp);exact zt rfl;exact za rfl;exact rfl;(exact AggTy.size);exact rfl;exact ii;(simp only [n0,Nat.reduceAdd,nn];try rfl);(exact zl rfl);exact rfl;exact ii;clear hp;(try clear w1);intro w1 hp)|((with_reducible apply Qav hp);exact ii;(exact AggTy.size);exact ii;exact zl rfl;decide;(exact zk1 rfl);exact rfl;(exact zm1 rfl);(intro l hl <;> simp only [List.mem_cons,List.not_mem_nil,or_false] at hl <;> rcases hl with rfl|rfl|rfl|rfl <;> rfl);exact rfl;clear hp;(try clear w1);intro g w1 hp;simp only [zp,zq,z0,z1])|((with_reducible refine Qpe hp (N2.out _ _ _ hp.blk rfl) (by simp) (n := 1) rfl _ V2.out ?_);clear hp;(try clear w1);intro gB cB jB w1 hp))
  go_wp2_with (first|((with_reducible apply Qag hp);exact ii;exact rfl;clear hp;(try clear w1);intro g w1 hp;simp only [zp,zq,z0,z1])|((with_reducible apply Qae hp);exact zt rfl;exact za rfl;exact rfl;(exact AggTy.size);exact rfl;exact ii;(simp only [n0,Nat.reduceAdd,nn];try rfl);(exact zl rfl);exact rfl;exact ii;clear hp;(try clear w1);intro w1 hp)|((with_reducible refine sx_callNy hp (N3.out _) _ V3.out ?_);clear hp;(try clear w1);intro bC cC w1 hp))
  have hq := hp
  refine Qad hp hq [] (.q 0 (.q 1 (.q 2 (.q 3 (.q 4 (.q 5 (.q 6 (.q 7 (.q 8 (.q 9 (.q 10 (.q 11 (.q 12 (.l 13 (.q 14 (.q 15 (.q 16 (.q 17 (.q 18 (.q 19 (.q 20 (.q 21 (.q 22 (.q 23 (.q 24 (.q 25 (.q 26 (.q 27 (.q 28 (.l 29 (.q 30 (.q 31 (.q 32 (.q 33 (.l 34 (.q 35 (.q 36 (.q 37 (.q 38 (.q 39 (.l 40 (.q 41 (.q 42 (.q 43 (.q 44 (.q 45 (.q 46 (.q 47 .nil)))))))))))))))))))))))))))))))))))))))))))))))) (by kernel_rfl) (by kernel_rfl) ?_
  clear hp hq;(try clear w1);intro w1 hp hq
  ((with_reducible apply sd_q);exact zo rfl)
  ((with_reducible apply Qaq hp);exact zi rfl;simp only [zp,zq,z0,z1])
  ((with_reducible apply sd_q);exact zo rfl)
  ((with_reducible apply Qaj hp);exact rfl;(focus (intro _;go_simp;(try go_ints);try with_reducible rfl));simp only [zp,zq,z0,z1])
  ((with_reducible apply sd_q);exact zo rfl)
  ((with_reducible apply Qaq hp);exact zb rfl;simp only [zp,zq,z0,z1])
  ((with_reducible apply sd_q);exact zo rfl)
  ((with_reducible apply Qaj hp);exact rfl;(focus (intro _;go_simp;(try go_ints);try with_reducible rfl));simp only [zp,zq,z0,z1])
  ((with_reducible apply sd_q);exact zo rfl)
  ((with_reducible apply Qah hp);exact rfl;exact zt rfl;exact ii;exact ii;(exact zl rfl);(simp only [n0,Nat.reduceAdd,nn];try rfl);simp only [zp,zq,z0,z1])
  ((with_reducible apply sd_q);exact zo rfl)
  ((with_reducible apply Qah hp);exact rfl;exact zt rfl;exact ii;exact ii;(exact zl rfl);(simp only [n0,Nat.reduceAdd,nn];try rfl);simp only [zp,zq,z0,z1])
  ((with_reducible apply sd_q);exact zo rfl)
  ((with_reducible apply Qah hp);exact rfl;exact zt rfl;exact ii;exact ii;(exact zl rfl);(simp only [n0,Nat.reduceAdd,nn];try rfl);simp only [zp,zq,z0,z1])
  ((with_reducible apply sd_q);exact zo rfl)
  ((with_reducible apply Qaj hp);exact rfl;(focus (intro _;go_simp;(try go_ints);try with_reducible rfl));simp only [zp,zq,z0,z1])
  ((with_reducible apply sd_q);exact zo rfl)
  ((with_reducible apply Qaj hp);exact rfl;(focus (intro _;go_simp;(try go_ints);try with_reducible rfl));simp only [zp,zq,z0,z1])
  ((with_reducible apply sd_q);exact zo rfl)
  ((with_reducible apply Qaj hp);exact rfl;(focus (intro _;go_simp;(try go_ints);try with_reducible rfl));simp only [zp,zq,z0,z1])
  ((with_reducible apply sd_q);exact zo rfl)
  ((with_reducible apply Qaq hp);exact zb rfl;simp only [zp,zq,z0,z1])
  ((with_reducible apply sd_q);exact zo rfl)
  ((with_reducible apply Qaj hp);exact rfl;(focus (intro _;go_simp;(try go_ints);try with_reducible rfl));simp only [zp,zq,z0,z1])
  ((with_reducible apply sd_q);exact zo rfl)
  ((with_reducible apply Qah hp);exact rfl;exact zt rfl;exact ii;exact ii;(exact zl rfl);(simp only [n0,Nat.reduceAdd,nn];try rfl);simp only [zp,zq,z0,z1])
  ((with_reducible apply sd_l);exact zo rfl)
  ((with_reducible apply Qap hp);exact rfl;(focus (intro _;go_simp;try first|with_reducible rfl|exact ⟨rfl,rfl⟩));(with_reducible exact fun w => O2.out w);exact hq;clear hp hq;(try clear w1);intro w1 hp hq;simp only [zp,zq,z0,z1])
  ((with_reducible apply sd_q);exact zo rfl)
  ((with_reducible apply Qaj hp);exact rfl;(focus (intro _;go_simp;(try go_ints);try with_reducible rfl));simp only [zp,zq,z0,z1])
  ((with_reducible apply sd_q);exact zo rfl)
  ((with_reducible apply Qaj hp);exact rfl;(focus (intro _;go_simp;(try go_ints);try with_reducible rfl));simp only [zp,zq,z0,z1])
  ((with_reducible apply sd_q);exact zo rfl)
  ((with_reducible apply Qaq hp);exact zb rfl;simp only [zp,zq,z0,z1])
  ((with_reducible apply sd_q);exact zo rfl)
  ((with_reducible apply Qaj hp);exact rfl;(focus (intro _;go_simp;(try go_ints);try with_reducible rfl));simp only [zp,zq,z0,z1])
  ((with_reducible apply sd_q);exact zo rfl)
  ((with_reducible apply Qba hp);exact rfl;exact zt rfl;exact ii;exact ii;(exact zso rfl);simp only [zp,zq,z0,z1])
  ((with_reducible apply sd_q);exact zo rfl)
  ((with_reducible apply Qaj hp);exact rfl;(focus (intro _;go_simp;(try go_ints);try with_reducible rfl));simp only [zp,zq,z0,z1])
  ((with_reducible apply sd_q);exact zo rfl)
  ((with_reducible apply Qaj hp);exact rfl;(focus (intro _;go_simp;(try go_ints);try with_reducible rfl));simp only [zp,zq,z0,z1])
  ((with_reducible apply sd_q);exact zo rfl)
  ((with_reducible apply Qaj hp);exact rfl;(focus (intro _;go_simp;(try go_ints);try with_reducible rfl));simp only [zp,zq,z0,z1])
  ((with_reducible apply sd_q);exact zo rfl)
  ((with_reducible apply Qaq hp);exact zb rfl;simp only [zp,zq,z0,z1])
  ((with_reducible apply sd_q);exact zo rfl)
  ((with_reducible apply Qaj hp);exact rfl;(focus (intro _;go_simp;(try go_ints);try with_reducible rfl));simp only [zp,zq,z0,z1])
  ((with_reducible apply sd_q);exact zo rfl)
  ((with_reducible apply Qaj hp);exact rfl;(focus (intro _;go_simp;(try go_ints);try with_reducible rfl));simp only [zp,zq,z0,z1])
  ((with_reducible apply sd_q);exact zo rfl)
  ((with_reducible apply Qaj hp);exact rfl;(focus (intro _;go_simp;(try go_ints);try with_reducible rfl));simp only [zp,zq,z0,z1])
  ((with_reducible apply sd_q);exact zo rfl)
  ((with_reducible apply Qaq hp);exact zb rfl;simp only [zp,zq,z0,z1])
  ((with_reducible apply sd_q);exact zo rfl)
  ((with_reducible apply Qah hp);exact rfl;exact zt rfl;exact ii;exact ii;(exact zl rfl);(simp only [n0,Nat.reduceAdd,nn];try rfl);simp only [zp,zq,z0,z1])
  ((with_reducible apply sd_q);exact zo rfl)
  ((with_reducible apply Qaj hp);exact rfl;(focus (intro _;go_simp;(try go_ints);try with_reducible rfl));simp only [zp,zq,z0,z1])
  ((with_reducible apply sd_l);exact zo rfl)
  ((with_reducible apply Qap hp);exact rfl;(focus (intro _;go_simp;try first|with_reducible rfl|exact ⟨rfl,rfl⟩));(with_reducible exact fun w => P1.out _ w);exact hq;clear hp hq;(try clear w1);intro w1 hp hq;simp only [zp,zq,z0,z1])
  ((with_reducible apply sd_q);exact zo rfl)
  ((with_reducible apply Qaj hp);exact rfl;(focus (intro _;go_simp;(try go_ints);try with_reducible rfl));simp only [zp,zq,z0,z1])
  ((with_reducible apply sd_q);exact zo rfl)
  ((with_reducible apply Qaq hp);exact zb rfl;simp only [zp,zq,z0,z1])
  ((with_reducible apply sd_q);exact zo rfl)
  ((with_reducible apply Qah hp);exact rfl;exact zt rfl;exact ii;exact ii;(exact zl rfl);(simp only [n0,Nat.reduceAdd,nn];try rfl);simp only [zp,zq,z0,z1])
  ((with_reducible apply sd_q);exact zo rfl)
  ((with_reducible apply Qaj hp);exact rfl;(focus (intro _;go_simp;(try go_ints);try with_reducible rfl));simp only [zp,zq,z0,z1])
  ((with_reducible apply sd_l);exact zo rfl)
  ((with_reducible apply Qap hp);exact rfl;(focus (intro _;go_simp;try first|with_reducible rfl|exact ⟨rfl,rfl⟩));(with_reducible exact fun w => P2.out _ w);exact hq;clear hp hq;(try clear w1);intro w1 hp hq;simp only [zp,zq,z0,z1])
  ((with_reducible apply sd_q);exact zo rfl)
  ((with_reducible apply Qaj hp);exact rfl;(focus (intro _;go_simp;(try go_ints);try with_reducible rfl));simp only [zp,zq,z0,z1])
  ((with_reducible apply sd_q);exact zo rfl)
  ((with_reducible apply Qaj hp);exact rfl;(focus (intro _;go_simp;(try go_ints);try with_reducible rfl));simp only [zp,zq,z0,z1])
  ((with_reducible apply sd_q);exact zo rfl)
  ((with_reducible apply Qaq hp);exact zb rfl;simp only [zp,zq,z0,z1])
  ((with_reducible apply sd_q);exact zo rfl)
  ((with_reducible apply Qah hp);exact rfl;exact zt rfl;exact ii;exact ii;(exact zl rfl);(simp only [n0,Nat.reduceAdd,nn];try rfl);simp only [zp,zq,z0,z1])
  ((with_reducible apply sd_q);exact zo rfl)
  ((with_reducible apply Qah hp);exact rfl;exact zt rfl;exact ii;exact ii;(exact zl rfl);(simp only [n0,Nat.reduceAdd,nn];try rfl);simp only [zp,zq,z0,z1])
  ((with_reducible apply sd_l);exact zo rfl)
  ((with_reducible apply Qap hp);exact rfl;(focus (intro _;go_simp;try first|with_reducible rfl|exact ⟨rfl,rfl⟩));(with_reducible exact fun w => C1.out _ _ w);exact hq;clear hp hq;(try clear w1);intro w1 hp hq;simp only [zp,zq,z0,z1])
  ((with_reducible apply sd_q);exact zo rfl)
  ((with_reducible apply Qaj hp);exact rfl;(focus (intro _;go_simp;(try go_ints);try with_reducible rfl));simp only [zp,zq,z0,z1])
  ((with_reducible apply sd_q);exact zo rfl)
  ((with_reducible apply Qaj hp);exact rfl;(focus (intro _;go_simp;(try go_ints);try with_reducible rfl));simp only [zp,zq,z0,z1])
  ((with_reducible apply sd_q);exact zo rfl)
  ((with_reducible apply Qaq hp);exact zb rfl;simp only [zp,zq,z0,z1])
  ((with_reducible apply sd_q);exact zo rfl)
  ((with_reducible apply Qaj hp);exact rfl;(focus (intro _;go_simp;(try go_ints);try with_reducible rfl));simp only [zp,zq,z0,z1])
  ((with_reducible apply sd_q);exact zo rfl)
  ((with_reducible apply Qaj hp);exact rfl;(focus (intro _;go_simp;(try go_ints);try with_reducible rfl));simp only [zp,zq,z0,z1])
  ((with_reducible apply sd_q);exact zo rfl)
  ((with_reducible apply Qaj hp);exact rfl;(focus (intro _;go_simp;(try go_ints);try with_reducible rfl));simp only [zp,zq,z0,z1])
  ((with_reducible apply sd_q);exact zo rfl)
  ((with_reducible apply Qat hp);exact zb rfl;simp only [zp,zq,z0,z1])
  (with_reducible apply Qao)
  clear hp;have hp := hq;clear hq
  go_wp2
  exact bodyPost_ret (Qaa rfl rfl) rfl ⟨rfl,hp.keep⟩
end Go.Proofs.YtdfdmeoalbpcdaaGreat
