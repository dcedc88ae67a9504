/-
  Package simplex: Near, refused (contracts); what it comes to.
-/
import Derived.Test.YtdfdmeoalbpcdaaQl
set_option linter.unusedSimpArgs false
set_option linter.unusedVariables false
set_option maxRecDepth 100000
namespace Go.Proofs.Ytdfdmeoalbpcdaa
open Go Go.RowKit
attribute [local irreducible] wpList
/-- What Near comes to: numbers, places, and an error. -/
def Qem (N : P3) (d : Int) (ks : List Nat) (err : Int) (w : World) (e : Ending) (w' : World) : Prop := ∃ sv,e = .returned (.tuple #[NrV N.x N.y N.z d sv,.int .i64 err]) ∧ Keep [] w w' ∧ SlW w' sv ks ∧ FrS w.heap.size sv
theorem NrZ_eq : NrZ = NrV 0 0 0 0 (.slice none 0 0) := by simp only [NrV,Qdq]
theorem SlW.shape {w : World} {v : Value} {ks : List Nat} (h : SlW w v ks) : ∃ b c,v = .slice b ks.length c := by
  rcases h with ⟨rfl,rfl⟩|⟨g,cap,_,rfl,_⟩
  · exact ⟨none,0,rfl⟩
  · exact ⟨_,cap,rfl⟩
/-- A call of Near: places and all. -/
theorem Qef {P : Program} {X : List Nat} {w0 w : World} {H : List Bk} {f : FuncId} {args : Array Value} {N : P3} {d err : Int} {ks : List Nat} {R : Ending → World → Prop} (hp : Hp X w0 H w) (hc : Calls P f args w (Qem N d ks err w)) (hne : ks ≠ []) {n : Nat} (hn : ks.length = n)
    (hk : ∀ g cap junk w1,Hp X w0 (⟨g,3,(ks.map fun k : Nat => Value.int .i64 (k : Int)) ++ junk⟩ :: H) w1 → R (.returned (.tuple #[NrV N.x N.y N.z d (.slice (some ⟨g,0,none⟩) n cap),.int .i64 err])) w1) : Calls P f args w R :=
  hc.mono fun e w1 ⟨sv,he,hw,hs,hf⟩ => by
    subst he
    subst hn
    obtain ⟨g,cap,junk,rfl,hb⟩ := hs.resolve_left fun h => hne h.2
    exact hk g cap junk w1 (hp.add hw (hf g 0 _ _ rfl) hb)
theorem Qkr {P : Program} {X : List Nat} {w0 w : World} {H : List Bk} {f : FuncId} {args : Array Value} {N : P3} {d err : Int} {R : Ending → World → Prop} (hp : Hp X w0 H w) (hc : Calls P f args w (Qem N d [] err w))
    (hk : ∀ b c w1,Hp X w0 H w1 → R (.returned (.tuple #[NrV N.x N.y N.z d (.slice b 0 c),.int .i64 err])) w1) : Calls P f args w R :=
  hc.mono fun e w1 ⟨sv,he,hw,hs,hf⟩ => by
    subst he
    obtain ⟨b,c,rfl⟩ := hs.shape
    exact hk b c w1 (hp.call hw)
theorem PSl.shape {w : World} {v : Value} {ps : List P3} (h : PSl w v ps) : ∃ b c,v = .slice b ps.length c := by
  rcases h with ⟨rfl,rfl⟩|⟨g,off,cap,_,_,_,rfl,_⟩
  · exact ⟨none,0,rfl⟩
  · exact ⟨_,cap,rfl⟩
set_option maxHeartbeats 2000000 in
theorem near_arg (b : Option Addr) (n c : Nat) (h : (n : Int) < 1 ∨ ¬ (n : Int) < 1 ∧ 4 < (n : Int)) (w : World) : Calls Try.prog 8 #[.slice b n c] w (Qem ⟨0,0,0⟩ 0 [] 2 w) := by
  refine (?_ : Calls Try.prog 8 #[.slice b n c] w (Ret (.tuple #[NrZ,.int .i64 2]) w)).mono ?_
  · rcases h with h|⟨h,h2⟩
    all_goals
      go_enter Try.func8,Try.ntmps8
      have hp := Hp.start [] w
      go_wp2_with (first|((with_reducible apply Qax hp);exact zs rfl;exact rfl;clear hp;(try clear w1);intro g w1 hp;simp only [zp,zq,z0,z1])|((with_reducible apply Qaf hp);exact ii;exact rfl;clear hp;(try clear w1);intro g w1 hp;simp only [zp,zq,z0,z1])|((with_reducible apply Qak hp);exact zt rfl;exact ii;exact ii;(exact zso rfl);simp only [zp,zq,z0,z1])|((with_reducible apply Qae hp);exact zt rfl;(first|exact za rfl|exact zi rfl);exact rfl;exact Sz.z;exact rfl;exact ii;(simp only [n0,Nat.reduceAdd,nn];try rfl);(exact zl rfl);exact rfl;exact ii;clear hp;(try clear w1);intro w1 hp)|((with_reducible apply Qcj);exact rfl))
      exact bodyPost_ret (Qav rfl ⟨_,rfl,Qad hp (Nat.le_of_ble_eq_true rfl)⟩ ⟨_,rfl,Qbl hp rfl⟩) rfl ⟨rfl,hp.keep⟩
  · rintro e w1 ⟨rfl,hk⟩
    exact ⟨.slice none 0 0,by rw [NrZ_eq],hk,.inl ⟨rfl,rfl⟩,fun g o n c e => by cases e⟩
set_option maxHeartbeats 2000000 in
theorem Qog (b : Option Addr) (n c : Nat) (h : ¬ (n : Int) < 1) (h4 : ¬ 4 < (n : Int)) (r : Int) (w : World) (RK : Hid (∀ w1,Keep [] w w1 → Calls Try.prog 19 #[.slice b n c] w1 (Ret (.tuple #[.int .i64 r,.int .i64 7]) w1))) : Calls Try.prog 8 #[.slice b n c] w (Qem ⟨0,0,0⟩ 0 [] 7 w) := by
  refine (?_ : Calls Try.prog 8 #[.slice b n c] w (Ret (.tuple #[NrZ,.int .i64 7]) w)).mono ?_
  · skip
    go_enter Try.func8,Try.ntmps8
    have hp := Hp.start [] w
    go_wp2_with (first|((with_reducible apply Qax hp);exact zs rfl;exact rfl;clear hp;(try clear w1);intro g w1 hp;simp only [zp,zq,z0,z1])|((with_reducible apply Qaf hp);exact ii;exact rfl;clear hp;(try clear w1);intro g w1 hp;simp only [zp,zq,z0,z1])|((with_reducible apply Qak hp);exact zt rfl;exact ii;exact ii;(exact zso rfl);simp only [zp,zq,z0,z1])|((with_reducible apply Qae hp);exact zt rfl;(first|exact za rfl|exact zi rfl);exact rfl;exact Sz.z;exact rfl;exact ii;(simp only [n0,Nat.reduceAdd,nn];try rfl);(exact zl rfl);exact rfl;exact ii;clear hp;(try clear w1);intro w1 hp)|((with_reducible refine Qah hp (RK.out _ hp.keep) ?_);clear hp;(try clear w1);intro w1 hp)|((with_reducible apply Qcj);exact rfl))
    exact bodyPost_ret (Qav rfl ⟨_,rfl,Qad hp (Nat.le_of_ble_eq_true rfl)⟩ ⟨_,rfl,Qbl hp rfl⟩) rfl ⟨rfl,hp.keep⟩
  · rintro e w1 ⟨rfl,hk⟩
    exact ⟨.slice none 0 0,by rw [NrZ_eq],hk,.inl ⟨rfl,rfl⟩,fun g o n c e => by cases e⟩
end Go.Proofs.Ytdfdmeoalbpcdaa
