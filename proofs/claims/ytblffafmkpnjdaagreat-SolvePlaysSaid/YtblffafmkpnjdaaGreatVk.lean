/-
  Package vec: Scale, Move, Unit (contracts).
  Package vec: Unit (contract).
  Package vec: Near (contract).
-/
import Derived.Test.YtblffafmkpnjdaaGreatVh
set_option linter.unusedSimpArgs false
set_option linter.unusedVariables false
set_option maxRecDepth 100000
namespace Go.Proofs.YtblffafmkpnjdaaGreat
open Go Go.RowKit
attribute [local irreducible] wpList
theorem Keep.blk {w w1 : World} {g : Nat} {o : Obj} (hk : Keep [] w w1) (h : w.heap[g]? = some o) : w1.heap[g]? = some o := by
  have hlt : g < w.heap.size := by
    rcases Nat.lt_or_ge g w.heap.size with h' | h'
    · exact h'
    · rw [Array.getElem?_eq_none h'] at h;cases h
  exact (hk.block g hlt (by simp)).trans h
set_option maxHeartbeats 1000000 in
theorem Qhy (x y k : Int) (hx : I64 x) (hk : I64 k) (w : World) (g : Nat) (t : TypeId) (z : Nat × Nat) (hb : w.heap[g]? = some (.cells [Value.int .i64 k].toArray t z)) :
    Calls Tryz.prog 75 #[.int .i64 x,.int .i64 y,.pointer (some ⟨g,0,none⟩)] w (Ret (.int .i64 (cl (x * k / 4294967296))) w) := by
  have M1 := Lib.hid (Qgr x k hx hk)
  clear hx hk
  generalize cl (x * k / 4294967296) = r at *
  go_enter Tryz.func75,Tryz.ntmps75
  have hp := Hp.start [] w
  go_wp2_with (first | ((with_reducible apply Qac hp);exact zt rfl;exact ii;exact ii;(first | exact zio rfl | exact Qae (by omega) | assumption);simp only [zp,zq,z0,z1]) | ((with_reducible refine Qak hp (M1.out _) ?_);clear hp;(try clear w1);intro w1 hp) | ((with_reducible apply Qai hp);exact zt rfl;assumption;exact ii;exact zio rfl;simp only [zp,zq,z0,z1]))
  exact bodyPost_ret (Qaf rfl rfl) rfl ⟨rfl,hp.keep⟩
set_option maxHeartbeats 1000000 in
theorem Qfh (a : P3) (k : Int) (ha : a.i64) (hk : I64 k) (w : World) : Calls Tryz.prog 30 #[PV a,.int .i64 k] w (Ret (PV (a.cscale k)) w) := by
  have ES : Hid (∀ (w : World) (g : Nat),w.heap[g]? = some (.cells [Value.int .i64 k].toArray 22 (0,0)) → Calls Tryz.prog 73 #[PV a,PV a,.func (.func 75) #[] #[.pointer (some ⟨g,0,none⟩)]] w (Ret (.agg #[.int .i64 (cl (a.x * k / 4294967296)),.int .i64 (cl (a.y * k / 4294967296)),.int .i64 (cl (a.z * k / 4294967296))]) w)) := Lib.hid fun w g hb =>
    each1 75 (fun args w => by go_simp) _ a a _ _ _ w (Lib.hid fun w1 h1 => Qhy a.x a.x k ha.1 hk w1 g _ _ (h1.blk hb)) (Lib.hid fun w1 h1 => Qhy a.y a.y k ha.2.1 hk w1 g _ _ (h1.blk hb)) (Lib.hid fun w1 h1 => Qhy a.z a.z k ha.2.2 hk w1 g _ _ (h1.blk hb))
  clear ha hk
  unfold P3.cscale
  generalize cl (a.x * k / 4294967296) = p at *
  generalize cl (a.y * k / 4294967296) = q at *
  generalize cl (a.z * k / 4294967296) = r at *
  go_enter Tryz.func30,Tryz.ntmps30
  have hp := Hp.start [] w
  go_wp2_with (first | ((with_reducible apply Qao hp);(first | exact za rfl | exact zi rfl);exact rfl;clear hp;(try clear w1);intro g w1 hp;simp only [zp,zq,z0,z1]) | ((with_reducible apply Qag hp);exact ii;exact rfl;clear hp;(try clear w1);intro g w1 hp;simp only [zp,zq,z0,z1]) | ((with_reducible apply Qaa hp);exact zt rfl;exact ii;exact ii;(first | exact zl rfl | exact Qad (by omega));(first | (with_reducible exact Qab (by omega)) | (simp only [n0,Nat.reduceAdd,n1,n2,n3,n4,n5,n6,n7,n8,n9];try rfl));simp only [zp,zq,z0,z1]) | ((with_reducible apply Qah hp);exact zt rfl;exact za rfl;exact rfl;exact Sz.z;exact rfl;exact ii;(first | (with_reducible exact Qab (by omega)) | (simp only [n0,Nat.reduceAdd,n1,n2,n3,n4,n5,n6,n7,n8,n9];try rfl));(first | exact zl rfl | exact Qad (by omega));exact rfl;exact ii;clear hp;(try clear w1);intro w1 hp) | ((with_reducible refine Qak hp (ES.out _ _ hp.blk) ?_);clear hp;(try clear w1);intro w1 hp))
  exact bodyPost_ret (Qaf rfl ⟨_,rfl,Qal hp (Nat.le_of_ble_eq_true rfl)⟩) rfl ⟨rfl,hp.keep⟩
end Go.Proofs.YtblffafmkpnjdaaGreat
set_option linter.unusedSimpArgs false
set_option linter.unusedVariables false
set_option maxRecDepth 100000
namespace Go.Proofs.YtblffafmkpnjdaaGreat
open Go Go.RowKit
attribute [local irreducible] wpList
end Go.Proofs.YtblffafmkpnjdaaGreat
set_option linter.unusedSimpArgs false
set_option linter.unusedVariables false
set_option maxRecDepth 100000
namespace Go.Proofs.YtblffafmkpnjdaaGreat
open Go Go.RowKit
attribute [local irreducible] wpList
section
variable {P : Program} {ops : Array Oper} {Q : Exit → Act → World → Prop} {N : List Nat} {X : List Nat} {w0 w : World} {H Hq : List Bk} {a : Act} {i : Nat} {rest : Sc}
variable {d : Tmp} {tp : TypeId} {pos : String} {af : Array Edge} {gd : Option (Nat × Bool)}
theorem Qds {f : FuncId} {args : Array Value} {v : Value} {T : World → Prop} {R : Ending → World → Prop} (hc : Calls P f args w (fun e w1 => e = .returned v ∧ T w1)) (hk : ∀ w1,T w1 → R (.returned v) w1) : Calls P f args w R :=
  hc.mono fun e w1 ⟨he,hw1⟩ => by subst he;exact hk _ hw1
end
section
variable {X : List Nat} {w0 : World}
end
end Go.Proofs.YtblffafmkpnjdaaGreat
