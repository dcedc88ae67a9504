/-
  Law 23: awake.
  Law 23: '==' of bodies and rows, inside, limited, smaller; Cones, Once (printed by gen_un.py).
  Law 23: Cones, Once.
  Law 23: Once.
-/
import Derived.Test.YtblffafmkpnjdaaGreatUl
import Derived.Test.YtblffafmkpnjdaaGreatEr
import Derived.Test.YtblffafmkpnjdaaGreatSg
set_option linter.unusedSimpArgs false
set_option linter.unusedVariables false
set_option maxRecDepth 100000
namespace Go.Proofs.YtblffafmkpnjdaaGreat
open Go Go.RowKit
attribute [local irreducible] wpList
theorem FSl.lit {α : Type} {f : α → List Value} {m n cap : Nat} {w : World} {g : Nat} {t : TypeId} {cs : List Value} {z : Nat × Nat} {L : List α} (h : w.heap[g]? = some (.cells cs.toArray t z)) (hf : ∀ x,(f x).length = m) (hn : n = L.length) (hc : cs = L.flatMap f) : FSl f m w (.slice (some ⟨g,0,none⟩) n cap) L := by
  subst hn hc
  refine .inr ⟨g,0,cap,_,_,_,rfl,h,?_⟩
  rw [List.drop_zero,← Qff f m hf,List.take_length]
theorem part_of {bc vs us : List Value} {o m : Nat} (i n : Nat) (h : (bc.drop o).take m = vs) (hi : i + n ≤ m) (hu : (vs.drop i).take n = us) : (bc.drop (o + i)).take n = us := by
  rw [← hu,← h,List.drop_take,List.take_take,List.drop_drop,Nat.min_eq_left (by omega)]
theorem get_of {bc vs : List Value} {o m : Nat} {v : Value} (i : Nat) (h : (bc.drop o).take m = vs) (hu : vs[i]? = some v) : bc[o + i]? = some v := by
  rw [← h,List.getElem?_take] at hu
  split at hu
  · rwa [List.getElem?_drop] at hu
  · cases hu
/-- A slice that reads as a list that is not empty. -/
theorem FSl.some {α : Type} {f : α → List Value} {m : Nat} {w : World} {v : Value} {L : List α} (h : FSl f m w v L) (hn : L ≠ []) : ∃ g off cap bc t z,v = .slice (some ⟨g,off,none⟩) L.length cap ∧ w.heap[g]? = some (.cells (bc : List Value).toArray t z) ∧ (bc.drop off).take (L.length * m) = L.flatMap f :=
  h.resolve_left fun h => hn h.2
def aw1 : Inr := ⟨4294967296,⟨0,0,0⟩,⟨0,0,0⟩,⟨0,0,0⟩,⟨0,0,-4294967296⟩,⟨0,0,0⟩⟩
def aw2 : Inr := ⟨4294967296,⟨0,0,0⟩,⟨0,0,0⟩,⟨0,0,0⟩,⟨0,0,0⟩,⟨0,0,0⟩⟩
def aw3 : Inr := ⟨4294967296,⟨0,0,0⟩,⟨0,0,0⟩,⟨0,0,0⟩,⟨0,0,-2147483648⟩,⟨0,0,0⟩⟩
def awr : Rw := ⟨0,1,⟨0,0,4294967296⟩,⟨0,0,0⟩,⟨0,0,0⟩,⟨0,0,0⟩,⟨0,0,0⟩,2147483648,0,0,0,0,0,0,0⟩
def aws : Rw := ⟨0,1,⟨0,0,4294967296⟩,⟨0,0,0⟩,⟨0,0,0⟩,⟨0,0,0⟩,⟨0,0,0⟩,2147483648,0,0,0,0,2147483648,0,0⟩
theorem aw_solve : Qgb [aw1,aw2] [awr] 1 = ([aw3,aw3],[aws],0) := by kernel_rfl
theorem aw_check : Qep 1 [aws] = 2 := by kernel_rfl
theorem aw_cone : Qet 25769803776 34359738368 21474836480 = (12884901888,17179869184) := by
  have h1 : rt (25769803776 * 25769803776 * (21474836480 * 21474836480) / (25769803776 * 25769803776 + 34359738368 * 34359738368)) = 12884901888 := Qlv (by omega) (by omega) (by omega)
  have h2 : rt (34359738368 * 34359738368 * (21474836480 * 21474836480) / (25769803776 * 25769803776 + 34359738368 * 34359738368)) = 17179869184 := Qlv (by omega) (by omega) (by omega)
  have e0 : (if (21474836480 : Int) < 0 then (0 : Int) else 21474836480) = 21474836480 := rfl
  have e1 : outv 25769803776 34359738368 21474836480 = true := by decide
  unfold Qet
  rw [e0,if_pos e1]
  unfold nar
  rw [h1,h2]
  rfl
set_option maxHeartbeats 8000000 in
theorem Qod (w : World)
    (SV : Hid (∀ vb vr w1,FSl NVl 16 w1 vb [aw1,aw2] → FSl RVl 25 w1 vr [awr] → Calls Tryz.prog 10 #[vb,vr,.int .i64 1] w1 (SolR w1 [aw3,aw3] [aws] 0)))
    (CO : Hid (∀ w,Calls Tryz.prog 5 #[.int .i64 25769803776,.int .i64 34359738368,.int .i64 21474836480] w (Ret (.tuple #[.int .i64 12884901888,.int .i64 17179869184]) w)))
    (CK : Hid (∀ vr w1,FSl RVl 25 w1 vr [aws] → Calls Tryz.prog 14 #[.int .i64 1,vr] w1 (Ret (.int .i64 2) w1))) :
    Calls Tryz.prog 9 #[] w (Ret (.bool true) w) := by
  go_enter Tryz.func9,Tryz.ntmps9
  have hp := Hp.start [] w
  go_upto_region 5 with (first | ((with_reducible apply Qag hp);exact ii;exact rfl;clear hp;(try clear w1);intro g w1 hp;simp only [zp,zq,z0,z1]) | ((with_reducible apply Qaa hp);exact zt rfl;exact ii;exact ii;(first | exact zl rfl | exact Qad (by omega));(first | (with_reducible exact Qab (by omega)) | (simp only [n0,Nat.reduceAdd,n1,n2,n3,n4,n5,n6,n7,n8,n9];try rfl));simp only [zp,zq,z0,z1]) | ((with_reducible apply Qac hp);exact zt rfl;exact ii;exact ii;(first | exact zio rfl | exact Qae (by omega));simp only [zp,zq,z0,z1]) | ((with_reducible apply Qah hp);exact zt rfl;exact za rfl;exact rfl;exact Sz.z;exact rfl;exact ii;(first | (with_reducible exact Qab (by omega)) | (simp only [n0,Nat.reduceAdd,n1,n2,n3,n4,n5,n6,n7,n8,n9];try rfl));(first | exact zl rfl | exact Qad (by omega));exact rfl;exact ii;clear hp;(try clear w1);intro w1 hp) | ((with_reducible apply Qaj);exact zx rfl;exact zk rfl;exact ii;exact Sz.z;omega;omega;((try simp only [m0,Int.reduceToNat,m1,m2,Nat.reduceMul,Nat.reduceAdd,m3,m4,m5,n0]);exact rfl);simp only [zp,zq,z0,z1]) | ((with_reducible apply Qam hp);exact zt rfl;assumption;exact ii;assumption;(first | exact zl rfl | omega);simp only [zp,zq,z0,z1]) | ((with_reducible apply Qai hp);exact zt rfl;assumption;exact ii;(first | assumption | (first | exact zio rfl | exact Qae (by omega)));simp only [zp,zq,z0,z1]) | ((with_reducible apply Qat hp);exact ii;exact Sz.z;exact ii;exact zl rfl;decide;(first | exact (rfl : _ = Qan 0 [_]) | exact (rfl : _ = Qan 0 [_,_]) | exact (rfl : _ = Qan 0 [_,_,_]) | exact (rfl : _ = Qan 0 [_,_,_,_]));exact rfl;(first | exact (rfl : _ = List.map (fun x : List Value => x.toArray) [_]) | exact (rfl : _ = List.map (fun x : List Value => x.toArray) [_,_]) | exact (rfl : _ = List.map (fun x : List Value => x.toArray) [_,_,_]) | exact (rfl : _ = List.map (fun x : List Value => x.toArray) [_,_,_,_]));(intro l hl <;> simp only [List.mem_cons,List.not_mem_nil,or_false] at hl <;> rcases hl with rfl | rfl | rfl | rfl <;> rfl);exact rfl;clear hp;(try clear w1);intro g w1 hp;simp only [zp,zq,z0,z1]) | ((with_reducible refine Qak hp (CO.out _) ?_);clear hp;(try clear w1);intro w1 hp) | ((with_reducible refine Calls.mono (SV.out _ _ _ (FSl.lit hp.blk Qcc rfl rfl) (FSl.lit hp.blk Qbx rfl rfl)) ?_);(rintro _ w2 ⟨hk,vb,vr,rfl,hb,hr⟩);(have HK := Lib.hid (hp.keep.trans hk));(obtain ⟨gb,ob,cb,bb,tb,yb,rfl,hbb,hbn⟩ := hb.some (by simp));(have HR := Lib.hid hr);(obtain ⟨gr,orr,cr,br,tr,yr,rfl,hrb,hrn⟩ := hr.some (by simp));(have HBN := Lib.hid hbn);(have HRN := Lib.hid hrn);clear hb hr hk hbn hrn hp;(try clear w1);(have hp := Hp.start [] w2)))
  obtain ⟨q1,l1⟩ := fl_at (by omega) Qcc HBN.out (k := 0) (by simp)
  obtain ⟨q2,l2⟩ := fl_at (by omega) Qcc HBN.out (k := 1) (by simp)
  obtain ⟨q3,l3⟩ := fl_at (by omega) Qbx HRN.out (k := 0) (by simp)
  have p1 : (bb.drop (ob + 10)).take 3 = [.int .i64 0,.int .i64 0,.int .i64 (-2147483648)] := part_of 10 3 q1 (by omega) rfl
  have p2 : (bb.drop (ob + 16 + 10)).take 3 = [.int .i64 0,.int .i64 0,.int .i64 (-2147483648)] := part_of 10 3 q2 (by omega) rfl
  have p3 : br[orr + 22]? = some (.int .i64 2147483648) := get_of 22 q3 rfl
  have CKW : Hid (∀ w3,Keep [] w2 w3 → Calls Tryz.prog 14 #[.int .i64 1,.slice (some ⟨gr,orr,none⟩) 1 cr] w3 (Ret (.int .i64 2) w3)) := Lib.hid fun w3 hk => CK.out _ w3 (HR.out.keep hk)
  simp only [Nat.zero_mul,Nat.one_mul,Nat.add_zero] at l1 l2 l3
  clear q1 q2 q3
  have hq := hp
  refine Qaq hp hq [] (.q 0 (.q 1 (.q 2 (.q 3 (.q 4 (.q 5 (.q 6 (.q 7 (.q 8 (.q 9 (.q 10 (.q 11 (.q 12 (.q 13 (.q 14 (.q 15 (.q 16 (.q 17 (.q 18 (.q 19 (.q 20 (.q 21 (.q 22 (.q 23 (.q 24 (.q 25 (.q 26 (.q 27 (.q 28 (.q 29 (.q 30 (.q 31 (.q 32 (.q 33 (.q 34 (.q 35 (.q 36 (.q 37 (.q 38 (.q 39 (.q 40 (.q 41 (.q 42 (.q 43 (.q 44 (.l 45 (.q 46 (.q 47 (.q 48 .nil))))))))))))))))))))))))))))))))))))))))))))))))) (by kernel_rfl) (by kernel_rfl) ?_
  clear hp hq;(try clear w1);intro w1 hp hq
  repeat' (first | (((with_reducible apply sd_q);exact zo rfl);(first | ((with_reducible apply Qas hp);exact rfl;exact zt rfl;exact ii;exact ii;(first | exact zl rfl | exact Qad (by omega));(first | (with_reducible exact Qab (by omega)) | (simp only [n0,Nat.reduceAdd,n1,n2,n3,n4,n5,n6,n7,n8,n9];try rfl));simp only [zp,zq,z0,z1]) | ((with_reducible apply Qbw hp);exact rfl;exact zt rfl;assumption;exact ii;assumption;(first | exact zl rfl | omega);simp only [zp,zq,z0,z1]) | ((with_reducible apply Qaw hp);exact rfl;exact zt rfl;exact ii;exact ii;(first | exact zio rfl | exact Qae (by omega));simp only [zp,zq,z0,z1]) | ((with_reducible apply Qbr hp);exact rfl;exact zt rfl;assumption;exact ii;(first | assumption | (first | exact zio rfl | exact Qae (by omega)));simp only [zp,zq,z0,z1]) | ((with_reducible apply Qbh hp);(first | exact zb rfl | exact zi rfl | exact zs rfl);simp only [zp,zq,z0,z1]) | ((with_reducible apply Qbo hp);exact zb rfl;simp only [zp,zq,z0,z1]) | ((with_reducible apply Qbc hp);exact rfl;exact zx rfl;exact zk rfl;exact ii;exact Sz.z;omega;omega;((try simp only [m0,Int.reduceToNat,m1,m2,Nat.reduceMul,Nat.reduceAdd,m3,m4,m5,n0]);exact rfl);simp only [zp,zq,z0,z1]) | ((with_reducible apply Qav hp);exact rfl;(focus (intro _;go_simp;(try go_ints);try with_reducible rfl));simp only [zp,zq,z0,z1]) | ((with_reducible apply Qoz hp);exact rfl;simp only [zp,zq,z0,z1]))) | (((with_reducible apply sd_l);exact zo rfl);(first | ((with_reducible apply Qdh hp);exact rfl;(focus (intro _;go_simp;try first | with_reducible rfl | exact ⟨rfl,rfl⟩));(with_reducible exact CKW.out _ hp.keep);exact hq;clear hp hq;(try clear w1);intro w1 hp hq;simp only [zp,zq,z0,z1]) | ((with_reducible apply Qgc hp);exact rfl;simp only [zp,zq,z0,z1]))) | ((with_reducible apply Qba);clear hp;have hp := hq;clear hq))
  go_wp2_with (first | ((with_reducible apply Qag hp);exact ii;exact rfl;clear hp;(try clear w1);intro g w1 hp;simp only [zp,zq,z0,z1]) | ((with_reducible apply Qaa hp);exact zt rfl;exact ii;exact ii;(first | exact zl rfl | exact Qad (by omega));(first | (with_reducible exact Qab (by omega)) | (simp only [n0,Nat.reduceAdd,n1,n2,n3,n4,n5,n6,n7,n8,n9];try rfl));simp only [zp,zq,z0,z1]) | ((with_reducible apply Qac hp);exact zt rfl;exact ii;exact ii;(first | exact zio rfl | exact Qae (by omega));simp only [zp,zq,z0,z1]) | ((with_reducible apply Qah hp);exact zt rfl;exact za rfl;exact rfl;exact Sz.z;exact rfl;exact ii;(first | (with_reducible exact Qab (by omega)) | (simp only [n0,Nat.reduceAdd,n1,n2,n3,n4,n5,n6,n7,n8,n9];try rfl));(first | exact zl rfl | exact Qad (by omega));exact rfl;exact ii;clear hp;(try clear w1);intro w1 hp) | ((with_reducible apply Qaj);exact zx rfl;exact zk rfl;exact ii;exact Sz.z;omega;omega;((try simp only [m0,Int.reduceToNat,m1,m2,Nat.reduceMul,Nat.reduceAdd,m3,m4,m5,n0]);exact rfl);simp only [zp,zq,z0,z1]) | ((with_reducible apply Qam hp);exact zt rfl;assumption;exact ii;assumption;(first | exact zl rfl | omega);simp only [zp,zq,z0,z1]) | ((with_reducible apply Qai hp);exact zt rfl;assumption;exact ii;(first | assumption | (first | exact zio rfl | exact Qae (by omega)));simp only [zp,zq,z0,z1]) | ((with_reducible apply Qat hp);exact ii;exact Sz.z;exact ii;exact zl rfl;decide;(first | exact (rfl : _ = Qan 0 [_]) | exact (rfl : _ = Qan 0 [_,_]) | exact (rfl : _ = Qan 0 [_,_,_]) | exact (rfl : _ = Qan 0 [_,_,_,_]));exact rfl;(first | exact (rfl : _ = List.map (fun x : List Value => x.toArray) [_]) | exact (rfl : _ = List.map (fun x : List Value => x.toArray) [_,_]) | exact (rfl : _ = List.map (fun x : List Value => x.toArray) [_,_,_]) | exact (rfl : _ = List.map (fun x : List Value => x.toArray) [_,_,_,_]));(intro l hl <;> simp only [List.mem_cons,List.not_mem_nil,or_false] at hl <;> rcases hl with rfl | rfl | rfl | rfl <;> rfl);exact rfl;clear hp;(try clear w1);intro g w1 hp;simp only [zp,zq,z0,z1]))
  exact bodyPost_ret (Qaf rfl rfl) rfl ⟨rfl,HK.out.trans hp.keep⟩
theorem aw_i64 : alli [aw1,aw2] ∧ (∀ r ∈ [awr],r.i64f) ∧ ∀ r ∈ [aws],r.i64f := by
  refine ⟨fun b hb => ?_,fun r hr => ?_,fun r hr => ?_⟩
  · simp only [List.mem_cons,List.not_mem_nil,or_false] at hb
    rcases hb with rfl | rfl <;> simp [Inr.i64,P3.i64,I64,aw1,aw2]
  · simp only [List.mem_cons,List.not_mem_nil,or_false] at hr
    subst hr
    simp [Rw.i64f,P3.i64,I64,awr]
  · simp only [List.mem_cons,List.not_mem_nil,or_false] at hr
    subst hr
    simp [Rw.i64f,P3.i64,I64,aws]
theorem Qna (w : World) : Calls Tryz.prog 9 #[] w (Ret (.bool true) w) :=
  Qod w
    (Lib.hid fun vb vr w1 hb hr => by
      have := Qok [aw1,aw2] [awr] 1 aw_i64.1 aw_i64.2.1 vb vr w1 hb hr
      rwa [aw_solve] at this)
    (Lib.hid fun w => by
      have := cone_any 25769803776 34359738368 21474836480 (by unfold I64;omega) (by unfold I64;omega) (by unfold I64;omega) w
      rwa [aw_cone] at this)
    (Lib.hid fun vr w1 hr => by
      have := Qjt (S := [aws]) 1 aw_i64.2.2 w1 hr
      rwa [aw_check] at this)
end Go.Proofs.YtblffafmkpnjdaaGreat
set_option linter.unusedSimpArgs false
set_option linter.unusedVariables false
set_option maxRecDepth 100000
namespace Go.Proofs.YtblffafmkpnjdaaGreat
open Go Go.RowKit
attribute [local irreducible] wpList
deriving instance DecidableEq for Inr
deriving instance DecidableEq for Rw
theorem p3_ext {a b : P3} : a = b ↔ a.x = b.x ∧ a.y = b.y ∧ a.z = b.z := by
  obtain ⟨a1,a2,a3⟩ := a
  obtain ⟨b1,b2,b3⟩ := b
  simp
theorem p3_beq (a b : P3) : (a.x == b.x && (a.y == b.y && a.z == b.z)) = decide (a = b) := by
  obtain ⟨a1,a2,a3⟩ := a
  obtain ⟨b1,b2,b3⟩ := b
  rw [Bool.eq_iff_iff]
  simp
theorem Qin {P : Program} {t : TypeId} {n : Nat} [h : AggTy P t n] (cs : Array Value) (i : Nat) (w : World) : (part t cs i).run P w = .ok (.agg (cs.extract i (i + n))) w := by
  unfold part
  simp only [Sem.run_bind,h.agg,h.size,Result.andThen_ok,if_true,Sem.run_pure]
set_option maxHeartbeats 1000000 in
@[go_sem high] theorem eq_vecs (w : World) (d : Nat) (p q r a b c : P3) : (Op.equalIn (d + 3) 25 (.agg #[.int .i64 p.x,.int .i64 p.y,.int .i64 p.z,.int .i64 q.x,.int .i64 q.y,.int .i64 q.z,.int .i64 r.x,.int .i64 r.y,.int .i64 r.z]) (.agg #[.int .i64 a.x,.int .i64 a.y,.int .i64 a.z,.int .i64 b.x,.int .i64 b.y,.int .i64 b.z,.int .i64 c.x,.int .i64 c.y,.int .i64 c.z])).run Tryz.prog w = .ok ((p.x == a.x && (p.y == a.y && p.z == a.z)) && ((q.x == b.x && (q.y == b.y && q.z == b.z)) && (r.x == c.x && (r.y == c.y && r.z == c.z)))) w := by
  have hs : ∀ w,(sizeOf 24).run Tryz.prog w = .ok 3 w := AggTy.size
  rw [show d + 3 = (d + 2) + 1 from rfl,Op.equalIn]
  simp only [Sem.run_bind,run_underlying Tryz.underlying25,Result.andThen_ok,hs]
  simp only [Std.Legacy.Range.forIn_eq_forIn_range',Std.Legacy.Range.size,Nat.mul_one,Nat.sub_zero,Nat.add_sub_cancel,Nat.div_one]
  simp only [List.range'_succ,List.range'_zero,List.forIn_cons,List.forIn_nil,Sem.run_bind,Qin,Result.andThen_ok,Nat.zero_add,Nat.reduceAdd,Nat.reduceMul,Nat.zero_mul,Nat.one_mul]
  have e1 : ∀ w,(Op.equalIn (d + 2) 24 (PV p) (PV a)).run Tryz.prog w = .ok (p.x == a.x && (p.y == a.y && p.z == a.z)) w := fun w => eq_vec w d _ _ _ _ _ _
  have e2 : ∀ w,(Op.equalIn (d + 2) 24 (PV q) (PV b)).run Tryz.prog w = .ok (q.x == b.x && (q.y == b.y && q.z == b.z)) w := fun w => eq_vec w d _ _ _ _ _ _
  have e3 : ∀ w,(Op.equalIn (d + 2) 24 (PV r) (PV c)).run Tryz.prog w = .ok (r.x == c.x && (r.y == c.y && r.z == c.z)) w := fun w => eq_vec w d _ _ _ _ _ _
  have x0 : (#[.int .i64 p.x,.int .i64 p.y,.int .i64 p.z,.int .i64 q.x,.int .i64 q.y,.int .i64 q.z,.int .i64 r.x,.int .i64 r.y,.int .i64 r.z] : Array Value).extract 0 3 = #[.int .i64 p.x,.int .i64 p.y,.int .i64 p.z] := rfl
  have x1 : (#[.int .i64 p.x,.int .i64 p.y,.int .i64 p.z,.int .i64 q.x,.int .i64 q.y,.int .i64 q.z,.int .i64 r.x,.int .i64 r.y,.int .i64 r.z] : Array Value).extract 3 6 = #[.int .i64 q.x,.int .i64 q.y,.int .i64 q.z] := rfl
  have x2 : (#[.int .i64 p.x,.int .i64 p.y,.int .i64 p.z,.int .i64 q.x,.int .i64 q.y,.int .i64 q.z,.int .i64 r.x,.int .i64 r.y,.int .i64 r.z] : Array Value).extract 6 9 = #[.int .i64 r.x,.int .i64 r.y,.int .i64 r.z] := rfl
  have y0 : (#[.int .i64 a.x,.int .i64 a.y,.int .i64 a.z,.int .i64 b.x,.int .i64 b.y,.int .i64 b.z,.int .i64 c.x,.int .i64 c.y,.int .i64 c.z] : Array Value).extract 0 3 = #[.int .i64 a.x,.int .i64 a.y,.int .i64 a.z] := rfl
  have y1 : (#[.int .i64 a.x,.int .i64 a.y,.int .i64 a.z,.int .i64 b.x,.int .i64 b.y,.int .i64 b.z,.int .i64 c.x,.int .i64 c.y,.int .i64 c.z] : Array Value).extract 3 6 = #[.int .i64 b.x,.int .i64 b.y,.int .i64 b.z] := rfl
  have y2 : (#[.int .i64 a.x,.int .i64 a.y,.int .i64 a.z,.int .i64 b.x,.int .i64 b.y,.int .i64 b.z,.int .i64 c.x,.int .i64 c.y,.int .i64 c.z] : Array Value).extract 6 9 = #[.int .i64 c.x,.int .i64 c.y,.int .i64 c.z] := rfl
  generalize (p.x == a.x && (p.y == a.y && p.z == a.z)) = x at *
  generalize (q.x == b.x && (q.y == b.y && q.z == b.z)) = y at *
  generalize (r.x == c.x && (r.y == c.y && r.z == c.z)) = z at *
  cases x <;> cases y <;> cases z <;> (repeat (simp only [x0,x1,x2,y0,y1,y2,e1,e2,e3,Result.andThen_ok,Qin,Nat.reduceAdd,Bool.not_true,Bool.not_false,Bool.false_eq_true,if_true,if_false,Sem.run_pure,Sem.run_bind])) <;> rfl
set_option maxHeartbeats 1000000 in
@[go_sem high] theorem eq_mat (w : World) (d : Nat) (p q r a b c : P3) : (Op.equalIn (d + 4) 27 (.agg #[.int .i64 p.x,.int .i64 p.y,.int .i64 p.z,.int .i64 q.x,.int .i64 q.y,.int .i64 q.z,.int .i64 r.x,.int .i64 r.y,.int .i64 r.z]) (.agg #[.int .i64 a.x,.int .i64 a.y,.int .i64 a.z,.int .i64 b.x,.int .i64 b.y,.int .i64 b.z,.int .i64 c.x,.int .i64 c.y,.int .i64 c.z])).run Tryz.prog w = .ok (decide (p = a ∧ q = b ∧ r = c)) w := by
  have e : decide (p = a ∧ q = b ∧ r = c) = ((p.x == a.x && (p.y == a.y && p.z == a.z)) && ((q.x == b.x && (q.y == b.y && q.z == b.z)) && (r.x == c.x && (r.y == c.y && r.z == c.z)))) := by
    rw [p3_beq,p3_beq,p3_beq,Bool.eq_iff_iff];simp
  rw [e]
  clear e
  go_simp
  generalize (p.x == a.x && (p.y == a.y && p.z == a.z)) = x
  generalize (q.x == b.x && (q.y == b.y && q.z == b.z)) = y
  generalize (r.x == c.x && (r.y == c.y && r.z == c.z)) = z
  cases x <;> cases y <;> cases z <;> simp
set_option maxHeartbeats 2000000 in
@[go_sem high] theorem eq_inr (w : World) (d : Nat) (a b : Inr) : (Op.equalIn (d + 5) 29 (.agg #[.int .i64 a.m,.int .i64 a.p.x,.int .i64 a.p.y,.int .i64 a.p.z,.int .i64 a.q.x,.int .i64 a.q.y,.int .i64 a.q.z,.int .i64 a.r.x,.int .i64 a.r.y,.int .i64 a.r.z,.int .i64 a.v.x,.int .i64 a.v.y,.int .i64 a.v.z,.int .i64 a.s.x,.int .i64 a.s.y,.int .i64 a.s.z]) (.agg #[.int .i64 b.m,.int .i64 b.p.x,.int .i64 b.p.y,.int .i64 b.p.z,.int .i64 b.q.x,.int .i64 b.q.y,.int .i64 b.q.z,.int .i64 b.r.x,.int .i64 b.r.y,.int .i64 b.r.z,.int .i64 b.v.x,.int .i64 b.v.y,.int .i64 b.v.z,.int .i64 b.s.x,.int .i64 b.s.y,.int .i64 b.s.z])).run Tryz.prog w = .ok (decide (a = b)) w := by
  by_cases h : a = b
  · subst h
    rw [decide_eq_true rfl]
    go_simp
    try simp
  · rw [decide_eq_false h]
    have hh : ¬ (a.m = b.m ∧ a.p = b.p ∧ a.q = b.q ∧ a.r = b.r ∧ a.v = b.v ∧ a.s = b.s) := fun hh => h (by cases a;cases b;simp_all)
    simp only [p3_ext] at hh
    go_simp
    try repeat' split
    all_goals first | rfl | (simp_all;done) | grind
set_option maxHeartbeats 4000000 in
@[go_sem high] theorem eq_rw (w : World) (d : Nat) (a b : Rw) : (Op.equalIn (d + 3) 63 (.agg #[.int .i64 a.a,.int .i64 a.b,.int .i64 a.n.x,.int .i64 a.n.y,.int .i64 a.n.z,.int .i64 a.t.x,.int .i64 a.t.y,.int .i64 a.t.z,.int .i64 a.u.x,.int .i64 a.u.y,.int .i64 a.u.z,.int .i64 a.ra.x,.int .i64 a.ra.y,.int .i64 a.ra.z,.int .i64 a.rb.x,.int .i64 a.rb.y,.int .i64 a.rb.z,.int .i64 a.mn,.int .i64 a.mt,.int .i64 a.mu,.int .i64 a.aim,.int .i64 a.rub,.int .i64 a.pn,.int .i64 a.pt,.int .i64 a.pu]) (.agg #[.int .i64 b.a,.int .i64 b.b,.int .i64 b.n.x,.int .i64 b.n.y,.int .i64 b.n.z,.int .i64 b.t.x,.int .i64 b.t.y,.int .i64 b.t.z,.int .i64 b.u.x,.int .i64 b.u.y,.int .i64 b.u.z,.int .i64 b.ra.x,.int .i64 b.ra.y,.int .i64 b.ra.z,.int .i64 b.rb.x,.int .i64 b.rb.y,.int .i64 b.rb.z,.int .i64 b.mn,.int .i64 b.mt,.int .i64 b.mu,.int .i64 b.aim,.int .i64 b.rub,.int .i64 b.pn,.int .i64 b.pt,.int .i64 b.pu])).run Tryz.prog w = .ok (decide (a = b)) w := by
  by_cases h : a = b
  · subst h
    rw [decide_eq_true rfl]
    go_simp
    try simp
  · rw [decide_eq_false h]
    have hh : ¬ (a.a = b.a ∧ a.b = b.b ∧ a.n = b.n ∧ a.t = b.t ∧ a.u = b.u ∧ a.ra = b.ra ∧ a.rb = b.rb ∧ a.mn = b.mn ∧ a.mt = b.mt ∧ a.mu = b.mu ∧ a.aim = b.aim ∧ a.rub = b.rub ∧ a.pn = b.pn ∧ a.pt = b.pt ∧ a.pu = b.pu) := fun hh => h (by cases a;cases b;simp_all)
    simp only [p3_ext] at hh
    go_simp
    try repeat' split
    all_goals first | rfl | (simp_all;done) | grind
/-! ### inside, limited, smaller -/
/-- Speeds within the limits. -/
def P3.lim (p : P3) : Bool := decide (p.x ≤ 1099511627776 ∧ p.y ≤ 1099511627776 ∧ p.z ≤ 1099511627776) && decide (-1099511627776 ≤ p.x ∧ -1099511627776 ≤ p.y ∧ -1099511627776 ≤ p.z)
end Go.Proofs.YtblffafmkpnjdaaGreat
set_option linter.unusedSimpArgs false
set_option linter.unusedVariables false
set_option maxRecDepth 100000
namespace Go.Proofs.YtblffafmkpnjdaaGreat
open Go Go.RowKit
attribute [local irreducible] wpList
end Go.Proofs.YtblffafmkpnjdaaGreat
set_option linter.unusedSimpArgs false
set_option linter.unusedVariables false
set_option maxRecDepth 100000
namespace Go.Proofs.YtblffafmkpnjdaaGreat
open Go Go.RowKit
attribute [local irreducible] wpList
theorem lim_iff (p : P3) : p.lim = true ↔ (p.x ≤ 1099511627776 ∧ p.y ≤ 1099511627776 ∧ p.z ≤ 1099511627776) ∧ (-1099511627776 ≤ p.x ∧ -1099511627776 ≤ p.y ∧ -1099511627776 ≤ p.z) := by
  simp [P3.lim]
theorem clam_lim (v : P3) : v.clam.lim = true := by
  rw [lim_iff]
  have h : ∀ a,-1099511627776 ≤ Qdf a (-1099511627776) 1099511627776 ∧ Qdf a (-1099511627776) 1099511627776 ≤ 1099511627776 := fun a => Qoh (by omega)
  unfold P3.clam
  exact ⟨⟨(h _).2,(h _).2,(h _).2⟩,⟨(h _).1,(h _).1,(h _).1⟩⟩
end Go.Proofs.YtblffafmkpnjdaaGreat
