/-
  Regions that draw: an empty literal, append of what lay there, a call of Near; '=='; ninepinlaw15.same (contract).
  SimplexPast (the walk).
  SimplexPast (the walk, both fine).
  SimplexMore (the law).
  SimplexMore: the contract of the law.
  SimplexPast: the contract of the law.
-/
import Derived.Test.YtdfdmeoalbpcdaaQt
import Derived.Laws.Cover1
import Derived.Test.YtdfdmeoalbpcdaaHb
import Derived.Test.YtdfdmeoalbpcdaaQ4
set_option linter.unusedSimpArgs false
set_option linter.unusedVariables false
set_option maxRecDepth 100000
namespace Go.Proofs.Ytdfdmeoalbpcdaa
open Go Go.RowKit
attribute [local irreducible] wpList
section
variable {P : Program} {X : List Nat} {w0 w : World} {H Hq H' : List Bk} {g : Nat} {t : TypeId} {cs cs' : List Value}
variable {ops : Array Oper} {Q : Exit → Act → World → Prop} {a : Act} {N : List Nat} {i : Nat} {rest : Sc} {d p : Tmp} {tp ty : TypeId} {pos : String} {af : Array Edge} {gd : Option (Nat × Bool)} {off n : Nat}
end
end Go.Proofs.Ytdfdmeoalbpcdaa

set_option linter.unusedSimpArgs false
set_option linter.unusedVariables false
set_option maxRecDepth 100000
namespace Go.Proofs.Ytdfdmeoalbpcdaa
open Go Go.RowKit
attribute [local irreducible] wpList
set_option maxHeartbeats 4000000 in
theorem past_bad (v u : Value) (p : P3) (N M : P3) (d e ea eb : Int) (ks js : List Nat) (hks : ea = 0 ∧ ks ≠ [] ∨ (ea = 2 ∨ ea = 7) ∧ ks = []) (hjs : eb = 0 ∧ js ≠ [] ∨ (eb = 2 ∨ eb = 7) ∧ js = []) (hbad : ¬(ea = 0 ∧ eb = 0)) (w : World)
    (NA : Hid (∀ w1,Keep [] w w1 → Calls Try.prog 8 #[v] w1 (Qew N d ks ea w1))) (NB : Hid (∀ w1,Keep [] w w1 → Calls Try.prog 8 #[u] w1 (Qew M e js eb w1))) : Calls Try.prog 3 #[v,u,PV p] w (Ret (.bool true) w) := by
  have AW := Lib.hid Qoe
  rcases hks with ⟨rfl,hks⟩|⟨rfl|rfl,rfl⟩
  · have HK := Lib.hid hks
    obtain ⟨m,hm⟩ : ∃ m,ks.length = m := ⟨_,rfl⟩
    have HM := Lib.hid hm
    clear hm hks
    rcases hjs with ⟨rfl,hjs⟩|⟨rfl|rfl,rfl⟩
    · exact absurd ⟨rfl,rfl⟩ hbad
    all_goals
      clear hbad
      go_enter Try.func3,Try.ntmps3
      have hp := Hp.start [] w
      go_wp2_with (first|((with_reducible apply Qav hp);exact za rfl;exact rfl;clear hp;(try clear w1);intro g w1 hp;simp only [zp,zq,z0,z1])|((with_reducible apply Qag hp);exact ii;exact rfl;clear hp;(try clear w1);intro g w1 hp;simp only [zp,zq,z0,z1])|((with_reducible apply Qaf hp);exact zt rfl;exact za rfl;exact rfl;(exact AggTy.size);exact rfl;exact ii;(simp only [n0,Nat.reduceAdd,nn];try rfl);(exact zl rfl);exact rfl;exact ii;clear hp;(try clear w1);intro w1 hp)|((with_reducible refine Qae hp (AW.out _) ?_);clear hp;(try clear w1);intro w1 hp)|((with_reducible refine Qef hp (NA.out _ hp.keep) HK.out HM.out ?_);clear hp;(try clear w1);intro gC cC jC w1 hp)|((with_reducible refine Qfm hp (NB.out _ hp.keep) ?_);clear hp;(try clear w1);intro bD cD w1 hp)|((with_reducible apply Qbt);exact rfl))
      exact bodyPost_ret (Qaa rfl rfl) rfl ⟨rfl,hp.keep⟩
  all_goals
    clear hbad
    rcases hjs with ⟨rfl,hjs⟩|⟨hjs,rfl⟩
    · have HK := Lib.hid hjs
      obtain ⟨m,hm⟩ : ∃ m,js.length = m := ⟨_,rfl⟩
      have HM := Lib.hid hm
      clear hm hjs
      go_enter Try.func3,Try.ntmps3
      have hp := Hp.start [] w
      go_wp2_with (first|((with_reducible apply Qav hp);exact za rfl;exact rfl;clear hp;(try clear w1);intro g w1 hp;simp only [zp,zq,z0,z1])|((with_reducible apply Qag hp);exact ii;exact rfl;clear hp;(try clear w1);intro g w1 hp;simp only [zp,zq,z0,z1])|((with_reducible apply Qaf hp);exact zt rfl;exact za rfl;exact rfl;(exact AggTy.size);exact rfl;exact ii;(simp only [n0,Nat.reduceAdd,nn];try rfl);(exact zl rfl);exact rfl;exact ii;clear hp;(try clear w1);intro w1 hp)|((with_reducible refine Qae hp (AW.out _) ?_);clear hp;(try clear w1);intro w1 hp)|((with_reducible refine Qef hp (NB.out _ hp.keep) HK.out HM.out ?_);clear hp;(try clear w1);intro gC cC jC w1 hp)|((with_reducible refine Qfm hp (NA.out _ hp.keep) ?_);clear hp;(try clear w1);intro bD cD w1 hp))
      exact bodyPost_ret (Qaa rfl rfl) rfl ⟨rfl,hp.keep⟩
    · rcases hjs with rfl|rfl
      all_goals
        go_enter Try.func3,Try.ntmps3
        have hp := Hp.start [] w
        go_wp2_with (first|((with_reducible apply Qav hp);exact za rfl;exact rfl;clear hp;(try clear w1);intro g w1 hp;simp only [zp,zq,z0,z1])|((with_reducible apply Qag hp);exact ii;exact rfl;clear hp;(try clear w1);intro g w1 hp;simp only [zp,zq,z0,z1])|((with_reducible apply Qaf hp);exact zt rfl;exact za rfl;exact rfl;(exact AggTy.size);exact rfl;exact ii;(simp only [n0,Nat.reduceAdd,nn];try rfl);(exact zl rfl);exact rfl;exact ii;clear hp;(try clear w1);intro w1 hp)|((with_reducible refine Qae hp (AW.out _) ?_);clear hp;(try clear w1);intro w1 hp)|((with_reducible first|refine Qfm hp (NA.out _ hp.keep) ?_|refine Qfm hp (NB.out _ hp.keep) ?_);clear hp;(try clear w1);intro bC cC w1 hp))
        exact bodyPost_ret (Qaa rfl rfl) rfl ⟨rfl,hp.keep⟩
end Go.Proofs.Ytdfdmeoalbpcdaa

set_option linter.unusedSimpArgs false
set_option linter.unusedVariables false
set_option maxRecDepth 100000
namespace Go.Proofs.Ytdfdmeoalbpcdaa
open Go Go.RowKit
attribute [local irreducible] wpList
def mx3 (x y z : Int) : Int := if z > (if y > x then y else x) then z else (if y > x then y else x)
def mn3 (x y z : Int) : Int := if z < (if y < x then y else x) then z else (if y < x then y else x)
section
variable {P : Program} {ops : Array Oper} {Q : Exit → Act → World → Prop} {rest : List Oper} {a : Act} {w : World} {d : Tmp} {tp t t2 t3 : TypeId} {pos : String} {af : Array Edge} {x y z : Operand} {i j k : Int}
theorem sx_max (hx : a.eval x = .int .i64 i) (hy : a.eval y = .int .i64 j) (hz : a.eval z = .int .i64 k) (h : wpList P ops Q rest (a.put (some d) (.int .i64 (mx3 i j k))) w) :
    wpList P ops Q (⟨some d,.call { callee := .builtin .max,args := #[x,y,z],argTypes := #[t,t2,t3] },tp,pos,af,none⟩ :: rest) a w := by
  unfold wpList
  rw [if_pos (by simp [Region.wanted])]
  unfold Oper.wp execOp
  simp only [resolve,invoke,builtin,Sem.run_bind,Sem.run_pure,Result.andThen_ok,List.map_toArray,List.map_cons,List.map_nil,hx,hy,hz,run_max_int3,Oper.upon]
  exact .inl h
theorem sx_min (hx : a.eval x = .int .i64 i) (hy : a.eval y = .int .i64 j) (hz : a.eval z = .int .i64 k) (h : wpList P ops Q rest (a.put (some d) (.int .i64 (mn3 i j k))) w) :
    wpList P ops Q (⟨some d,.call { callee := .builtin .min,args := #[x,y,z],argTypes := #[t,t2,t3] },tp,pos,af,none⟩ :: rest) a w := by
  unfold wpList
  rw [if_pos (by simp [Region.wanted])]
  unfold Oper.wp execOp
  simp only [resolve,invoke,builtin,Sem.run_bind,Sem.run_pure,Result.andThen_ok,List.map_toArray,List.map_cons,List.map_nil,hx,hy,hz,run_min_int3,Oper.upon]
  exact .inl h
theorem sx_gt {kk : IntKind} {c : Int} {b : Bool} (hx : a.eval x = .int kk i) (hb : decide (c < i) = b) (h : wpList P ops Q rest (a.put (some d) (.bool b)) w) :
    wpList P ops Q (⟨some d,.binOp .gtr t x (.const (.int kk c)) t2,tp,pos,af,none⟩ :: rest) a w := by
  unfold wpList
  rw [if_pos (by simp [Region.wanted])]
  unfold Oper.wp execOp
  subst hb
  have hc : a.eval (.const (.int kk c)) = .int kk c := rfl
  simp only [hx,hc]
  go_simp
  exact .inl h
theorem sx_ls {kk : IntKind} {c : Int} {b : Bool} (hx : a.eval x = .int kk i) (hb : decide (i < c) = b) (h : wpList P ops Q rest (a.put (some d) (.bool b)) w) :
    wpList P ops Q (⟨some d,.binOp .lss t x (.const (.int kk c)) t2,tp,pos,af,none⟩ :: rest) a w := by
  unfold wpList
  rw [if_pos (by simp [Region.wanted])]
  unfold Oper.wp execOp
  subst hb
  have hc : a.eval (.const (.int kk c)) = .int kk c := rfl
  simp only [hx,hc]
  go_simp
  exact .inl h
end
set_option maxHeartbeats 4000000 in
theorem past_out (v u : Value) (p : P3) (N M : P3) (d e : Int) (ks js : List Nat) (hks : ks ≠ []) (hjs : js ≠ []) (b1 b2 : Bool) (h1 : decide (268435456 < mx3 p.x p.y p.z) = b1) (h2 : decide (mn3 p.x p.y p.z < -268435456) = b2) (hbb : b1 = true ∨ b2 = true) (w : World)
    (NA : Hid (∀ w1,Keep [] w w1 → Calls Try.prog 8 #[v] w1 (Qew N d ks 0 w1))) (NB : Hid (∀ w1,Keep [] w w1 → Calls Try.prog 8 #[u] w1 (Qew M e js 0 w1))) : Calls Try.prog 3 #[v,u,PV p] w (Ret (.bool true) w) := by
  have AW := Lib.hid Qoe
  have HK := Lib.hid hks
  obtain ⟨m,hm⟩ : ∃ m,ks.length = m := ⟨_,rfl⟩
  have HM := Lib.hid hm
  have HJ := Lib.hid hjs
  obtain ⟨m2,hm2⟩ : ∃ m,js.length = m := ⟨_,rfl⟩
  have HM2 := Lib.hid hm2
  clear hm hks hm2 hjs
  have HB1 := Lib.hid h1
  have HB2 := Lib.hid h2
  clear h1 h2
  cases b1 <;> cases b2 <;> first|(exfalso;revert hbb;decide)|clear hbb
  all_goals
    go_enter Try.func3,Try.ntmps3
    have hp := Hp.start [] w
    go_wp2_with (first|((with_reducible apply sx_max);exact rfl;exact rfl;exact rfl;simp only [zp,zq,z0,z1])|((with_reducible apply sx_min);exact rfl;exact rfl;exact rfl;simp only [zp,zq,z0,z1])|((with_reducible apply sx_gt);exact rfl;exact HB1.out;simp only [zp,zq,z0,z1])|((with_reducible apply sx_ls);exact rfl;exact HB2.out;simp only [zp,zq,z0,z1])|((with_reducible apply Qav hp);exact za rfl;exact rfl;clear hp;(try clear w1);intro g w1 hp;simp only [zp,zq,z0,z1])|((with_reducible apply Qag hp);exact ii;exact rfl;clear hp;(try clear w1);intro g w1 hp;simp only [zp,zq,z0,z1])|((with_reducible apply Qak hp);exact zt rfl;exact ii;exact ii;(exact zio rfl);simp only [zp,zq,z0,z1])|((with_reducible apply Qaf hp);exact zt rfl;exact za rfl;exact rfl;(exact AggTy.size);exact rfl;exact ii;(simp only [n0,Nat.reduceAdd,nn];try rfl);(exact zl rfl);exact rfl;exact ii;clear hp;(try clear w1);intro w1 hp)|((with_reducible refine Qae hp (AW.out _) ?_);clear hp;(try clear w1);intro w1 hp)|((with_reducible first|refine Qef hp (NA.out _ hp.keep) HK.out HM.out ?_|refine Qef hp (NB.out _ hp.keep) HJ.out HM2.out ?_);clear hp;(try clear w1);intro gC cC jC w1 hp)|((with_reducible apply Qbt);exact rfl))
    exact bodyPost_ret (Qaa rfl rfl) rfl ⟨rfl,hp.keep⟩
set_option maxHeartbeats 4000000 in
theorem past_in (v u : Value) (p : P3) (N M : P3) (d e : Int) (ks js : List Nat) (hks : ks ≠ []) (hjs : js ≠ []) (h1 : decide (268435456 < mx3 p.x p.y p.z) = false) (h2 : decide (mn3 p.x p.y p.z < -268435456) = false) (bp : Bool) (c : Int) (w : World)
    (NA : Hid (∀ w1,Keep [] w w1 → Calls Try.prog 8 #[v] w1 (Qew N d ks 0 w1))) (NB : Hid (∀ w1,Keep [] w w1 → Calls Try.prog 8 #[u] w1 (Qew M e js 0 w1)))
    (PA : Hid (∀ s w1,Calls Try.prog 10 #[NrV N.x N.y N.z d s,PV p] w1 (Ret (.bool bp) w1))) (PR : Hid (∀ w1,Calls Try.prog 11 #[Sv N.x N.y N.z,W d,PV p] w1 (Ret (.bool bp) w1)))
    (CA : Hid (∀ s s' w1,Calls Try.prog 12 #[NrV N.x N.y N.z d s,NrV M.x M.y M.z e s'] w1 (Ret (.int .i64 c) w1))) (CR : Hid (∀ s s' w1,Calls Try.prog 13 #[NrV N.x N.y N.z d s,NrV M.x M.y M.z e s'] w1 (Ret (.int .i64 c) w1))) : Calls Try.prog 3 #[v,u,PV p] w (Ret (.bool true) w) := by
  have AW := Lib.hid Qoe
  have HK := Lib.hid hks
  obtain ⟨m,hm⟩ : ∃ m,ks.length = m := ⟨_,rfl⟩
  have HM := Lib.hid hm
  have HJ := Lib.hid hjs
  obtain ⟨m2,hm2⟩ : ∃ m,js.length = m := ⟨_,rfl⟩
  have HM2 := Lib.hid hm2
  clear hm hks hm2 hjs
  have HB1 := Lib.hid h1
  have HB2 := Lib.hid h2
  clear h1 h2
  cases bp
  all_goals
    go_enter Try.func3,Try.ntmps3
    have hp := Hp.start [] w
    go_upto_region 5 with (first|((with_reducible apply sx_max);exact rfl;exact rfl;exact rfl;simp only [zp,zq,z0,z1])|((with_reducible apply sx_min);exact rfl;exact rfl;exact rfl;simp only [zp,zq,z0,z1])|((with_reducible apply sx_gt);exact rfl;exact HB1.out;simp only [zp,zq,z0,z1])|((with_reducible apply sx_ls);exact rfl;exact HB2.out;simp only [zp,zq,z0,z1])|((with_reducible apply Qav hp);exact za rfl;exact rfl;clear hp;(try clear w1);intro g w1 hp;simp only [zp,zq,z0,z1])|((with_reducible apply Qag hp);exact ii;exact rfl;clear hp;(try clear w1);intro g w1 hp;simp only [zp,zq,z0,z1])|((with_reducible apply Qak hp);exact zt rfl;exact ii;exact ii;(exact zio rfl);simp only [zp,zq,z0,z1])|((with_reducible apply Qaf hp);exact zt rfl;exact za rfl;exact rfl;(exact AggTy.size);exact rfl;exact ii;(simp only [n0,Nat.reduceAdd,nn];try rfl);(exact zl rfl);exact rfl;exact ii;clear hp;(try clear w1);intro w1 hp)|((with_reducible first|refine Qef hp (NA.out _ hp.keep) HK.out HM.out ?_|refine Qef hp (NB.out _ hp.keep) HJ.out HM2.out ?_);clear hp;(try clear w1);intro gC cC jC w1 hp)|((with_reducible apply Qbt);exact rfl))
    have hq := hp
    refine Qac hp hq [] (.q 0 (.q 1 (.q 3 (.q 4 (.q 5 (.q 6 (.q 7 (.l 2 (.l 8 (.q 9 (.q 10 (.q 11 (.q 12 (.q 14 (.q 15 (.l 13 (.l 16 (.q 17 (.q 18 (.q 19 (.l 20 (.q 21 (.q 22 .nil))))))))))))))))))))))) (by kernel_rfl) (by kernel_rfl) ?_
    clear hp hq;(try clear w1);intro w1 hp hq
    repeat' (first|(((with_reducible apply sd_q);exact zo rfl);(first|((with_reducible apply Qah hp);exact rfl;exact zt rfl;exact ii;exact ii;(exact zl rfl);(simp only [n0,Nat.reduceAdd,nn];try rfl);simp only [zp,zq,z0,z1])|((with_reducible apply Qat hp);exact zb rfl;simp only [zp,zq,z0,z1])|((with_reducible apply Qan hp);exact zb rfl;simp only [zp,zq,z0,z1])|((with_reducible apply Qai hp);exact rfl;(focus (intro _;go_simp;(try go_ints);try with_reducible rfl));simp only [zp,zq,z0,z1])))|(((with_reducible apply sd_l);exact zo rfl);((with_reducible apply Qao hp);exact rfl;(focus (intro _;go_simp;try first|with_reducible rfl|exact ⟨rfl,rfl⟩));(with_reducible first|exact fun w => PA.out _ w|exact fun w => PR.out w|exact fun w => CA.out _ _ w|exact fun w => CR.out _ _ w|exact fun w => AW.out w);exact hq;clear hp hq;(try clear w1);intro w1 hp hq;simp only [zp,zq,z0,z1]))|((with_reducible apply Qam);clear hp;have hp := hq;clear hq))
    go_wp2
    exact bodyPost_ret (Qaa rfl rfl) rfl ⟨rfl,hp.keep⟩
end Go.Proofs.Ytdfdmeoalbpcdaa

set_option linter.unusedSimpArgs false
set_option linter.unusedVariables false
set_option maxRecDepth 100000
namespace Go.Proofs.Ytdfdmeoalbpcdaa
open Go Go.RowKit
attribute [local irreducible] wpList
end Go.Proofs.Ytdfdmeoalbpcdaa

set_option linter.unusedSimpArgs false
set_option linter.unusedVariables false
set_option maxRecDepth 100000
namespace Go.Proofs.Ytdfdmeoalbpcdaa
open Go Go.RowKit
attribute [local irreducible] wpList
theorem Qgg {l : List P3} (h : Qdw l = 0) : Qcx l ≠ [] := by
  obtain ⟨hF,_⟩ := Qns h
  have := (Qly hF.ok.1).1
  intro h0
  rw [h0] at this
  simp [pts] at this
end Go.Proofs.Ytdfdmeoalbpcdaa

set_option linter.unusedSimpArgs false
set_option linter.unusedVariables false
set_option maxRecDepth 100000
namespace Go.Proofs.Ytdfdmeoalbpcdaa
open Go Go.RowKit
attribute [local irreducible] wpList
theorem Qko (l : List P3) : Qdw l = 0 ∧ Qcx l ≠ [] ∨ (Qdw l = 2 ∨ Qdw l = 7) ∧ Qcx l = [] := by
  by_cases h : Qdw l = 0
  · exact .inl ⟨h,Qgg h⟩
  · refine .inr ⟨?_,by unfold Qcx;rw [if_neg h]⟩
    unfold Qdw at h ⊢
    split
    · exact .inl rfl
    · rename_i h0
      split
      · exact .inr rfl
      · rename_i h2;rw [if_neg h0,if_neg h2] at h;exact absurd rfl h
theorem past_law {v u : Value} {w : World} (l : List P3) (hlen : l.length ≤ maxLen) (_ : ∀ q ∈ l,q.i64) (h : PSl w v l) (m : List P3) (hlen' : m.length ≤ maxLen) (_ : ∀ q ∈ m,q.i64) (h' : PSl w u m) (p : P3) (_ : p.i64) : Calls Try.prog 3 #[v,u,PV p] w (Ret (.bool true) w) := by
  have NA : ∀ w1,Keep [] w w1 → Calls Try.prog 8 #[v] w1 (Qew (Qdd l).1 (Qdd l).2 (Qcx l) (Qdw l) w1) := fun w1 hk => Qfl hlen w1 (h.keep hk)
  have NB : ∀ w1,Keep [] w w1 → Calls Try.prog 8 #[u] w1 (Qew (Qdd m).1 (Qdd m).2 (Qcx m) (Qdw m) w1) := fun w1 hk => Qfl hlen' w1 (h'.keep hk)
  by_cases hE : Qdw l = 0 ∧ Qdw m = 0
  · obtain ⟨e1,e2⟩ := hE
    rw [e1] at NA
    rw [e2] at NB
    have n1 := Qlr e1
    have n2 := Qlr e2
    by_cases hb : decide (268435456 < mx3 p.x p.y p.z) = true ∨ decide (mn3 p.x p.y p.z < -268435456) = true
    · exact past_out v u p (Qdd l).1 (Qdd m).1 (Qdd l).2 (Qdd m).2 (Qcx l) (Qcx m) (Qgg e1) (Qgg e2) _ _ rfl rfl hb w NA NB
    · have hm : p.may := by
        simp only [decide_eq_true_eq,not_or] at hb
        obtain ⟨a,b⟩ := hb
        unfold mx3 at a
        unfold mn3 at b
        unfold P3.may may
        refine ⟨?_,?_,?_⟩ <;> (split at a <;> split at b <;> (try split at a) <;> (try split at b) <;> omega)
      have hb1 : decide (268435456 < mx3 p.x p.y p.z) = false := by cases hc : decide (268435456 < mx3 p.x p.y p.z) with
        | true => exact absurd (.inl hc) hb
        | false => rfl
      have hb2 : decide (mn3 p.x p.y p.z < -268435456) = false := by cases hc : decide (mn3 p.x p.y p.z < -268435456) with
        | true => exact absurd (.inr hc) hb
        | false => rfl
      exact past_in v u p (Qdd l).1 (Qdd m).1 (Qdd l).2 (Qdd m).2 (Qcx l) (Qcx m) (Qgg e1) (Qgg e2) hb1 hb2 _ _ w NA NB (fun s w1 => Qhr n1 hm s w1) (fun w1 => Qos n1 hm w1) (fun s s' w1 => Qpi n1 n2 s s' w1) (fun s s' w1 => r15cmp_any n1 n2 s s' w1)
  · exact past_bad v u p (Qdd l).1 (Qdd m).1 (Qdd l).2 (Qdd m).2 (Qdw l) (Qdw m) (Qcx l) (Qcx m) (Qko l) (Qko m) hE w NA NB
end Go.Proofs.Ytdfdmeoalbpcdaa
