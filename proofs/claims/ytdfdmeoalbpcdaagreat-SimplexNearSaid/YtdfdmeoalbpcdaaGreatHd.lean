/-
  Package orient: Spread (contract).
-/
import Derived.Test.YtdfdmeoalbpcdaaGreatHc
import Derived.WalkMore
import Derived.ScopeJumps
set_option linter.unusedSimpArgs false
set_option maxRecDepth 100000
namespace Go.Proofs.YtdfdmeoalbpcdaaGreat
open Go Go.RowKit
/-- The points Qeu so far, as they lie. -/
def Tk (w : World) (tv : Value) (tk : List P3) : Prop := (tk = [] ∧ tv = .slice none 0 0) ∨ ∃ g cap bc t,tv = .slice (some ⟨g,0,none⟩) tk.length cap ∧ w.heap[g]? = some (.cells (bc : List Value).toArray t (0,0)) ∧ bc.take (tk.length * 3) = pcs tk
theorem Tk.of {w : World} {tk : List P3} {g cap : Nat} {bc : List Value} {t : TypeId} (h : w.heap[g]? = some (.cells bc.toArray t (0,0))) (h2 : bc.take (tk.length * 3) = pcs tk) : Tk w (.slice (some ⟨g,0,none⟩) tk.length cap) tk := .inr ⟨g,cap,bc,t,rfl,h,h2⟩
theorem raises_any (w : World) (gt : Nat) (tv : Value) (tk : List P3) (p : P3) (h4 : tk.length ≤ 4) (hm : ∀ q ∈ tk,q.may) (hp' : p.may) (ht : w.heap[gt]? = some (.cells [tv].toArray 89 (0,0))) (hT : Tk w tv tk) :
    Calls Tryz.prog 47 #[.pointer (some ⟨gt,0,none⟩),PV p] w (Ret (.bool (Qbz tk p)) w) := by
  rcases hT with ⟨rfl,rfl⟩|⟨g,cap,bc,t,rfl,hb,hv⟩
  · exact raises0 w gt p ht
  · have hv' : (bc.drop 0).take (tk.length * 3) = pcs tk := hv
    have hroom := Qdg hv'
    have hat := fun (k : Nat) (q : P3) (hk : tk[k]? = some q) => Qfm hv' hk
    match tk,h4,hroom,hat,hm,hb,ht with
    | [],_,_,_,_,hb,ht => exact raises0' w gt g cap p ht
    | [a],_,hroom,hat,hm,hb,ht => exact raises1 w gt g cap t bc a p ht hb (by simpa using hroom) (hat 0 a rfl)
    | [a,b],_,hroom,hat,hm,hb,ht => exact raises2 w gt g cap t bc a b p (hm a (by simp)) (hm b (by simp)) hp' ht hb (by simpa using hroom) (hat 0 a rfl) (hat 1 b rfl)
    | [a,b,c],_,hroom,hat,hm,hb,ht => exact raises3 w gt g cap t bc a b c p (hm a (by simp)) (hm b (by simp)) (hm c (by simp)) hp' ht hb (by simpa using hroom) (hat 0 a rfl) (hat 1 b rfl) (hat 2 c rfl)
    | [a,b,c,d],_,hroom,hat,hm,hb,ht => exact raises4 w gt g cap p ht
    | a :: b :: c :: d :: e :: l,h4,_,_,_,_,_ => simp at h4
/-- What is Qeu behind k points, and its places. -/
def spst (ps : List P3) : Nat → List P3 × List Int
  | 0 => ([],[])
  | k + 1 => match ps[k]? with
    | none => spst ps k
    | some p => if Qbz (spst ps k).1 p then ((spst ps k).1 ++ [p],(spst ps k).2 ++ [(k : Int)]) else spst ps k
def Qcd (ps : List P3) : List Int := (spst ps ps.length).2
theorem Qok : ∀ {tk : List P3} {p : P3},Qbz tk p = true → tk.length ≤ 3
  | [],_,_ => by simp
  | [_],_,_ => by simp
  | [_,_],_,_ => by simp
  | [_,_,_],_,_ => by simp
  | _ :: _ :: _ :: _ :: _,_,h => by simp [Qbz] at h
theorem Qgj (ps : List P3) : ∀ k,(spst ps k).1.length ≤ 4 ∧ (spst ps k).1.length = (spst ps k).2.length ∧ ∀ q ∈ (spst ps k).1,q ∈ ps
  | 0 => by simp [spst]
  | k + 1 => by
    obtain ⟨h1,h2,h3⟩ := Qgj ps k
    unfold spst
    cases hp : ps[k]? with
    | none => exact ⟨h1,h2,h3⟩
    | some p =>
      dsimp only
      split
      · rename_i hr
        have := Qok hr
        refine ⟨by simp;omega,by simp [h2],fun q hq => ?_⟩
        rcases List.mem_append.1 hq with hq|hq
        · exact h3 q hq
        · simp at hq;subst hq;exact List.mem_of_getElem? hp
      · exact ⟨h1,h2,h3⟩
theorem Qij : ∀ (a b : List P3),pcs (a ++ b) = pcs a ++ pcs b
  | [],_ => rfl
  | p :: a,b => by simp [pcs,Qij a b]
/-- A slice of ints that lies in a block of its own. -/
def ISl (base : Nat) (w : World) (sv : Value) (out : List Int) : Prop := (sv = .slice none 0 0 ∧ out = []) ∨ ∃ g cap junk,base ≤ g ∧ sv = .slice (some ⟨g,0,none⟩) out.length cap ∧ w.heap[g]? = some (.cells (out.map (Value.int .i64) ++ junk).toArray 3 (0,0))
/-- What a call comes to that hands back a new slice of ints. -/
def RetI (out : List Int) (f : Value → Value) (w : World) (e : Ending) (w' : World) : Prop := ∃ sv,e = .returned (f sv) ∧ Keep [] w w' ∧ ISl w.heap.size w' sv out
/-- Memory between two rounds. -/
def SpI (w : World) (gt : Nat) (tk : List P3) (out : List Int) (ov : Value) (wr : World) : Prop :=
  (tk = [] ∧ out = [] ∧ ov = .slice none 0 0 ∧ Hp [] w [⟨gt,89,[.slice none 0 0]⟩] wr) ∨
  ∃ ga ca ja go co jo,ov = .slice (some ⟨go,0,none⟩) out.length co ∧ (pcs tk ++ ja).length = ca * 3 ∧ tk.length ≤ ca ∧ ca ≤ maxLen ∧ (out.map (Value.int .i64) ++ jo).length = co * 1 ∧ out.length ≤ co ∧ co ≤ maxLen ∧
    Hp [] w [⟨go,3,out.map (Value.int .i64) ++ jo⟩,⟨ga,39,pcs tk ++ ja⟩,⟨gt,89,[.slice (some ⟨ga,0,none⟩) tk.length ca]⟩] wr
set_option maxHeartbeats 4000000 in
theorem spread_far (ps : List P3) (sp : List Int) (Hsp : Hid (sp = Qcd ps)) (hfine : Qdf ps = true) (h256 : ps.length ≤ 256) (w : World) (g0 off cap : Nat) (bc : List Value) (t : TypeId) {z : Nat × Nat} (hb : w.heap[g0]? = some (.cells bc.toArray t z)) (hv : (bc.drop off).take (ps.length * 3) = pcs ps) :
    Calls Tryz.prog 22 #[.slice (some ⟨g0,off,none⟩) ps.length cap] w (RetI sp (fun sv => .tuple #[sv,.int .i64 0]) w) := by
  have hmf : ∀ (fn : Fn) (first cap : Array Value) (w : World),(Instr.makeFunc fn first cap).run Tryz.prog w = .ok (.func fn first cap) w := fun _ _ _ _ => rfl
  have Hv := Lib.hid hv
  clear hv
  have hfn := fine_far ps true (Lib.hid hfine.symm) (by unfold maxLen;omega)
  have Hfn := Lib.hid hfn
  clear hfn
  have Hfine := Lib.hid hfine
  clear hfine
  have hbf : ∀ {w1},Keep [] w w1 → w1.heap[g0]? = some (.cells bc.toArray t z) := fun {w1} hk => by
    have hlt : g0 < w.heap.size := by
      rcases Nat.lt_or_ge g0 w.heap.size with h' | h'
      · exact h'
      · rw [Array.getElem?_eq_none h'] at hb;cases hb
    rw [hk.block g0 hlt (by simp)]
    exact hb
  have Hbf : Hid (∀ w1,Keep [] w w1 → w1.heap[g0]? = some (.cells bc.toArray t z)) := Lib.hid fun w1 hk => hbf hk
  clear hbf
  go_enter Tryz.func22,Tryz.ntmps22
  have hp := Hp.start [] w
  go_wp2_with (fail)
  go_step3
  go_wp2_with (first|((with_reducible apply Qag hp);exact ii;exact rfl;clear hp;(try clear w1);intro g w1 hp;simp only [zp,zq,z0,z1])|((with_reducible refine Qaf hp (Hfn.out _ g0 off cap bc t (Hbf.out _ hp.keep) Hv.out) ?_);clear hp;(try clear w1);intro w1 hp))
  obtain ⟨gt,rfl⟩ : ∃ x : Nat,x = g := ⟨_,rfl⟩
  go_loopw [2,17] (fun ov i wr => ∃ k : Nat,k ≤ ps.length ∧ i = .int .i64 k ∧ SpI w gt (spst ps k).1 (spst ps k).2 ov wr) (fun _ i _ => ps.length - (intOf i).toNat)
  case atStart => exact ⟨0,by omega,rfl,.inl ⟨rfl,rfl,rfl,hp⟩⟩
  case round =>
    clear hp
    obtain ⟨k,hk,rfl,hI⟩ := hrel
    by_cases hk1 : k < ps.length
    · obtain ⟨p,hpk⟩ : ∃ p,ps[k]? = some p := ⟨_,List.getElem?_eq_getElem hk1⟩
      have hat := Qfm Hv.out hpk
      have hroom : off + k * 3 + 3 ≤ bc.length := by
        rcases Qdg Hv.out with h|h
        · subst h;simp at hk1
        · omega
      have hstep : spst ps (k + 1) = if Qbz (spst ps k).1 p then ((spst ps k).1 ++ [p],(spst ps k).2 ++ [(k : Int)]) else spst ps k := by
        rw [spst,hpk]
      obtain ⟨h4,hlen,hsub⟩ := Qgj ps k
      have hpm := Qou Hfine.out (List.mem_of_getElem? hpk)
      have hmay : ∀ q ∈ (spst ps k).1,q.may := fun q hq => Qou Hfine.out (hsub q hq)
      clear hsub
      generalize spst ps k = s at *
      obtain ⟨tk,out⟩ := s
      dsimp only at *
      have Hstep := Lib.hid hstep
      have Hmay := Lib.hid hmay
      have Hpk := Lib.hid hpk
      have Hpm := Lib.hid hpm
      clear hstep hmay hpk hpm
      rcases hI with ⟨rfl,rfl,rfl,hp⟩|⟨ga,ca,ja,go,co,jo,rfl,hja,hca,hcam,hjo,hco,hcom,hp⟩
      · go_wp2_with (first|((with_reducible apply Qag hp);exact ii;exact rfl;clear hp;(try clear w1);intro g w1 hp;simp only [zp,zq,z0,z1])|((with_reducible apply Qab hp);exact zt rfl;exact ii;exact ii;(exact zl rfl);(simp only [n0,Nat.reduceAdd,nn];try rfl);simp only [zp,zq,z0,z1])|((with_reducible apply Qai hp);exact zt rfl;exact ii;exact ii;(exact zso rfl);simp only [zp,zq,z0,z1])|((with_reducible apply Qae hp);exact zt rfl;(first|exact za rfl|exact zs rfl);exact rfl;exact Sz.z;exact rfl;exact ii;(simp only [n0,Nat.reduceAdd,nn];try rfl);(exact zl rfl);exact rfl;exact ii;clear hp;(try clear w1);intro w1 hp)|((with_reducible apply Qar);exact zx rfl;exact zk rfl;exact ii;(exact AggTy.size);omega;omega;((try simp only [m0,Int.reduceToNat,m1,m2,Nat.reduceMul,Nat.reduceAdd,m3,m4,m5,n0]);exact rfl);simp only [zp,zq,z0,z1])|((with_reducible apply Qbr hp);exact zt rfl;assumption;exact ii;assumption;(omega);simp only [zp,zq,z0,z1])|((with_reducible apply Qav hp);exact ii;exact Sz.z;exact ii;exact zl rfl;decide;(exact zk1 rfl);exact rfl;(exact zm1 rfl);(intro l hl <;> simp only [List.mem_cons,List.not_mem_nil,or_false] at hl <;> rcases hl with rfl|rfl|rfl|rfl <;> rfl);exact rfl;clear hp;(try clear w1);intro g w1 hp;simp only [zp,zq,z0,z1])|((with_reducible apply Qbq hp);exact ii;exact ii;exact rfl;decide;exact (rfl : _ = Value.slice none 0 0);exact zy rfl;exact ii;exact rfl;exact rfl;decide;(unfold maxLen;decide);decide;clear hp;(try clear w1);intro g cap junk w1 hl1 hl2 hl3 hp;simp only [zp,zq,z0,z1])|((with_reducible refine Qaf hp (raises0 _ gt p hp.blk) ?_);clear hp;(try clear w1);intro w1 hp))
        go_roundw
        case rel =>
          refine ⟨k + 1,by omega,by go_num,?_⟩
          rw [Hstep.out]
          refine .inr ⟨_,_,_,_,_,_,rfl,?_,?_,?_,?_,?_,?_,hp.sub (by repeat (first|exact sb0|apply sb2|apply sb3))⟩ <;> assumption
        case measure => simp [intOf];omega
      · have Hlen := Lib.hid hlen
        clear hlen
        have hra := fun w1 ht hT => raises_any w1 gt (.slice (some ⟨ga,0,none⟩) tk.length ca) tk p h4 Hmay.out Hpm.out ht hT
        have htk : (pcs tk ++ ja).take (tk.length * 3) = pcs tk := by rw [← Qdx,List.take_left'];rfl
        have Htk := Lib.hid htk
        clear htk
        cases hr : Qbz tk p
        · rw [hr] at hra
          have Hra := Lib.hid hra
          clear hra
          have Hr := Lib.hid hr
          clear hr
          go_wp2_with (first|((with_reducible apply Qag hp);exact ii;exact rfl;clear hp;(try clear w1);intro g w1 hp;simp only [zp,zq,z0,z1])|((with_reducible apply Qab hp);exact zt rfl;exact ii;exact ii;(exact zl rfl);(simp only [n0,Nat.reduceAdd,nn];try rfl);simp only [zp,zq,z0,z1])|((with_reducible apply Qae hp);exact zt rfl;(exact za rfl);exact rfl;(exact AggTy.size);exact rfl;exact ii;(simp only [n0,Nat.reduceAdd,nn];try rfl);(exact zl rfl);exact rfl;exact ii;clear hp;(try clear w1);intro w1 hp)|((with_reducible apply Qar);exact zx rfl;exact zk rfl;exact ii;(exact AggTy.size);omega;omega;((try simp only [m0,Int.reduceToNat,m1,m2,Nat.reduceMul,Nat.reduceAdd,m3,m4,m5,n0]);exact rfl);simp only [zp,zq,z0,z1])|((with_reducible apply Qbr hp);exact zt rfl;assumption;exact ii;assumption;(omega);simp only [zp,zq,z0,z1])|((with_reducible refine Qaf hp (Hra.out _ hp.blk (Tk.of hp.blk Htk.out)) ?_);clear hp;(try clear w1);intro w1 hp))
          go_roundw
          case rel =>
            refine ⟨k + 1,by omega,by go_num,?_⟩
            rw [Hstep.out,if_neg (by rw [Hr.out];simp)]
            exact .inr ⟨ga,ca,ja,go,co,jo,rfl,hja,hca,hcam,hjo,hco,hcom,hp.sub ((List.Sublist.refl _).cons _)⟩
          case measure => simp [intOf];omega
        · rw [hr] at hra
          have Hra := Lib.hid hra
          clear hra
          have Hr := Lib.hid hr
          clear hr
          have h4' : tk.length ≤ 4 := h4
          have h4o : out.length ≤ 4 := by rw [← Hlen.out];exact h4
          go_wp2_with (first|((with_reducible apply Qag hp);exact ii;exact rfl;clear hp;(try clear w1);intro g w1 hp;simp only [zp,zq,z0,z1])|((with_reducible apply Qab hp);exact zt rfl;exact ii;exact ii;(exact zl rfl);(simp only [n0,Nat.reduceAdd,nn];try rfl);simp only [zp,zq,z0,z1])|((with_reducible apply Qai hp);exact zt rfl;exact ii;exact ii;(exact zso rfl);simp only [zp,zq,z0,z1])|((with_reducible apply Qae hp);exact zt rfl;(first|exact za rfl|exact zs rfl);exact rfl;exact Sz.z;exact rfl;exact ii;(simp only [n0,Nat.reduceAdd,nn];try rfl);(exact zl rfl);exact rfl;exact ii;clear hp;(try clear w1);intro w1 hp)|((with_reducible apply Qar);exact zx rfl;exact zk rfl;exact ii;(exact AggTy.size);omega;omega;((try simp only [m0,Int.reduceToNat,m1,m2,Nat.reduceMul,Nat.reduceAdd,m3,m4,m5,n0]);exact rfl);simp only [zp,zq,z0,z1])|((with_reducible apply Qbr hp);exact zt rfl;assumption;exact ii;assumption;(omega);simp only [zp,zq,z0,z1])|((with_reducible apply Qav hp);exact ii;exact Sz.z;exact ii;exact zl rfl;decide;(exact zk1 rfl);exact rfl;(exact zm1 rfl);(intro l hl <;> simp only [List.mem_cons,List.not_mem_nil,or_false] at hl <;> rcases hl with rfl|rfl|rfl|rfl <;> rfl);exact rfl;clear hp;(try clear w1);intro g w1 hp;simp only [zp,zq,z0,z1])|((with_reducible apply Qdn hp);exact ii;exact ii;exact rfl;decide;exact zy rfl;(first|exact pm3|exact pm4);(first|exact Qdx _|(simp only [List.length_map,Nat.mul_one]));assumption;assumption;assumption;exact zy rfl;exact ii;exact rfl;exact rfl;decide;(unfold maxLen;omega);omega;clear hp;(try clear w1);intro g cap junk w1 hl1 hl2 hl3 hp;(try dsimp only [List.cons_append,List.nil_append] at hp);simp only [zp,zq,z0,z1])|((with_reducible refine Qaf hp (Hra.out _ hp.blk (Tk.of hp.blk Htk.out)) ?_);clear hp;(try clear w1);intro w1 hp))
          go_roundw
          case rel =>
            have e1 : pcs (tk ++ [p]) = pcs tk ++ [.int .i64 p.x,.int .i64 p.y,.int .i64 p.z] := by rw [Qij];rfl
            have e2 : (out ++ [(k : Int)]).map (Value.int .i64) = out.map (Value.int .i64) ++ [.int .i64 k] := by simp
            have e3 : (tk ++ [p]).length = tk.length + 1 := by simp
            have e4 : (out ++ [(k : Int)]).length = out.length + 1 := by simp
            refine ⟨k + 1,by omega,by go_num,?_⟩
            rw [Hstep.out,if_pos Hr.out]
            unfold SpI
            dsimp only
            rw [e1,e2,e3,e4]
            refine .inr ⟨_,_,_,_,_,_,rfl,?_,?_,?_,?_,?_,?_,hp.sub (by repeat (first|exact sb0|apply sb2|apply sb3))⟩ <;> assumption
          case measure => simp [intOf];omega
    · obtain rfl : k = ps.length := by omega
      have hsp : sp = (spst ps ps.length).2 := Hsp.out
      clear Hsp
      generalize spst ps ps.length = s at *
      obtain ⟨tk,out⟩ := s
      dsimp only at hsp hI
      subst hsp
      rcases hI with ⟨rfl,rfl,rfl,hp⟩|⟨ga,ca,ja,go,co,jo,rfl,hja,hca,hcam,hjo,hco,hcom,hp⟩
      · go_wp2_with (fail)
        rw [Exit.noGoto_ret]
        exact bodyPost_ret (Qan rfl rfl rfl) rfl ⟨_,rfl,hp.keep,.inl ⟨rfl,rfl⟩⟩
      · go_wp2_with (fail)
        rw [Exit.noGoto_ret]
        exact bodyPost_ret (Qan rfl rfl rfl) rfl ⟨_,rfl,hp.keep,.inr ⟨go,co,jo,hp.fresh,rfl,hp.blk⟩⟩
end Go.Proofs.YtdfdmeoalbpcdaaGreat
