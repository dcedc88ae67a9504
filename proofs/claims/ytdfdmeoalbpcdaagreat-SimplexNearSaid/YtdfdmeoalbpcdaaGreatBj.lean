/-
  Package ninepinref07: Of (contract).
-/
import Derived.Test.YtdfdmeoalbpcdaaGreatBi
set_option linter.unusedSimpArgs false
set_option linter.unusedVariables false
set_option maxRecDepth 100000
namespace Go.Proofs.YtdfdmeoalbpcdaaGreat
open Go Go.RowKit
/-- A point of a list. -/
def pt (ps : List P3) (i : Nat) : P3 := ps.getD i ⟨0,0,0⟩
def dz (ps : List P3) (j k i : Nat) : Int := P3.det ((pt ps j).sub (pt ps 0)) ((pt ps k).sub (pt ps 0)) ((pt ps i).sub (pt ps 0))
def nl (ps : List P3) (k i : Nat) : Prop := ((pt ps k).sub (pt ps 0)).cross ((pt ps i).sub (pt ps 0)) ≠ ⟨0,0,0⟩
/-- The rank, by whether there are two that are not the same, and three that are not on a line. -/
def rr (e1 e2 : Bool) : Int := if e2 then 2 else if e1 then 1 else 0
def S1 (ps : List P3) (i : Nat) (e : Bool) : Prop := e = true ↔ ∃ i',1 ≤ i' ∧ i' < i ∧ pt ps i' ≠ pt ps 0
def S2 (ps : List P3) (i k : Nat) (e : Bool) : Prop := e = true ↔ ∃ i' k',1 ≤ k' ∧ k' < i' ∧ (i' < i ∨ i' = i ∧ k' < k) ∧ nl ps k' i'
def Sy3 (ps : List P3) (i k j : Nat) : Prop := ∀ i' k' j',1 ≤ j' → j' < k' → k' < i' → (i' < i ∨ i' = i ∧ (k' < k ∨ k' = k ∧ j' < j)) → dz ps j' k' i' = 0
theorem S1_yes {ps : List P3} {i : Nat} {e : Bool} (hi : 1 ≤ i) (hn : pt ps i ≠ pt ps 0) : S1 ps (i + 1) true := ⟨fun _ => ⟨i,hi,by omega,hn⟩,fun _ => rfl⟩
theorem S1_no {ps : List P3} {i : Nat} {e : Bool} (h : S1 ps i e) (hn : pt ps i = pt ps 0) : S1 ps (i + 1) e := by
  unfold S1 at *
  rw [h]
  constructor
  · rintro ⟨a,h1,h2,h3⟩;exact ⟨a,h1,by omega,h3⟩
  · rintro ⟨a,h1,h2,h3⟩
    refine ⟨a,h1,?_,h3⟩
    rcases (by omega : a < i ∨ a = i) with h|rfl
    · exact h
    · exact absurd hn h3
theorem S2_yes {ps : List P3} {i k : Nat} (h1 : 1 ≤ k) (h2 : k < i) (hn : nl ps k i) : S2 ps i (k + 1) true := ⟨fun _ => ⟨i,k,h1,h2,by omega,hn⟩,fun _ => rfl⟩
theorem S2_no {ps : List P3} {i k : Nat} {e : Bool} (h : S2 ps i k e) (hn : ¬ nl ps k i) : S2 ps i (k + 1) e := by
  unfold S2 at *
  rw [h]
  constructor
  · rintro ⟨a,b,h1,h2,h3,h4⟩;exact ⟨a,b,h1,h2,by omega,h4⟩
  · rintro ⟨a,b,h1,h2,h3,h4⟩
    refine ⟨a,b,h1,h2,?_,h4⟩
    rcases (by omega : (a < i ∨ a = i ∧ b < k) ∨ (a = i ∧ b = k)) with h|⟨rfl,rfl⟩
    · exact h
    · exact absurd h4 hn
theorem S2_next {ps : List P3} {i : Nat} {e : Bool} (h : S2 ps i i e) : S2 ps (i + 1) 1 e := by
  unfold S2 at *
  rw [h]
  constructor
  · rintro ⟨a,b,h1,h2,h3,h4⟩;exact ⟨a,b,h1,h2,by omega,h4⟩
  · rintro ⟨a,b,h1,h2,h3,h4⟩;exact ⟨a,b,h1,h2,by omega,h4⟩
theorem Sy3_step {ps : List P3} {i k j : Nat} (h : Sy3 ps i k j) (hd : dz ps j k i = 0) : Sy3 ps i k (j + 1) := by
  intro a b c h1 h2 h3 h4
  rcases (by omega : (a < i ∨ a = i ∧ (b < k ∨ b = k ∧ c < j)) ∨ (a = i ∧ b = k ∧ c = j)) with h5|⟨rfl,rfl,rfl⟩
  · exact h a b c h1 h2 h3 h5
  · exact hd
theorem Sy3_k {ps : List P3} {i k : Nat} (h : Sy3 ps i k k) : Sy3 ps i (k + 1) 1 := fun a b c h1 h2 h3 h4 => h a b c h1 h2 h3 (by omega)
theorem Sy3_i {ps : List P3} {i : Nat} (h : Sy3 ps i i 1) : Sy3 ps (i + 1) 1 1 := fun a b c h1 h2 h3 h4 => h a b c h1 h2 h3 (by omega)
theorem run_maxR {P : Program} (ts : Array TypeId) (t : TypeId) (a b m : Int) (h : m = if b > a then b else a) : ∀ w,(Builtin.max_ ts t #[.int .i64 a,.int .i64 b]).run P w = .ok (.int .i64 m) w := by
  intro w
  subst h
  simp [Builtin.max_,Builtin.max2]
theorem rr_one (e1 e2 : Bool) : rr true e2 = if 1 > rr e1 e2 then 1 else rr e1 e2 := by cases e1 <;> cases e2 <;> rfl
theorem rr_two (e1 e2 : Bool) : rr e1 true = if 2 > rr e1 e2 then 2 else rr e1 e2 := by cases e1 <;> cases e2 <;> rfl
theorem p3_neq {p a : P3} (h : p ≠ a) : (p.x == a.x && (p.y == a.y && p.z == a.z)) = false := by
  obtain ⟨px,py,pz⟩ := p
  obtain ⟨ax,ay,az⟩ := a
  rw [Bool.eq_false_iff]
  intro h2
  apply h
  simp at h2
  simp [h2]
set_option maxHeartbeats 16000000 in
theorem rOf_far (ps : List P3) (hm : ∀ q ∈ ps,q.may) (h1 : 1 ≤ ps.length) (hlen : ps.length ≤ maxLen) (r : Int) (H3 : Hid ((∃ j k i,1 ≤ j ∧ j < k ∧ k < i ∧ i < ps.length ∧ dz ps j k i ≠ 0) → r = 3)) (H2 : Hid (∀ e1 e2,S1 ps ps.length e1 → S2 ps ps.length 1 e2 → Sy3 ps ps.length 1 1 → r = rr e1 e2))
    (w : World) (g off cap : Nat) (bc : List Value) (t : TypeId) {z : Nat × Nat} (hb : w.heap[g]? = some (.cells bc.toArray t z)) (hv : (bc.drop off).take (ps.length * 3) = pcs ps) :
    Calls Tryz.prog 29 #[.slice (some ⟨g,off,none⟩) ps.length cap] w (Ret (.int .i64 r) w) := by
  have hroom : off + ps.length * 3 ≤ bc.length := by
    rcases Qdg hv with h|h
    · subst h;simp at h1
    · exact h
  have Hat : Hid (∀ k,k < ps.length → (bc.drop (off + k * 3)).take 3 = [.int .i64 (pt ps k).x,.int .i64 (pt ps k).y,.int .i64 (pt ps k).z]) := Lib.hid fun k hk => by
    refine Qfm hv ?_
    unfold pt
    rw [List.getD_eq_getElem?_getD,List.getElem?_eq_getElem hk]
    rfl
  have Hmay : Hid (∀ k,k < ps.length → (pt ps k).may) := Lib.hid fun k hk => by
    unfold pt
    rw [List.getD_eq_getElem?_getD,List.getElem?_eq_getElem hk]
    exact hm _ (List.getElem_mem hk)
  clear hm hv
  unfold maxLen at hlen
  have hat0 := Hat.out 0 (by omega)
  obtain ⟨a,ha⟩ : ∃ a,a = pt ps 0 := ⟨_,rfl⟩
  have Ha := Lib.hid ha
  rw [← ha,show off + 0 * 3 = off by omega] at hat0
  have hm0 := Hmay.out 0 (by omega)
  rw [← ha] at hm0
  have Hm0 := Lib.hid hm0
  clear hm0
  obtain ⟨n,hn⟩ : ∃ n,n = ps.length := ⟨_,rfl⟩
  rw [← hn] at hroom hlen h1 H3 H2 Hat Hmay ⊢
  clear hn ha
  have hn0 : ((n : Int) == 0) = false := by simp;omega
  go_enter Tryz.func29,Tryz.ntmps29
  have hp := Hp.start [] w
  go_wp2_with (fail)
  go_loopw [3,4] (fun rv iv wr => ∃ (i : Nat) (e1 e2 : Bool),1 ≤ i ∧ i ≤ n ∧ rv = .int .i64 (rr e1 e2) ∧ iv = .int .i64 i ∧ S1 ps i e1 ∧ S2 ps i 1 e2 ∧ Sy3 ps i 1 1 ∧ Hp [] w [] wr) (fun _ iv _ => n - (intOf iv).toNat)
  case atStart =>
    refine ⟨1,false,false,by omega,by omega,rfl,rfl,?_,?_,?_,hp⟩
    · exact ⟨fun h => (by cases h),fun ⟨i,h1,h2,_⟩ => by omega⟩
    · exact ⟨fun h => (by cases h),fun ⟨i,k,h1,h2,h3,_⟩ => by omega⟩
    · intro a b c h1 h2 h3 h4;omega
  case round =>
    clear hp
    obtain ⟨i,e1,e2,hi0,hi,rfl,rfl,hs1,hs2,hs3,hp⟩ := hrel
    have HS1 := Lib.hid hs1
    have HS2 := Lib.hid hs2
    have HS3 := Lib.hid hs3
    clear hs1 hs2 hs3
    by_cases hi1 : i < n
    · have hi2 : (i : Int) < n := by omega
      have hati := Hat.out i hi1
      have hri : off + i * 3 + 3 ≤ bc.length := by omega
      obtain ⟨p,hpe⟩ : ∃ p,p = pt ps i := ⟨_,rfl⟩
      rw [← hpe] at hati
      have HPI := Lib.hid hpe
      clear hpe
      have hmi := Hmay.out i hi1
      rw [← HPI.out] at hmi
      have Hmi := Lib.hid hmi
      clear hmi
      have hsplit : ∃ e1n bn : Bool,(!p.x == a.x || (!p.y == a.y || !p.z == a.z)) = bn ∧ ((bn = true ∧ (1 : Int) = 1) ∨ bn = false) ∧ S1 ps (i + 1) e1n ∧ (bn = true → e1n = true) ∧ (bn = false → e1n = e1) := by
        by_cases hpa : p = a
        · refine ⟨e1,false,by rw [hpa];simp,.inr rfl,S1_no HS1.out (by rw [← HPI.out,← Ha.out];exact hpa),fun h => (by cases h),fun _ => rfl⟩
        · refine ⟨true,true,by rw [← Bool.not_and,← Bool.not_and,p3_neq hpa];rfl,.inl ⟨rfl,rfl⟩,S1_yes (e := e1) hi0 (by rw [← HPI.out,← Ha.out];exact hpa),fun _ => rfl,fun h => (by cases h)⟩
      obtain ⟨e1n,bn,hbn,hcase,hs1n,hbt,hbf⟩ := hsplit
      have HS1n := Lib.hid hs1n
      clear hs1n
      have hmx := run_maxR (P := Tryz.prog) #[3,3] 3 (rr e1 e2) 1 _ (rr_one e1 e2)
      rcases hcase with ⟨rfl,_⟩|rfl
      case' inl =>
        have he := hbt rfl
        rw [← he] at hmx
        clear he
      case' inr =>
        obtain rfl := hbf rfl
        clear hmx
      all_goals
        clear hbt hbf
        go_wp2_with (fail)
        have hq := hp
        refine Qad hp hq [] (.q 0 (.q 1 (.q 2 (.q 3 (.q 4 (.q 5 (.q 6 (.q 7 .nil)))))))) (by kernel_rfl) (by kernel_rfl) ?_
        clear hp hq;(try clear w1);intro w1 hp hq
        repeat' (first|(((with_reducible apply sd_q);exact zo rfl);(first|((with_reducible apply Qbe hp);exact rfl;exact zt rfl;assumption;exact ii;assumption;(omega);simp only [zp,zq,z0,z1])|((with_reducible apply Qaq hp);(first|exact zi rfl|exact zs rfl);simp only [zp,zq,z0,z1])|((with_reducible apply Qas hp);exact rfl;exact zx rfl;exact zk rfl;exact ii;(exact AggTy.size);omega;omega;((try simp only [m0,Int.reduceToNat,m1,m2,Nat.reduceMul,Nat.reduceAdd,m3,m4,m5,n0]);exact rfl);simp only [zp,zq,z0,z1])|((with_reducible apply Qaj hp);exact rfl;(focus (intro _;go_simp;(try go_ints);try with_reducible rfl));simp only [zp,zq,z0,z1])))|((with_reducible apply Qao);clear hp;have hp := hq;clear hq))
        go_wp2_with (fail)
        go_loopw [3,5] (fun rv kv wr => ∃ (k : Nat) (f2 : Bool),1 ≤ k ∧ k ≤ i ∧ rv = .int .i64 (rr e1n f2) ∧ kv = .int .i64 k ∧ S2 ps i k f2 ∧ Sy3 ps i k 1 ∧ Hp [] w [] wr) (fun _ kv _ => i - (intOf kv).toNat)
        case atStart => exact ⟨1,e2,by omega,by omega,rfl,rfl,HS2.out,HS3.out,hp⟩
        case round =>
          clear hp
          obtain ⟨k,f2,hk0,hk,rfl,rfl,hs2,hs3,hp⟩ := hrel
          have HT2 := Lib.hid hs2
          have HT3 := Lib.hid hs3
          clear hs2 hs3
          by_cases hk1 : k < i
          · have hk2 : (k : Int) < i := by omega
            have hatk := Hat.out k (by omega)
            have hrk : off + k * 3 + 3 ≤ bc.length := by omega
            obtain ⟨q,hqe⟩ : ∃ q,q = pt ps k := ⟨_,rfl⟩
            rw [← hqe] at hatk
            have HQK := Lib.hid hqe
            clear hqe
            have hmk := Hmay.out k (by omega)
            rw [← HQK.out] at hmk
            have Hmk := Lib.hid hmk
            clear hmk
            have hln := r7line_any a q p Hm0.out Hmk.out Hmi.out
            have hmx2 := run_maxR (P := Tryz.prog) #[3,3] 3 (rr e1n f2) 2 _ (rr_two e1n f2)
            have hsplit : ∃ f2n : Bool,S2 ps i (k + 1) f2n ∧ ((f2n = true ∧ decide ((q.sub a).cross (p.sub a) = ⟨0,0,0⟩) = false) ∨ (f2n = f2 ∧ decide ((q.sub a).cross (p.sub a) = ⟨0,0,0⟩) = true)) := by
              by_cases hl : nl ps k i
              · refine ⟨true,S2_yes hk0 hk1 hl,.inl ⟨rfl,decide_eq_false ?_⟩⟩
                rw [HQK.out,HPI.out,Ha.out];exact hl
              · refine ⟨f2,S2_no HT2.out hl,.inr ⟨rfl,decide_eq_true ?_⟩⟩
                rw [HQK.out,HPI.out,Ha.out];exact Classical.not_not.1 hl
            obtain ⟨f2n,hs2n,hcase⟩ := hsplit
            have HS2n := Lib.hid hs2n
            clear hs2n
            rcases hcase with ⟨he,hd⟩|⟨rfl,hd⟩
            case' inl =>
              rw [← he] at hmx2
              clear he
            case' inr =>
              clear hmx2
            all_goals
              rw [hd] at hln
              have HLN := Lib.hid hln
              clear hln hd
              go_wp2_with (fail)
              have hq := hp
              refine Qad hp hq [] (.q 0 (.q 1 (.q 2 (.q 3 (.q 4 (.q 5 (.q 6 (.q 7 (.q 8 (.q 9 (.q 10 (.l 11 (.q 12 .nil))))))))))))) (by kernel_rfl) (by kernel_rfl) ?_
              clear hp hq;(try clear w1);intro w1 hp hq
              repeat' (first|(((with_reducible apply sd_q);exact zo rfl);(first|((with_reducible apply Qbe hp);exact rfl;exact zt rfl;assumption;exact ii;assumption;(omega);simp only [zp,zq,z0,z1])|((with_reducible apply Qaq hp);(first|exact zi rfl|exact zs rfl);simp only [zp,zq,z0,z1])|((with_reducible apply Qas hp);exact rfl;exact zx rfl;exact zk rfl;exact ii;(exact AggTy.size);omega;omega;((try simp only [m0,Int.reduceToNat,m1,m2,Nat.reduceMul,Nat.reduceAdd,m3,m4,m5,n0]);exact rfl);simp only [zp,zq,z0,z1])|((with_reducible apply Qaj hp);exact rfl;(focus (intro _;go_simp;(try go_ints);try with_reducible rfl));simp only [zp,zq,z0,z1])))|(((with_reducible apply sd_l);exact zo rfl);((with_reducible apply Qap hp);exact rfl;(focus (intro _;go_simp;try first|with_reducible rfl|exact ⟨rfl,rfl⟩));(with_reducible exact fun w => HLN.out w);exact hq;clear hp hq;(try clear w1);intro w1 hp hq;simp only [zp,zq,z0,z1]))|((with_reducible apply Qao);clear hp;have hp := hq;clear hq))
              go_wp2_with (fail)
              go_loopw [6] (fun jv wr => ∃ j : Nat,1 ≤ j ∧ j ≤ k ∧ jv = .int .i64 j ∧ Sy3 ps i k j ∧ Hp [] w [] wr) (fun jv _ => k - (intOf jv).toNat)
              case atStart => exact ⟨1,by omega,by omega,rfl,HT3.out,hp⟩
              case round =>
                clear hp
                obtain ⟨j,hj0,hj,rfl,hs3,hp⟩ := hrel
                have HU3 := Lib.hid hs3
                clear hs3
                by_cases hj1 : j < k
                · have hj2 : (j : Int) < k := by omega
                  have hatj := Hat.out j (by omega)
                  have hrj : off + j * 3 + 3 ≤ bc.length := by omega
                  obtain ⟨o,hoe⟩ : ∃ o,o = pt ps j := ⟨_,rfl⟩
                  rw [← hoe] at hatj
                  have HOJ := Lib.hid hoe
                  clear hoe
                  have hmj := Hmay.out j (by omega)
                  rw [← HOJ.out] at hmj
                  have HD := Lib.hid (r7det_any a o q p Hm0.out hmj Hmk.out Hmi.out)
                  have hsg := Qgm _ (det_fit (Qbv hmj Hm0.out) (Qbv Hmk.out Hm0.out) (Qbv Hmi.out Hm0.out))
                  have hdz : P3.det (o.sub a) (q.sub a) (p.sub a) = dz ps j k i := by rw [HOJ.out,HQK.out,HPI.out,Ha.out];rfl
                  clear hmj
                  generalize P3.det (o.sub a) (q.sub a) (p.sub a) = d at *
                  by_cases hd : d = 0
                  · have HZ := Lib.hid (hdz.symm.trans hd)
                    rw [show sgn d = 0 by rw [hd];rfl] at hsg
                    have HSG := Lib.hid hsg
                    clear hsg hdz hd
                    go_wp2_with (fail)
                    have hq := hp
                    refine Qad hp hq [] (.q 0 (.q 1 (.q 2 (.q 3 (.q 4 (.q 5 (.q 6 (.q 7 (.q 8 (.q 9 (.q 10 (.q 11 (.q 12 (.q 13 (.q 14 (.l 15 (.l 16 (.q 17 .nil)))))))))))))))))) (by kernel_rfl) (by kernel_rfl) ?_
                    clear hp hq;(try clear w1);intro w1 hp hq
                    repeat' (first|(((with_reducible apply sd_q);exact zo rfl);(first|((with_reducible apply Qbe hp);exact rfl;exact zt rfl;assumption;exact ii;assumption;(omega);simp only [zp,zq,z0,z1])|((with_reducible apply Qaq hp);(first|exact zi rfl|exact zs rfl);simp only [zp,zq,z0,z1])|((with_reducible apply Qas hp);exact rfl;exact zx rfl;exact zk rfl;exact ii;(exact AggTy.size);omega;omega;((try simp only [m0,Int.reduceToNat,m1,m2,Nat.reduceMul,Nat.reduceAdd,m3,m4,m5,n0]);exact rfl);simp only [zp,zq,z0,z1])|((with_reducible apply Qaj hp);exact rfl;(focus (intro _;go_simp;(try go_ints);try with_reducible rfl));simp only [zp,zq,z0,z1])))|(((with_reducible apply sd_l);exact zo rfl);((with_reducible apply Qap hp);exact rfl;(focus (intro _;go_simp;try first|with_reducible rfl|exact ⟨rfl,rfl⟩));(with_reducible first|exact fun w => HD.out w|exact fun w => HSG.out w);exact hq;clear hp hq;(try clear w1);intro w1 hp hq;simp only [zp,zq,z0,z1]))|((with_reducible apply Qao);clear hp;have hp := hq;clear hq))
                    go_wp2_with (fail)
                    go_roundw
                    case rel => exact ⟨j + 1,by omega,by omega,by go_num,Sy3_step HU3.out HZ.out,hp⟩
                    case measure => simp [intOf];omega
                  · obtain rfl := H3.out ⟨j,k,i,hj0,hj1,hk1,hi1,by rw [← hdz];exact hd⟩
                    have hs0 : (sgn d == 0) = false := by simp only [beq_eq_false_iff_ne];exact fun h => hd ((sgn_zero d).1 h)
                    have HSG := Lib.hid hsg
                    clear hsg hdz hd
                    go_wp2_with (fail)
                    have hq := hp
                    refine Qad hp hq [] (.q 0 (.q 1 (.q 2 (.q 3 (.q 4 (.q 5 (.q 6 (.q 7 (.q 8 (.q 9 (.q 10 (.q 11 (.q 12 (.q 13 (.q 14 (.l 15 (.l 16 (.q 17 .nil)))))))))))))))))) (by kernel_rfl) (by kernel_rfl) ?_
                    clear hp hq;(try clear w1);intro w1 hp hq
                    repeat' (first|(((with_reducible apply sd_q);exact zo rfl);(first|((with_reducible apply Qbe hp);exact rfl;exact zt rfl;assumption;exact ii;assumption;(omega);simp only [zp,zq,z0,z1])|((with_reducible apply Qaq hp);(first|exact zi rfl|exact zs rfl);simp only [zp,zq,z0,z1])|((with_reducible apply Qas hp);exact rfl;exact zx rfl;exact zk rfl;exact ii;(exact AggTy.size);omega;omega;((try simp only [m0,Int.reduceToNat,m1,m2,Nat.reduceMul,Nat.reduceAdd,m3,m4,m5,n0]);exact rfl);simp only [zp,zq,z0,z1])|((with_reducible apply Qaj hp);exact rfl;(focus (intro _;go_simp;(try go_ints);try with_reducible rfl));simp only [zp,zq,z0,z1])))|(((with_reducible apply sd_l);exact zo rfl);((with_reducible apply Qap hp);exact rfl;(focus (intro _;go_simp;try first|with_reducible rfl|exact ⟨rfl,rfl⟩));(with_reducible first|exact fun w => HD.out w|exact fun w => HSG.out w);exact hq;clear hp hq;(try clear w1);intro w1 hp hq;simp only [zp,zq,z0,z1]))|((with_reducible apply Qao);clear hp;have hp := hq;clear hq))
                    go_wp2_with (fail)
                    exact bodyPost_ret (Qaa rfl rfl) rfl ⟨rfl,hp.keep⟩
                · obtain rfl : j = k := by omega
                  go_wp2_with (fail)
                  go_roundw
                  case rel => exact ⟨j + 1,_,by omega,by omega,rfl,by go_num,HS2n.out,Sy3_k HU3.out,hp⟩
                  case measure => simp [intOf];omega
          · obtain rfl : k = i := by omega
            go_wp2_with (fail)
            go_roundw
            case rel => exact ⟨k + 1,_,_,by omega,by omega,rfl,by go_num,HS1n.out,S2_next HT2.out,Sy3_i HT3.out,hp⟩
            case measure => simp [intOf];omega
    · obtain rfl : i = n := by omega
      obtain rfl := H2.out e1 e2 HS1.out HS2.out HS3.out
      go_wp2_with (fail)
      exact bodyPost_ret (Qaa rfl rfl) rfl ⟨rfl,hp.keep⟩
end Go.Proofs.YtdfdmeoalbpcdaaGreat
