/-
  Integers of 512 bits by eight limbs, as plain numbers: limb i of n, and what adding and turning over come to, limb by limb.
  A product by limbs, as plain numbers.
  '==' on arrays of eight limbs.
  '==' on points, numbers, spans.
-/
import GoSem.Core.Value
import Derived.Laws.BitsAllLaws
import Derived.Test.YtdfdmeoalbpcdaaGreatTypes
import Derived.Laws.StructEq
namespace Go.Proofs.YtdfdmeoalbpcdaaGreat
open Go
/-- Limb i of n, in two's complement. -/
def lb (n : Int) (i : Nat) : Int := n / 2 ^ (64 * i) % 18446744073709551616
abbrev W (n : Int) : Value := .agg #[.int .u64 (lb n 0),.int .u64 (lb n 1),.int .u64 (lb n 2),.int .u64 (lb n 3),.int .u64 (lb n 4),.int .u64 (lb n 5),.int .u64 (lb n 6),.int .u64 (lb n 7)]
abbrev Sp (a b c : Int) : Value := .agg #[.int .u64 (lb a 0),.int .u64 (lb a 1),.int .u64 (lb a 2),.int .u64 (lb a 3),.int .u64 (lb a 4),.int .u64 (lb a 5),.int .u64 (lb a 6),.int .u64 (lb a 7),.int .u64 (lb b 0),.int .u64 (lb b 1),.int .u64 (lb b 2),.int .u64 (lb b 3),.int .u64 (lb b 4),.int .u64 (lb b 5),.int .u64 (lb b 6),.int .u64 (lb b 7),.int .u64 (lb c 0),.int .u64 (lb c 1),.int .u64 (lb c 2),.int .u64 (lb c 3),.int .u64 (lb c 4),.int .u64 (lb c 5),.int .u64 (lb c 6),.int .u64 (lb c 7)]
theorem Qbj (n : Int) (i : Nat) : 0 ≤ lb n i := by unfold lb;omega
theorem Qfz (n : Int) (i : Nat) : lb n i < 18446744073709551616 := by unfold lb;omega
theorem Qcy (i : Nat) : lb 0 i = 0 := by simp [lb]
/-- Eight cells, by a function. -/
def LB (F : Nat → Int) : List Value := [.int .u64 (F 0),.int .u64 (F 1),.int .u64 (F 2),.int .u64 (F 3),.int .u64 (F 4),.int .u64 (F 5),.int .u64 (F 6),.int .u64 (F 7)]
theorem LB_length (F : Nat → Int) : (LB F).length = 8 := rfl
theorem Qcp {F : Nat → Int} {k : Nat} (h : k < 8) : (LB F)[k]? = some (.int .u64 (F k)) := by
  match k,h with
  | 0,_|1,_|2,_|3,_|4,_|5,_|6,_|7,_ => rfl
def upd (F : Nat → Int) (k : Nat) (v : Int) : Nat → Int := fun j => if j = k then v else F j
theorem Qct (F : Nat → Int) (k : Nat) (v : Int) : upd F k v k = v := if_pos rfl
theorem Qep (F : Nat → Int) {k j : Nat} (v : Int) (h : j ≠ k) : upd F k v j = F j := if_neg h
theorem Qfd {F : Nat → Int} {k : Nat} {v : Int} (h : k < 8) : (LB F).take k ++ [.int .u64 v] ++ (LB F).drop (k + 1) = LB (upd F k v) := by
  match k,h with
  | 0,_|1,_|2,_|3,_|4,_|5,_|6,_|7,_ => rfl
theorem Qhy {F : Nat → Int} {k : Nat} (h : k < 8) : k + 1 ≤ (LB F).length := by rw [LB_length];omega
theorem Qed {F G : Nat → Int} (h : ∀ j,j < 8 → F j = G j) : LB F = LB G := by
  simp only [LB,h 0 (by omega),h 1 (by omega),h 2 (by omega),h 3 (by omega),h 4 (by omega),h 5 (by omega),h 6 (by omega),h 7 (by omega)]
/-- What is carried into limb k. -/
def cy (a b c : Int) (k : Nat) : Int := (a % 2 ^ (64 * k) + b % 2 ^ (64 * k) + c) / 2 ^ (64 * k)
theorem Qak (k : Nat) : (0 : Int) < 2 ^ k := Int.pow_pos (by omega)
theorem Qdy (k : Nat) : (2 : Int) ^ (64 * (k + 1)) = 2 ^ (64 * k) * 18446744073709551616 := by
  rw [show 64 * (k + 1) = 64 * k + 64 by omega,Int.pow_add];rfl
theorem cy_zero {a b c : Int} : cy a b c 0 = c := by simp [cy,Int.emod_one]
theorem cy_bd (a b c : Int) (k : Nat) (h0 : 0 ≤ c) (h1 : c ≤ 1) : 0 ≤ cy a b c k ∧ cy a b c k ≤ 1 := by
  unfold cy
  have hp := Qak (64 * k)
  have ha := Int.emod_nonneg a (by omega : (2 : Int) ^ (64 * k) ≠ 0)
  have hb := Int.emod_nonneg b (by omega : (2 : Int) ^ (64 * k) ≠ 0)
  have ha' := Int.emod_lt_of_pos a hp
  have hb' := Int.emod_lt_of_pos b hp
  refine ⟨Int.ediv_nonneg (by omega) (by omega),?_⟩
  have : (a % 2 ^ (64 * k) + b % 2 ^ (64 * k) + c) / 2 ^ (64 * k) < 2 := by
    rw [Int.ediv_lt_iff_lt_mul hp];omega
  omega
theorem Qcg (a P B : Int) (hP : 0 < P) (_hB : 0 < B) : a % (P * B) = P * (a / P % B) + a % P := by
  have h1 : a % (P * B) = a - P * B * (a / (P * B)) := Int.emod_def a (P * B)
  have h2 : a / (P * B) = a / P / B := (Int.ediv_ediv_of_nonneg (by omega)).symm
  have h3 : a / P % B = a / P - B * (a / P / B) := Int.emod_def _ _
  have h4 : a % P = a - P * (a / P) := Int.emod_def _ _
  rw [h1,h2,h3,h4,Int.mul_sub,Int.mul_assoc]
  omega
theorem sum_lb (a b c : Int) (k : Nat) : (lb a k + lb b k + cy a b c k) % 18446744073709551616 = lb (a + b + c) k := by
  have hp := Qak (64 * k)
  have ha : a = 2 ^ (64 * k) * (a / 2 ^ (64 * k)) + a % 2 ^ (64 * k) := (Int.mul_ediv_add_emod _ _).symm
  have hb : b = 2 ^ (64 * k) * (b / 2 ^ (64 * k)) + b % 2 ^ (64 * k) := (Int.mul_ediv_add_emod _ _).symm
  have hs : a + b + c = (a % 2 ^ (64 * k) + b % 2 ^ (64 * k) + c) + 2 ^ (64 * k) * (a / 2 ^ (64 * k) + b / 2 ^ (64 * k)) := by
    rw [Int.mul_add];omega
  have hd : (a + b + c) / 2 ^ (64 * k) = cy a b c k + (a / 2 ^ (64 * k) + b / 2 ^ (64 * k)) := by
    rw [hs,Int.add_mul_ediv_left _ _ (by omega)];rfl
  unfold lb
  rw [hd]
  omega
theorem cy_succ (a b c : Int) (k : Nat) : (lb a k + lb b k + cy a b c k) / 18446744073709551616 = cy a b c (k + 1) := by
  have hp := Qak (64 * k)
  have e : cy a b c (k + 1) = (a % (2 ^ (64 * k) * 18446744073709551616) + b % (2 ^ (64 * k) * 18446744073709551616) + c) / (2 ^ (64 * k) * 18446744073709551616) := by
    unfold cy;rw [Qdy]
  rw [e,Qcg a _ _ hp (by omega),Qcg b _ _ hp (by omega),← Int.ediv_ediv_of_nonneg (by omega)]
  have : (2 ^ (64 * k) * (a / 2 ^ (64 * k) % 18446744073709551616) + a % 2 ^ (64 * k) + (2 ^ (64 * k) * (b / 2 ^ (64 * k) % 18446744073709551616) + b % 2 ^ (64 * k)) + c) =
      (a % 2 ^ (64 * k) + b % 2 ^ (64 * k) + c) + 2 ^ (64 * k) * (lb a k + lb b k) := by
    unfold lb;rw [Int.mul_add];omega
  rw [this,Int.add_mul_ediv_left _ _ (by omega)]
  show _ = (cy a b c k + _) / _
  congr 1
  omega
theorem lb_not (a : Int) (k : Nat) : lb (-a - 1) k = 18446744073709551615 - lb a k := by
  have hp := Qak (64 * k)
  have hd : (-a - 1) / 2 ^ (64 * k) = - (a / 2 ^ (64 * k)) - 1 := by
    have ha : a = 2 ^ (64 * k) * (a / 2 ^ (64 * k)) + a % 2 ^ (64 * k) := (Int.mul_ediv_add_emod _ _).symm
    have h0 := Int.emod_nonneg a (by omega : (2 : Int) ^ (64 * k) ≠ 0)
    have h1 := Int.emod_lt_of_pos a hp
    have hs : -a - 1 = (2 ^ (64 * k) - 1 - a % 2 ^ (64 * k)) + 2 ^ (64 * k) * (- (a / 2 ^ (64 * k)) - 1) := by
      rw [Int.mul_sub,Int.mul_neg];omega
    rw [hs,Int.add_mul_ediv_left _ _ (by omega),Int.ediv_eq_zero_of_lt (by omega) (by omega)]
    omega
  unfold lb
  rw [hd]
  omega
theorem Qog (x : Int) (h0 : 0 ≤ x) (h1 : x < 18446744073709551616) : bits .xor .u64 (if IntKind.u64.signed = true then -1 else IntKind.u64.max) x = 18446744073709551615 - x := by
  have e : (if IntKind.u64.signed = true then -1 else IntKind.u64.max) = ((18446744073709551615 : Nat) : Int) := by rfl
  rw [e]
  obtain ⟨n,rfl⟩ := Int.eq_ofNat_of_zero_le h0
  rw [u64_xor_nat _ _ (by omega) (by omega)]
  have : 18446744073709551615 ^^^ n = 18446744073709551615 - n := by
    have hn : n < 2 ^ 64 := by omega
    have h := BitVec.toNat_not (x := BitVec.ofNat 64 n)
    rw [BitVec.toNat_ofNat,Nat.mod_eq_of_lt hn] at h
    have h2 : (~~~ (BitVec.ofNat 64 n)) = BitVec.allOnes 64 ^^^ BitVec.ofNat 64 n := by
      rw [BitVec.allOnes_xor]
    rw [h2,BitVec.toNat_xor,BitVec.toNat_allOnes,BitVec.toNat_ofNat,Nat.mod_eq_of_lt hn] at h
    simpa using h
  rw [this]
  omega
/-- 2^511, and 2^512. -/
def M511 : Int := 6703903964971298549787012499102923063739682910296196688861780721860882015036773488400937149083451713845015929093243025426876941405973284973216824503042048
def M512 : Int := 13407807929942597099574024998205846127479365820592393377723561443721764030073546976801874298166903427690031858186486050853753882811946569946433649006084096
/-- A number of 512 bits with a sign. -/
def Fit (n : Int) : Prop := -M511 ≤ n ∧ n < M511
instance (n : Int) : Decidable (Fit n) := inferInstanceAs (Decidable (_ ∧ _))
/-- Is the highest of 512 bits set? -/
def ng (n : Int) : Bool := decide (9223372036854775808 ≤ lb n 7)
theorem pow448 : (2 : Int) ^ (64 * 7) = 726838724295606890549323807888004534353641360687318060281490199180639288113397923326191050713763565560762521606266177933534601628614656 := by
  rw [Int.pow_mul,show (2 : Int) ^ 64 = 18446744073709551616 from rfl]
  simp only [Int.pow_succ,Int.pow_zero]
  rfl
theorem Qco {n : Int} (h : Fit n) : ng n = decide (n < 0) := by
  unfold ng
  have e : lb n 7 = n / 726838724295606890549323807888004534353641360687318060281490199180639288113397923326191050713763565560762521606266177933534601628614656 % 18446744073709551616 := by unfold lb;rw [pow448]
  obtain ⟨h1,h2⟩ := h
  unfold M511 at h1 h2
  rw [decide_eq_decide,e]
  omega
theorem Qlo (n : Int) (k : Nat) : n % 2 ^ (64 * (k + 1)) = 2 ^ (64 * k) * lb n k + n % 2 ^ (64 * k) := by
  rw [Qdy]
  exact Qcg n _ _ (Qak _) (by omega)
theorem Qmo {a b : Int} (n : Nat) (h : ∀ i,i < n → lb a i = lb b i) : a % 2 ^ (64 * n) = b % 2 ^ (64 * n) := by
  induction n with
  | zero => simp [Int.emod_one]
  | succ n ih => rw [Qlo,Qlo,h n (by omega),ih fun i hi => h i (by omega)]
theorem M512_eq : M512 = 2 ^ (64 * 8) := by
  rw [Int.pow_mul,show (2 : Int) ^ 64 = 18446744073709551616 from rfl]
  simp only [Int.pow_succ,Int.pow_zero]
  rfl
theorem eq_of_lb {a b : Int} (ha : Fit a) (hb : Fit b) (h : ∀ i,i < 8 → lb a i = lb b i) : a = b := by
  have e := Qmo 8 h
  rw [← M512_eq] at e
  unfold Fit M511 at ha hb
  unfold M512 at e
  omega
theorem lb_congr {a b : Int} (h : a % M512 = b % M512) (i : Nat) (hi : i < 8) : lb a i = lb b i := by
  have e : (M512 : Int) = 2 ^ (64 * i) * (18446744073709551616 * 2 ^ (64 * (7 - i))) := by
    rw [M512_eq,← Int.mul_assoc,← Qdy,← Int.pow_add]
    congr 1
    omega
  have key : ∀ n : Int,lb n i = (n % M512) / 2 ^ (64 * i) % 18446744073709551616 := by
    intro n
    have hd : n % M512 = n - M512 * (n / M512) := Int.emod_def _ _
    have hs : n % M512 = n + 2 ^ (64 * i) * (- (18446744073709551616 * (2 ^ (64 * (7 - i)) * (n / M512)))) := by
      rw [hd]
      have : M512 * (n / M512) = 2 ^ (64 * i) * (18446744073709551616 * (2 ^ (64 * (7 - i)) * (n / M512))) := by
        conv => lhs;rw [show M512 * (n / M512) = (2 ^ (64 * i) * (18446744073709551616 * 2 ^ (64 * (7 - i)))) * (n / M512) by rw [← e]]
        simp only [Int.mul_assoc]
      rw [this,Int.mul_neg]
      omega
    rw [hs,Int.add_mul_ediv_left _ _ (by have := Qak (64 * i);omega)]
    unfold lb
    omega
  rw [key a,key b,h]
theorem Qfe : W 0 = .agg #[.int .u64 0,.int .u64 0,.int .u64 0,.int .u64 0,.int .u64 0,.int .u64 0,.int .u64 0,.int .u64 0] := by simp only [W,Qcy]
/-- Eight tests of limbs are one of numbers. -/
theorem limbs_eq {a b : Int} (ha : Fit a) (hb : Fit b) : (lb a 0 = lb b 0 ∧ lb a 1 = lb b 1 ∧ lb a 2 = lb b 2 ∧ lb a 3 = lb b 3 ∧ lb a 4 = lb b 4 ∧ lb a 5 = lb b 5 ∧ lb a 6 = lb b 6 ∧ lb a 7 = lb b 7) ↔ a = b := by
  constructor
  · rintro ⟨h0,h1,h2,h3,h4,h5,h6,h7⟩
    refine eq_of_lb ha hb fun i hi => ?_
    match i,hi with
    | 0,_ => exact h0
    | 1,_ => exact h1
    | 2,_ => exact h2
    | 3,_ => exact h3
    | 4,_ => exact h4
    | 5,_ => exact h5
    | 6,_ => exact h6
    | 7,_ => exact h7
  · rintro rfl
    exact ⟨rfl,rfl,rfl,rfl,rfl,rfl,rfl,rfl⟩
/-- The tests of limbs, as the walk has them. -/
def eqb (a b : Int) : Bool := lb a 0 == lb b 0 && (lb a 1 == lb b 1 && (lb a 2 == lb b 2 && (lb a 3 == lb b 3 && (lb a 4 == lb b 4 && (lb a 5 == lb b 5 && (lb a 6 == lb b 6 && lb a 7 == lb b 7))))))
theorem Qdr {a b : Int} (ha : Fit a) (hb : Fit b) : eqb a b = decide (a = b) := by
  rw [Bool.eq_iff_iff,decide_eq_true_iff,← limbs_eq ha hb]
  simp [eqb,Bool.and_eq_true,beq_iff_eq]
theorem Qce (a : Int) : eqb a 0 = (lb a 0 == 0 && (lb a 1 == 0 && (lb a 2 == 0 && (lb a 3 == 0 && (lb a 4 == 0 && (lb a 5 == 0 && (lb a 6 == 0 && lb a 7 == 0))))))) := by
  simp only [eqb,Qcy]
theorem Qbp : Fit 0 := by unfold Fit M511;omega
end Go.Proofs.YtdfdmeoalbpcdaaGreat

namespace Go.Proofs.YtdfdmeoalbpcdaaGreat
open Go
/-- 2^(64 k). -/
def P64 (k : Nat) : Int := 2 ^ (64 * k)
theorem Qef (k : Nat) : 0 < P64 k := Qak _
theorem Qhq (k : Nat) : P64 (k + 1) = P64 k * 18446744073709551616 := Qdy k
theorem Qih (i k : Nat) : P64 (i + k) = P64 i * P64 k := by unfold P64;rw [Nat.mul_add,Int.pow_add]
theorem P64_zero : P64 0 = 1 := rfl
theorem Qhk : P64 8 = M512 := M512_eq.symm
theorem lb_P64 (n : Int) (i : Nat) : lb n i = n / P64 i % 18446744073709551616 := rfl
theorem Qey (n : Int) (k : Nat) : n % P64 (k + 1) = P64 k * lb n k + n % P64 k := Qlo n k
theorem mod_bd (n : Int) (k : Nat) : 0 ≤ n % P64 k ∧ n % P64 k < P64 k := ⟨Int.emod_nonneg _ (by have := Qef k;omega),Int.emod_lt_of_pos _ (Qef k)⟩
theorem P64_le {i j : Nat} (h : i ≤ j) : P64 i ≤ P64 j := by
  obtain ⟨d,rfl⟩ : ∃ d,j = i + d := ⟨j - i,by omega⟩
  rw [Qih]
  have h1 := Qef i
  have h2 := Qef d
  have := Int.mul_le_mul_of_nonneg_left (show (1 : Int) ≤ P64 d by omega) (show (0 : Int) ≤ P64 i by omega)
  omega
/-- n with limb j written anew. -/
def put (n : Int) (j : Nat) (v : Int) : Int := n + (v - lb n j) * P64 j
theorem div_P64 (n : Int) (j : Nat) : n = P64 (j + 1) * (n / P64 (j + 1)) + (P64 j * lb n j + n % P64 j) := by
  rw [← Qey];exact (Int.mul_ediv_add_emod _ _).symm
theorem put_eq (n : Int) (j : Nat) (v : Int) : put n j v = P64 (j + 1) * (n / P64 (j + 1)) + (P64 j * v + n % P64 j) := by
  have h := div_P64 n j
  unfold put
  rw [Int.sub_mul,Int.mul_comm v,Int.mul_comm (lb n j)]
  omega
theorem Qoo (n : Int) (j : Nat) (v : Int) (h0 : 0 ≤ v) (h1 : v < 18446744073709551616) : 0 ≤ P64 j * v + n % P64 j ∧ P64 j * v + n % P64 j < P64 (j + 1) := by
  have hb := mod_bd n j
  have hp := Qef j
  have h2 := Int.mul_le_mul_of_nonneg_left (show v + 1 ≤ 18446744073709551616 by omega) (show (0 : Int) ≤ P64 j by omega)
  have h3 := Int.mul_nonneg (show (0 : Int) ≤ P64 j by omega) h0
  rw [Qhq]
  rw [Int.mul_add] at h2
  omega
theorem put_div (n : Int) (j : Nat) (v : Int) (h0 : 0 ≤ v) (h1 : v < 18446744073709551616) : put n j v / P64 (j + 1) = n / P64 (j + 1) := by
  have hs := Qoo n j v h0 h1
  rw [put_eq,Int.add_comm,Int.add_mul_ediv_left _ _ (by have := Qef (j + 1);omega),Int.ediv_eq_zero_of_lt hs.1 hs.2,Int.zero_add]
theorem put_mod (n : Int) (j : Nat) (v : Int) : put n j v % P64 j = n % P64 j := by
  rw [put_eq,Qhq,Int.mul_assoc,Int.add_comm,Int.add_mul_emod_self_left,Int.add_comm,Int.add_mul_emod_self_left,Int.emod_emod_of_dvd _ (Int.dvd_refl _)]
theorem lb_put (n : Int) (j : Nat) (v : Int) (h0 : 0 ≤ v) (h1 : v < 18446744073709551616) (i : Nat) : lb (put n j v) i = upd (lb n) j v i := by
  by_cases hij : i = j
  · subst hij
    rw [Qct,lb_P64,put_eq,Qhq,Int.mul_assoc,← Int.add_assoc,← Int.mul_add,Int.add_comm,Int.add_mul_ediv_left _ _ (by have := Qef i;omega),Int.ediv_eq_zero_of_lt (mod_bd n i).1 (mod_bd n i).2]
    omega
  · rw [Qep _ _ hij]
    by_cases hlt : i < j
    · -- below: what lies modulo 2^(64 (i + 1)) is the same
      have key : ∀ m : Int,lb m i = (m % P64 j) / P64 i % 18446744073709551616 := by
        intro m
        obtain ⟨d,rfl⟩ : ∃ d,j = (i + 1) + d := ⟨j - (i + 1),by omega⟩
        have e : m % P64 (i + 1 + d) = m + P64 i * (- (18446744073709551616 * (P64 d * (m / P64 (i + 1 + d))))) := by
          rw [Int.emod_def,Qih,Qhq,Int.mul_neg]
          simp only [Int.mul_assoc]
          omega
        rw [e,Int.add_mul_ediv_left _ _ (by have := Qef i;omega),lb_P64]
        omega
      rw [key,key,put_mod]
    · obtain ⟨d,rfl⟩ : ∃ d,i = (j + 1) + d := ⟨i - (j + 1),by omega⟩
      have key : ∀ m : Int,lb m (j + 1 + d) = (m / P64 (j + 1)) / P64 d % 18446744073709551616 := by
        intro m
        rw [lb_P64,Qih,Int.ediv_ediv_of_nonneg (by have := Qef (j + 1);omega)]
      rw [key,key,put_div _ _ _ h0 h1]
theorem put_bd (n : Int) (j : Nat) (v : Int) (hn : 0 ≤ n) (hn' : n < M512) (h0 : 0 ≤ v) (h1 : v < 18446744073709551616) (hj : j < 8) : 0 ≤ put n j v ∧ put n j v < M512 := by
  have hs := Qoo n j v h0 h1
  have hp := Qef (j + 1)
  have hq : 0 ≤ n / P64 (j + 1) := Int.ediv_nonneg hn (by omega)
  have hM : M512 = P64 (j + 1) * P64 (7 - j) := by rw [← Qih,← Qhk];congr 1;omega
  have hq' : n / P64 (j + 1) < P64 (7 - j) := by
    rw [Int.ediv_lt_iff_lt_mul hp,Int.mul_comm,← hM];exact hn'
  have h2 := Int.mul_le_mul_of_nonneg_left (show n / P64 (j + 1) + 1 ≤ P64 (7 - j) by omega) (show (0 : Int) ≤ P64 (j + 1) by omega)
  have h3 := Int.mul_nonneg (show (0 : Int) ≤ P64 (j + 1) by omega) hq
  rw [Int.mul_add,← hM] at h2
  rw [put_eq]
  omega
theorem LB_put (n : Int) (j : Nat) (v : Int) (h0 : 0 ≤ v) (h1 : v < 18446744073709551616) : LB (upd (lb n) j v) = LB (lb (put n j v)) :=
  Qed fun i _ => (lb_put n j v h0 h1 i).symm
end Go.Proofs.YtdfdmeoalbpcdaaGreat

set_option maxRecDepth 100000
namespace Go.Proofs.YtdfdmeoalbpcdaaGreat
open Go Go.RowKit
theorem Qkz {P : Program} (w : World) (d n : Nat) (t e : TypeId) (ht : P.underlying t = some (.array n e)) (he : P.underlying e = some (.int .u64)) (h1 : OneTy P e) (X Y : Nat → Int) (xs ys : Array Value)
    (hx : ∀ i,i < n → xs[i]? = some (.int .u64 (X i))) (hy : ∀ i,i < n → ys[i]? = some (.int .u64 (Y i))) :
    (Op.equalIn (d + 2) t (.agg xs) (.agg ys)).run P w = .ok ((List.range' 0 n 1).all fun i => X i == Y i) w := by
  have hpart : ∀ (cs : Array Value) (i : Nat) (v : Value),cs[i]? = some v → (part e cs i).run P w = .ok v w := by
    intro cs i v hv
    simp [part,h1.agg,hv]
  have heq : ∀ a b : Int,(Op.equalIn (d + 1) e (.int .u64 a) (.int .u64 b)).run P w = .ok (a == b) w := fun a b => by
    simp [Op.equalIn,run_underlying he]
  rw [show d + 2 = (d + 1) + 1 from rfl,Op.equalIn]
  simp only [Sem.run_bind,run_underlying ht,Result.andThen_ok,h1.size]
  simp only [Std.Legacy.Range.forIn_eq_forIn_range',Std.Legacy.Range.size,Nat.mul_one,Nat.sub_zero,Nat.add_sub_cancel,Nat.div_one]
  have hl : ∀ i ∈ List.range' 0 n 1,i < n := by intro i hi;simp at hi;omega
  revert hl
  generalize List.range' 0 n 1 = l
  intro hl
  induction l with
  | nil => simp
  | cons i l ih =>
    have ih' := ih fun j hj => hl j (by simp [hj])
    have hi := hl i (by simp)
    simp only [List.forIn_cons,Sem.run_bind,hpart xs i _ (hx i hi),hpart ys i _ (hy i hi),heq,Result.andThen_ok,List.all_cons]
    cases h : X i == Y i
    · simp
    · simp only [Bool.not_true,Bool.false_eq_true,if_false,Sem.run_pure,Result.andThen_ok,Bool.true_and]
      exact ih'
theorem Qgg {P : Program} (w : World) (d : Nat) (t e : TypeId) (ht : P.underlying t = some (.array 8 e)) (he : P.underlying e = some (.int .u64)) (h1 : OneTy P e) (X Y : Nat → Int) :
    (Op.equalIn (d + 2) t (.agg #[.int .u64 (X 0),.int .u64 (X 1),.int .u64 (X 2),.int .u64 (X 3),.int .u64 (X 4),.int .u64 (X 5),.int .u64 (X 6),.int .u64 (X 7)]) (.agg #[.int .u64 (Y 0),.int .u64 (Y 1),.int .u64 (Y 2),.int .u64 (Y 3),.int .u64 (Y 4),.int .u64 (Y 5),.int .u64 (Y 6),.int .u64 (Y 7)])).run P w =
      .ok (X 0 == Y 0 && (X 1 == Y 1 && (X 2 == Y 2 && (X 3 == Y 3 && (X 4 == Y 4 && (X 5 == Y 5 && (X 6 == Y 6 && X 7 == Y 7))))))) w := by
  have h := Qkz w d 8 t e ht he h1 X Y (xs := #[.int .u64 (X 0),.int .u64 (X 1),.int .u64 (X 2),.int .u64 (X 3),.int .u64 (X 4),.int .u64 (X 5),.int .u64 (X 6),.int .u64 (X 7)]) (ys := #[.int .u64 (Y 0),.int .u64 (Y 1),.int .u64 (Y 2),.int .u64 (Y 3),.int .u64 (Y 4),.int .u64 (Y 5),.int .u64 (Y 6),.int .u64 (Y 7)])
    (by intro i hi;match i,hi with|0,_|1,_|2,_|3,_|4,_|5,_|6,_|7,_ => rfl) (by intro i hi;match i,hi with|0,_|1,_|2,_|3,_|4,_|5,_|6,_|7,_ => rfl)
  rw [h]
  simp [List.range'_succ]
/-- The values of eight numbers. -/
def vec8 (x0 x1 x2 x3 x4 x5 x6 x7 : Int) : Nat → Int
  | 0 => x0|1 => x1|2 => x2|3 => x3|4 => x4|5 => x5|6 => x6|_ => x7
@[go_sem] theorem eq_arr (w : World) (d : Nat) (x0 x1 x2 x3 x4 x5 x6 x7 y0 y1 y2 y3 y4 y5 y6 y7 : Int) :
    (Op.equalIn (d + 2) 25 (.agg #[.int .u64 x0,.int .u64 x1,.int .u64 x2,.int .u64 x3,.int .u64 x4,.int .u64 x5,.int .u64 x6,.int .u64 x7]) (.agg #[.int .u64 y0,.int .u64 y1,.int .u64 y2,.int .u64 y3,.int .u64 y4,.int .u64 y5,.int .u64 y6,.int .u64 y7])).run Tryz.prog w =
      .ok (x0 == y0 && (x1 == y1 && (x2 == y2 && (x3 == y3 && (x4 == y4 && (x5 == y5 && (x6 == y6 && x7 == y7))))))) w :=
  Qgg w d _ _ Tryz.underlying25 Tryz.underlying24 inferInstance (vec8 x0 x1 x2 x3 x4 x5 x6 x7) (vec8 y0 y1 y2 y3 y4 y5 y6 y7)
@[go_sem] theorem eq_limbs (w : World) (d : Nat) (x0 x1 x2 x3 x4 x5 x6 x7 y0 y1 y2 y3 y4 y5 y6 y7 : Int) :
    (Op.equalIn (d + 2) 51 (.agg #[.int .u64 x0,.int .u64 x1,.int .u64 x2,.int .u64 x3,.int .u64 x4,.int .u64 x5,.int .u64 x6,.int .u64 x7]) (.agg #[.int .u64 y0,.int .u64 y1,.int .u64 y2,.int .u64 y3,.int .u64 y4,.int .u64 y5,.int .u64 y6,.int .u64 y7])).run Tryz.prog w =
      .ok (x0 == y0 && (x1 == y1 && (x2 == y2 && (x3 == y3 && (x4 == y4 && (x5 == y5 && (x6 == y6 && x7 == y7))))))) w :=
  Qgg w d _ _ Tryz.underlying51 Tryz.underlying24 inferInstance (vec8 x0 x1 x2 x3 x4 x5 x6 x7) (vec8 y0 y1 y2 y3 y4 y5 y6 y7)
end Go.Proofs.YtdfdmeoalbpcdaaGreat
set_option maxRecDepth 100000
namespace Go.Proofs.YtdfdmeoalbpcdaaGreat
open Go Go.RowKit
@[go_sem high] theorem eq_point (w : World) (d : Nat) (x0 x1 x2 y0 y1 y2 : Int) : (Op.equalIn (d + 2) 39 (.agg #[.int .i64 x0,.int .i64 x1,.int .i64 x2]) (.agg #[.int .i64 y0,.int .i64 y1,.int .i64 y2])).run Tryz.prog w = .ok (x0 == y0 && (x1 == y1 && x2 == y2)) w := by
  by_cases h0 : x0 = y0 <;> by_cases h1 : x1 = y1 <;> by_cases h2 : x2 = y2 <;> (go_simp;try simp [h0,h1,h2])
@[go_sem high] theorem eq_wide (w : World) (d : Nat) (x0 x1 x2 x3 x4 x5 x6 x7 y0 y1 y2 y3 y4 y5 y6 y7 : Int) : (Op.equalIn (d + 3) 27 (.agg #[.int .u64 x0,.int .u64 x1,.int .u64 x2,.int .u64 x3,.int .u64 x4,.int .u64 x5,.int .u64 x6,.int .u64 x7]) (.agg #[.int .u64 y0,.int .u64 y1,.int .u64 y2,.int .u64 y3,.int .u64 y4,.int .u64 y5,.int .u64 y6,.int .u64 y7])).run Tryz.prog w = .ok (x0 == y0 && (x1 == y1 && (x2 == y2 && (x3 == y3 && (x4 == y4 && (x5 == y5 && (x6 == y6 && x7 == y7))))))) w := by
  go_simp
  generalize (x0 == y0 && (x1 == y1 && (x2 == y2 && (x3 == y3 && (x4 == y4 && (x5 == y5 && (x6 == y6 && x7 == y7))))))) = b
  cases b <;> simp
@[go_sem high] theorem eq_span (w : World) (d : Nat) (x0 x1 x2 x3 x4 x5 x6 x7 x8 x9 x10 x11 x12 x13 x14 x15 x16 x17 x18 x19 x20 x21 x22 x23 y0 y1 y2 y3 y4 y5 y6 y7 y8 y9 y10 y11 y12 y13 y14 y15 y16 y17 y18 y19 y20 y21 y22 y23 : Int) : (Op.equalIn (d + 4) 29 (.agg #[.int .u64 x0,.int .u64 x1,.int .u64 x2,.int .u64 x3,.int .u64 x4,.int .u64 x5,.int .u64 x6,.int .u64 x7,.int .u64 x8,.int .u64 x9,.int .u64 x10,.int .u64 x11,.int .u64 x12,.int .u64 x13,.int .u64 x14,.int .u64 x15,.int .u64 x16,.int .u64 x17,.int .u64 x18,.int .u64 x19,.int .u64 x20,.int .u64 x21,.int .u64 x22,.int .u64 x23]) (.agg #[.int .u64 y0,.int .u64 y1,.int .u64 y2,.int .u64 y3,.int .u64 y4,.int .u64 y5,.int .u64 y6,.int .u64 y7,.int .u64 y8,.int .u64 y9,.int .u64 y10,.int .u64 y11,.int .u64 y12,.int .u64 y13,.int .u64 y14,.int .u64 y15,.int .u64 y16,.int .u64 y17,.int .u64 y18,.int .u64 y19,.int .u64 y20,.int .u64 y21,.int .u64 y22,.int .u64 y23])).run Tryz.prog w = .ok ((x0 == y0 && (x1 == y1 && (x2 == y2 && (x3 == y3 && (x4 == y4 && (x5 == y5 && (x6 == y6 && x7 == y7))))))) && ((x8 == y8 && (x9 == y9 && (x10 == y10 && (x11 == y11 && (x12 == y12 && (x13 == y13 && (x14 == y14 && x15 == y15))))))) && (x16 == y16 && (x17 == y17 && (x18 == y18 && (x19 == y19 && (x20 == y20 && (x21 == y21 && (x22 == y22 && x23 == y23))))))))) w := by
  go_simp
  generalize (x0 == y0 && (x1 == y1 && (x2 == y2 && (x3 == y3 && (x4 == y4 && (x5 == y5 && (x6 == y6 && x7 == y7))))))) = b
  generalize (x8 == y8 && (x9 == y9 && (x10 == y10 && (x11 == y11 && (x12 == y12 && (x13 == y13 && (x14 == y14 && x15 == y15))))))) = c
  generalize (x16 == y16 && (x17 == y17 && (x18 == y18 && (x19 == y19 && (x20 == y20 && (x21 == y21 && (x22 == y22 && x23 == y23))))))) = e
  cases b <;> cases c <;> cases e <;> simp
end Go.Proofs.YtdfdmeoalbpcdaaGreat
