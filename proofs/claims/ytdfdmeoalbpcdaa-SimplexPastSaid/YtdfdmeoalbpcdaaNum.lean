/-
  Integers of 512 bits by eight limbs, as plain numbers: limb i of n, and what adding and turning over come to, limb by limb.
-/
import GoSem.Core.Value
import Derived.Laws.BitsAllLaws
namespace Go.Proofs.Ytdfdmeoalbpcdaa
open Go
/-- Limb i of n, in two's complement. -/
def lb (n : Int) (i : Nat) : Int := n / 2 ^ (64 * i) % 18446744073709551616
abbrev W (n : Int) : Value := .agg #[.int .u64 (lb n 0),.int .u64 (lb n 1),.int .u64 (lb n 2),.int .u64 (lb n 3),.int .u64 (lb n 4),.int .u64 (lb n 5),.int .u64 (lb n 6),.int .u64 (lb n 7)]
abbrev Sp (a b c : Int) : Value := .agg #[.int .u64 (lb a 0),.int .u64 (lb a 1),.int .u64 (lb a 2),.int .u64 (lb a 3),.int .u64 (lb a 4),.int .u64 (lb a 5),.int .u64 (lb a 6),.int .u64 (lb a 7),.int .u64 (lb b 0),.int .u64 (lb b 1),.int .u64 (lb b 2),.int .u64 (lb b 3),.int .u64 (lb b 4),.int .u64 (lb b 5),.int .u64 (lb b 6),.int .u64 (lb b 7),.int .u64 (lb c 0),.int .u64 (lb c 1),.int .u64 (lb c 2),.int .u64 (lb c 3),.int .u64 (lb c 4),.int .u64 (lb c 5),.int .u64 (lb c 6),.int .u64 (lb c 7)]
theorem Qbg (n : Int) (i : Nat) : 0 ≤ lb n i := by unfold lb;omega
theorem Qfa (n : Int) (i : Nat) : lb n i < 18446744073709551616 := by unfold lb;omega
theorem Qdn (i : Nat) : lb 0 i = 0 := by simp [lb]
/-- Eight cells, by a function. -/
def LB (F : Nat → Int) : List Value := [.int .u64 (F 0),.int .u64 (F 1),.int .u64 (F 2),.int .u64 (F 3),.int .u64 (F 4),.int .u64 (F 5),.int .u64 (F 6),.int .u64 (F 7)]
theorem LB_length (F : Nat → Int) : (LB F).length = 8 := rfl
theorem Qcd {F : Nat → Int} {k : Nat} (h : k < 8) : (LB F)[k]? = some (.int .u64 (F k)) := by
  match k,h with
  | 0,_|1,_|2,_|3,_|4,_|5,_|6,_|7,_ => rfl
def upd (F : Nat → Int) (k : Nat) (v : Int) : Nat → Int := fun j => if j = k then v else F j
theorem Qch (F : Nat → Int) (k : Nat) (v : Int) : upd F k v k = v := if_pos rfl
theorem Qds (F : Nat → Int) {k j : Nat} (v : Int) (h : j ≠ k) : upd F k v j = F j := if_neg h
theorem Qek {F : Nat → Int} {k : Nat} {v : Int} (h : k < 8) : (LB F).take k ++ [.int .u64 v] ++ (LB F).drop (k + 1) = LB (upd F k v) := by
  match k,h with
  | 0,_|1,_|2,_|3,_|4,_|5,_|6,_|7,_ => rfl
theorem Qgr {F : Nat → Int} {k : Nat} (h : k < 8) : k + 1 ≤ (LB F).length := by rw [LB_length];omega
theorem Qdg {F G : Nat → Int} (h : ∀ j,j < 8 → F j = G j) : LB F = LB G := by
  simp only [LB,h 0 (by omega),h 1 (by omega),h 2 (by omega),h 3 (by omega),h 4 (by omega),h 5 (by omega),h 6 (by omega),h 7 (by omega)]
/-- What is carried into limb k. -/
def cy (a b c : Int) (k : Nat) : Int := (a % 2 ^ (64 * k) + b % 2 ^ (64 * k) + c) / 2 ^ (64 * k)
theorem Qaj (k : Nat) : (0 : Int) < 2 ^ k := Int.pow_pos (by omega)
theorem Qda (k : Nat) : (2 : Int) ^ (64 * (k + 1)) = 2 ^ (64 * k) * 18446744073709551616 := by
  rw [show 64 * (k + 1) = 64 * k + 64 by omega,Int.pow_add];rfl
theorem cy_zero {a b c : Int} : cy a b c 0 = c := by simp [cy,Int.emod_one]
theorem cy_bd (a b c : Int) (k : Nat) (h0 : 0 ≤ c) (h1 : c ≤ 1) : 0 ≤ cy a b c k ∧ cy a b c k ≤ 1 := by
  unfold cy
  have hp := Qaj (64 * k)
  have ha := Int.emod_nonneg a (by omega : (2 : Int) ^ (64 * k) ≠ 0)
  have hb := Int.emod_nonneg b (by omega : (2 : Int) ^ (64 * k) ≠ 0)
  have ha' := Int.emod_lt_of_pos a hp
  have hb' := Int.emod_lt_of_pos b hp
  refine ⟨Int.ediv_nonneg (by omega) (by omega),?_⟩
  have : (a % 2 ^ (64 * k) + b % 2 ^ (64 * k) + c) / 2 ^ (64 * k) < 2 := by
    rw [Int.ediv_lt_iff_lt_mul hp];omega
  omega
theorem Qbv (a P B : Int) (hP : 0 < P) (_hB : 0 < B) : a % (P * B) = P * (a / P % B) + a % P := by
  have h1 : a % (P * B) = a - P * B * (a / (P * B)) := Int.emod_def a (P * B)
  have h2 : a / (P * B) = a / P / B := (Int.ediv_ediv_of_nonneg (by omega)).symm
  have h3 : a / P % B = a / P - B * (a / P / B) := Int.emod_def _ _
  have h4 : a % P = a - P * (a / P) := Int.emod_def _ _
  rw [h1,h2,h3,h4,Int.mul_sub,Int.mul_assoc]
  omega
theorem sum_lb (a b c : Int) (k : Nat) : (lb a k + lb b k + cy a b c k) % 18446744073709551616 = lb (a + b + c) k := by
  have hp := Qaj (64 * k)
  have ha : a = 2 ^ (64 * k) * (a / 2 ^ (64 * k)) + a % 2 ^ (64 * k) := (Int.mul_ediv_add_emod _ _).symm
  have hb : b = 2 ^ (64 * k) * (b / 2 ^ (64 * k)) + b % 2 ^ (64 * k) := (Int.mul_ediv_add_emod _ _).symm
  have hs : a + b + c = (a % 2 ^ (64 * k) + b % 2 ^ (64 * k) + c) + 2 ^ (64 * k) * (a / 2 ^ (64 * k) + b / 2 ^ (64 * k)) := by
    rw [Int.mul_add];omega
  have hd : (a + b + c) / 2 ^ (64 * k) = cy a b c k + (a / 2 ^ (64 * k) + b / 2 ^ (64 * k)) := by
    rw [hs,Int.add_mul_ediv_left _ _ (by omega)];rfl
  unfold lb
  rw [hd]
  omega
theorem cy_succ (a b c : Int) (k : Nat) : (lb a k + lb b k + cy a b c k) / 18446744073709551616 = cy a b c (k + 1) := by
  have hp := Qaj (64 * k)
  have e : cy a b c (k + 1) = (a % (2 ^ (64 * k) * 18446744073709551616) + b % (2 ^ (64 * k) * 18446744073709551616) + c) / (2 ^ (64 * k) * 18446744073709551616) := by
    unfold cy;rw [Qda]
  rw [e,Qbv a _ _ hp (by omega),Qbv b _ _ hp (by omega),← Int.ediv_ediv_of_nonneg (by omega)]
  have : (2 ^ (64 * k) * (a / 2 ^ (64 * k) % 18446744073709551616) + a % 2 ^ (64 * k) + (2 ^ (64 * k) * (b / 2 ^ (64 * k) % 18446744073709551616) + b % 2 ^ (64 * k)) + c) =
      (a % 2 ^ (64 * k) + b % 2 ^ (64 * k) + c) + 2 ^ (64 * k) * (lb a k + lb b k) := by
    unfold lb;rw [Int.mul_add];omega
  rw [this,Int.add_mul_ediv_left _ _ (by omega)]
  show _ = (cy a b c k + _) / _
  congr 1
  omega
theorem lb_not (a : Int) (k : Nat) : lb (-a - 1) k = 18446744073709551615 - lb a k := by
  have hp := Qaj (64 * k)
  have hd : (-a - 1) / 2 ^ (64 * k) = - (a / 2 ^ (64 * k)) - 1 := by
    have ha : a = 2 ^ (64 * k) * (a / 2 ^ (64 * k)) + a % 2 ^ (64 * k) := (Int.mul_ediv_add_emod _ _).symm
    have h0 := Int.emod_nonneg a (by omega : (2 : Int) ^ (64 * k) ≠ 0)
    have h1 := Int.emod_lt_of_pos a hp
    have hs : -a - 1 = (2 ^ (64 * k) - 1 - a % 2 ^ (64 * k)) + 2 ^ (64 * k) * (- (a / 2 ^ (64 * k)) - 1) := by
      rw [Int.mul_sub,Int.mul_neg];omega
    rw [hs,Int.add_mul_ediv_left _ _ (by omega),Int.ediv_eq_zero_of_lt (by omega) (by omega)]
    omega
  unfold lb
  rw [hd]
  omega
theorem Qng (x : Int) (h0 : 0 ≤ x) (h1 : x < 18446744073709551616) : bits .xor .u64 (if IntKind.u64.signed = true then -1 else IntKind.u64.max) x = 18446744073709551615 - x := by
  have e : (if IntKind.u64.signed = true then -1 else IntKind.u64.max) = ((18446744073709551615 : Nat) : Int) := by rfl
  rw [e]
  obtain ⟨n,rfl⟩ := Int.eq_ofNat_of_zero_le h0
  rw [u64_xor_nat _ _ (by omega) (by omega)]
  have : 18446744073709551615 ^^^ n = 18446744073709551615 - n := by
    have hn : n < 2 ^ 64 := by omega
    have h := BitVec.toNat_not (x := BitVec.ofNat 64 n)
    rw [BitVec.toNat_ofNat,Nat.mod_eq_of_lt hn] at h
    have h2 : (~~~ (BitVec.ofNat 64 n)) = BitVec.allOnes 64 ^^^ BitVec.ofNat 64 n := by
      rw [BitVec.allOnes_xor]
    rw [h2,BitVec.toNat_xor,BitVec.toNat_allOnes,BitVec.toNat_ofNat,Nat.mod_eq_of_lt hn] at h
    simpa using h
  rw [this]
  omega
/-- 2^511, and 2^512. -/
def M511 : Int := 6703903964971298549787012499102923063739682910296196688861780721860882015036773488400937149083451713845015929093243025426876941405973284973216824503042048
def M512 : Int := 13407807929942597099574024998205846127479365820592393377723561443721764030073546976801874298166903427690031858186486050853753882811946569946433649006084096
/-- A number of 512 bits with a sign. -/
def Fit (n : Int) : Prop := -M511 ≤ n ∧ n < M511
instance (n : Int) : Decidable (Fit n) := inferInstanceAs (Decidable (_ ∧ _))
/-- Is the highest of 512 bits set? -/
def ng (n : Int) : Bool := decide (9223372036854775808 ≤ lb n 7)
theorem Qox : (2 : Int) ^ (64 * 7) = 726838724295606890549323807888004534353641360687318060281490199180639288113397923326191050713763565560762521606266177933534601628614656 := by
  rw [Int.pow_mul,show (2 : Int) ^ 64 = 18446744073709551616 from rfl]
  simp only [Int.pow_succ,Int.pow_zero]
  rfl
theorem Qcc {n : Int} (h : Fit n) : ng n = decide (n < 0) := by
  unfold ng
  have e : lb n 7 = n / 726838724295606890549323807888004534353641360687318060281490199180639288113397923326191050713763565560762521606266177933534601628614656 % 18446744073709551616 := by unfold lb;rw [Qox]
  obtain ⟨h1,h2⟩ := h
  unfold M511 at h1 h2
  rw [decide_eq_decide,e]
  omega
theorem Qjy (n : Int) (k : Nat) : n % 2 ^ (64 * (k + 1)) = 2 ^ (64 * k) * lb n k + n % 2 ^ (64 * k) := by
  rw [Qda]
  exact Qbv n _ _ (Qaj _) (by omega)
theorem Qlt {a b : Int} (n : Nat) (h : ∀ i,i < n → lb a i = lb b i) : a % 2 ^ (64 * n) = b % 2 ^ (64 * n) := by
  induction n with
  | zero => simp [Int.emod_one]
  | succ n ih => rw [Qjy,Qjy,h n (by omega),ih fun i hi => h i (by omega)]
theorem M512_eq : M512 = 2 ^ (64 * 8) := by
  rw [Int.pow_mul,show (2 : Int) ^ 64 = 18446744073709551616 from rfl]
  simp only [Int.pow_succ,Int.pow_zero]
  rfl
theorem eq_of_lb {a b : Int} (ha : Fit a) (hb : Fit b) (h : ∀ i,i < 8 → lb a i = lb b i) : a = b := by
  have e := Qlt 8 h
  rw [← M512_eq] at e
  unfold Fit M511 at ha hb
  unfold M512 at e
  omega
theorem Qoz {a b : Int} (h : a % M512 = b % M512) (i : Nat) (hi : i < 8) : lb a i = lb b i := by
  have e : (M512 : Int) = 2 ^ (64 * i) * (18446744073709551616 * 2 ^ (64 * (7 - i))) := by
    rw [M512_eq,← Int.mul_assoc,← Qda,← Int.pow_add]
    congr 1
    omega
  have key : ∀ n : Int,lb n i = (n % M512) / 2 ^ (64 * i) % 18446744073709551616 := by
    intro n
    have hd : n % M512 = n - M512 * (n / M512) := Int.emod_def _ _
    have hs : n % M512 = n + 2 ^ (64 * i) * (- (18446744073709551616 * (2 ^ (64 * (7 - i)) * (n / M512)))) := by
      rw [hd]
      have : M512 * (n / M512) = 2 ^ (64 * i) * (18446744073709551616 * (2 ^ (64 * (7 - i)) * (n / M512))) := by
        conv => lhs;rw [show M512 * (n / M512) = (2 ^ (64 * i) * (18446744073709551616 * 2 ^ (64 * (7 - i)))) * (n / M512) by rw [← e]]
        simp only [Int.mul_assoc]
      rw [this,Int.mul_neg]
      omega
    rw [hs,Int.add_mul_ediv_left _ _ (by have := Qaj (64 * i);omega)]
    unfold lb
    omega
  rw [key a,key b,h]
theorem Qej : W 0 = .agg #[.int .u64 0,.int .u64 0,.int .u64 0,.int .u64 0,.int .u64 0,.int .u64 0,.int .u64 0,.int .u64 0] := by simp only [W,Qdn]
/-- Eight tests of limbs are one of numbers. -/
theorem limbs_eq {a b : Int} (ha : Fit a) (hb : Fit b) : (lb a 0 = lb b 0 ∧ lb a 1 = lb b 1 ∧ lb a 2 = lb b 2 ∧ lb a 3 = lb b 3 ∧ lb a 4 = lb b 4 ∧ lb a 5 = lb b 5 ∧ lb a 6 = lb b 6 ∧ lb a 7 = lb b 7) ↔ a = b := by
  constructor
  · rintro ⟨h0,h1,h2,h3,h4,h5,h6,h7⟩
    refine eq_of_lb ha hb fun i hi => ?_
    match i,hi with
    | 0,_ => exact h0
    | 1,_ => exact h1
    | 2,_ => exact h2
    | 3,_ => exact h3
    | 4,_ => exact h4
    | 5,_ => exact h5
    | 6,_ => exact h6
    | 7,_ => exact h7
  · rintro rfl
    exact ⟨rfl,rfl,rfl,rfl,rfl,rfl,rfl,rfl⟩
/-- The tests of limbs, as the walk has them. -/
def eqb (a b : Int) : Bool := lb a 0 == lb b 0 && (lb a 1 == lb b 1 && (lb a 2 == lb b 2 && (lb a 3 == lb b 3 && (lb a 4 == lb b 4 && (lb a 5 == lb b 5 && (lb a 6 == lb b 6 && lb a 7 == lb b 7))))))
theorem Qdx {a b : Int} (ha : Fit a) (hb : Fit b) : eqb a b = decide (a = b) := by
  rw [Bool.eq_iff_iff,decide_eq_true_iff,← limbs_eq ha hb]
  simp [eqb,Bool.and_eq_true,beq_iff_eq]
theorem Qcg (a : Int) : eqb a 0 = (lb a 0 == 0 && (lb a 1 == 0 && (lb a 2 == 0 && (lb a 3 == 0 && (lb a 4 == 0 && (lb a 5 == 0 && (lb a 6 == 0 && lb a 7 == 0))))))) := by
  simp only [eqb,Qdn]
theorem Qbs : Fit 0 := by unfold Fit M511;omega
end Go.Proofs.Ytdfdmeoalbpcdaa
