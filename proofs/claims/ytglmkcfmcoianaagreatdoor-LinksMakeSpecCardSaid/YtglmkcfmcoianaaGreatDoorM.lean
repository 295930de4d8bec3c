/- Plain arithmetic of the group and of the field, and the numbers of the machine: no Go here but the names of the kinds. -/
import Derived.Test.YtglmkcfmcoianaaGreatDoorF
namespace Go.Proofs.Ch
open Go

def MP : Nat := 4611686018427377339
def MQ : Nat := 2305843009213688669
theorem MP_eq : MP = 4611686018427377339 := rfl
theorem MQ_eq : MQ = 2305843009213688669 := rfl

/-- a power, most significant bit first: what the program reckons -/
def powm (m a : Nat) : Nat → Nat := fun k => a ^ k % m

theorem mul_lt {a b m : Nat} (ha : a < m) (hb : b < m) (hm : m ≤ 9223372036854775808) : a * b / 18446744073709551616 < m := by
  have h1 : a * b < m * m := Nat.mul_lt_mul'' ha hb
  have h2 : a * b / 18446744073709551616 ≤ a * b / (2 * m) := Nat.div_le_div_left (by omega) (by omega)
  have h3 : a * b / (2 * m) ≤ m * m / (2 * m) := Nat.div_le_div_right (Nat.le_of_lt h1)
  have h4 : m * m / (2 * m) = m / 2 := by
    rw [Nat.mul_comm 2 m, ← Nat.div_div_eq_div_mul, Nat.mul_div_cancel_left _ (by omega)]
  omega

/-! unsigned kinds -/
theorem bv_nat (k : IntKind) (a : Nat) (ha : a < 2 ^ k.bits) : (BitVec.ofInt k.bits (a : Int)).toNat = a := by
  rw [BitVec.toNat_ofInt]
  have : ((a : Int) % ((2 ^ k.bits : Nat) : Int)) = ((a % 2 ^ k.bits : Nat) : Int) := by simp
  rw [this, Int.toNat_natCast, Nat.mod_eq_of_lt ha]
theorem bits_and (k : IntKind) {a b : Nat} (ha : a < 2 ^ k.bits) (hb : b < 2 ^ k.bits) : (BitVec.ofInt k.bits (a : Int) &&& BitVec.ofInt k.bits (b : Int)).toNat = a &&& b := by
  rw [BitVec.toNat_and, bv_nat k a ha, bv_nat k b hb]
theorem bits_or (k : IntKind) {a b : Nat} (ha : a < 2 ^ k.bits) (hb : b < 2 ^ k.bits) : (BitVec.ofInt k.bits (a : Int) ||| BitVec.ofInt k.bits (b : Int)).toNat = a ||| b := by
  rw [BitVec.toNat_or, bv_nat k a ha, bv_nat k b hb]
theorem bits_xor (k : IntKind) {a b : Nat} (ha : a < 2 ^ k.bits) (hb : b < 2 ^ k.bits) : (BitVec.ofInt k.bits (a : Int) ^^^ BitVec.ofInt k.bits (b : Int)).toNat = a ^^^ b := by
  rw [BitVec.toNat_xor, bv_nat k a ha, bv_nat k b hb]
theorem wrap_unsigned (k : IntKind) (hk : k.signed = false) (n : Nat) (h : n < 2 ^ k.bits) : k.wrap (n : Int) = (n : Int) := by
  simp only [IntKind.wrap, hk, Bool.false_and, Bool.false_eq_true, if_false]
  have : ((n : Int) % (2 ^ k.bits : Int)) = ((n % 2 ^ k.bits : Nat) : Int) := by simp
  rw [this, Nat.mod_eq_of_lt h]
theorem wrap_unsigned_mod (k : IntKind) (hk : k.signed = false) (n : Nat) : k.wrap (n : Int) = ((n % 2 ^ k.bits : Nat) : Int) := by
  simp only [IntKind.wrap, hk, Bool.false_and, Bool.false_eq_true, if_false]
  simp
theorem and_u64 {a b : Nat} (ha : a < 18446744073709551616) (hb : b < 18446744073709551616) : IntKind.u64.wrap (BitVec.ofInt IntKind.u64.bits (a : Int) &&& BitVec.ofInt IntKind.u64.bits (b : Int)).toNat = ((a &&& b : Nat) : Int) := by
  rw [bits_and .u64 ha hb]
  exact wrap_unsigned .u64 rfl _ (Nat.lt_of_le_of_lt Nat.and_le_left ha)
theorem or_u64 {a b : Nat} (ha : a < 18446744073709551616) (hb : b < 18446744073709551616) : IntKind.u64.wrap (BitVec.ofInt IntKind.u64.bits (a : Int) ||| BitVec.ofInt IntKind.u64.bits (b : Int)).toNat = ((a ||| b : Nat) : Int) := by
  rw [bits_or .u64 ha hb]
  exact wrap_unsigned .u64 rfl _ (Nat.or_lt_two_pow (n := 64) ha hb)
theorem low_u64 {a : Nat} (ha : a < 18446744073709551616) (n : Nat) (hn : n < 64) : IntKind.u64.wrap (BitVec.ofInt IntKind.u64.bits (a : Int) &&& BitVec.ofInt IntKind.u64.bits ((2 ^ n - 1 : Nat) : Int)).toNat = ((a % 2 ^ n : Nat) : Int) := by
  have h2 : 2 ^ n ≤ 2 ^ 63 := Nat.pow_le_pow_right (by omega) (by omega)
  rw [and_u64 ha (by omega), Nat.and_two_pow_sub_one_eq_mod]
theorem low_u64' {a : Nat} (ha : a < 18446744073709551616) {m : Int} (n : Nat) (hn : n < 64) (hm : m = ((2 ^ n - 1 : Nat) : Int)) : IntKind.u64.wrap (BitVec.ofInt IntKind.u64.bits (a : Int) &&& BitVec.ofInt IntKind.u64.bits m).toNat = ((a % 2 ^ n : Nat) : Int) := by
  subst hm; exact low_u64 ha n hn

theorem fdiv_pow (a n : Nat) : (a : Int).fdiv (2 ^ n) = ((a / 2 ^ n : Nat) : Int) := by
  rw [Int.fdiv_eq_ediv_of_nonneg _ (by exact Int.le_of_lt (Int.pow_pos (by omega)))]
  simp
end Go.Proofs.Ch
