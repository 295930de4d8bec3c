/- Powers and products modulo a number, as the program and its reference reckon them. -/
import Derived.Test.YtglmkcfmcoianaaGreatDoorDa
import Derived.Test.YtglmkcfmcoianaaGreatDoorI
namespace Go.Proofs.Ch
open Go
def mpow (m a k : Nat) : Nat := a ^ k % m
section
variable {m a b c k n : Nat}
theorem mpow_zero (h : 1 < m) : mpow m a 0 = 1 := by simp [mpow, Nat.mod_eq_of_lt h]
theorem mpow_lt (h : 0 < m) : mpow m a k < m := Nat.mod_lt _ h
theorem mpow_sq : mpow m a n * mpow m a n % m = mpow m a (2 * n) := by
  unfold mpow
  rw [← Nat.mul_mod, ← Nat.pow_add, Nat.two_mul]
theorem mpow_mul : mpow m a n * a % m = mpow m a (n + 1) := by
  unfold mpow
  rw [Nat.mod_mul_mod, ← Nat.pow_succ]
/-- fast, for numbers -/
def pw (m : Nat) : Nat → Nat → Nat → Nat
  | 0, _, _ => 1 % m
  | f + 1, a, k => if k % 2 = 1 then pw m f (a * a % m) (k / 2) * a % m else pw m f (a * a % m) (k / 2)
theorem pw_eq (m : Nat) : ∀ (f a k : Nat), k < 2 ^ f → pw m f a k = a ^ k % m
  | 0, a, k, h => by
    have : k = 0 := by simpa using h
    simp [pw, this]
  | f + 1, a, k, h => by
    have h2 : k / 2 < 2 ^ f := by rw [Nat.pow_succ] at h; omega
    have key : pw m f (a * a % m) (k / 2) = a ^ (2 * (k / 2)) % m := by
      rw [pw_eq m f _ _ h2, ← Nat.pow_mod, ← Nat.pow_two, ← Nat.pow_mul]
    simp only [pw, key]
    split
    · rename_i h1
      rw [Nat.mod_mul_mod, ← Nat.pow_succ]
      congr 2; omega
    · rename_i h1
      congr 2; omega
theorem mpow_pw (f : Nat) (h : k < 2 ^ f) : mpow m a k = pw m f a k := (pw_eq m f a k h).symm

/-- the reference's product -/
theorem prod_step (h0 : b ≠ 0) : ((if b % 2 = 1 then (c + a) % m else c) + (a + a) % m * (b / 2)) % m = (c + a * b) % m := by
  have e1 : ∀ x y : Nat, (x + (a + a) % m * y) % m = (x + (a + a) * y) % m := fun x y => by
    rw [Nat.add_mod, Nat.mod_mul_mod, ← Nat.add_mod]
  rw [e1]
  split
  · rename_i h1
    rw [Nat.mod_add_mod]
    congr 1
    have : b = 2 * (b / 2) + 1 := by omega
    have e2 : a * b = a * (2 * (b / 2) + 1) := by rw [← this]
    rw [e2, Nat.mul_add, Nat.mul_one, ← Nat.mul_assoc, Nat.mul_two]
    omega
  · rename_i h1
    have : b = 2 * (b / 2) := by omega
    have e2 : a * b = a * (2 * (b / 2)) := by rw [← this]
    rw [e2, ← Nat.mul_assoc, Nat.mul_two]
theorem pow_step : (if k % 2 = 1 then c * a % m else c) * mpow m (a * a % m) (k / 2) % m = c * mpow m a k % m := by
  have e0 : mpow m (a * a % m) (k / 2) = mpow m a (2 * (k / 2)) := by
    unfold mpow
    rw [← Nat.pow_mod, ← Nat.pow_two, ← Nat.pow_mul]
  rw [e0]
  split
  · rename_i h1
    have : k = 2 * (k / 2) + 1 := by omega
    have e2 : mpow m a k = mpow m a (2 * (k / 2) + 1) := by rw [← this]
    rw [e2, ← mpow_mul, Nat.mod_mul_mod, Nat.mul_mod_mod, Nat.mul_assoc, Nat.mul_comm a]
  · rename_i h1
    have : k = 2 * (k / 2) := by omega
    rw [← this]
theorem sum_mod (ha : a < m) (hb : b < m) : (if m ≤ a + b then a + b - m else a + b) = (a + b) % m := by
  split
  · rename_i h1
    rw [Nat.mod_eq_sub_mod h1, Nat.mod_eq_of_lt (by omega)]
  · rw [Nat.mod_eq_of_lt (by omega)]
theorem times_val (a b : Nat) : a * b / 18446744073709551616 * 18446744073709551616 + a * b % 18446744073709551616 = a * b := Nat.div_add_mod' _ _
theorem hi_lt (ha : a < m) (hb : b < m) (hm : m < 18446744073709551616) : a * b / 18446744073709551616 < m := by
  rw [Nat.div_lt_iff_lt_mul (by decide)]
  have h1 : a * b ≤ a * m := Nat.mul_le_mul_left _ (Nat.le_of_lt hb)
  have h2 : a * m < m * m := Nat.mul_lt_mul_of_pos_right ha (by omega)
  have h3 : m * m ≤ m * 18446744073709551616 := Nat.mul_le_mul_left _ (by omega)
  omega
end
/-- the bit of a number that is the (i+1)-th from above -/
theorem bit_step {k i n : Nat} (h : i < n) : k / 2 ^ (n - (i + 1)) = 2 * (k / 2 ^ (n - i)) + k / 2 ^ (n - 1 - i) % 2 := by
  have e1 : n - (i + 1) = n - 1 - i := by omega
  have e2 : n - i = (n - 1 - i) + 1 := by omega
  rw [e1, e2, Nat.pow_succ, ← Nat.div_div_eq_div_mul]
  omega
theorem nlen_top (k : Nat) : k / 2 ^ nlen k = 0 := Nat.div_eq_of_lt (nlen_lt k)
theorem mpow_bit {m a k i n : Nat} (h : i < n) : (if k / 2 ^ (n - 1 - i) % 2 = 1 then mpow m a (k / 2 ^ (n - i)) * mpow m a (k / 2 ^ (n - i)) % m * a % m else mpow m a (k / 2 ^ (n - i)) * mpow m a (k / 2 ^ (n - i)) % m) = mpow m a (k / 2 ^ (n - (i + 1))) := by
  rw [bit_step h, mpow_sq]
  split
  · rename_i h1; rw [h1, mpow_mul]
  · rename_i h1
    have : k / 2 ^ (n - 1 - i) % 2 = 0 := by omega
    rw [this]; rfl
end Go.Proofs.Ch
