/- Long division of two words by one, in plain numbers; the length of a number in bits. -/
import Derived.Test.YtglmkcfmcoianaaGreatDoorN
namespace Go.Proofs.Ch
open Go

def nlen (n : Nat) : Nat := if h : n = 0 then 0 else nlen (n / 2) + 1
termination_by n
decreasing_by omega

theorem nlen_zero : nlen 0 = 0 := by unfold nlen; simp
theorem nlen_pos {n : Nat} (h : n ≠ 0) : nlen n = nlen (n / 2) + 1 := by rw [nlen]; simp [h]
theorem nlen_shift : ∀ (k n : Nat), 2 ^ k ≤ n → nlen n = k + nlen (n / 2 ^ k)
  | 0, n, _ => by simp
  | k + 1, n, h => by
    have hp : 0 < 2 ^ k := Nat.pow_pos (by omega)
    have h2 : 2 ^ (k + 1) = 2 * 2 ^ k := by rw [Nat.pow_succ]; omega
    rw [nlen_pos (by omega), nlen_shift k (n / 2) (by rw [Nat.le_div_iff_mul_le (by omega)]; omega), h2, ← Nat.div_div_eq_div_mul]
    omega
theorem nlen_bound : ∀ (k n : Nat), n < 2 ^ k → nlen n ≤ k
  | 0, n, h => by have : n = 0 := by simpa using h
                  rw [this, nlen_zero]; omega
  | k + 1, n, h => by
    by_cases h0 : n = 0
    · rw [h0, nlen_zero]; omega
    · rw [nlen_pos h0]
      have := nlen_bound k (n / 2) (by rw [Nat.pow_succ] at h; omega)
      omega
theorem nlen_lt (n : Nat) : n < 2 ^ nlen n := by
  induction n using Nat.strongRecOn with
  | _ n ih =>
    by_cases h0 : n = 0
    · rw [h0, nlen_zero]; omega
    · rw [nlen_pos h0, Nat.pow_succ]
      have := ih (n / 2) (by omega)
      omega
theorem nlen_ge {n : Nat} (h0 : n ≠ 0) : 2 ^ (nlen n - 1) ≤ n := by
  induction n using Nat.strongRecOn with
  | _ n ih =>
    rw [nlen_pos h0]
    by_cases h1 : n / 2 = 0
    · rw [h1, nlen_zero]; simp; omega
    · have := ih (n / 2) (by omega) h1
      have hp : nlen (n / 2) ≠ 0 := by rw [nlen_pos h1]; omega
      rw [show nlen (n / 2) + 1 - 1 = (nlen (n / 2) - 1) + 1 from by omega, Nat.pow_succ]
      omega

/-! one digit of a quotient, base 2^32 -/
/-- u: the two upper digits; u1: the next one; y = y1 * 2^32 + y0 is normalized -/
structure DInv (y1 y0 u u1 q r : Nat) : Prop where
  eq : q * y1 + r = u
  rlt : r < 4294967296
  ge : (u * 4294967296 + u1) / (y1 * 4294967296 + y0) ≤ q
  le : q ≤ 4294967297

structure DNorm (y1 y0 u u1 : Nat) : Prop where
  y1lo : 2147483648 ≤ y1
  y1hi : y1 < 4294967296
  y0hi : y0 < 4294967296
  ult : u < y1 * 4294967296 + y0
  u1hi : u1 < 4294967296

section
variable {y1 y0 u u1 q r : Nat}
theorem DNorm.start (n : DNorm y1 y0 u u1) : DInv y1 y0 u u1 (u / y1) (u - u / y1 * y1) := by
  have hy : 0 < y1 := by have := n.y1lo; omega
  have hm := Nat.div_add_mod u y1
  have hml := Nat.mod_lt u hy
  have hc : y1 * (u / y1) = u / y1 * y1 := Nat.mul_comm _ _
  have hr : u - u / y1 * y1 = u % y1 := by omega
  refine ⟨by omega, by rw [hr]; have := n.y1hi; omega, ?_, ?_⟩
  · have hY : 0 < y1 * 4294967296 + y0 := by omega
    rw [Nat.div_le_iff_le_mul_add_pred hY]
    have hlt : u < (u / y1 + 1) * y1 := by rw [Nat.add_mul]; omega
    have h1 : u * 4294967296 + u1 < (u / y1 + 1) * y1 * 4294967296 := by have := n.u1hi; omega
    generalize u / y1 = Q at *
    have e1 : (Q + 1) * y1 * 4294967296 = (y1 * 4294967296) * Q + y1 * 4294967296 := by
      rw [Nat.add_mul, Nat.add_mul, Nat.one_mul, Nat.mul_comm Q y1, Nat.mul_right_comm]
    have e2 : (y1 * 4294967296 + y0) * Q = (y1 * 4294967296) * Q + y0 * Q := Nat.add_mul _ _ _
    omega
  · rw [Nat.div_le_iff_le_mul_add_pred hy]
    have := n.ult; have := n.y0hi; have := n.y1lo
    omega

theorem DNorm.qlt (n : DNorm y1 y0 u u1) : (u * 4294967296 + u1) / (y1 * 4294967296 + y0) < 4294967296 := by
  have hy := n.y1lo
  rw [Nat.div_lt_iff_lt_mul (by omega)]
  have := n.ult; have := n.u1hi
  omega

theorem DInv.prod (i : DInv y1 y0 u u1 q r) : q * (y1 * 4294967296 + y0) + (4294967296 * r + u1) = (u * 4294967296 + u1) + q * y0 := by
  have := i.eq
  have e : q * (y1 * 4294967296 + y0) = (q * y1) * 4294967296 + q * y0 := by rw [Nat.mul_add, Nat.mul_assoc]
  rw [e, ← this, Nat.add_mul]
  omega

/-- the digit is too great: one less -/
theorem DInv.next (n : DNorm y1 y0 u u1) (i : DInv y1 y0 u u1 q r) (h : 4294967296 ≤ q ∨ 4294967296 * r + u1 < q * y0) : 1 ≤ q ∧ (q - 1) * y1 + (r + y1) = u ∧ (u * 4294967296 + u1) / (y1 * 4294967296 + y0) ≤ q - 1 := by
  have hq := n.qlt
  have hge := i.ge
  have hlt : (u * 4294967296 + u1) / (y1 * 4294967296 + y0) < q := by
    rcases h with h | h
    · exact Nat.lt_of_lt_of_le hq h
    · have hp := i.prod
      have hy := n.y1lo
      rw [Nat.div_lt_iff_lt_mul (by omega)]
      omega
  have hle : (u * 4294967296 + u1) / (y1 * 4294967296 + y0) ≤ q - 1 := Nat.le_sub_one_of_lt hlt
  refine ⟨Nat.lt_of_le_of_lt (Nat.zero_le _) hlt, ?_, hle⟩
  have hq1 : 1 ≤ q := Nat.lt_of_le_of_lt (Nat.zero_le _) hlt
  have := i.eq
  obtain ⟨p, rfl⟩ : ∃ p, q = p + 1 := ⟨q - 1, by omega⟩
  rw [Nat.add_mul] at this
  simp
  omega

/-- no longer too great: the digit -/
theorem digit_of (n : DNorm y1 y0 u u1) (hge : (u * 4294967296 + u1) / (y1 * 4294967296 + y0) ≤ q) (heq : q * y1 + r = u) (h : q * y0 ≤ 4294967296 * r + u1) : q = (u * 4294967296 + u1) / (y1 * 4294967296 + y0) := by
  have e : q * (y1 * 4294967296 + y0) = (q * y1) * 4294967296 + q * y0 := by rw [Nat.mul_add, Nat.mul_assoc]
  have hy := n.y1lo
  have hle : q ≤ (u * 4294967296 + u1) / (y1 * 4294967296 + y0) := by
    rw [Nat.le_div_iff_mul_le (by omega), e, ← heq, Nat.add_mul]
    omega
  omega
/-- left by the break -/
theorem digit_break (n : DNorm y1 y0 u u1) (hq : q ≤ 4294967296) (hr : 4294967296 ≤ r) (hge : (u * 4294967296 + u1) / (y1 * 4294967296 + y0) ≤ q) (heq : q * y1 + r = u) : q = (u * 4294967296 + u1) / (y1 * 4294967296 + y0) := by
  refine digit_of n hge heq ?_
  have : q * y0 ≤ 4294967296 * 4294967295 := Nat.mul_le_mul hq (by have := n.y0hi; omega)
  omega
end

/-- the rest, as it is reckoned modulo 2^64 -/
theorem rest_wrap {u u1 y q : Nat} (hq : q = (u * 4294967296 + u1) / y) (hy : 0 < y) (hy2 : y < 18446744073709551616) :
    (((u * 4294967296 % 18446744073709551616 + u1) % 18446744073709551616) + (18446744073709551616 - q * y % 18446744073709551616)) % 18446744073709551616 = (u * 4294967296 + u1) % y := by
  have h1 : (u * 4294967296 + u1) % y < y := Nat.mod_lt _ hy
  have h2 := Nat.div_add_mod (u * 4294967296 + u1) y
  rw [← hq, Nat.mul_comm] at h2
  omega

/-- the two digits together, and the rest, brought back -/
theorem long_division {hi lo y s Y : Nat} (hY : Y = y * 2 ^ s) (hhi : hi < y) (hy : 0 < y) (hlo : lo < 18446744073709551616) (hs : s ≤ 63)
    {U L1 L0 : Nat} (hU : U * 18446744073709551616 + (L1 * 4294967296 + L0) = (hi * 18446744073709551616 + lo) * 2 ^ s) (hL0 : L0 < 4294967296) :
    (U * 4294967296 + L1) / Y * 4294967296 + ((U * 4294967296 + L1) % Y * 4294967296 + L0) / Y = (hi * 18446744073709551616 + lo) / y ∧
    (((U * 4294967296 + L1) % Y * 4294967296 + L0) % Y) / 2 ^ s = (hi * 18446744073709551616 + lo) % y := by
  have hp : 0 < 2 ^ s := Nat.pow_pos (by omega)
  have hY0 : 0 < Y := by rw [hY]; exact Nat.mul_pos hy hp
  have hN : (U * 4294967296 + L1) * 4294967296 + L0 = (hi * 18446744073709551616 + lo) * 2 ^ s := by
    rw [← hU]
    clear hU hY hY0 hp
    omega
  clear hU
  obtain ⟨N1, hN1⟩ : ∃ N1, N1 = U * 4294967296 + L1 := ⟨_, rfl⟩
  rw [← hN1] at hN ⊢
  have hd := Nat.div_add_mod N1 Y
  have hA : N1 * 4294967296 + L0 = Y * (N1 / Y * 4294967296) + (N1 % Y * 4294967296 + L0) := by
    have e : Y * (N1 / Y * 4294967296) = (Y * (N1 / Y)) * 4294967296 := (Nat.mul_assoc Y (N1 / Y) 4294967296).symm
    generalize Y * (N1 / Y * 4294967296) = A1 at *
    generalize Y * (N1 / Y) = A2 at *
    omega
  obtain ⟨T, hT⟩ : ∃ T, T = N1 % Y * 4294967296 + L0 := ⟨_, rfl⟩
  obtain ⟨S, hS⟩ : ∃ S, S = N1 / Y * 4294967296 := ⟨_, rfl⟩
  obtain ⟨M, hM⟩ : ∃ M, M = N1 * 4294967296 + L0 := ⟨_, rfl⟩
  rw [← hT, ← hS, ← hM] at hA
  rw [← hM] at hN
  rw [← hT, ← hS]
  subst hA
  have hq : (Y * S + T) / Y = S + T / Y := Nat.mul_add_div hY0 _ _
  have hr : (Y * S + T) % Y = T % Y := Nat.mul_add_mod _ _ _
  have hq2 : (hi * 18446744073709551616 + lo) * 2 ^ s / Y = (hi * 18446744073709551616 + lo) / y := by
    rw [hY, Nat.mul_div_mul_right _ _ hp]
  have hr2 : (hi * 18446744073709551616 + lo) * 2 ^ s % Y = (hi * 18446744073709551616 + lo) % y * 2 ^ s := by
    rw [hY, Nat.mul_mod_mul_right]
  refine ⟨by rw [← hq, hN, hq2], ?_⟩
  rw [← hr, hN, hr2, Nat.mul_div_cancel _ hp]

theorem or_parts {hi lo s : Nat} (h1 : hi * 2 ^ s < 18446744073709551616) (hlo : lo < 18446744073709551616) (hs : s ≤ 63) :
    (hi * 2 ^ s % 18446744073709551616) ||| (lo / 2 ^ (64 - s)) = hi * 2 ^ s + lo / 2 ^ (64 - s) := by
  rw [Nat.mod_eq_of_lt h1]
  have h2 : lo / 2 ^ (64 - s) < 2 ^ s := by
    rw [Nat.div_lt_iff_lt_mul (Nat.pow_pos (by omega)), ← Nat.pow_add, show s + (64 - s) = 64 from by omega]
    exact hlo
  have := Nat.shiftLeft_add_eq_or_of_lt h2 hi
  rw [Nat.shiftLeft_eq] at this
  exact this.symm

/-- the normalized dividend -/
theorem norm_dividend {hi lo s : Nat} (hs : s ≤ 63) (hlo : lo < 18446744073709551616) :
    (hi * 2 ^ s + lo / 2 ^ (64 - s)) * 18446744073709551616 + (lo * 2 ^ s % 18446744073709551616) = (hi * 18446744073709551616 + lo) * 2 ^ s := by
  have e1 : lo * 2 ^ s / 18446744073709551616 = lo / 2 ^ (64 - s) := by
    have : (18446744073709551616 : Nat) = 2 ^ (64 - s) * 2 ^ s := by rw [← Nat.pow_add, show 64 - s + s = 64 from by omega]
    rw [this, Nat.mul_div_mul_right _ _ (Nat.pow_pos (by omega))]
  have e2 := Nat.div_add_mod (lo * 2 ^ s) 18446744073709551616
  rw [e1] at e2
  rw [Nat.add_mul, Nat.add_mul, Nat.mul_right_comm hi]
  omega
end Go.Proofs.Ch
namespace Go.Proofs.Ch
open Go
theorem nlen_i64 {n : Nat} (h : n < 256) : IntKind.i64.wrap ((nlen n : Nat) : Int) = ((nlen n : Nat) : Int) := by
  have := nlen_bound 8 n h
  exact wrap_i64 (by omega) (by omega)
theorem nlen_add {c : Int} {n : Nat} (h : n < 256) (h0 : 0 ≤ c) (h1 : c ≤ 1000) : IntKind.i64.wrap (c + ((nlen n : Nat) : Int)) = c + ((nlen n : Nat) : Int) := by
  have := nlen_bound 8 n h
  exact wrap_i64 (by omega) (by omega)
theorem len64_1 {a : Nat} (h1 : 4294967296 ≤ a) : nlen a = 32 + nlen (a / 2 ^ 32) := nlen_shift 32 a h1
theorem len64_2 {a : Nat} (h1 : 65536 ≤ a) : nlen a = 16 + nlen (a / 2 ^ 16) := nlen_shift 16 a h1
theorem len64_3 {a : Nat} (h1 : 256 ≤ a) : nlen a = 8 + nlen (a / 2 ^ 8) := nlen_shift 8 a h1
theorem v_indexstrn {P : Program} {e : Env} {h : Heap} {L : Owned} {t : TypeId} {x y : Operand} {k : IntKind} {i : Int} {n z : Nat} {s : ByteArray} (hu : Und P t .string) (hx : ev e x = some (.string s)) (hy : ev e y = some (.int k i)) (hn : i = (n : Int)) (hb : s[n]? = some (UInt8.ofNat z)) (hz : z < 256) : OpV P (.index t x y) e h L (.int .u8 (z : Int)) := by
  have := v_indexstr (P := P) (h := h) (L := L) hu hx hy hn hb
  simpa [byteV, Nat.mod_eq_of_lt hz] using this
theorem nlen_256 {n : Nat} (h : n < 256) : nlen n < 256 := by have := nlen_bound 8 n h; omega
end Go.Proofs.Ch
namespace Go.Proofs.Ch
theorem norm_y {c : Nat} (h0 : c ≠ 0) (hc : c < 18446744073709551616) : 64 - nlen c ≤ 63 ∧ c * 2 ^ (64 - nlen c) < 18446744073709551616 ∧ 9223372036854775808 ≤ c * 2 ^ (64 - nlen c) := by
  have h1 := nlen_bound 64 c hc
  have h2 : 1 ≤ nlen c := by rw [nlen_pos h0]; omega
  have h3 := nlen_lt c
  have h4 := nlen_ge h0
  refine ⟨by omega, ?_, ?_⟩
  · have : c * 2 ^ (64 - nlen c) < 2 ^ nlen c * 2 ^ (64 - nlen c) := Nat.mul_lt_mul_of_pos_right h3 (Nat.pow_pos (by omega))
    rw [← Nat.pow_add, show nlen c + (64 - nlen c) = 64 from by omega] at this
    exact this
  · have : 2 ^ (nlen c - 1) * 2 ^ (64 - nlen c) ≤ c * 2 ^ (64 - nlen c) := Nat.mul_le_mul_right _ h4
    rw [← Nat.pow_add, show nlen c - 1 + (64 - nlen c) = 63 from by omega] at this
    exact this
/-- the upper part of the dividend, brought up -/
theorem norm_u {a b c s : Nat} (ha : a < c) (hb : b < 18446744073709551616) (hs : s ≤ 63) (hc : c * 2 ^ s < 18446744073709551616) :
    (a * 2 ^ s % 18446744073709551616 ||| b / 2 ^ (64 - s)) = a * 2 ^ s + b / 2 ^ (64 - s) ∧ a * 2 ^ s + b / 2 ^ (64 - s) < c * 2 ^ s ∧ a * 2 ^ s < 18446744073709551616 ∧ b / 2 ^ (64 - s) < 18446744073709551616 := by
  have h1 : a * 2 ^ s + 2 ^ s ≤ c * 2 ^ s := by
    have : (a + 1) * 2 ^ s ≤ c * 2 ^ s := Nat.mul_le_mul_right _ ha
    rwa [Nat.add_mul, Nat.one_mul] at this
  have h2 : b / 2 ^ (64 - s) < 2 ^ s := by
    rw [Nat.div_lt_iff_lt_mul (Nat.pow_pos (by omega)), ← Nat.pow_add, show s + (64 - s) = 64 from by omega]
    exact hb
  have h3 : a * 2 ^ s < 18446744073709551616 := Nat.lt_of_le_of_lt (Nat.le_trans (Nat.le_add_right _ _) h1) hc
  exact ⟨or_parts h3 hb hs, Nat.lt_of_lt_of_le (Nat.add_lt_add_left h2 _) h1, h3, Nat.lt_of_le_of_lt (Nat.div_le_self _ _) hb⟩
theorem dnorm {Y U u1 : Nat} (h1 : 9223372036854775808 ≤ Y) (h2 : Y < 18446744073709551616) (hU : U < Y) (hu : u1 < 4294967296) : DNorm (Y / 2 ^ 32) (Y % 2 ^ 32) U u1 :=
  ⟨by omega, by omega, by omega, by omega, hu⟩
theorem dsplit (Y : Nat) : Y / 2 ^ 32 * 4294967296 + Y % 2 ^ 32 = Y := by omega
end Go.Proofs.Ch
namespace Go.Proofs.Ch
open Go
theorem mul64_bounds (a b : Nat) (ha : a < 18446744073709551616) (hb : b < 18446744073709551616) :
   a % 2 ^ 32 * (b % 2 ^ 32) < 18446744073709551616 ∧ a / 2 ^ 32 * (b % 2 ^ 32) < 18446744073709551616 ∧
   a / 2 ^ 32 * (b % 2 ^ 32) + a % 2 ^ 32 * (b % 2 ^ 32) / 2 ^ 32 < 18446744073709551616 ∧
   a % 2 ^ 32 * (b / 2 ^ 32) < 18446744073709551616 ∧
   (a / 2 ^ 32 * (b % 2 ^ 32) + a % 2 ^ 32 * (b % 2 ^ 32) / 2 ^ 32) % 2 ^ 32 + a % 2 ^ 32 * (b / 2 ^ 32) < 18446744073709551616 ∧
   a / 2 ^ 32 * (b / 2 ^ 32) < 18446744073709551616 ∧
   a / 2 ^ 32 * (b / 2 ^ 32) + (a / 2 ^ 32 * (b % 2 ^ 32) + a % 2 ^ 32 * (b % 2 ^ 32) / 2 ^ 32) / 2 ^ 32 < 18446744073709551616 ∧
   a / 2 ^ 32 * (b / 2 ^ 32) + (a / 2 ^ 32 * (b % 2 ^ 32) + a % 2 ^ 32 * (b % 2 ^ 32) / 2 ^ 32) / 2 ^ 32 + ((a / 2 ^ 32 * (b % 2 ^ 32) + a % 2 ^ 32 * (b % 2 ^ 32) / 2 ^ 32) % 2 ^ 32 + a % 2 ^ 32 * (b / 2 ^ 32)) / 2 ^ 32 < 18446744073709551616 ∧
   a / 2 ^ 32 * (b / 2 ^ 32) + (a / 2 ^ 32 * (b % 2 ^ 32) + a % 2 ^ 32 * (b % 2 ^ 32) / 2 ^ 32) / 2 ^ 32 + ((a / 2 ^ 32 * (b % 2 ^ 32) + a % 2 ^ 32 * (b % 2 ^ 32) / 2 ^ 32) % 2 ^ 32 + a % 2 ^ 32 * (b / 2 ^ 32)) / 2 ^ 32 = a * b / 18446744073709551616 ∧ True := by
  have hx0 : a % 2 ^ 32 < 4294967296 := by omega
  have hx1 : a / 2 ^ 32 < 4294967296 := by omega
  have hy0 : b % 2 ^ 32 < 4294967296 := by omega
  have hy1 : b / 2 ^ 32 < 4294967296 := by omega
  have ea : a = a / 2 ^ 32 * 4294967296 + a % 2 ^ 32 := by omega
  have eb : b = b / 2 ^ 32 * 4294967296 + b % 2 ^ 32 := by omega
  have eab : a * b = (a / 2 ^ 32 * 4294967296 + a % 2 ^ 32) * (b / 2 ^ 32 * 4294967296 + b % 2 ^ 32) := by rw [← ea, ← eb]
  generalize a / 2 ^ 32 = x1 at *
  generalize a % 2 ^ 32 = x0 at *
  generalize b / 2 ^ 32 = y1 at *
  generalize b % 2 ^ 32 = y0 at *
  have p00 : x0 * y0 ≤ 4294967295 * 4294967295 := Nat.mul_le_mul (by omega) (by omega)
  have p10 : x1 * y0 ≤ 4294967295 * 4294967295 := Nat.mul_le_mul (by omega) (by omega)
  have p01 : x0 * y1 ≤ 4294967295 * 4294967295 := Nat.mul_le_mul (by omega) (by omega)
  have p11 : x1 * y1 ≤ 4294967295 * 4294967295 := Nat.mul_le_mul (by omega) (by omega)
  have e2 : a * b = x1 * y1 * 18446744073709551616 + (x1 * y0 + x0 * y1) * 4294967296 + x0 * y0 := by
    rw [eab, Nat.add_mul, Nat.mul_add, Nat.mul_add]
    have t1 : x1 * 4294967296 * (y1 * 4294967296) = x1 * y1 * 18446744073709551616 := by
      rw [Nat.mul_mul_mul_comm]
    have t2 : x1 * 4294967296 * y0 = x1 * y0 * 4294967296 := by rw [Nat.mul_right_comm]
    have t3 : x0 * (y1 * 4294967296) = x0 * y1 * 4294967296 := by rw [Nat.mul_assoc]
    rw [t1, t2, t3, Nat.add_mul]; omega
  rw [e2]
  generalize x0 * y0 = q00 at *
  generalize x1 * y0 = q10 at *
  generalize x0 * y1 = q01 at *
  generalize x1 * y1 = q11 at *
  refine ⟨by omega, by omega, by omega, by omega, by omega, by omega, by omega, by omega, by omega, trivial⟩
theorem q_small {q y : Nat} (hq : q < 4294967296) (hy : y < 4294967296) : q * y < 18446744073709551616 := by
  have : q * y ≤ 4294967295 * 4294967295 := Nat.mul_le_mul (by omega) (by omega)
  omega
theorem div_low {a b c : Nat} (h : a = 0) : (Value.tuple ⟨[.int .u64 ((b / c : Nat) : Int), .int .u64 ((b % c : Nat) : Int)]⟩) = .tuple ⟨[.int .u64 (((a * 18446744073709551616 + b) / c : Nat) : Int), .int .u64 (((a * 18446744073709551616 + b) % c : Nat) : Int)]⟩ := by
  rw [h, Nat.zero_mul, Nat.zero_add]
theorem join32 {Q1 Q0 : Nat} (h : Q1 * 4294967296 + Q0 < 18446744073709551616) : (Q1 * 4294967296 % 18446744073709551616 + Q0) % 18446744073709551616 = Q1 * 4294967296 + Q0 := by omega
theorem div_final {a b c s Y U Lo V : Nat} (hY : Y = c * 2 ^ s) (ha : a < c) (hb : b < 18446744073709551616) (hs : s ≤ 63) (hU : U * 18446744073709551616 + Lo = (a * 18446744073709551616 + b) * 2 ^ s) (_hLo : Lo < 18446744073709551616)
    (hV : V = (U * 4294967296 + Lo / 2 ^ 32) % Y) (hY2 : Y < 18446744073709551616) (hY1 : 9223372036854775808 ≤ Y) :
    (Value.tuple ⟨[.int .u64 (((((U * 4294967296 + Lo / 2 ^ 32) / Y * 4294967296 % 18446744073709551616) + (V * 4294967296 + Lo % 2 ^ 32) / Y) % 18446744073709551616 : Nat) : Int), .int .u64 ((((V * 4294967296 % 18446744073709551616 + Lo % 2 ^ 32) % 18446744073709551616 + (18446744073709551616 - (V * 4294967296 + Lo % 2 ^ 32) / Y * Y % 18446744073709551616)) % 18446744073709551616 / 2 ^ s : Nat) : Int)]⟩)
    = .tuple ⟨[.int .u64 (((a * 18446744073709551616 + b) / c : Nat) : Int), .int .u64 (((a * 18446744073709551616 + b) % c : Nat) : Int)]⟩ := by
  rw [rest_wrap (y := Y) rfl (by omega) hY2]
  have hL : Lo / 2 ^ 32 * 4294967296 + Lo % 2 ^ 32 = Lo := dsplit Lo
  obtain ⟨r1, r2⟩ := long_division (L1 := Lo / 2 ^ 32) (L0 := Lo % 2 ^ 32) hY ha (by omega) hb hs (by rw [hL]; exact hU) (Nat.mod_lt _ (by decide))
  rw [← hV] at r1 r2
  have hq : (a * 18446744073709551616 + b) / c < 18446744073709551616 := by
    rw [Nat.div_lt_iff_lt_mul (by omega)]; omega
  rw [r2]
  rw [← r1] at hq ⊢
  have e := join32 hq
  rw [e]
end Go.Proofs.Ch
