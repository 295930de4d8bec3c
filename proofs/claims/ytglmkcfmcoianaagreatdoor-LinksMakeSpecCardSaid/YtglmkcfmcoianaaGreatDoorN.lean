/- Operations on unsigned integers, told on natural numbers; on 32-bit words. No program is named here. -/
import Derived.Test.YtglmkcfmcoianaaGreatDoorM
import Derived.Test.YtglmkcfmcoianaaGreatDoorG
namespace Go.Proofs.Ch
open Go
section
variable {P : Program} {e : Env} {h : Heap} {L : Owned} {xt yt : TypeId} {x y : Operand} {k : IntKind} {m n : Nat}

theorem bits_val : IntKind.u64.bits = 64 ∧ IntKind.u32.bits = 32 ∧ IntKind.u8.bits = 8 := ⟨rfl, rfl, rfl⟩

theorem v_addn (hx : ev e x = some (.int k (m : Int))) (hy : ev e y = some (.int k (n : Int))) (hk : k.signed = false) (hb : m + n < 2 ^ k.bits) : OpV P (.binOp .add xt x y yt) e h L (.int k ((m + n : Nat) : Int)) :=
  v_add hx hy (by rw [← Int.natCast_add]; exact wrap_unsigned k hk _ hb)
theorem v_addw (hx : ev e x = some (.int k (m : Int))) (hy : ev e y = some (.int k (n : Int))) (hk : k.signed = false) : OpV P (.binOp .add xt x y yt) e h L (.int k (((m + n) % 2 ^ k.bits : Nat) : Int)) :=
  v_add hx hy (by rw [← Int.natCast_add]; exact wrap_unsigned_mod k hk _)
theorem v_subn (hx : ev e x = some (.int k (m : Int))) (hy : ev e y = some (.int k (n : Int))) (hk : k.signed = false) (hle : n ≤ m) (hb : m < 2 ^ k.bits) : OpV P (.binOp .sub xt x y yt) e h L (.int k ((m - n : Nat) : Int)) :=
  v_sub hx hy (by rw [← Int.ofNat_sub hle]; exact wrap_unsigned k hk _ (by omega))
theorem v_subw (hx : ev e x = some (.int k (m : Int))) (hy : ev e y = some (.int k (n : Int))) (hk : k.signed = false) (hn : n < 2 ^ k.bits) : OpV P (.binOp .sub xt x y yt) e h L (.int k (((m + (2 ^ k.bits - n)) % 2 ^ k.bits : Nat) : Int)) :=
  v_sub hx hy (by
    rw [← wrap_unsigned_mod k hk]
    simp only [IntKind.wrap, hk, Bool.false_and, Bool.false_eq_true, if_false]
    have : ((m + (2 ^ k.bits - n) : Nat) : Int) = (m : Int) - n + (2 ^ k.bits : Int) := by
      rw [Int.natCast_add, Int.ofNat_sub (Nat.le_of_lt hn)]; simp; omega
    rw [this]; simp)
theorem v_muln (hx : ev e x = some (.int k (m : Int))) (hy : ev e y = some (.int k (n : Int))) (hk : k.signed = false) (hb : m * n < 2 ^ k.bits) : OpV P (.binOp .mul xt x y yt) e h L (.int k ((m * n : Nat) : Int)) :=
  v_mul hx hy (by rw [← Int.natCast_mul]; exact wrap_unsigned k hk _ hb)
theorem v_mulw (hx : ev e x = some (.int k (m : Int))) (hy : ev e y = some (.int k (n : Int))) (hk : k.signed = false) : OpV P (.binOp .mul xt x y yt) e h L (.int k (((m * n) % 2 ^ k.bits : Nat) : Int)) :=
  v_mul hx hy (by rw [← Int.natCast_mul]; exact wrap_unsigned_mod k hk _)
theorem v_quon (hx : ev e x = some (.int k (m : Int))) (hy : ev e y = some (.int k (n : Int))) (hk : k.signed = false) (h0 : n ≠ 0) (hb : m < 2 ^ k.bits) : OpV P (.binOp .quo xt x y yt) e h L (.int k ((m / n : Nat) : Int)) :=
  v_quo hx hy (by simpa using h0) (by
    rw [show ((m : Int).tdiv (n : Int)) = ((m / n : Nat) : Int) from by simp]
    exact wrap_unsigned k hk _ (Nat.lt_of_le_of_lt (Nat.div_le_self _ _) hb))
theorem v_remn (hx : ev e x = some (.int k (m : Int))) (hy : ev e y = some (.int k (n : Int))) (h0 : n ≠ 0) : OpV P (.binOp .rem xt x y yt) e h L (.int k ((m % n : Nat) : Int)) :=
  v_rem hx hy (by simpa using h0) (by rw [Int.tmod_eq_emod_of_nonneg (by omega)]; simp)
theorem v_andn (hx : ev e x = some (.int k (m : Int))) (hy : ev e y = some (.int k (n : Int))) (hk : k.signed = false) (hm : m < 2 ^ k.bits) (hn : n < 2 ^ k.bits) : OpV P (.binOp .and xt x y yt) e h L (.int k ((m &&& n : Nat) : Int)) :=
  v_and hx hy (by rw [bits_and k hm hn]; exact wrap_unsigned k hk _ (Nat.lt_of_le_of_lt Nat.and_le_left hm))
theorem v_orn (hx : ev e x = some (.int k (m : Int))) (hy : ev e y = some (.int k (n : Int))) (hk : k.signed = false) (hm : m < 2 ^ k.bits) (hn : n < 2 ^ k.bits) : OpV P (.binOp .or xt x y yt) e h L (.int k ((m ||| n : Nat) : Int)) :=
  v_or hx hy (by rw [bits_or k hm hn]; exact wrap_unsigned k hk _ (Nat.or_lt_two_pow hm hn))
theorem v_xorn (hx : ev e x = some (.int k (m : Int))) (hy : ev e y = some (.int k (n : Int))) (hk : k.signed = false) (hm : m < 2 ^ k.bits) (hn : n < 2 ^ k.bits) : OpV P (.binOp .xor xt x y yt) e h L (.int k ((m ^^^ n : Nat) : Int)) :=
  v_xor hx hy (by rw [bits_xor k hm hn]; exact wrap_unsigned k hk _ (Nat.xor_lt_two_pow hm hn))
/-- the low bits -/
theorem v_low (j : Nat) (hx : ev e x = some (.int k (m : Int))) (hy : ev e y = some (.int k (n : Int))) (hk : k.signed = false) (hm : m < 2 ^ k.bits) (hj : j ≤ k.bits) (hn : n = 2 ^ j - 1) : OpV P (.binOp .and xt x y yt) e h L (.int k ((m % 2 ^ j : Nat) : Int)) := by
  subst hn
  have h2 : 2 ^ j ≤ 2 ^ k.bits := Nat.pow_le_pow_right (by omega) hj
  have hp : 0 < 2 ^ j := Nat.pow_pos (by omega)
  rw [← Nat.and_two_pow_sub_one_eq_mod]
  exact v_andn hx hy hk hm (by omega)
theorem v_shrn {yk : IntKind} {s : Nat} (hx : ev e x = some (.int k (m : Int))) (hy : ev e y = some (.int yk (s : Int))) (hm : m < 2 ^ k.bits) : OpV P (.binOp .shr xt x y yt) e h L (.int k ((m / 2 ^ s : Nat) : Int)) :=
  v_shr hx hy (by omega) (by
    rw [fdiv_pow, Int.toNat_natCast]
    by_cases hs : s ≤ k.bits
    · rw [Nat.min_eq_left hs]
    · rw [Nat.min_eq_right (by omega), Nat.div_eq_of_lt hm, Nat.div_eq_of_lt (Nat.lt_of_lt_of_le hm (Nat.pow_le_pow_right (by omega) (by omega)))])
theorem v_shln {yk : IntKind} {s : Nat} (hx : ev e x = some (.int k (m : Int))) (hy : ev e y = some (.int yk (s : Int))) (hk : k.signed = false) : OpV P (.binOp .shl xt x y yt) e h L (.int k (((m * 2 ^ s) % 2 ^ k.bits : Nat) : Int)) :=
  v_shl hx hy (by omega) (by
    rw [Int.toNat_natCast]
    have e1 : ((m : Int) * 2 ^ (min s k.bits)) = ((m * 2 ^ (min s k.bits) : Nat) : Int) := by simp
    rw [e1, wrap_unsigned_mod k hk]
    by_cases hs : s ≤ k.bits
    · rw [Nat.min_eq_left hs]
    · rw [Nat.min_eq_right (by omega), Nat.mul_mod_left, show s = k.bits + (s - k.bits) from by omega, Nat.pow_add, ← Nat.mul_assoc, Nat.mul_comm m, Nat.mul_assoc, Nat.mul_mod_right])
theorem v_convn {s d : TypeId} {k' : IntKind} {du : TypeDesc} (hu : Und P s du) (hu' : Und P d (.int k')) (hx : ev e x = some (.int k (m : Int))) (hk : k'.signed = false) : OpV P (.convert s d x) e h L (.int k' ((m % 2 ^ k'.bits : Nat) : Int)) :=
  v_conv hu hu' hx (wrap_unsigned_mod k' hk _)
theorem v_ltn (hx : ev e x = some (.int k (m : Int))) (hy : ev e y = some (.int k (n : Int))) : OpV P (.binOp .lss xt x y yt) e h L (.bool (decide (m < n))) := by
  have := v_lss (P := P) (h := h) (L := L) (xt := xt) (yt := yt) hx hy; simpa using this

/-! words of 64 bits, with their wraps told -/
theorem v_addm (hx : ev e x = some (.int .u64 (m : Int))) (hy : ev e y = some (.int .u64 (n : Int))) : OpV P (.binOp .add xt x y yt) e h L (.int .u64 (((m + n) % 18446744073709551616 : Nat) : Int)) := v_addw hx hy rfl
theorem v_subm (hx : ev e x = some (.int .u64 (m : Int))) (hy : ev e y = some (.int .u64 (n : Int))) (hn : n < 18446744073709551616) : OpV P (.binOp .sub xt x y yt) e h L (.int .u64 (((m + (18446744073709551616 - n)) % 18446744073709551616 : Nat) : Int)) := v_subw hx hy rfl hn
theorem v_mulm (hx : ev e x = some (.int .u64 (m : Int))) (hy : ev e y = some (.int .u64 (n : Int))) : OpV P (.binOp .mul xt x y yt) e h L (.int .u64 (((m * n) % 18446744073709551616 : Nat) : Int)) := v_mulw hx hy rfl
theorem v_shlm {yk : IntKind} {s : Nat} (hx : ev e x = some (.int .u64 (m : Int))) (hy : ev e y = some (.int yk (s : Int))) : OpV P (.binOp .shl xt x y yt) e h L (.int .u64 (((m * 2 ^ s) % 18446744073709551616 : Nat) : Int)) := v_shln hx hy rfl
theorem v_shlx {yk : IntKind} {s : Nat} (hx : ev e x = some (.int .u64 (m : Int))) (hy : ev e y = some (.int yk (s : Int))) (hb : m * 2 ^ s < 18446744073709551616) : OpV P (.binOp .shl xt x y yt) e h L (.int .u64 ((m * 2 ^ s : Nat) : Int)) := by
  have := v_shlm (P := P) (h := h) (L := L) (xt := xt) (yt := yt) hx hy
  rwa [Nat.mod_eq_of_lt hb] at this

/-! words of 32 bits -/
def w32 (a : UInt32) : Value := .int .u32 (a.toNat : Int)
variable {a b : UInt32}
theorem u32_lt (a : UInt32) : a.toNat < 2 ^ IntKind.u32.bits := a.toNat_lt
theorem v_add32 (hx : ev e x = some (w32 a)) (hy : ev e y = some (w32 b)) : OpV P (.binOp .add xt x y yt) e h L (w32 (a + b)) := by
  have := v_addw (P := P) (h := h) (L := L) (xt := xt) (yt := yt) (k := .u32) hx hy rfl
  simpa only [w32, UInt32.toNat_add, show (2 : Nat) ^ IntKind.u32.bits = 2 ^ 32 from rfl] using this
theorem v_and32 (hx : ev e x = some (w32 a)) (hy : ev e y = some (w32 b)) : OpV P (.binOp .and xt x y yt) e h L (w32 (a &&& b)) := by
  have := v_andn (P := P) (h := h) (L := L) (xt := xt) (yt := yt) (k := .u32) hx hy rfl (u32_lt a) (u32_lt b)
  simpa only [w32, UInt32.toNat_and] using this
theorem v_or32 (hx : ev e x = some (w32 a)) (hy : ev e y = some (w32 b)) : OpV P (.binOp .or xt x y yt) e h L (w32 (a ||| b)) := by
  have := v_orn (P := P) (h := h) (L := L) (xt := xt) (yt := yt) (k := .u32) hx hy rfl (u32_lt a) (u32_lt b)
  simpa only [w32, UInt32.toNat_or] using this
theorem v_xor32 (hx : ev e x = some (w32 a)) (hy : ev e y = some (w32 b)) : OpV P (.binOp .xor xt x y yt) e h L (w32 (a ^^^ b)) := by
  have := v_xorn (P := P) (h := h) (L := L) (xt := xt) (yt := yt) (k := .u32) hx hy rfl (u32_lt a) (u32_lt b)
  simpa only [w32, UInt32.toNat_xor] using this
/-- a shift right, a shift left, by a number of bits below 32 -/
def shr32 (a : UInt32) (s : Nat) : UInt32 := a >>> (UInt32.ofNat s)
def shl32 (a : UInt32) (s : Nat) : UInt32 := a <<< (UInt32.ofNat s)
/-- turned to the right -/
def ror32 (a : UInt32) (n : Nat) : UInt32 := shl32 a (32 - n) ||| shr32 a n
theorem wrap_neg {n : Nat} (h1 : 1 ≤ n) (h2 : n ≤ 31) : IntKind.u64.wrap (-(n : Int)) = ((18446744073709551616 - n : Nat) : Int) := by
  simp only [IntKind.wrap, IntKind.bits, IntKind.signed]
  simp
  omega
theorem low_neg {n : Nat} (h1 : 1 ≤ n) (h2 : n ≤ 31) : (18446744073709551616 - n) % 2 ^ 5 = 32 - n := by omega
theorem shr32_nat (a : UInt32) {s : Nat} (hs : s < 32) : (shr32 a s).toNat = a.toNat / 2 ^ s := by
  simp [shr32, UInt32.toNat_shiftRight, Nat.shiftRight_eq_div_pow, Nat.mod_eq_of_lt hs, Nat.mod_eq_of_lt (show s < 4294967296 by omega)]
theorem shl32_nat (a : UInt32) {s : Nat} (hs : s < 32) : (shl32 a s).toNat = a.toNat * 2 ^ s % 4294967296 := by
  simp [shl32, UInt32.toNat_shiftLeft, Nat.shiftLeft_eq, Nat.mod_eq_of_lt hs, Nat.mod_eq_of_lt (show s < 4294967296 by omega)]
theorem v_shr32 {yk : IntKind} {s : Nat} (hx : ev e x = some (w32 a)) (hy : ev e y = some (.int yk (s : Int))) (hs : s < 32) : OpV P (.binOp .shr xt x y yt) e h L (w32 (shr32 a s)) := by
  have := v_shrn (P := P) (h := h) (L := L) (xt := xt) (yt := yt) (k := .u32) hx hy (u32_lt a)
  simpa only [w32, shr32_nat a hs] using this
theorem v_shl32 {yk : IntKind} {s : Nat} (hx : ev e x = some (w32 a)) (hy : ev e y = some (.int yk (s : Int))) (hs : s < 32) : OpV P (.binOp .shl xt x y yt) e h L (w32 (shl32 a s)) := by
  have := v_shln (P := P) (h := h) (L := L) (xt := xt) (yt := yt) (k := .u32) hx hy rfl
  simpa only [w32, shl32_nat a hs, show (2 : Nat) ^ IntKind.u32.bits = 4294967296 from rfl] using this
theorem v_not32 {t : TypeId} (hx : ev e x = some (w32 a)) : OpV P (.unOp .xor t x) e h L (w32 (~~~a)) := by
  intro ρ w o hρ _ ho; unfold execOp; rw [ho]
  simp only [hρ _ _ hx, w32, Op.unary, Op.intBits]
  have h1 : (if IntKind.u32.signed then (-1 : Int) else IntKind.u32.max) = ((4294967295 : Nat) : Int) := rfl
  rw [h1]
  have h2 : (BitVec.ofInt IntKind.u32.bits ((4294967295 : Nat) : Int) ^^^ BitVec.ofInt IntKind.u32.bits (a.toNat : Int)).toNat = (~~~a).toNat := by
    rw [bits_xor .u32 (by decide) (u32_lt a)]
    have : (~~~a).toNat = 4294967295 - a.toNat := by simp
    rw [this]
    have key : (4294967295 : Nat) ^^^ a.toNat = 4294967295 - a.toNat := by
      have h3 := congrArg BitVec.toNat (BitVec.allOnes_xor (x := a.toBitVec))
      simpa using h3
    exact key
  rw [h2, wrap_unsigned .u32 rfl (~~~a).toNat (u32_lt _)]
  rfl
end
end Go.Proofs.Ch
