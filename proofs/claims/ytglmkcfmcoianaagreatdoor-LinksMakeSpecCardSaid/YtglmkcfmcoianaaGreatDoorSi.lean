/- Numbers as eight bytes; what is signed. No program is named here. -/
import Derived.Test.YtglmkcfmcoianaaGreatDoorCo
import Derived.Test.YtglmkcfmcoianaaGreatDoorI
namespace Go.Proofs.Ch
open Go
def uu (n : Int) : Nat := (n % 18446744073709551616).toNat
theorem uu_lt (n : Int) : uu n < 18446744073709551616 := by unfold uu; omega
theorem wrap_uu (n : Int) : IntKind.u64.wrap n = ((uu n : Nat) : Int) := by
  unfold uu
  simp only [IntKind.wrap, IntKind.bits, IntKind.signed]
  simp
  omega
def u8p (u j : Nat) : List UInt8 := (List.range j).map (fun k => byteAt u (7 - k))
theorem u8p_next (u j : Nat) : u8p u j ++ [byteAt u (7 - j)] = u8p u (j + 1) := by
  unfold u8p; rw [List.range_succ, List.map_append]; rfl
theorem u8p_len (u j : Nat) : (u8p u j).length = j := by simp [u8p]
def u8s (n : Int) : List UInt8 := u8p (uu n) 8
theorem u8s_len (n : Int) : (u8s n).length = 8 := u8p_len _ _
def u8ss : List Int → List UInt8
  | [] => []
  | n :: l => u8s n ++ u8ss l
theorem u8ss_app : ∀ a b : List Int, u8ss (a ++ b) = u8ss a ++ u8ss b
  | [], b => rfl
  | n :: a, b => by rw [List.cons_append, u8ss, u8ss_app a b, u8ss, List.append_assoc]
theorem u8ss_len : ∀ l : List Int, (u8ss l).length = 8 * l.length
  | [] => rfl
  | n :: l => by rw [u8ss, List.length_append, u8s_len, u8ss_len l, List.length_cons]; omega
theorem u8ss_take {ns : List Int} {i : Nat} (hi : i < ns.length) : u8ss (ns.take (i + 1)) = u8ss (ns.take i) ++ u8s (ns.getD i 0) := by
  rw [List.take_add_one, List.getElem?_eq_getElem hi, u8ss_app]
  simp [u8ss, List.getElem?_eq_getElem hi]
theorem u8_step {et : TypeId} {v : Value} {k u m : Nat} {pre : List UInt8} {L : Owned} (hm : m < 8) (ho : OwnS et 1 v (k + (8 - (m + 1)) + 1) ((pre ++ u8p u (8 - (m + 1))).map byteV ++ [byteV (byteAt u m)]) L) : OwnS et 1 v (k + (8 - m)) ((pre ++ u8p u (8 - m)).map byteV) L := by
  rw [show 8 - m = 8 - (m + 1) + 1 from by omega, ← u8p_next, show 7 - (8 - (m + 1)) = m from by omega, ← List.append_assoc, List.map_append]
  exact ho
theorem Sl1.ints {h : Heap} {b : Nat} {T : TypeId} {fr : Nat × Nat} {ns : List Int} (hb : h b = some (.cells ⟨ns.map (Value.int .i64)⟩ T fr)) : Sl1 h (some ⟨b, 0, none⟩) ns.length (fun i => .int .i64 (ns.getD i 0)) := by
  have := Sl1.of (d := .int .i64 0) hb (by simp : ns.length = _)
  intro i hi
  obtain ⟨b, off, all, T, fr, h1, h2, h3⟩ := this i hi
  exact ⟨b, off, all, T, fr, h1, h2, by rw [h3]; exact congrArg some map_getD⟩
section
variable {P : Program} {e : Env} {h : Heap} {L : Owned} {x : Operand} {s d : TypeId}
theorem v_convuu {n : Int} {du : TypeDesc} (hu : Und P s du) (hu' : Und P d (.int .u64)) (hx : ev e x = some (.int .i64 n)) : OpV P (.convert s d x) e h L (.int .u64 ((uu n : Nat) : Int)) :=
  v_conv hu hu' hx (wrap_uu n)
end
/-- a private key -/
def isPr (x : Int) : Prop := 1 ≤ x ∧ x < 2305843009213688669
instance (x : Int) : Decidable (isPr x) := inferInstanceAs (Decidable (_ ∧ _))
theorem gexpE4 {x : Int} (h0 : 0 ≤ x) (h : x < 2305843009213688669) : gexpE 4 x = 0 := by
  unfold gexpE; rw [if_neg (fun g => g GC4), if_pos ⟨h0, h⟩]
theorem fmulV_rng (a b : Int) : 0 ≤ fmulV a b ∧ fmulV a b < 2305843009213688669 := by
  unfold fmulV
  split
  · have := Nat.mod_lt (a.toNat * b.toNat) (show 2305843009213688669 > 0 by decide)
    omega
  · omega
theorem faddV_rng (a b : Int) : 0 ≤ faddV a b ∧ faddV a b < 2305843009213688669 := by
  unfold faddV
  split
  · have := Nat.mod_lt (a.toNat + b.toNat) (show 2305843009213688669 > 0 by decide)
    omega
  · omega
theorem fokE0 {a b : Int} (ha : 0 ≤ a ∧ a < 2305843009213688669) (hb : 0 ≤ b ∧ b < 2305843009213688669) : fokE a b = 0 := by
  unfold fokE; rw [if_pos ⟨ha, hb⟩]
end Go.Proofs.Ch
