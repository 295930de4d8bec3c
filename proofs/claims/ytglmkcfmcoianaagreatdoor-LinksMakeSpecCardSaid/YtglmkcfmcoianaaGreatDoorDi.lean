/- Digests and keys: 32 bytes; their cells in memory; the number of a digest, modulo a number. -/
import Derived.Test.YtglmkcfmcoianaaGreatDoorGa
namespace Go.Proofs.Ch
open Go
abbrev Dig := Vector UInt8 32
def dcells (d : Dig) : List Value := [byteV d[0], byteV d[1], byteV d[2], byteV d[3], byteV d[4], byteV d[5], byteV d[6], byteV d[7], byteV d[8], byteV d[9], byteV d[10], byteV d[11], byteV d[12], byteV d[13], byteV d[14], byteV d[15], byteV d[16], byteV d[17], byteV d[18], byteV d[19], byteV d[20], byteV d[21], byteV d[22], byteV d[23], byteV d[24], byteV d[25], byteV d[26], byteV d[27], byteV d[28], byteV d[29], byteV d[30], byteV d[31]]
theorem dcells_eq (d : Dig) : dcells d = d.toList.map byteV := by
  obtain ⟨⟨l⟩, hl⟩ := d
  simp at hl
  match l, hl with
  | [_, _, _, _, _, _, _, _, _, _, _, _, _, _, _, _, _, _, _, _, _, _, _, _, _, _, _, _, _, _, _, _], _ => rfl
/-- a byte of a digest, as a number -/
def dn (d : Dig) (i : Nat) : Nat := (d.toList.getD i 0).toNat
theorem dn_lt (d : Dig) (i : Nat) : dn d i < 256 := UInt8.toNat_lt _
theorem dcells_get (d : Dig) {i : Nat} (hi : i < 32) : (dcells d)[i]? = some (.int .u8 ((dn d i : Nat) : Int)) := by
  rw [dcells_eq]
  have h1 : i < d.toList.length := by simpa using hi
  rw [List.getElem?_map, List.getElem?_eq_getElem h1]
  simp [byteV, dn, List.getElem?_eq_getElem h1]
def rst (f : Nat → Nat) (m : Nat) : Nat → Nat
  | 0 => 0
  | i + 1 => (rst f m i * 256 + f i) % m
theorem rst_lt {f : Nat → Nat} {m : Nat} (hm : 0 < m) : ∀ i, rst f m i < m
  | 0 => hm
  | _ + 1 => Nat.mod_lt _ hm
theorem fold_val {n c m : Nat} (hn : n < 18446744073709551616) (hc : c < 256) : ((n / 2 ^ 56 * 18446744073709551616 + (n * 2 ^ 8 % 18446744073709551616 ||| c)) % m) = (n * 256 + c) % m := by
  have h1 : (n * 2 ^ 8 % 18446744073709551616 ||| c) = n * 256 % 18446744073709551616 + c := by
    have e : n * 2 ^ 8 % 18446744073709551616 = (n % 72057594037927936) * 2 ^ 8 := by omega
    have := Nat.shiftLeft_add_eq_or_of_lt (show c < 2 ^ 8 from hc) (n % 72057594037927936)
    rw [Nat.shiftLeft_eq] at this
    rw [e, ← this]
  have h2 : n / 2 ^ 56 * 18446744073709551616 + (n * 256 % 18446744073709551616 + c) = n * 256 + c := by omega
  rw [h1, h2]
theorem or_lt {n c : Nat} (hc : c < 256) : (n * 2 ^ 8 % 18446744073709551616 ||| c) < 18446744073709551616 :=
  Nat.or_lt_two_pow (n := 64) (Nat.mod_lt _ (by decide)) (by omega)
/-- an element of the group -/
def GC (a : Int) : Prop := 1 ≤ a ∧ a < 4611686018427377339 ∧ mpow 4611686018427377339 a.toNat 2305843009213688669 = 1
instance (a : Int) : Decidable (GC a) := inferInstanceAs (Decidable (_ ∧ _ ∧ _))
def gexpV (a k : Int) : Int := if GC a ∧ 0 ≤ k ∧ k < 2305843009213688669 then ((mpow 4611686018427377339 a.toNat k.toNat : Nat) : Int) else 0
def gexpE (a k : Int) : Int := if ¬ GC a then 40 else if 0 ≤ k ∧ k < 2305843009213688669 then 0 else 1
theorem GC4 : GC 4 := by
  refine ⟨by decide, by decide, ?_⟩
  rw [mpow_pw 61 (by decide)]
  decide +kernel
theorem gc_nat {m : Nat} (h1 : 1 ≤ (m : Int)) (h2 : (m : Int) < 4611686018427377339) (h3 : ¬ ((mpow 4611686018427377339 m 2305843009213688669 : Nat) : Int) ≠ 1) : GC (m : Int) :=
  ⟨h1, h2, by rw [Int.toNat_natCast]; omega⟩
theorem gc_nat_f {m : Nat} (h3 : ((mpow 4611686018427377339 m 2305843009213688669 : Nat) : Int) ≠ 1) : ¬ GC (m : Int) := by
  rintro ⟨_, _, g⟩
  rw [Int.toNat_natCast] at g
  omega
theorem rst_ref {f : Nat → Nat} {m i : Nat} : ((256 * rst f m i % m + f i) % m) = rst f m (i + 1) := by
  simp only [rst]
  rw [Nat.mod_add_mod, Nat.mul_comm]
end Go.Proofs.Ch
