/- Slices whose elements are known for good; the first place at which something holds. -/
import Derived.Test.YtglmkcfmcoianaaGreatDoorDi
namespace Go.Proofs.Ch
open Go
/-- the elements of a slice, each one value -/
def Sl1 (h : Heap) (a : Option Addr) (n : Nat) (x : Nat → Value) : Prop := ∀ i, i < n → ∃ b off all T fr, a = some ⟨b, off, none⟩ ∧ h b = some (.cells ⟨all⟩ T fr) ∧ all[off + i * 1]? = some (x i)
/-- the elements of a slice, each so many cells -/
def Sln (h : Heap) (a : Option Addr) (n size : Nat) (x : Nat → List Value) : Prop := ∀ i, i < n → ∃ b off all T fr, a = some ⟨b, off, none⟩ ∧ h b = some (.cells ⟨all⟩ T fr) ∧ cut (off + i * size) size all = some (x i)
theorem Sl1.le {h h' : Heap} {a : Option Addr} {n : Nat} {x : Nat → Value} (s : Sl1 h a n x) (hl : Heap.le h h') : Sl1 h' a n x := fun i hi => by
  obtain ⟨b, off, all, T, fr, h1, h2, h3⟩ := s i hi
  exact ⟨b, off, all, T, fr, h1, hl _ _ h2, h3⟩
theorem Sln.le {h h' : Heap} {a : Option Addr} {n size : Nat} {x : Nat → List Value} (s : Sln h a n size x) (hl : Heap.le h h') : Sln h' a n size x := fun i hi => by
  obtain ⟨b, off, all, T, fr, h1, h2, h3⟩ := s i hi
  exact ⟨b, off, all, T, fr, h1, hl _ _ h2, h3⟩
theorem Sl1.of {h : Heap} {b : Nat} {T : TypeId} {fr : Nat × Nat} {l : List Value} {n : Nat} {d : Value} (hb : h b = some (.cells ⟨l⟩ T fr)) (hn : n = l.length) : Sl1 h (some ⟨b, 0, none⟩) n (fun i => l.getD i d) := fun i hi => by
  refine ⟨b, 0, l, T, fr, rfl, hb, ?_⟩
  have : i < l.length := by omega
  simp [List.getElem?_eq_getElem this]

def findI (p : Nat → Bool) (n : Nat) : Int := match (List.range n).find? p with
  | some i => (i : Int)
  | none => -1
theorem findI_none {p : Nat → Bool} {n : Nat} (h : ∀ j, j < n → p j = false) : findI p n = -1 := by
  have : (List.range n).find? p = none := by
    rw [List.find?_eq_none]
    intro x hx
    rw [List.mem_range] at hx
    simp [h x hx]
  simp [findI, this]
theorem findI_some {p : Nat → Bool} {n i : Nat} (hi : i < n) (hp : p i = true) (h : ∀ j, j < i → p j = false) : findI p n = (i : Int) := by
  have : (List.range n).find? p = some i := by
    rw [List.find?_range_eq_some]
    refine ⟨hp, by simpa using hi, ?_⟩
    intro j hj
    simp [h j hj]
  simp [findI, this]
theorem findI_any {p : Nat → Bool} {n : Nat} : decide (0 ≤ findI p n) = (List.range n).any p := by
  unfold findI
  cases hf : (List.range n).find? p with
  | none =>
    simp only [List.find?_eq_none] at hf
    have : (List.range n).any p = false := by
      rw [List.any_eq_false]; intro x hx; simpa using hf x hx
    rw [this]; rfl
  | some i =>
    have h1 := List.find?_some hf
    have h2 := List.mem_of_find?_eq_some hf
    have : (List.range n).any p = true := List.any_eq_true.2 ⟨i, h2, h1⟩
    rw [this]
    simp
theorem any_range_getD {α : Type} {l : List α} {d : α} {q : α → Bool} : (List.range l.length).any (fun i => q (l.getD i d)) = l.any q := by
  have : l = (List.range l.length).map (fun i => l.getD i d) := by
    apply List.ext_getElem
    · simp
    · intro i h1 h2; simp [List.getElem?_eq_getElem h1]
  conv => rhs; rw [this]
  rw [List.any_map]; rfl
theorem findI_le {p : Nat → Bool} {n : Nat} : -1 ≤ findI p n ∧ findI p n < n ∨ findI p n = -1 := by
  unfold findI
  cases hf : (List.range n).find? p with
  | none => exact .inr rfl
  | some i =>
    have h2 := List.mem_of_find?_eq_some hf
    rw [List.mem_range] at h2
    exact .inl ⟨by simp only; omega, by simp only; omega⟩
/-- outside of the scalars -/
def outI (a : Int) : Bool := decide (a < 0 ∨ 2305843009213688669 ≤ a)
theorem map_getD {xs : List Int} {i : Nat} : (xs.map (Value.int .i64)).getD i (.int .i64 0) = .int .i64 (xs.getD i 0) := by
  rw [List.getD_eq_getElem?_getD, List.getElem?_map, List.getD_eq_getElem?_getD]
  cases xs[i]? <;> rfl
theorem outI2 {a b : Int} : [a, b].any outI = true ↔ ((a < 0 ∨ 2305843009213688669 ≤ a) ∨ (b < 0 ∨ 2305843009213688669 ≤ b)) := by
  simp [outI]
theorem outI2f {a b : Int} : [a, b].any outI = false ↔ ((0 ≤ a ∧ a < 2305843009213688669) ∧ (0 ≤ b ∧ b < 2305843009213688669)) := by
  simp [outI]
theorem outI1 {a : Int} : [a].any outI = true ↔ (a < 0 ∨ 2305843009213688669 ≤ a) := by
  simp [outI]
theorem out1 {a : Int} : [a].any outI = outI a := by simp
def fmulV (a b : Int) : Int := if (0 ≤ a ∧ a < 2305843009213688669) ∧ (0 ≤ b ∧ b < 2305843009213688669) then ((a.toNat * b.toNat % 2305843009213688669 : Nat) : Int) else 0
def faddV (a b : Int) : Int := if (0 ≤ a ∧ a < 2305843009213688669) ∧ (0 ≤ b ∧ b < 2305843009213688669) then (((a.toNat + b.toNat) % 2305843009213688669 : Nat) : Int) else 0
def fokE (a b : Int) : Int := if (0 ≤ a ∧ a < 2305843009213688669) ∧ (0 ≤ b ∧ b < 2305843009213688669) then 0 else 1
theorem v_lowj {P : Program} {e : Env} {h : Heap} {L : Owned} {x y : Operand} {xt yt : TypeId} {m n : Nat} (j : Nat) (hx : ev e x = some (.int .i64 (m : Int))) (hy : ev e y = some (.int .i64 (n : Int))) (hm : m < 9223372036854775808) (hj : j ≤ 62) (hn : n = 2 ^ j - 1) : OpV P (.binOp .and xt x y yt) e h L (.int .i64 ((m % 2 ^ j : Nat) : Int)) := by
  subst hn
  have h2 : (2 : Nat) ^ j ≤ 2 ^ 62 := Nat.pow_le_pow_right (by omega) hj
  have h3 : 0 < (2 : Nat) ^ j := Nat.pow_pos (by omega)
  refine v_and hx hy ?_
  have e1 : (BitVec.ofInt IntKind.i64.bits (m : Int) &&& BitVec.ofInt IntKind.i64.bits ((2 ^ j - 1 : Nat) : Int)).toNat = m % 2 ^ j := by
    have t1 : (BitVec.ofInt IntKind.i64.bits (m : Int)).toNat = m := by
      simp [BitVec.toNat_ofInt, IntKind.bits]; omega
    have t2 : (BitVec.ofInt IntKind.i64.bits ((2 ^ j - 1 : Nat) : Int)).toNat = 2 ^ j - 1 := by
      rw [BitVec.toNat_ofInt]
      show (((2 ^ j - 1 : Nat) : Int) % ((2 ^ 64 : Nat) : Int)).toNat = 2 ^ j - 1
      omega
    rw [BitVec.toNat_and, t1, t2, Nat.and_two_pow_sub_one_eq_mod]
  rw [e1]
  have : m % 2 ^ j ≤ m := Nat.mod_le _ _
  exact wrap_i64 (by omega) (by omega)
theorem nn_t {p : Bool} (h : (!!p) = true) : p = true := by simpa using h
theorem nn_f {p : Bool} (h : (!!p) = false) : p = false := by simpa using h
theorem outI_f {a : Int} (h : outI a = false) : 0 ≤ a ∧ a < 2305843009213688669 := by
  simp only [outI, decide_eq_false_iff_not] at h; omega
theorem outI_t {a : Int} (h : outI a = true) : a < 0 ∨ 2305843009213688669 ≤ a := by
  simpa [outI] using h
theorem fmul_e {a b : Int} (h : outI a = true ∨ outI b = true) : Value.tuple ⟨[.int .i64 0, .int .i64 1]⟩ = .tuple ⟨[.int .i64 (fmulV a b), .int .i64 (fokE a b)]⟩ := by
  unfold fmulV fokE
  have : (a < 0 ∨ 2305843009213688669 ≤ a) ∨ (b < 0 ∨ 2305843009213688669 ≤ b) := h.imp outI_t outI_t
  rw [if_neg (by omega), if_neg (by omega)]
theorem fadd_e {a b : Int} (h : outI a = true ∨ outI b = true) : Value.tuple ⟨[.int .i64 0, .int .i64 1]⟩ = .tuple ⟨[.int .i64 (faddV a b), .int .i64 (fokE a b)]⟩ := by
  unfold faddV fokE
  have : (a < 0 ∨ 2305843009213688669 ≤ a) ∨ (b < 0 ∨ 2305843009213688669 ≤ b) := h.imp outI_t outI_t
  rw [if_neg (by omega), if_neg (by omega)]
theorem fmul_k {a b : Nat} (ha : (a : Int) < 2305843009213688669) (hb : (b : Int) < 2305843009213688669) : Value.tuple ⟨[.int .i64 ((a * b % 2305843009213688669 : Nat) : Int), .int .i64 0]⟩ = .tuple ⟨[.int .i64 (fmulV a b), .int .i64 (fokE a b)]⟩ := by
  unfold fmulV fokE
  rw [if_pos (by omega), if_pos (by omega)]; rfl
theorem fadd_k {a b : Nat} (ha : (a : Int) < 2305843009213688669) (hb : (b : Int) < 2305843009213688669) : Value.tuple ⟨[.int .i64 (((a + b) % 2305843009213688669 : Nat) : Int), .int .i64 0]⟩ = .tuple ⟨[.int .i64 (faddV a b), .int .i64 (fokE a b)]⟩ := by
  unfold faddV fokE
  rw [if_pos (by omega), if_pos (by omega)]; rfl
theorem not_dec {a : Int} : (!outI a) = (decide (0 ≤ a) && decide (a < 2305843009213688669)) := by
  unfold outI
  rw [← decide_not, ← Bool.decide_and]
  congr 1
  exact propext ⟨fun h => by omega, fun h => by omega⟩
end Go.Proofs.Ch
