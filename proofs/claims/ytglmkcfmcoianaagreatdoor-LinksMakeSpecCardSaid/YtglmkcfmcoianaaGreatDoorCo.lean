/- Numbers and values, as the codec writes them. No program is named here. -/
import Derived.Test.YtglmkcfmcoianaaGreatDoorRf
namespace Go.Proofs.Ch
open Go
/-- the unsigned form of an integer -/
def zig (n : Int) : Nat := if 0 ≤ n then 2 * n.toNat else 2 * (-(n + 1)).toNat + 1
theorem zig_pos (m : Nat) : zig (m : Int) = 2 * m := by unfold zig; rw [if_pos (by omega)]; omega
theorem zig_neg (m : Nat) : zig (-(m : Int) - 1) = 2 * m + 1 := by unfold zig; rw [if_neg (by omega)]; omega
theorem zig_lt {n : Int} (h1 : -9223372036854775808 ≤ n) (h2 : n < 9223372036854775808) : zig n < 18446744073709551616 := by unfold zig; split <;> omega
theorem xor_ones {a : Nat} (h : a < 18446744073709551616) : a ^^^ 18446744073709551615 = 18446744073709551615 - a := by
  have := congrArg BitVec.toNat (BitVec.xor_allOnes (x := BitVec.ofNat 64 a))
  rw [BitVec.toNat_xor, BitVec.toNat_not, BitVec.toNat_allOnes, BitVec.toNat_ofNat, Nat.mod_eq_of_lt h] at this
  exact this
theorem shr63_neg {m : Nat} (h : m < 9223372036854775808) : (-(m : Int) - 1).fdiv (2 ^ (min (63 : Nat) 64)) = -1 := by
  have : (2 : Int) ^ (min (63 : Nat) 64) = 9223372036854775808 := by decide
  rw [this, Int.fdiv_eq_ediv_of_nonneg _ (by decide)]
  omega
theorem or128 : ∀ x : Fin 256, x.val ||| 128 = x.val % 128 + 128 := by decide +kernel
/-- the digits of a number -/
def num (u : Nat) : List UInt8 := if h : u < 128 then [UInt8.ofNat u] else UInt8.ofNat (u % 128 + 128) :: num (u / 128)
termination_by u
decreasing_by omega
theorem num_lo {u : Nat} (h : u < 128) : num u = [UInt8.ofNat u] := by rw [num, dif_pos h]
theorem num_hi {u : Nat} (h : ¬ u < 128) : num u = UInt8.ofNat (u % 128 + 128) :: num (u / 128) := by rw [num, dif_neg h]
theorem num_len {u : Nat} : ∀ k, u < 128 ^ (k + 1) → (num u).length ≤ k + 1 := by
  intro k
  induction k generalizing u with
  | zero => intro h; rw [num_lo (by simpa using h)]; simp
  | succ k ih =>
    intro h
    by_cases hu : u < 128
    · rw [num_lo hu]; simp
    · rw [num_hi hu]
      have := ih (u := u / 128) (by rw [Nat.pow_succ] at h; omega)
      simp only [List.length_cons]; omega
theorem num_len10 {u : Nat} (h : u < 18446744073709551616) : (num u).length ≤ 10 := num_len 9 (by omega)
theorem byteV_nat {n : Nat} (h : n < 256) : byteV (UInt8.ofNat n) = .int .u8 (n : Int) := by
  show Value.int .u8 (((UInt8.ofNat n).toNat : Nat) : Int) = _
  rw [UInt8.toNat_ofNat', Nat.mod_eq_of_lt h]
theorem shr63_pos {m : Nat} (h : m < 9223372036854775808) : (m : Int).fdiv (2 ^ (min (63 : Nat) 64)) = 0 := by
  have : (2 : Int) ^ (min (63 : Nat) 64) = 9223372036854775808 := by decide
  rw [this, Int.fdiv_eq_ediv_of_nonneg _ (by decide)]
  omega
theorem wrap_negu {m : Nat} (h : m < 9223372036854775808) : IntKind.u64.wrap (-(m : Int) - 1) = ((18446744073709551615 - m : Nat) : Int) := by
  simp only [IntKind.wrap, IntKind.bits, IntKind.signed]
  simp
  omega
theorem or128n (u : Nat) : (u % 2 ^ IntKind.u8.bits ||| 128) = u % 128 + 128 := by
  have h := or128 ⟨u % 256, Nat.mod_lt _ (by decide)⟩
  have e : u % 2 ^ IntKind.u8.bits = u % 256 := rfl
  rw [e, h]
  simp only
  omega
end Go.Proofs.Ch
namespace Go.Proofs.Ch
open Go
/-- a value of the codec -/
inductive V where
  | int (n : Int)
  | text (s : ByteArray)
  | list (l : List V)
mutual
def V.depth : V → Nat
  | .int _ => 0
  | .text _ => 0
  | .list l => dmax l + 1
def dmax : List V → Nat
  | [] => 0
  | m :: l => max m.depth (dmax l)
end
mutual
def V.enc : V → List UInt8
  | .int n => 1 :: num (zig n)
  | .text s => 2 :: (num s.size ++ s.data.toList)
  | .list l => 3 :: (num l.length ++ encs l)
def encs : List V → List UInt8
  | [] => []
  | m :: l => m.enc ++ encs l
end
theorem dmax_app : ∀ (l l2 : List V), dmax (l ++ l2) = max (dmax l) (dmax l2)
  | [], l2 => by simp [dmax]
  | m :: l, l2 => by rw [List.cons_append, dmax, dmax_app l l2, dmax]; omega
theorem encs_app : ∀ (l l2 : List V), encs (l ++ l2) = encs l ++ encs l2
  | [], l2 => by simp [encs]
  | m :: l, l2 => by rw [List.cons_append, encs, encs_app l l2, encs, List.append_assoc]
theorem take_next {α : Type} {l : List α} {i : Nat} {m : α} (h : l[i]? = some m) : l.take (i + 1) = l.take i ++ [m] := by
  rw [List.take_add_one, h]; rfl
theorem dmax_next {l : List V} {i : Nat} {m : V} (h : l[i]? = some m) : dmax (l.take (i + 1)) = max (dmax (l.take i)) m.depth := by
  rw [take_next h, dmax_app]; simp [dmax]
theorem encs_next {l : List V} {i : Nat} {m : V} (h : l[i]? = some m) : encs (l.take (i + 1)) = encs (l.take i) ++ m.enc := by
  rw [take_next h, encs_app]; simp [encs]
abbrev noStr : Value := .string ⟨⟨[]⟩⟩
/-- the cells of a value in memory -/
inductive VR (h : Heap) : List Value → V → Prop
  | int (n : Int) (h1 : -9223372036854775808 ≤ n) (h2 : n < 9223372036854775808) : VR h [.int .i64 1, .int .i64 n, noStr, .slice none 0 0] (.int n)
  | text (s : ByteArray) : VR h [.int .i64 2, .int .i64 0, .string s, .slice none 0 0] (.text s)
  | list (l : List V) (a : Option Addr) (cap : Nat) (x : Nat → List Value) (hn : l.length < 9223372036854775808) (hs : Sln h a l.length 4 x) (hx : ∀ i m, l[i]? = some m → VR h (x i) m) : VR h [.int .i64 3, .int .i64 0, noStr, .slice a l.length cap] (.list l)
theorem VR.le {h h' : Heap} (hl : Heap.le h h') {cs : List Value} {m : V} (v : VR h cs m) : VR h' cs m := by
  induction v with
  | int n h1 h2 => exact .int n h1 h2
  | text s => exact .text s
  | list l a cap x hn hs hx ih => exact .list l a cap x hn (hs.le hl) ih
section
variable {P : Program} {e : Env} {h : Heap} {L : Owned} {x y : Operand} {xt yt : TypeId} {op : Op} {v v' : Value}
theorem OpV.to (hv : OpV P op e h L v) (hh : v = v') : OpV P op e h L v' := hh ▸ hv
theorem v_sself {a : ByteArray} (hx : ev e x = some (.string a)) (hy : ev e y = some (.string a)) : OpV P (.binOp .eql xt x y yt) e h L (.bool true) :=
  OpV.to (v_seql hx hy) (by rw [beq_self_eq_true])
end
theorem VR.four {h : Heap} {cs : List Value} {m : V} (v : VR h cs m) : cs.length = 4 ∧ cs.all Value.oneCell' = true := by
  cases v <;> exact ⟨rfl, rfl⟩
theorem cut_self {l : List Value} {n : Nat} (h : l.length = n) : cut 0 n l = some l := by
  subst h
  induction l with
  | nil => rfl
  | cons a l ih => simp only [List.length_cons, cut, ih]
theorem v_maxj {P : Program} {e : Env} {h : Heap} {L : Owned} {ts : Array TypeId} {x y : Operand} {m n : Nat} (hx : ev e x = some (.int .i64 (m : Int))) (hy : ev e y = some (.int .i64 (n : Int))) : OpV P (.call ⟨.builtin .max, #[x, y], ts⟩) e h L (.int .i64 ((max m n : Nat) : Int)) :=
  OpV.to (v_max2 hx hy) (by
    congr 1
    split <;> omega)
theorem dmax_mem : ∀ {l : List V} {i : Nat} {m : V}, l[i]? = some m → m.depth ≤ dmax l
  | [], i, m, h => by simp at h
  | a :: l, 0, m, h => by simp at h; subst h; rw [dmax]; omega
  | a :: l, i + 1, m, h => by rw [dmax]; have := dmax_mem (l := l) (i := i) (m := m) (by simpa using h); omega
def V.kind : V → Nat
  | .int _ => 1
  | .text _ => 2
  | .list _ => 3
theorem VR.kind {h : Heap} {cs : List Value} {m : V} (v : VR h cs m) : cs[0]? = some (.int .i64 ((m.kind : Nat) : Int)) := by
  cases v <;> rfl
theorem kind_lt (m : V) : m.kind < 4 := by cases m <;> simp [V.kind]
theorem encs_len_le {l : List V} {i : Nat} : (encs (l.take i)).length ≤ (encs l).length := by
  conv => rhs; rw [← List.take_append_drop i l, encs_app, List.length_append]
  omega
theorem OwnS.src {h : Heap} {et : TypeId} {size n : Nat} {v : Value} {xs : List Value} {L1 L : Owned} (s : OwnS et size v n xs L1) (hL : ∀ p ∈ L1, p ∈ L) : Src h L size v n xs := by
  rcases s with ⟨rfl, rfl, rfl, _⟩ | ⟨b, cap, pad, rfl, hl, _, _, _, rfl⟩
  · exact Src.nil
  · refine Src.own (hL (b, .cells ⟨xs ++ pad⟩ et (0, 0)) (List.mem_singleton.2 rfl)) ?_
    have := cut_take (cut_self (l := xs ++ pad) rfl) (m := n * size) (by rw [List.length_append]; omega)
    rw [this, ← hl, List.take_left]
theorem sub2 (A B C : Owned) : (A ++ C).Sublist (A ++ (B ++ C)) := (List.Sublist.refl A).append (List.sublist_append_right B C)
end Go.Proofs.Ch
