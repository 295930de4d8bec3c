/- The reference's words are the program's. No program is named here. -/
import Derived.Test.YtglmkcfmcoianaaGreatDoorHy
namespace Go.Proofs.Ch
open Go
theorem shl32_bv (a : UInt32) {s : Nat} (hs : s < 32) : (shl32 a s).toBitVec = a.toBitVec <<< s := by
  apply BitVec.eq_of_toNat_eq
  have := shl32_nat a hs
  rw [BitVec.toNat_shiftLeft]
  show (shl32 a s).toNat = _
  rw [this, Nat.shiftLeft_eq]
  rfl
theorem be4_ref (a b c d : UInt8) : shl32 a.toUInt32 24 ||| shl32 b.toUInt32 16 ||| shl32 c.toUInt32 8 ||| d.toUInt32 = be4 a b c d := by
  apply UInt32.toBitVec_inj.1
  unfold be4
  simp only [UInt32.toBitVec_or, shl32_bv _ (show 24 < 32 by decide), shl32_bv _ (show 16 < 32 by decide), shl32_bv _ (show 8 < 32 by decide), BitVec.shiftLeft_or_distrib, ← BitVec.shiftLeft_add]
  have h0 : (0 : UInt32).toBitVec = 0#32 := rfl
  simp [h0, BitVec.or_assoc]
theorem ch_ref (e f g : UInt32) : (e &&& f) ^^^ (~~~e &&& g) = chF e f g := by
  apply UInt32.toBitVec_inj.1
  unfold chF
  simp only [UInt32.toBitVec_and, UInt32.toBitVec_xor, UInt32.toBitVec_not]
  apply BitVec.eq_of_getLsbD_eq
  intro i hi
  simp only [BitVec.getLsbD_and, BitVec.getLsbD_xor, BitVec.getLsbD_not, hi, decide_true, Bool.true_and]
  cases e.toBitVec.getLsbD i <;> cases f.toBitVec.getLsbD i <;> cases g.toBitVec.getLsbD i <;> rfl
theorem maj_ref (a b c : UInt32) : (a &&& b) ^^^ (a &&& c) ^^^ (b &&& c) = majF a b c := by
  apply UInt32.toBitVec_inj.1
  unfold majF
  simp only [UInt32.toBitVec_and, UInt32.toBitVec_xor, UInt32.toBitVec_or]
  apply BitVec.eq_of_getLsbD_eq
  intro i hi
  simp only [BitVec.getLsbD_and, BitVec.getLsbD_xor, BitVec.getLsbD_or]
  cases a.toBitVec.getLsbD i <;> cases b.toBitVec.getLsbD i <;> cases c.toBitVec.getLsbD i <;> rfl
theorem ror_ref (v : UInt32) (n : Nat) : shr32 v n ||| shl32 v (32 - n) = ror32 v n := UInt32.or_comm _ _
/-- a byte of a word -/
theorem shr_byte (a : UInt32) {i : Nat} : UInt8.ofNat (shr32 a (24 - 8 * (i % 4))).toNat = byteAt a.toNat (3 - i % 4) := by
  unfold byteAt
  rw [shr32_nat a (by omega), show 24 - 8 * (i % 4) = 8 * (3 - i % 4) from by omega]
theorem padL_end (n : Nat) : padL n % 64 = 0 ∧ (padL n - 8) % 64 = 56 := by unfold padL; split <;> omega
/-- the message with its end, as a list -/
def padB (xs : List UInt8) : List UInt8 := (List.range (padL xs.length)).map (padf xs)
theorem padB_len (xs : List UInt8) : (padB xs).length = padL xs.length := by simp [padB]
theorem padB_get (xs : List UInt8) {j : Nat} (hj : j < padL xs.length) : (padB xs).getD j 0 = padf xs j := by
  simp [padB, hj]
def padP (xs : List UInt8) (z : Nat) : List UInt8 := xs ++ [128] ++ List.replicate z 0
def padE (n j : Nat) : List UInt8 := (List.range j).map (fun k => byteAt (n * 8) (7 - k))
theorem padP_next (xs : List UInt8) (z : Nat) : padP xs z ++ [0] = padP xs (z + 1) := by
  unfold padP; rw [List.replicate_succ', List.append_assoc]
theorem padE_next (n j : Nat) : padE n j ++ [byteAt (n * 8) (7 - j)] = padE n (j + 1) := by
  unfold padE; rw [List.range_succ, List.map_append]; rfl
theorem padP_len (xs : List UInt8) (z : Nat) : (padP xs z).length = xs.length + 1 + z := by
  simp [padP]; omega
theorem padE_len (n j : Nat) : (padE n j).length = j := by simp [padE]
theorem padB_eq {xs : List UInt8} {z : Nat} (hz : xs.length + 1 + z = padL xs.length - 8) : padP xs z ++ padE xs.length 8 = padB xs := by
  have hg := padL_ge xs.length
  apply List.ext_getElem?
  intro k
  rcases Nat.lt_or_ge k (padL xs.length) with hk | hk
  · have e2 : (padB xs)[k]? = some (padf xs k) := by simp [padB, hk]
    rw [e2]
    unfold padf
    rcases Nat.lt_or_ge k (padL xs.length - 8) with h8 | h8
    · rw [List.getElem?_append_left (by rw [padP_len]; omega)]
      unfold padP
      rcases Nat.lt_trichotomy k xs.length with h1 | h1 | h1
      · rw [if_pos h1, List.append_assoc, List.getElem?_append_left h1, List.getElem?_eq_getElem h1]
        simp [List.getElem?_eq_getElem h1]
      · subst h1
        rw [if_neg (Nat.lt_irrefl _), if_pos rfl, List.append_assoc, List.getElem?_append_right (Nat.le_refl _)]
        simp
      · rw [if_neg (by omega), if_neg (by omega), if_pos h8, List.getElem?_append_right (by simp; omega)]
        rw [List.getElem?_replicate, if_pos (by simp; omega)]
    · rw [if_neg (by omega), if_neg (by omega), if_neg (by omega), List.getElem?_append_right (by rw [padP_len]; omega), padP_len]
      unfold padE
      rw [List.getElem?_map, List.getElem?_range (by omega)]
      simp only [Option.map_some]
      congr 2; omega
  · rw [List.getElem?_eq_none (by rw [List.length_append, padP_len, padE_len]; omega), List.getElem?_eq_none (by rw [padB_len]; exact hk)]
theorem pad_more {n z : Nat} (h : n + 1 + z ≤ padL n - 8) (h2 : (n + 1 + z) % 64 ≠ 56) : n + 1 + (z + 1) ≤ padL n - 8 := by
  have := padL_end n
  have := padL_ge n
  rcases Nat.eq_or_lt_of_le h with he | hl
  · rw [he] at h2; omega
  · omega
theorem pad_full {n z : Nat} (h : n + 1 + z ≤ padL n - 8) (h2 : (n + 1 + z) % 64 = 56) : n + 1 + z = padL n - 8 := by
  unfold padL at *
  by_cases hh : n % 64 ≤ 55
  · rw [if_pos hh] at *; omega
  · rw [if_neg hh] at *; omega
/-- the digest's bytes, one after the other -/
def dti (s : S8) (i : Nat) : List Value := tab 32 (fun k => if k < i then byteV (digAt s k) else byteV 0)
theorem dti_0 (s : S8) : tab 32 (fun _ => byteV 0) = dti s 0 := tab_ext fun k _ => by rw [if_neg (by omega)]
theorem dti_32 (s : S8) : dti s 32 = dcells (digOf s) := by
  rw [dig_cells]; exact tab_ext fun k hk => by rw [if_pos hk]
theorem dti_next {s : S8} {i p : Nat} (hi : i < 32) (hp : p = i) : spl p [byteV (UInt8.ofNat (shr32 (s.get (i / 4)) (24 - 8 * (i % 4))).toNat)] (dti s i) = some (dti s (i + 1)) := by
  subst hp
  rw [dti, tab_spl hi]
  congr 1
  refine tab_ext fun k _ => ?_
  by_cases hk : k = p
  · subst hk; rw [if_pos rfl, if_pos (by omega), shr_byte]; rfl
  · rw [if_neg hk]
    by_cases h2 : k < p
    · rw [if_pos h2, if_pos (by omega)]
    · rw [if_neg h2, if_neg (by omega)]
theorem v_conv32_8 {P : Program} {e : Env} {h : Heap} {L : Owned} {x : Operand} {s d : TypeId} {a : UInt32} {du : TypeDesc} (hu : Und P s du) (hu' : Und P d (.int .u8)) (hx : ev e x = some (w32 a)) : OpV P (.convert s d x) e h L (byteV (UInt8.ofNat a.toNat)) := by
  have := v_convn (P := P) (h := h) (L := L) (k' := .u8) hu hu' hx rfl
  have h2 : byteV (UInt8.ofNat a.toNat) = .int .u8 ((a.toNat % 2 ^ IntKind.u8.bits : Nat) : Int) := by
    show Value.int .u8 (((UInt8.ofNat a.toNat).toNat : Nat) : Int) = _
    rw [UInt8.toNat_ofNat']
    rfl
  rw [h2]; exact this
theorem OwnS.slc {et : TypeId} {size n : Nat} {v : Value} {xs : List Value} {L1 : Owned} (s : OwnS et size v n xs L1) : ∃ a c, v = .slice a n c := by
  rcases s with ⟨rfl, rfl, _, _⟩ | ⟨b, cap, pad, rfl, _⟩
  · exact ⟨_, _, rfl⟩
  · exact ⟨_, _, rfl⟩
theorem pad_step {xs P : List UInt8} {j n : Nat} {v : Value} {L1 : Owned} (hj : j ≤ 7) (ho : OwnS 5 1 v (n + (7 - (j : Int)).toNat + 1) ((P ++ padE xs.length (7 - (j : Int)).toNat).map byteV ++ [byteV (byteAt (xs.length * 8) j)]) L1) :
    OwnS 5 1 v (n + (7 - ((j : Int) - 1)).toNat) ((P ++ padE xs.length (7 - ((j : Int) - 1)).toNat).map byteV) L1 := by
  rw [show (7 - ((j : Int) - 1)).toNat = (7 - (j : Int)).toNat + 1 from by omega]
  have e := padE_next xs.length (7 - (j : Int)).toNat
  rw [show 7 - (7 - (j : Int)).toNat = j from by omega] at e
  rw [← e, ← List.append_assoc, List.map_append]
  exact ho
end Go.Proofs.Ch
