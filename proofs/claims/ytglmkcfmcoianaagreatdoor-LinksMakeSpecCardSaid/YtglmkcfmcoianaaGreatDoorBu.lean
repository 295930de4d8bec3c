/- Small rules for buffers; nil slices and nil interfaces compared. No program is named here. -/
import Derived.Test.YtglmkcfmcoianaaGreatDoorLi
import Derived.Test.YtglmkcfmcoianaaGreatDoorDf
import Derived.Test.YtglmkcfmcoianaaGreatDoorEq
namespace Go.Proofs.Ch
open Go
theorem spl_pad {pre us pad : List Value} {k : Nat} (hk : pre.length = k) (h : us.length ≤ pad.length) : spl k us (pre ++ pad) = some (pre ++ us ++ pad.drop us.length) := by
  subst hk
  have := spl_app pre (pad.take us.length) (pad.drop us.length) us (by rw [List.length_take]; omega)
  rw [List.append_assoc, List.take_append_drop] at this
  exact this
theorem copy_pad (xs ys : List UInt8) (pad : List Value) (hp : xs.length + pad.length = 64) (hn : xs.length + ys.length ≤ 64) : spl (if 64 = xs.length then 0 else xs.length) ((ys.map byteV).take (min ys.length ys.length * 1)) (xs.map byteV ++ pad) = some (xs.map byteV ++ ys.map byteV ++ pad.drop (ys.map byteV).length) := by
  rw [Nat.min_self, Nat.mul_one, List.take_of_length_le (by simp)]
  by_cases h64 : 64 = xs.length
  · have hy : ys = [] := List.length_eq_zero_iff.1 (by omega)
    subst hy
    rw [if_pos h64]
    cases xs <;> simp [spl]
  · rw [if_neg h64]
    exact spl_pad (by simp) (by simp; omega)
section
variable {P : Program} {e : Env} {h : Heap} {L : Owned} {x y : Operand} {yt t : TypeId}
theorem run_binEq {x' y' : Value} {b : Bool} (hx : ∀ k a, x' ≠ .int k a) (hs : ∀ a, x' ≠ .string a) (hf : ∀ k a, x' ≠ .float k a) (hc : ∀ k a b, x' ≠ .complex k a b) (h : ∀ d w, (Op.equalIn (d + 1) t x' y').run P w = .ok b w) (w : World) : (binOp .eql t x' y').run P w = .ok (.bool b) w := by
  have e : binOp .eql t x' y' = (do pure (.bool (← Op.equal t x' y'))) := by
    cases x' with
    | int k a => exact absurd rfl (hx k a)
    | string a => exact absurd rfl (hs a)
    | float k a => exact absurd rfl (hf k a)
    | complex k a b => exact absurd rfl (hc k a b)
    | _ => cases y' <;> rfl
  rw [e]
  have h2 := h 9999 w
  simp only [Sem.run_bind, Op.equal, Op.maxDepth]
  rw [h2]
  simp
theorem v_slnil {et : TypeId} {n c n2 c2 : Nat} (hu : Und P t (.slice et)) (hx : ev e x = some (.slice none n c)) (hy : ev e y = some (.slice none n2 c2)) : OpV P (.binOp .eql t x y yt) e h L (.bool true) := by
  intro ρ w o hρ _ ho; unfold execOp; rw [ho]
  have := run_binEq (P := P) (t := t) (x' := .slice none n c) (y' := .slice none n2 c2) (b := true) (by simp) (by simp) (by simp) (by simp) (fun d w => by simp [Op.equalIn, hu.run]) w
  simp [hρ _ _ hx, hρ _ _ hy, eqGuard, this]
theorem v_slnn {et : TypeId} {a : Addr} {n c n2 c2 : Nat} (hu : Und P t (.slice et)) (hx : ev e x = some (.slice (some a) n c)) (hy : ev e y = some (.slice none n2 c2)) : OpV P (.binOp .eql t x y yt) e h L (.bool false) := by
  intro ρ w o hρ _ ho; unfold execOp; rw [ho]
  have := run_binEq (P := P) (t := t) (x' := .slice (some a) n c) (y' := .slice none n2 c2) (b := false) (by simp) (by simp) (by simp) (by simp) (fun d w => by simp [Op.equalIn, hu.run]) w
  simp [hρ _ _ hx, hρ _ _ hy, eqGuard, this]
theorem v_ifnil {ms : Array (String × TypeId)} (hu : Und P t (.interface ms)) (hx : ev e x = some .nilIface) : OpV P (.binOp .eql t x (.const .nilIface) yt) e h L (.bool true) := by
  intro ρ w o hρ _ ho; unfold execOp; rw [ho]
  have hy : ρ (.const .nilIface) = .nilIface := hρ _ _ rfl
  have := run_binEq (P := P) (t := t) (x' := .nilIface) (y' := .nilIface) (b := true) (by simp) (by simp) (by simp) (by simp) (fun d w => by simp [Op.equalIn, hu.run]) w
  simp [hρ _ _ hx, hy, eqGuard, this]
end
theorem zl_split {n : Nat} (h : n ≤ 64) : zlist [Value.int .u8 0] 64 = zlist [Value.int .u8 0] n ++ zlist [Value.int .u8 0] (64 - n) := by
  apply List.ext_getElem
  · simp [zlist_len]; omega
  · intro i h1 h2
    have key : ∀ m j (hj : j < (zlist [Value.int .u8 0] m).length), (zlist [Value.int .u8 0] m)[j] = Value.int .u8 0 := by
      intro m j hj
      unfold zlist
      simp [Nat.mod_one]
    rw [key]
    rcases Nat.lt_or_ge i (zlist [Value.int .u8 0] n).length with hi | hi
    · rw [List.getElem_append_left hi, key]
    · rw [List.getElem_append_right hi, key]
/-- a derived key's input behind the key -/
def purp (label : ByteArray) : List UInt8 := V.enc (.list [.text label])
theorem purp_len {label : ByteArray} (h : label.size ≤ 20) : (purp label).length ≤ 32 := by
  have e : purp label = 3 :: (num 1 ++ ((2 :: (num label.size ++ label.data.toList)) ++ [])) := by
    unfold purp; rw [V.enc, encs, encs, V.enc]; rfl
  rw [e, num_lo (by decide), num_lo (by omega)]
  have : label.data.toList.length = label.size := by simp
  simp
  omega
theorem txt_vr {h : Heap} {b cap : Nat} {s : ByteArray} {T : TypeId} {fr : Nat × Nat} (hb : h b = some (.cells ⟨[.int .i64 2, .int .i64 0, .string s, .slice none 0 0]⟩ T fr)) : VR h [.int .i64 3, .int .i64 0, noStr, .slice (some ⟨b, 0, none⟩) 1 cap] (.list [.text s]) :=
  VR.rows (rows := [[.int .i64 2, .int .i64 0, .string s, .slice none 0 0]]) (pad := []) hb (.cons (.text s) .nil) rfl (by decide)
end Go.Proofs.Ch
