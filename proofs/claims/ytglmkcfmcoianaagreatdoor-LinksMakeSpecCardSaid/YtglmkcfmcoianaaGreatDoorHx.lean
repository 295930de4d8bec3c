/- Small rules for the walks of the hash. No program is named here. -/
import Derived.Test.YtglmkcfmcoianaaGreatDoorSh
import Derived.Test.YtglmkcfmcoianaaGreatDoorG
namespace Go.Proofs.Ch
open Go
section
variable {C : Cx} {R : Pst} {k : List K} {e : Env} {ds : List Deferred} {h : Heap} {L : Owned} {ops : Array Oper} {Q : Pst} {fin rem rem' : List Nat}
theorem qs_fin {i : Nat} {o : Oper} {G : Value → Heap → Owned → Prop} (hi : ops[i]? = some o) (hg : o.guard = none) (ho : Op1 C o e h L G) (hd : dstOk o.dst C.n = true) (hf : fin.contains i = true) (he' : rem.erase i = rem')
    (H : ∀ v h' L', G v h' L' → QS C ops fin rem' Q (put o.dst v e) ds h' L') : QStep C ops fin rem Q e ds h L i :=
  qstep hi hg ho hd fun v h' L' hG => ⟨h', L', fun _ s => s, by rw [he']; exact H v h' L' hG, fun hx => by rw [hf] at hx; cases hx⟩
end
section
variable {P : Program} {e : Env} {h : Heap} {L : Owned} {x y : Operand} {xt yt : TypeId}
theorem v_conv8_32 {s d : TypeId} {b : UInt8} {du : TypeDesc} (hu : Und P s du) (hu' : Und P d (.int .u32)) (hx : ev e x = some (byteV b)) : OpV P (.convert s d x) e h L (w32 b.toUInt32) := by
  have := v_conv (P := P) (e := e) (h := h) (L := L) (k' := .u32) (z := (b.toUInt32.toNat : Int)) hu hu' (show ev e x = some (.int .u8 (b.toNat : Int)) from hx) (by
    have h1 := UInt8.toNat_lt b
    rw [UInt8.toNat_toUInt32]
    exact wrap_u32 (by omega) (by omega))
  exact this
theorem v_conv64_8 {s d : TypeId} {n i : Nat} {du : TypeDesc} (hu : Und P s du) (hu' : Und P d (.int .u8)) (hx : ev e x = some (.int .u64 ((n / 2 ^ (8 * i) : Nat) : Int))) : OpV P (.convert s d x) e h L (byteV (byteAt n i)) := by
  have := v_convn (P := P) (h := h) (L := L) (k' := .u8) hu hu' hx rfl
  have h2 : byteV (byteAt n i) = .int .u8 ((n / 2 ^ (8 * i) % 2 ^ IntKind.u8.bits : Nat) : Int) := by
    show Value.int .u8 (((UInt8.ofNat (n / 2 ^ (8 * i))).toNat : Nat) : Int) = _
    rw [UInt8.toNat_ofNat']
    rfl
  rw [h2]; exact this
theorem v_conv32_64 {s d : TypeId} {a : UInt32} {du : TypeDesc} (hu : Und P s du) (hu' : Und P d (.int .u64)) (hx : ev e x = some (w32 a)) : OpV P (.convert s d x) e h L (.int .u64 ((a.toNat : Nat) : Int)) :=
  v_conv hu hu' hx (by have := a.toNat_lt; exact wrap_u64 (by omega) (by omega))
end
/-- the word's bytes, one after the other -/
def wp (x : Nat → UInt8) : Nat → UInt32
  | 0 => 0
  | i + 1 => shl32 (wp x i) 8 ||| (x i).toUInt32
theorem wp4 (x : Nat → UInt8) : wp x 4 = be4 (x 0) (x 1) (x 2) (x 3) := rfl
/-- the schedule, as far as it is laid -/
def wtab (m : Nat → UInt32) (t : Nat) : List Value := tab 64 (fun j => w32 (if j < t then wt m j else 0))
theorem wtab_get {m : Nat → UInt32} {t k p : Nat} (hk : k < t) (h64 : k < 64) (hp : p = k) : (wtab m t)[p]? = some (w32 (wt m k)) := by
  subst hp
  rw [wtab, tab_get h64, if_pos hk]
theorem wtab_0 (m : Nat → UInt32) : tab 64 (fun _ => w32 0) = wtab m 0 := tab_ext fun k _ => by rw [if_neg (Nat.not_lt_zero k)]
theorem wtab_next {m : Nat → UInt32} {t p : Nat} (ht : t < 64) (hp : p = t) : spl p [w32 (wt m t)] (wtab m t) = some (wtab m (t + 1)) := by
  subst hp
  rw [wtab, tab_spl ht]
  congr 1
  refine tab_ext fun k _ => ?_
  by_cases hk : k = p
  · subst hk; rw [if_pos rfl, if_pos (by omega)]
  · rw [if_neg hk]
    by_cases h2 : k < p
    · rw [if_pos h2, if_pos (by omega)]
    · rw [if_neg h2, if_neg (by omega)]
/-- the sums of the states, as far as they are laid -/
def atab (s v : S8) (t : Nat) : List Value := tab 8 (fun k => w32 (if k < t then s.get k + v.get k else s.get k))
theorem atab_0 (s v : S8) : s.cells = atab s v 0 := by
  rw [S8.cells_tab]; exact tab_ext fun k _ => by rw [if_neg (Nat.not_lt_zero k)]
theorem atab_8 (s v : S8) : atab s v 8 = (s.add v).cells := by
  rw [S8.cells_tab]; exact tab_ext fun k hk => by rw [if_pos hk, S8.add_get]
theorem atab_get {s v : S8} {t p : Nat} (ht : t < 8) (hp : p = t) : (atab s v t)[p]? = some (w32 (s.get t)) := by
  subst hp
  rw [atab, tab_get ht, if_neg (Nat.lt_irrefl _)]
theorem atab_next {s v : S8} {t p : Nat} (ht : t < 8) (hp : p = t) : spl p [w32 (s.get t + v.get t)] (atab s v t) = some (atab s v (t + 1)) := by
  subst hp
  rw [atab, tab_spl ht]
  congr 1
  refine tab_ext fun k _ => ?_
  by_cases hk : k = p
  · subst hk; rw [if_pos rfl, if_pos (by omega)]
  · rw [if_neg hk]
    by_cases h2 : k < p
    · rw [if_pos h2, if_pos (by omega)]
    · rw [if_neg h2, if_neg (by omega)]
theorem cells_get {s : S8} {t p : Nat} (ht : t < 8) (hp : p = t) : s.cells[p]? = some (w32 (s.get t)) := by
  subst hp; rw [S8.cells_tab, tab_get ht]
/-- bytes, written from the last one on -/
def ptab (N : Nat) (f : Nat → Value) (n off len i : Nat) : List Value := tab N (fun k => if off + (len - i) ≤ k ∧ k < off + len then byteV (byteAt n (off + len - 1 - k)) else f k)
theorem ptab_0 {N : Nat} {f : Nat → Value} {n off len : Nat} : tab N f = ptab N f n off len 0 := tab_ext fun k _ => by rw [if_neg (by omega)]
theorem ptab_next {N : Nat} {f : Nat → Value} {n off len i p : Nat} (hi : i < len) (hN : off + len ≤ N) (hp : p = off + (len - 1 - i)) : spl p [byteV (byteAt n i)] (ptab N f n off len i) = some (ptab N f n off len (i + 1)) := by
  subst hp
  rw [ptab, tab_spl (by omega)]
  congr 1
  refine tab_ext fun k _ => ?_
  by_cases hk : k = off + (len - 1 - i)
  · subst hk; rw [if_pos rfl, if_pos (by omega), show off + len - 1 - (off + (len - 1 - i)) = i from by omega]
  · rw [if_neg hk]
    by_cases h2 : off + (len - i) ≤ k ∧ k < off + len
    · rw [if_pos h2, if_pos (by omega)]
    · rw [if_neg h2, if_neg (by omega)]
end Go.Proofs.Ch
