/- The hash, as the program and its reference reckon it, on words; tables of cells. No program is named here. -/
import Derived.Test.YtglmkcfmcoianaaGreatDoorSl
import Derived.Test.YtglmkcfmcoianaaGreatDoorAp
namespace Go.Proofs.Ch
open Go
/-- a row of cells, by its places -/
def tab (n : Nat) (f : Nat → Value) : List Value := (List.range n).map f
theorem tab_len {n : Nat} {f : Nat → Value} : (tab n f).length = n := by simp [tab]
theorem tab_get {n k : Nat} {f : Nat → Value} (h : k < n) : (tab n f)[k]? = some (f k) := by
  simp [tab, h]
theorem tab_get_none {n k : Nat} {f : Nat → Value} (h : n ≤ k) : (tab n f)[k]? = none := List.getElem?_eq_none (by rw [tab_len]; exact h)
theorem tab_ext {n : Nat} {f g : Nat → Value} (h : ∀ k, k < n → f k = g k) : tab n f = tab n g :=
  List.map_congr_left fun k hk => h k (List.mem_range.1 hk)
theorem tab_of {n : Nat} {l : List Value} {f : Nat → Value} (hl : l.length = n) (h : ∀ k, k < n → l[k]? = some (f k)) : l = tab n f := by
  refine List.ext_getElem? fun k => ?_
  rcases Nat.lt_or_ge k n with hk | hk
  · rw [tab_get hk, h k hk]
  · rw [tab_get_none hk, List.getElem?_eq_none (by omega)]
theorem tab_spl {n p : Nat} {f : Nat → Value} {v : Value} (h : p < n) : spl p [v] (tab n f) = some (tab n (fun k => if k = p then v else f k)) := by
  obtain ⟨r, hr⟩ := spl_total (i := p) (vs := [v]) (l := tab n f) (by rw [tab_len]; simp; omega)
  rw [hr]
  congr 1
  obtain ⟨h1, _, h3⟩ := spl_spec hr
  refine tab_of (by rw [h1, tab_len]) fun k hk => ?_
  rw [h3 k]
  by_cases hkp : k = p
  · subst hkp; simp
  · rw [if_neg (by simp; omega), tab_get hk, if_neg hkp]
theorem cut_len {i n : Nat} {l : List Value} (h : i + n ≤ l.length) : ∃ r, cut i n l = some r := by
  induction i generalizing l with
  | zero =>
    induction n generalizing l with
    | zero => exact ⟨[], by cases l <;> simp [cut]⟩
    | succ n ih =>
      cases l with
      | nil => simp at h
      | cons a l =>
        obtain ⟨r, hr⟩ := ih (l := l) (by simp at h; omega)
        exact ⟨a :: r, by simp [cut, hr]⟩
  | succ i ih =>
    cases l with
    | nil => simp at h
    | cons a l => simp only [cut]; exact ih (by simp at h; omega)
theorem cut_get {i n : Nat} {l r : List Value} (hc : cut i n l = some r) {k : Nat} (hk : k < n) : l[i + k]? = r[k]? := by
  have hs := cut_spec hc
  rw [← hs.1, List.getElem?_take, if_pos hk, List.getElem?_drop]
theorem cut_tab {i n N : Nat} {f : Nat → Value} (h : i + n ≤ N) : cut i n (tab N f) = some (tab n (fun k => f (i + k))) := by
  obtain ⟨r, hr⟩ := cut_len (i := i) (n := n) (l := tab N f) (by rw [tab_len]; exact h)
  rw [hr]
  congr 1
  refine tab_of (cut_spec hr).2 fun k hk => ?_
  rw [← cut_get hr hk, tab_get (by omega)]

/-! the words -/
structure S8 where
  a : UInt32
  b : UInt32
  c : UInt32
  d : UInt32
  e : UInt32
  f : UInt32
  g : UInt32
  h : UInt32
def S8.cells (s : S8) : List Value := [w32 s.a, w32 s.b, w32 s.c, w32 s.d, w32 s.e, w32 s.f, w32 s.g, w32 s.h]
def rot3 (v : UInt32) (x y z : Nat) : UInt32 := ror32 v x ^^^ ror32 v y ^^^ ror32 v z
def ws0 (x : UInt32) : UInt32 := ror32 x 7 ^^^ ror32 x 18 ^^^ shr32 x 3
def ws1 (x : UInt32) : UInt32 := ror32 x 17 ^^^ ror32 x 19 ^^^ shr32 x 10
def wt (m : Nat → UInt32) (t : Nat) : UInt32 :=
  if h : t < 16 then m t else wt m (t - 16) + ws0 (wt m (t - 15)) + wt m (t - 7) + ws1 (wt m (t - 2))
termination_by t
theorem wt_lo {m : Nat → UInt32} {t : Nat} (h : t < 16) : wt m t = m t := by rw [wt, dif_pos h]
theorem wt_hi {m : Nat → UInt32} {t : Nat} (h : 16 ≤ t) : wt m t = wt m (t - 16) + ws0 (wt m (t - 15)) + wt m (t - 7) + ws1 (wt m (t - 2)) := by rw [wt, dif_neg (by omega)]
def chF (e f g : UInt32) : UInt32 := g ^^^ (e &&& (f ^^^ g))
def majF (a b c : UInt32) : UInt32 := (a &&& b) ||| (c &&& (a ||| b))
def pF (s : S8) (k w : UInt32) : UInt32 := s.h + rot3 s.e 6 11 25 + chF s.e s.f s.g + k + w
def qF (s : S8) : UInt32 := rot3 s.a 2 13 22 + majF s.a s.b s.c
def rnd (s : S8) (k w : UInt32) : S8 := ⟨pF s k w + qF s, s.a, s.b, s.c, s.d + pF s k w, s.e, s.f, s.g⟩
def Ks : List UInt32 := [0x428a2f98, 0x71374491, 0xb5c0fbcf, 0xe9b5dba5, 0x3956c25b, 0x59f111f1, 0x923f82a4, 0xab1c5ed5, 0xd807aa98, 0x12835b01, 0x243185be, 0x550c7dc3, 0x72be5d74, 0x80deb1fe, 0x9bdc06a7, 0xc19bf174, 0xe49b69c1, 0xefbe4786, 0x0fc19dc6, 0x240ca1cc, 0x2de92c6f, 0x4a7484aa, 0x5cb0a9dc, 0x76f988da, 0x983e5152, 0xa831c66d, 0xb00327c8, 0xbf597fc7, 0xc6e00bf3, 0xd5a79147, 0x06ca6351, 0x14292967, 0x27b70a85, 0x2e1b2138, 0x4d2c6dfc, 0x53380d13, 0x650a7354, 0x766a0abb, 0x81c2c92e, 0x92722c85, 0xa2bfe8a1, 0xa81a664b, 0xc24b8b70, 0xc76c51a3, 0xd192e819, 0xd6990624, 0xf40e3585, 0x106aa070, 0x19a4c116, 0x1e376c08, 0x2748774c, 0x34b0bcb5, 0x391c0cb3, 0x4ed8aa4a, 0x5b9cca4f, 0x682e6ff3, 0x748f82ee, 0x78a5636f, 0x84c87814, 0x8cc70208, 0x90befffa, 0xa4506ceb, 0xbef9a3f7, 0xc67178f2]
def kt (t : Nat) : UInt32 := Ks.getD t 0
def kcells : List Value := Ks.map w32
theorem kcells_get {t : Nat} (h : t < 64) : kcells[t]? = some (w32 (kt t)) := by
  have h1 : t < Ks.length := by simpa [Ks] using h
  simp [kcells, kt, List.getElem?_eq_getElem h1]
def start8 : S8 := ⟨0x6a09e667, 0xbb67ae85, 0x3c6ef372, 0xa54ff53a, 0x510e527f, 0x9b05688c, 0x1f83d9ab, 0x5be0cd19⟩
def rnds (s : S8) (m : Nat → UInt32) : Nat → S8
  | 0 => s
  | t + 1 => rnd (rnds s m t) (kt t) (wt m t)
def S8.add (s v : S8) : S8 := ⟨s.a + v.a, s.b + v.b, s.c + v.c, s.d + v.d, s.e + v.e, s.f + v.f, s.g + v.g, s.h + v.h⟩
def absorb (s : S8) (m : Nat → UInt32) : S8 := s.add (rnds s m 64)
def S8.get (s : S8) : Nat → UInt32
  | 0 => s.a | 1 => s.b | 2 => s.c | 3 => s.d | 4 => s.e | 5 => s.f | 6 => s.g | _ => s.h
theorem S8.cells_tab (s : S8) : s.cells = tab 8 (fun k => w32 (s.get k)) := rfl
theorem S8.add_get (s v : S8) (k : Nat) : (s.add v).get k = s.get k + v.get k := by
  match k with
  | 0 => rfl | 1 => rfl | 2 => rfl | 3 => rfl | 4 => rfl | 5 => rfl | 6 => rfl | _ + 7 => rfl
/-- four bytes, the most significant one first -/
def be4 (a b c d : UInt8) : UInt32 := shl32 (shl32 (shl32 (shl32 0 8 ||| a.toUInt32) 8 ||| b.toUInt32) 8 ||| c.toUInt32) 8 ||| d.toUInt32
def words (x : Nat → UInt8) (t : Nat) : UInt32 := be4 (x (4 * t)) (x (4 * t + 1)) (x (4 * t + 2)) (x (4 * t + 3))

/-! bytes of a message, with its end -/
def padL (n : Nat) : Nat := 64 * (n / 64) + (if n % 64 ≤ 55 then 64 else 128)
def byteAt (n i : Nat) : UInt8 := UInt8.ofNat (n / 2 ^ (8 * i))
def padf (xs : List UInt8) (j : Nat) : UInt8 :=
  if j < xs.length then xs.getD j 0 else if j = xs.length then 128 else if j < padL xs.length - 8 then 0 else byteAt (xs.length * 8) (padL xs.length - 1 - j)
def stt (f : Nat → UInt8) : Nat → S8
  | 0 => start8
  | i + 1 => absorb (stt f i) (words fun j => f (64 * i + j))
def shaS (xs : List UInt8) : S8 := stt (padf xs) (padL xs.length / 64)
def digAt (s : S8) (i : Nat) : UInt8 := byteAt (s.get (i / 4)).toNat (3 - i % 4)
def digOf (s : S8) : Dig := Vector.ofFn fun i : Fin 32 => digAt s i.val
theorem sha_ex : ∃ f : List UInt8 → Dig, ∀ xs, f xs = digOf (shaS xs) := ⟨_, fun _ => rfl⟩
/-- the hash; it never needs to be reckoned out -/
noncomputable def sha (xs : List UInt8) : Dig := Classical.choose sha_ex xs
theorem sha_eq (xs : List UInt8) : sha xs = digOf (shaS xs) := Classical.choose_spec sha_ex xs
theorem dcells_tab (d : Dig) : dcells d = tab 32 (fun k => byteV (d.toList.getD k 0)) := by
  refine tab_of (by simp [dcells]) fun k hk => ?_
  rw [dcells_eq, List.getElem?_map]
  have h1 : k < d.toList.length := by simpa using hk
  rw [List.getElem?_eq_getElem h1]
  simp [List.getElem?_eq_getElem h1]
theorem dig_get (s : S8) {k : Nat} (hk : k < 32) : (digOf s).toList.getD k 0 = digAt s k := by
  have : (digOf s).toList[k]? = some (digAt s k) := by
    simp [digOf, hk]
  rw [List.getD_eq_getElem?_getD, this, Option.getD_some]
theorem dig_cells (s : S8) : dcells (digOf s) = tab 32 (fun k => byteV (digAt s k)) := by
  rw [dcells_tab]
  exact tab_ext fun k hk => by rw [dig_get s hk]
noncomputable def tagged (tag b : List UInt8) : Dig := sha ((sha tag).toList ++ b)
end Go.Proofs.Ch
