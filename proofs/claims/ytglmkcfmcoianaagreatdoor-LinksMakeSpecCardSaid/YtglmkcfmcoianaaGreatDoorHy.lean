/- Bytes that are known for good; the end of a message, as the program lays it. No program is named here. -/
import Derived.Test.YtglmkcfmcoianaaGreatDoorHx
namespace Go.Proofs.Ch
open Go
/-- a slice of bytes that is known for good -/
def Bs (h : Heap) (v : Value) (xs : List UInt8) : Prop :=
  ∃ a cap, v = .slice a xs.length cap ∧ xs.length ≤ cap ∧ (0 < xs.length → ∃ b off cs T fr, a = some ⟨b, off, none⟩ ∧ h b = some (.cells ⟨cs⟩ T fr) ∧ ∀ j, j < xs.length → cs[off + j]? = some (byteV (xs.getD j 0)))
theorem Bs.le {h h' : Heap} {v : Value} {xs : List UInt8} (s : Bs h v xs) (hl : Heap.le h h') : Bs h' v xs := by
  obtain ⟨a, cap, rfl, hc, hx⟩ := s
  refine ⟨a, cap, rfl, hc, fun h0 => ?_⟩
  obtain ⟨b, off, cs, T, fr, h1, h2, h3⟩ := hx h0
  exact ⟨b, off, cs, T, fr, h1, hl _ _ h2, h3⟩
theorem Bs.nil {h : Heap} {cap : Nat} : Bs h (.slice none 0 cap) [] := ⟨none, cap, rfl, Nat.zero_le _, fun h0 => absurd h0 (by simp)⟩
theorem cut_of_get {i n : Nat} {l : List Value} {f : Nat → Value} (h : ∀ j, j < n → l[i + j]? = some (f j)) (h0 : 0 < n) : cut i n l = some (tab n f) := by
  have hlen : i + n ≤ l.length := by
    have := h (n - 1) (by omega)
    have := (List.getElem?_eq_some_iff.1 this).1
    omega
  obtain ⟨r, hr⟩ := cut_len hlen
  rw [hr]
  congr 1
  exact tab_of (cut_spec hr).2 fun k hk => by rw [← cut_get hr hk, h k hk]
theorem bytes_tab {xs : List UInt8} : xs.map byteV = tab xs.length (fun j => byteV (xs.getD j 0)) :=
  tab_of (by simp) fun k hk => by rw [List.getElem?_map, List.getElem?_eq_getElem hk]; simp [List.getElem?_eq_getElem hk]
theorem Bs.src {h : Heap} {L : Owned} {v : Value} {xs : List UInt8} (s : Bs h v xs) : Src h L 1 v xs.length (xs.map byteV) := by
  obtain ⟨a, cap, rfl, hc, hx⟩ := s
  rcases Nat.eq_zero_or_pos xs.length with h0 | h0
  · have : xs = [] := List.length_eq_zero_iff.1 h0
    subst this
    exact .inr (.inl ⟨a, cap, rfl, rfl, rfl⟩)
  · obtain ⟨b, off, cs, T, fr, rfl, h2, h3⟩ := hx h0
    refine Src.per h2 ?_
    rw [Nat.mul_one, cut_of_get h3 h0, bytes_tab]
theorem Bs.part {h : Heap} {b off n cap : Nat} {cs : List Value} {T : TypeId} {fr : Nat × Nat} {xs : List UInt8} (hb : h b = some (.cells ⟨cs⟩ T fr)) (hn : xs.length = n) (hc : n ≤ cap) (hx : ∀ j, j < n → cs[off + j]? = some (byteV (xs.getD j 0))) : Bs h (.slice (some ⟨b, off, none⟩) n cap) xs := by
  subst hn
  exact ⟨_, cap, rfl, hc, fun _ => ⟨b, off, cs, T, fr, rfl, hb, hx⟩⟩
theorem Bs.row {h : Heap} {b cap : Nat} {pad : List Value} {T : TypeId} {fr : Nat × Nat} {xs : List UInt8} {n : Nat} (hb : h b = some (.cells ⟨xs.map byteV ++ pad⟩ T fr)) (hn : xs.length = n) (hc : n ≤ cap) : Bs h (.slice (some ⟨b, 0, none⟩) n cap) xs :=
  Bs.part hb hn hc fun j hj => by
    have h1 : j < xs.length := by omega
    rw [Nat.zero_add, List.getElem?_append_left (by simpa using h1), List.getElem?_map, List.getElem?_eq_getElem h1]
    simp [List.getElem?_eq_getElem h1]
theorem OwnS.bs {h : Heap} {et : TypeId} {v : Value} {n : Nat} {xs : List UInt8} {L1 : Owned} (s : OwnS et 1 v n (xs.map byteV) L1) (hL : ∀ p ∈ L1, h p.1 = some p.2) : Bs h v xs := by
  rcases s with ⟨rfl, rfl, h1, rfl⟩ | ⟨b, cap, pad, rfl, hl, hp, hnc, _, rfl⟩
  · have : xs = [] := by simpa using h1
    subst this; exact Bs.nil
  · exact Bs.row (hL (b, .cells ⟨xs.map byteV ++ pad⟩ et (0, 0)) (by simp)) (by simpa using hl) hnc
theorem zlist_tab {z : Value} {n : Nat} : zlist [z] n = tab n (fun _ => z) := by
  unfold zlist tab
  simp only [List.length_singleton, Nat.mul_one]
  refine List.map_congr_left fun i _ => ?_
  rw [Nat.mod_one]; rfl
theorem spl_all {l l' : List Value} (h : l.length = l'.length) : spl 0 l l' = some l := by
  have := spl_app [] l' [] l h
  simpa using this
theorem tab_spl_list {N m off : Nat} {f : Nat → Value} {g : Nat → Value} (h : off + m ≤ N) : spl off (tab m g) (tab N f) = some (tab N (fun k => if off ≤ k ∧ k < off + m then g (k - off) else f k)) := by
  obtain ⟨r, hr⟩ := spl_total (i := off) (vs := tab m g) (l := tab N f) (by rw [tab_len, tab_len]; exact h)
  rw [hr]
  congr 1
  obtain ⟨h1, _, h3⟩ := spl_spec hr
  refine tab_of (by rw [h1, tab_len]) fun k hk => ?_
  rw [h3 k, tab_len]
  by_cases hc : off ≤ k ∧ k < off + m
  · rw [if_pos hc, if_pos hc, tab_get (by omega)]
  · rw [if_neg hc, if_neg hc, tab_get hk]

/-! the end of a message -/
def e0 (xs : List UInt8) (q r : Nat) (k : Nat) : Value := if k < r then byteV (xs.getD (64 * q + k) 0) else byteV 0
def e1 (xs : List UInt8) (q r : Nat) (k : Nat) : Value := if k = r then byteV 128 else e0 xs q r k
theorem padf_lo {xs : List UInt8} {j : Nat} (h : j < xs.length) : padf xs j = xs.getD j 0 := by rw [padf, if_pos h]
theorem padL_ge (n : Nat) : n + 9 ≤ padL n := by unfold padL; split <;> omega
theorem end_val {xs : List UInt8} {E k : Nat} (hE : E = if xs.length % 64 ≤ 55 then 64 else 128) (hk : k < E) :
    (if E - 8 + (8 - 8) ≤ k ∧ k < E - 8 + 8 then byteV (byteAt (xs.length * 8) (E - 8 + 8 - 1 - k)) else e1 xs (xs.length / 64) (xs.length % 64) k) = byteV (padf xs (64 * (xs.length / 64) + k)) := by
  have hP : padL xs.length = 64 * (xs.length / 64) + E := by rw [padL, hE]
  have hE8 : 64 ≤ E := by rw [hE]; split <;> omega
  have hr : xs.length % 64 + 9 ≤ E := by rw [hE]; split <;> omega
  have hn : xs.length = 64 * (xs.length / 64) + xs.length % 64 := by omega
  unfold padf
  rw [hP]
  generalize hq : xs.length / 64 = q at *
  generalize hr' : xs.length % 64 = r at *
  by_cases h1 : E - 8 ≤ k
  · rw [if_pos (by omega), if_neg (by omega), if_neg (by omega), if_neg (by omega)]
    congr 2; omega
  · rw [if_neg (by omega)]
    unfold e1 e0
    by_cases h2 : k = r
    · rw [if_pos h2, if_neg (by omega), if_pos (by omega)]
    · rw [if_neg h2]
      by_cases h3 : k < r
      · rw [if_pos h3, if_pos (by omega)]
      · rw [if_neg h3, if_neg (by omega), if_neg (by omega), if_pos (by omega)]
theorem padL_div (n : Nat) : padL n / 64 = n / 64 + (if n % 64 ≤ 55 then 1 else 2) := by unfold padL; split <;> omega
/-- the digest's bytes, as far as they are laid -/
def dtab (s : S8) (i : Nat) : List Value := tab 32 (fun k => if k < 4 * i then byteV (digAt s k) else byteV 0)
theorem dtab_0 (s : S8) : tab 32 (fun _ => byteV 0) = dtab s 0 := tab_ext fun k _ => by rw [if_neg (by omega)]
theorem dtab_8 (s : S8) : dtab s 8 = dcells (digOf s) := by
  rw [dig_cells]; exact tab_ext fun k hk => by rw [if_pos (by omega)]
theorem dtab_next {s : S8} {i : Nat} (hi : i < 8) : ptab 32 (fun k => if k < 4 * i then byteV (digAt s k) else byteV 0) (s.get i).toNat (4 * i) 4 4 = dtab s (i + 1) := by
  refine tab_ext fun k hk => ?_
  by_cases h1 : 4 * i + (4 - 4) ≤ k ∧ k < 4 * i + 4
  · rw [if_pos h1, if_pos (by omega), digAt, show k / 4 = i from by omega]
    congr 2; omega
  · rw [if_neg h1]
    show (if k < 4 * i then byteV (digAt s k) else byteV 0) = _
    by_cases h2 : k < 4 * i
    · rw [if_pos h2, if_pos (by omega)]
    · rw [if_neg h2, if_neg (by omega)]
theorem tab_bytes_one {n m : Nat} (x : Nat → UInt8) : ((tab n (fun j => byteV (x j))).take m).all Value.oneCell' = true := by
  rw [List.all_eq_true]
  intro v hv
  have := List.mem_of_mem_take hv
  simp only [tab, List.mem_map] at this
  obtain ⟨j, _, rfl⟩ := this
  rfl
theorem copy_e0 {xs : List UInt8} {i q r : Nat} (hq : i = q) (hr : xs.length - 64 * i = r) : tab 128 (fun k => if 0 ≤ k ∧ k < 0 + (xs.length - 64 * i) then (fun j => byteV (xs.getD (64 * i + j) 0)) (k - 0) else (fun _ => byteV 0) k) = tab 128 (e0 xs q r) := by
  subst hq hr
  refine tab_ext fun k _ => ?_
  unfold e0
  by_cases hk : k < xs.length - 64 * i
  · rw [if_pos ⟨Nat.zero_le _, by omega⟩, if_pos hk]; rfl
  · rw [if_neg (fun hh => hk (by omega)), if_neg hk]
theorem set_e1 {xs : List UInt8} {i q r : Nat} (hr : xs.length - 64 * i = r) : tab 128 (fun k => if k = 0 + (xs.length - 64 * i) * 1 then Value.int .u8 128 else e0 xs q r k) = tab 128 (e1 xs q r) := by
  refine tab_ext fun k _ => ?_
  rw [Nat.zero_add, Nat.mul_one, hr]; rfl
theorem rest_src {h h' : Heap} {L : Owned} {xs : List UInt8} {a a2 : Option Addr} {i cap : Nat} (hkn : 0 < xs.length → ∃ b off cs T fr, a = some ⟨b, off, none⟩ ∧ h b = some (.cells ⟨cs⟩ T fr) ∧ ∀ j, j < xs.length → cs[off + j]? = some (byteV (xs.getD j 0)))
    (i1 : 64 * i ≤ xs.length) (i2 : 64 * i < xs.length → ∀ b off, a = some ⟨b, off, none⟩ → a2 = some ⟨b, off + 64 * i, none⟩) (hle : Heap.le h h') :
    Src h' L 1 (.slice a2 (xs.length - 64 * i) cap) (xs.length - 64 * i) (tab (xs.length - 64 * i) (fun j => byteV (xs.getD (64 * i + j) 0))) := by
  rcases Nat.eq_or_lt_of_le i1 with he | hlt
  · rw [show xs.length - 64 * i = 0 from by omega]
    exact .inr (.inl ⟨a2, cap, rfl, rfl, rfl⟩)
  · obtain ⟨b, off, cs, T, fr, rfl, hb, hx⟩ := hkn (by omega)
    obtain rfl := i2 hlt _ _ rfl
    refine Src.per (hle _ _ hb) ?_
    rw [Nat.mul_one]
    exact cut_of_get (fun j hj => by rw [Nat.add_assoc, hx _ (by omega)]) (by omega)
theorem dcells_src (d : Dig) {j : Nat} (hj : j < 32) : (dcells d)[j]? = some (byteV (d.toList.getD j 0)) := by
  rw [dcells_eq, List.getElem?_map]
  have h1 : j < d.toList.length := by simpa using hj
  rw [List.getElem?_eq_getElem h1]
  simp [List.getElem?_eq_getElem h1]
/-- a digest in memory, as bytes -/
theorem Bs.dig {h : Heap} {b cap : Nat} {d : Dig} {T : TypeId} {fr : Nat × Nat} (hb : h b = some (.cells ⟨dcells d⟩ T fr)) (hc : 32 ≤ cap) : Bs h (.slice (some ⟨b, 0, none⟩) 32 cap) d.toList :=
  Bs.part hb (by simp) hc fun j hj => by rw [Nat.zero_add, dcells_src d hj]
section
variable {C : Cx} {e : Env} {ds : List Deferred} {h : Heap} {L : Owned} {ops : Array Oper} {l : List Oper} {Q : Pst}
/-- what was one's own stays as it is from now on -/
theorem WL_freezeS {et : TypeId} {v : Value} {n : Nat} {xs : List UInt8} {L1 : Owned} (s : OwnS et 1 v n (xs.map byteV) L1) (H : ∀ h', Heap.le h h' → Bs h' v xs → WL C ops l Q e ds h' L) : WL C ops l Q e ds h (L1 ++ L) := by
  rcases s with ⟨rfl, rfl, h1, rfl⟩ | ⟨b, cap, pad, rfl, hl, hp, hnc, _, rfl⟩
  · have : xs = [] := by simpa using h1
    subst this; exact H h (Heap.le.refl _) Bs.nil
  · exact WL_freeze fun h2 hl2 hb => H h2 hl2 (Bs.row hb (by simpa using hl) hnc)
end
theorem take_flat {xss : List (List UInt8)} {i : Nat} (hi : i < xss.length) : (xss.take (i + 1)).flatten = (xss.take i).flatten ++ xss.getD i [] := by
  rw [List.take_add_one, List.flatten_append, List.getElem?_eq_getElem hi]
  simp [List.getElem?_eq_getElem hi]
theorem take_flat_le {xss : List (List UInt8)} {i : Nat} : (xss.take i).flatten.length ≤ xss.flatten.length := by
  conv => rhs; rw [← List.take_append_drop i xss, List.flatten_append, List.length_append]
  omega
theorem bytes_one (xs : List UInt8) : (xs.map byteV).all Value.oneCell' = true := by
  rw [List.all_eq_true]
  intro v hv
  obtain ⟨b, _, rfl⟩ := List.mem_map.1 hv
  rfl
theorem sz_list {b : ByteArray} : b.data.toList.length = b.size := by simp
end Go.Proofs.Ch
