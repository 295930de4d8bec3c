/- Lists of values in memory; links, factors; what is derived. No program is named here. -/
import Derived.Test.YtglmkcfmcoianaaGreatDoorSi
import Derived.Test.YtglmkcfmcoianaaGreatDoorGb
import Derived.Test.YtglmkcfmcoianaaGreatDoorHy
namespace Go.Proofs.Ch
open Go
theorem cut_skip : ∀ (r l : List Value) (k n : Nat), cut (r.length + k) n (r ++ l) = cut k n l
  | [], l, k, n => by simp
  | a :: r, l, k, n => by
    rw [List.cons_append, List.length_cons, show r.length + 1 + k = (r.length + k) + 1 from by omega]
    show cut (r.length + k) n (r ++ l) = _
    exact cut_skip r l k n
theorem cut_left : ∀ (r l : List Value), cut 0 r.length (r ++ l) = some r
  | [], l => by cases l <;> rfl
  | a :: r, l => by
    rw [List.length_cons, List.cons_append]
    simp only [cut, cut_left r l]
/-- the cells of values, one value after the other -/
inductive VRs (h : Heap) : List (List Value) → List V → Prop
  | nil : VRs h [] []
  | cons {cs : List Value} {m : V} {rows : List (List Value)} {ms : List V} : VR h cs m → VRs h rows ms → VRs h (cs :: rows) (m :: ms)
theorem VRs.le {h h' : Heap} (hl : Heap.le h h') {rows : List (List Value)} {ms : List V} (v : VRs h rows ms) : VRs h' rows ms := by
  induction v with
  | nil => exact .nil
  | cons a _ ih => exact .cons (a.le hl) ih
theorem VRs.app {h : Heap} {rows rows2 : List (List Value)} {ms ms2 : List V} (v : VRs h rows ms) (v2 : VRs h rows2 ms2) : VRs h (rows ++ rows2) (ms ++ ms2) := by
  induction v with
  | nil => exact v2
  | cons a _ ih => exact .cons a ih
theorem VRs.get {h : Heap} {rows : List (List Value)} {ms : List V} (v : VRs h rows ms) (pad : List Value) : ∀ {i : Nat} {m : V}, ms[i]? = some m → VR h (rows.getD i []) m ∧ cut (i * 4) 4 (rows.flatten ++ pad) = some (rows.getD i []) := by
  induction v with
  | nil => intro i m h; simp at h
  | @cons cs m rows ms a _ ih =>
    intro i m' hi
    have h4 := a.four.1
    cases i with
    | zero =>
      simp at hi; subst hi
      refine ⟨a, ?_⟩
      have := cut_left cs (rows.flatten ++ pad)
      rw [h4] at this
      simpa [List.append_assoc] using this
    | succ i =>
      obtain ⟨h1, h2⟩ := ih (by simpa using hi)
      refine ⟨by simpa using h1, ?_⟩
      have := cut_skip cs (rows.flatten ++ pad) (i * 4) 4
      rw [h4] at this
      rw [List.flatten_cons, List.append_assoc, show (i + 1) * 4 = 4 + i * 4 from by omega, this, h2]
      rfl
theorem VR.rows {h : Heap} {b cap n : Nat} {rows : List (List Value)} {ms : List V} {pad : List Value} {T : TypeId} {fr : Nat × Nat} (hb : h b = some (.cells ⟨rows.flatten ++ pad⟩ T fr)) (hr : VRs h rows ms) (hn : ms.length = n) (hlt : n < 9223372036854775808) : VR h [.int .i64 3, .int .i64 0, noStr, .slice (some ⟨b, 0, none⟩) n cap] (.list ms) := by
  subst hn
  refine .list ms _ cap (fun i => rows.getD i []) hlt (fun i hi => ⟨b, 0, _, T, fr, rfl, hb, ?_⟩) (fun i m hm => (hr.get pad hm).1)
  rw [Nat.zero_add]
  exact (hr.get pad (List.getElem?_eq_getElem hi)).2
/-- a slice that is known for good, with its elements' cells -/
def FrS (et : TypeId) (size : Nat) (v : Value) (n : Nat) (xs : List Value) (h : Heap) : Prop :=
  (v = .slice none 0 0 ∧ n = 0 ∧ xs = []) ∨ ∃ b cap pad, v = .slice (some ⟨b, 0, none⟩) n cap ∧ xs.length = n * size ∧ n ≤ cap ∧ h b = some (.cells ⟨xs ++ pad⟩ et (0, 0))
theorem FrS.le {et : TypeId} {size n : Nat} {v : Value} {xs : List Value} {h h' : Heap} (s : FrS et size v n xs h) (hl : Heap.le h h') : FrS et size v n xs h' := by
  rcases s with s | ⟨b, cap, pad, h1, h2, h3, h4⟩
  · exact .inl s
  · exact .inr ⟨b, cap, pad, h1, h2, h3, hl _ _ h4⟩
theorem FrS.vr {et : TypeId} {v : Value} {h : Heap} {rows : List (List Value)} {ms : List V} {n : Nat} (s : FrS et 4 v n rows.flatten h) (hr : VRs h rows ms) (hn : ms.length = n) (hlt : n < 9223372036854775808) : ∃ a cap, v = .slice a n cap ∧ VR h [.int .i64 3, .int .i64 0, noStr, .slice a n cap] (.list ms) := by
  rcases s with ⟨rfl, rfl, _⟩ | ⟨b, cap, pad, rfl, _, _, hb⟩
  · refine ⟨none, 0, rfl, ?_⟩
    have : ms = [] := List.length_eq_zero_iff.1 hn
    subst this
    exact .list [] none 0 (fun _ => []) (by decide) (fun i hi => absurd hi (Nat.not_lt_zero i)) (fun i m hm => by simp at hm)
  · exact ⟨_, cap, rfl, VR.rows hb hr hn hlt⟩
section
variable {C : Cx} {R : Pst} {k : List K} {e : Env} {ds : List Deferred} {h : Heap} {L : Owned} {ops : Array Oper} {l : List Oper} {Q : Pst}
theorem WL_freezeF {et : TypeId} {size : Nat} {v : Value} {n : Nat} {xs : List Value} {L1 : Owned} (s : OwnS et size v n xs L1) (H : ∀ h', Heap.le h h' → FrS et size v n xs h' → WL C ops l Q e ds h' L) : WL C ops l Q e ds h (L1 ++ L) := by
  rcases s with ⟨rfl, rfl, rfl, rfl⟩ | ⟨b, cap, pad, rfl, hl, hp, hnc, _, rfl⟩
  · exact H h (Heap.le.refl _) (.inl ⟨rfl, rfl, rfl⟩)
  · exact WL_freeze fun h2 hl2 hb => H h2 hl2 (.inr ⟨b, cap, pad, rfl, hl, hnc, hb⟩)
theorem op1_freezeF {R1 : Owned} {o : Oper} {et : TypeId} {size : Nat} {n : Nat} {xs : List Value} (ho : Op1 C o e h L (fun v h' L' => ∃ L1, Heap.le h h' ∧ L' = L1 ++ R1 ∧ OwnS et size v n xs L1)) : Op1 C o e h L (fun v h' L' => Heap.le h h' ∧ L' = R1 ∧ FrS et size v n xs h') := by
  intro ds a w next Q he hs H
  refine ho ds a w next Q he hs ?_
  rintro v h' L' w' ⟨L1, hle, rfl, s⟩ hs'
  rcases s with ⟨rfl, rfl, rfl, rfl⟩ | ⟨b, cap, pad, rfl, hl, hp, hnc, _, rfl⟩
  · exact H _ h' R1 w' ⟨hle, rfl, .inl ⟨rfl, rfl, rfl⟩⟩ hs'
  · obtain ⟨s1, s2, s3⟩ := St.freeze hs'
    exact H _ _ _ w' ⟨hle.trans s2, rfl, .inr ⟨b, cap, pad, rfl, hl, hnc, s3⟩⟩ s1
theorem op1_appendF {L1 Lf : Owned} {d : Option Tmp} {ty : TypeId} {pos : String} {af : Array Edge} {g : Option (Nat × Bool)} {x y : Operand} {t tx et : TypeId} {dx : TypeDesc} {size bytes n m : Nat} {sv xv z : Value} {xs us zs : List Value} (hu : Und C.P t (.slice et)) (htx : Und C.P tx dx) (hdx : dx = .string ∨ ∃ e', dx = .slice e') (hz : Siz C.P et size) (hby : Byt C.P et bytes) (hb0 : bytes ≠ 0) (hzer : Zer C.P et z) (hzc : z.cells = ⟨zs⟩) (hzl : zs.length = size)
    (hx : ev e x = some sv) (hy : ev e y = some xv) (hs : OwnS et size sv n xs L1) (hsrc : Src h (L1 ++ Lf) size xv m us) (ho : us.all Value.oneCell' = true) (hfit : (n + m) * bytes ≤ 140737488355328) :
    Op1 C ⟨d, .call ⟨.builtin .append, #[x, y], #[t, tx]⟩, ty, pos, af, g⟩ e h (L1 ++ Lf) (fun v' h' L' => Heap.le h h' ∧ L' = Lf ∧ FrS et size v' (n + m) (xs ++ us) h') := by
  refine op1_freezeF (R1 := Lf) ?_
  intro ds a w next Q he hst H
  refine op1_append hu htx hdx hz hby hb0 hzer hzc hzl hx hy hs hsrc ho hfit ds a w next Q he hst ?_
  rintro v h' L' w' ⟨L2, rfl, rfl, ho2⟩ hs'
  exact H v _ _ w' ⟨L2, Heap.le.refl _, rfl, ho2⟩ hs'
theorem Op1.mono {o : Oper} {G G' : Value → Heap → Owned → Prop} (ho : Op1 C o e h L G) (hg : ∀ v h' L', G v h' L' → G' v h' L') : Op1 C o e h L G' :=
  fun ds a w next Q he hs H => ho ds a w next Q he hs fun v h' L' w' hG hs' => H v h' L' w' (hg _ _ _ hG) hs'
end
/-- a digest as a text -/
def dstr (d : Dig) : ByteArray := ⟨⟨d.toList⟩⟩
theorem dstr_size (d : Dig) : (dstr d).size = 32 := by
  show d.toList.length = 32
  simp
def Ri (n : Int) : Prop := -9223372036854775808 ≤ n ∧ n < 9223372036854775808
theorem enc_int {n : Int} (h : Ri n) : (V.enc (.int n)).length ≤ 11 := by
  have := num_len10 (zig_lt h.1 h.2)
  rw [V.enc, List.length_cons]; omega
theorem enc_dig (d : Dig) : (V.enc (.text (dstr d))).length ≤ 43 := by
  have := num_len10 (u := (dstr d).size) (by rw [dstr_size]; decide)
  rw [V.enc, List.length_cons, List.length_append]
  have h2 : (dstr d).data.toList.length = 32 := by show d.toList.length = 32; simp
  omega
theorem enc_list {l : List V} (h : l.length < 18446744073709551616) : (V.enc (.list l)).length ≤ 11 + (encs l).length := by
  have := num_len10 h
  rw [V.enc, List.length_cons, List.length_append]; omega
theorem encs_cons (m : V) (l : List V) : (encs (m :: l)).length = m.enc.length + (encs l).length := by rw [encs, List.length_append]
theorem encs_nil : (encs ([] : List V)).length = 0 := rfl
abbrev iC (n : Int) : List Value := [.int .i64 1, .int .i64 n, noStr, .slice none 0 0]
abbrev tC (d : Dig) : List Value := [.int .i64 2, .int .i64 0, .string (dstr d), .slice none 0 0]
/-- a link -/
structure Lk where
  f : Int
  b : Int
  p : Int
  v : Int
  x : Int
  re : Bool
  pa : Dig
  r : Int
  s : Int
def Lk.cells (l : Lk) : List Value := [.int .i64 l.f, .int .i64 l.b, .int .i64 l.p, .int .i64 l.v, .int .i64 l.x, .bool l.re] ++ (dcells l.pa ++ [.int .i64 l.r, .int .i64 l.s])
def Lk.ok (l : Lk) : Prop := Ri l.f ∧ Ri l.b ∧ Ri l.p ∧ Ri l.v ∧ Ri l.x ∧ Ri l.r ∧ Ri l.s
def flagN (b : Bool) : Int := if b then 1 else 0
theorem flagN_ri (b : Bool) : Ri (flagN b) := by cases b <;> exact ⟨by decide, by decide⟩
def Lk.vs (l : Lk) : List V := [.int l.f, .int l.b, .int l.p, .int l.v, .int l.x, .int (flagN l.re), .text (dstr l.pa)]
def Lk.rows (l : Lk) : List (List Value) := [iC l.f, iC l.b, iC l.p, iC l.v, iC l.x, iC (flagN l.re), tC l.pa]
theorem Lk.vrs {l : Lk} (h : l.ok) (hp : Heap) : VRs hp l.rows l.vs := by
  obtain ⟨h1, h2, h3, h4, h5, _, _⟩ := h
  exact .cons (.int _ h1.1 h1.2) (.cons (.int _ h2.1 h2.2) (.cons (.int _ h3.1 h3.2) (.cons (.int _ h4.1 h4.2) (.cons (.int _ h5.1 h5.2) (.cons (.int _ (flagN_ri _).1 (flagN_ri _).2) (.cons (.text _) .nil))))))
theorem Lk.len {l : Lk} (h : l.ok) : (encs l.vs).length ≤ 200 := by
  obtain ⟨h1, h2, h3, h4, h5, _, _⟩ := h
  have e1 := enc_int h1
  have e2 := enc_int h2
  have e3 := enc_int h3
  have e4 := enc_int h4
  have e5 := enc_int h5
  have e6 := enc_int (flagN_ri l.re)
  have e7 := enc_dig l.pa
  unfold Lk.vs
  rw [encs_cons, encs_cons, encs_cons, encs_cons, encs_cons, encs_cons, encs_cons, encs_nil]
  omega
theorem Lk.dep (l : Lk) : (V.list l.vs).depth ≤ 16 := by simp [V.depth, dmax, Lk.vs]
def Lk.vs2 (l : Lk) : List V := l.vs ++ [.int l.r, .int l.s]
def Lk.rows2 (l : Lk) : List (List Value) := l.rows ++ [iC l.r, iC l.s]
theorem Lk.vrs2 {l : Lk} (h : l.ok) (hp : Heap) : VRs hp l.rows2 l.vs2 :=
  (Lk.vrs h hp).app (.cons (.int _ h.2.2.2.2.2.1.1 h.2.2.2.2.2.1.2) (.cons (.int _ h.2.2.2.2.2.2.1 h.2.2.2.2.2.2.2) .nil))
theorem Lk.len2 {l : Lk} (h : l.ok) : (encs l.vs2).length ≤ 230 := by
  have e0 := Lk.len h
  have e1 := enc_int h.2.2.2.2.2.1
  have e2 := enc_int h.2.2.2.2.2.2
  unfold Lk.vs2
  rw [encs_app, List.length_append, encs_cons, encs_cons, encs_nil]
  omega
theorem Lk.dep2 (l : Lk) : (V.list l.vs2).depth ≤ 16 := by simp [V.depth, dmax, Lk.vs2, Lk.vs]
def dz : Dig := Vector.replicate 32 0
/-- a link of a valid form -/
def Lk.formed (l : Lk) : Prop := 0 ≤ l.f ∧ l.f < 16 ∧ -1 ≤ l.b ∧ l.b < 512 ∧ GC l.p ∧ GC l.v ∧ 1 ≤ l.x ∧ l.x ≤ 1099511627776 ∧ (l.b = -1 ∨ l.pa = dz)
instance (l : Lk) : Decidable l.formed := inferInstanceAs (Decidable (_ ∧ _ ∧ _ ∧ _ ∧ _ ∧ _ ∧ _ ∧ _ ∧ _))
/-- a factor -/
structure Fa where
  l : Dig
  c : Dig
  b : Int
  n : Int
  r : Int
  s : Int
def Fa.cells (f : Fa) : List Value := dcells f.l ++ (dcells f.c ++ [.int .i64 f.b, .int .i64 f.n, .int .i64 f.r, .int .i64 f.s])
def Fa.vs (f : Fa) : List V := [.text (dstr f.l), .text (dstr f.c), .int f.b, .int f.n]
def Fa.rows (f : Fa) : List (List Value) := [tC f.l, tC f.c, iC f.b, iC f.n]
theorem Fa.vrs {f : Fa} (hb : Ri f.b) (hn : Ri f.n) (hp : Heap) : VRs hp f.rows f.vs :=
  .cons (.text _) (.cons (.text _) (.cons (.int _ hb.1 hb.2) (.cons (.int _ hn.1 hn.2) .nil)))
theorem Fa.dep (f : Fa) : (V.list f.vs).depth ≤ 16 := by simp [V.depth, dmax, Fa.vs]
theorem Fa.len {f : Fa} (hb : Ri f.b) (hn : Ri f.n) : (encs f.vs).length ≤ 110 := by
  have e1 := enc_dig f.l
  have e2 := enc_dig f.c
  have e3 := enc_int hb
  have e4 := enc_int hn
  unfold Fa.vs
  rw [encs_cons, encs_cons, encs_cons, encs_cons, encs_nil]
  omega
theorem Lk.len40 (l : Lk) : l.cells.length = 40 := rfl
theorem Lk.one (l : Lk) : l.cells.all Value.oneCell' = true := rfl
theorem Lk.cutS (l : Lk) : cut 0 40 l.cells = some l.cells := cut_self rfl
theorem Fa.len68 (f : Fa) : f.cells.length = 68 := rfl
theorem Fa.one (f : Fa) : f.cells.all Value.oneCell' = true := rfl
theorem Fa.cutS (f : Fa) : cut 0 68 f.cells = some f.cells := cut_self rfl
theorem Lk.cutP (l : Lk) : cut 6 32 l.cells = some (dcells l.pa) := rfl
theorem Lk.cutG (l : Lk) : cut 38 2 l.cells = some [.int .i64 l.r, .int .i64 l.s] := rfl
theorem Lk.getx (l : Lk) : l.cells[4]? = some (.int .i64 l.x) := rfl
theorem cut_at (pre mid post : List Value) : cut pre.length mid.length (pre ++ mid ++ post) = some mid := by
  have := cut_skip pre (mid ++ post) 0 mid.length
  rw [Nat.add_zero] at this
  rw [List.append_assoc, this, cut_left]
theorem Fa.cutL (f : Fa) : cut 0 32 f.cells = some (dcells f.l) := by
  have h := cut_left (dcells f.l) (dcells f.c ++ [Value.int .i64 f.b, Value.int .i64 f.n, Value.int .i64 f.r, Value.int .i64 f.s])
  rw [show (dcells f.l).length = 32 from rfl] at h
  exact h
theorem Fa.cutC (f : Fa) : cut 32 32 f.cells = some (dcells f.c) := by
  have h := cut_at (dcells f.l) (dcells f.c) [.int .i64 f.b, .int .i64 f.n, .int .i64 f.r, .int .i64 f.s]
  rw [List.append_assoc] at h
  exact h
theorem Fa.cutG (f : Fa) : cut 66 2 f.cells = some [.int .i64 f.r, .int .i64 f.s] := by
  have h := cut_at (dcells f.l ++ (dcells f.c ++ [.int .i64 f.b, .int .i64 f.n])) [.int .i64 f.r, .int .i64 f.s] []
  simp only [List.append_assoc, List.cons_append, List.nil_append, List.append_nil] at h
  exact h
theorem Lk.spl_sig (f b p v x : Int) (re : Bool) (pa : Dig) (r s r' s' : Int) : spl 38 [.int .i64 r', .int .i64 s'] (Lk.mk f b p v x re pa r s).cells = some (Lk.mk f b p v x re pa r' s').cells := rfl
theorem Fa.spl_n (l c : Dig) (b n r s n' : Int) : spl 65 [.int .i64 n'] (Fa.mk l c b n r s).cells = some (Fa.mk l c b n' r s).cells := by
  have h := spl_app (dcells l ++ (dcells c ++ [.int .i64 b])) [.int .i64 n] [.int .i64 r, .int .i64 s] [.int .i64 n'] rfl
  rw [show (dcells l ++ (dcells c ++ [Value.int .i64 b])).length = 65 from rfl] at h
  simp only [List.append_assoc, List.cons_append, List.nil_append] at h
  exact h
theorem Fa.spl_sig (l c : Dig) (b n r s r' s' : Int) : spl 66 [.int .i64 r', .int .i64 s'] (Fa.mk l c b n r s).cells = some (Fa.mk l c b n r' s').cells := by
  have h := spl_app (dcells l ++ (dcells c ++ [.int .i64 b, .int .i64 n])) [.int .i64 r, .int .i64 s] [] [.int .i64 r', .int .i64 s'] rfl
  rw [show (dcells l ++ (dcells c ++ [Value.int .i64 b, .int .i64 n])).length = 66 from rfl] at h
  simp only [List.append_assoc, List.cons_append, List.nil_append, List.append_nil] at h
  exact h
theorem gcE (a : Int) : decide ((if GC a then (0 : Int) else 40) = 0) = decide (GC a) := by
  by_cases g : GC a
  · rw [if_pos g]; simp [g]
  · rw [if_neg g]; simp [g]
theorem gexpV_ri (a k : Int) : Ri (gexpV a k) := by
  unfold gexpV Ri
  split
  · have := mpow_lt (m := 4611686018427377339) (a := a.toNat) (k := k.toNat) (by decide)
    omega
  · omega
theorem ri_of {n : Int} (h : 0 ≤ n ∧ n < 2305843009213688669) : Ri n := by unfold Ri; omega
theorem gexp41 : gexpV 4 1 = 4 := by
  unfold gexpV
  rw [if_pos ⟨GC4, by decide, by decide⟩, mpow_pw 2 (by decide)]
  decide +kernel
theorem gexp42 : gexpV 4 2 = 16 := by
  unfold gexpV
  rw [if_pos ⟨GC4, by decide, by decide⟩, mpow_pw 3 (by decide)]
  decide +kernel
def dz1 : Dig := #v[1, 0, 0, 0, 0, 0, 0, 0, 0, 0, 0, 0, 0, 0, 0, 0, 0, 0, 0, 0, 0, 0, 0, 0, 0, 0, 0, 0, 0, 0, 0, 0]
theorem dz1_ne : dz1 ≠ dz := fun h => by
  have := congrArg (fun d : Dig => d[0]) h
  revert this
  decide
def recz : List Value := [.slice none 0 0, .slice none 0 0, .slice none 0 0, .slice none 0 0, .slice none 0 0, .slice none 0 0, .slice none 0 0, .slice none 0 0]
def scz : List Value := [.slice none 0 0, .slice none 0 0, .slice none 0 0, .slice none 0 0, .slice none 0 0, .slice none 0 0, .slice none 0 0, .slice none 0 0, .slice none 0 0]
theorem Fa.getb (f : Fa) : f.cells[64]? = some (.int .i64 f.b) := rfl
theorem Fa.getn (f : Fa) : f.cells[65]? = some (.int .i64 f.n) := rfl
def capz : List Value := [Value.int .i64 0, Value.int .i64 0] ++ dcells dz
def lk4 (x : Int) (pa : Dig) : Lk := ⟨0, 0, 4, 4, x, false, pa, 0, 0⟩
theorem ri0 : Ri 0 := ⟨by decide, by decide⟩
theorem ri1 : Ri 1 := ⟨by decide, by decide⟩
theorem ri4 : Ri 4 := ⟨by decide, by decide⟩
theorem lk4_ok {x : Int} (h : Ri x) (pa : Dig) : (lk4 x pa).ok := ⟨ri0, ri0, ri4, ri4, h, ri0, ri0⟩
theorem lk4_f {pa : Dig} {r s : Int} (h : pa = dz) : (Lk.mk 0 0 4 4 1 false pa r s).formed := ⟨(by decide : (0 : Int) ≤ 0), (by decide : (0 : Int) < 16), (by decide : (-1 : Int) ≤ 0), (by decide : (0 : Int) < 512), GC4, GC4, (by decide : (1 : Int) ≤ 1), (by decide : (1 : Int) ≤ 1099511627776), .inr h⟩
theorem lk4_n0 {pa : Dig} : ¬ (lk4 0 pa).formed := fun g => absurd (show (1 : Int) ≤ 0 from g.2.2.2.2.2.2.1) (by decide)
theorem lk4_n1 : ¬ (lk4 1 dz1).formed := fun g => g.2.2.2.2.2.2.2.2.elim (fun h => absurd (show (0 : Int) = -1 from h) (by decide)) (fun h => dz1_ne h)
end Go.Proofs.Ch
