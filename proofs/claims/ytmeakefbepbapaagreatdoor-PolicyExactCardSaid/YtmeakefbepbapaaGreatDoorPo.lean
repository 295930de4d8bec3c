/- Policies: what is checked, and who approves. No program is named here. -/
import Derived.Test.YtmeakefbepbapaaGreatDoorS3
import Derived.Test.YtmeakefbepbapaaGreatDoorV1
namespace Go.Proofs.Ch
open Go
def fineAt (l : List Int) (i : Nat) : Prop := 0 ≤ l.getD i 0 ∧ l.getD i 0 < 64 ∧ (0 < i → l.getD (i - 1) 0 < l.getD i 0)
instance (l : List Int) (i : Nat) : Decidable (fineAt l i) := inferInstanceAs (Decidable (_ ∧ _))
def fineB (l : List Int) : Bool := (List.range l.length).all fun i => decide (fineAt l i)
theorem fineB_no {l : List Int} {i : Nat} (hi : i < l.length) (h : ¬ fineAt l i) : fineB l = false := by
  unfold fineB
  rw [List.all_eq_false]
  exact ⟨i, List.mem_range.2 hi, by simpa using h⟩
theorem fineB_yes {l : List Int} (h : ∀ i, i < l.length → fineAt l i) : fineB l = true := by
  unfold fineB
  rw [List.all_eq_true]
  intro i hi
  simpa using h i (List.mem_range.1 hi)
/-- a policy -/
structure Pol where
  fo : Int
  two : Bool
  le : List Int
  ri : List Int
  lo : Int
  hi : Int
def Pol.form (p : Pol) : Prop := 0 ≤ p.fo ∧ p.fo < 16 ∧ fineB p.le = true ∧ fineB p.ri = true ∧ 0 ≤ p.lo ∧ p.lo ≤ p.hi ∧ p.hi ≤ 1099511627776
instance (p : Pol) : Decidable p.form := inferInstanceAs (Decidable (_ ∧ _))
def Pol.meet (p : Pol) : Bool := p.le.any fun x => decide (x ∈ p.ri)
def Pol.good (p : Pol) : Prop := p.form ∧ p.meet = false
instance (p : Pol) : Decidable p.good := inferInstanceAs (Decidable (_ ∧ _))
def polE (p : Pol) : Int := if p.good then 0 else 460
theorem polE_f {p : Pol} (h : ¬ p.form) : polE p = 460 := if_neg fun g => h g.1
theorem polE_m {p : Pol} (h : p.meet = true) : polE p = 460 := if_neg fun g => by rw [g.2] at h; cases h
theorem polE_ok {p : Pol} (h : p.form) (h2 : p.meet = false) : polE p = 0 := if_pos ⟨h, h2⟩
theorem polE_0 {p : Pol} (h : polE p = 0) : p.good := by
  by_cases g : p.good
  · exact g
  · rw [polE, if_neg g] at h; omega
theorem meet_range {p : Pol} : ((List.range p.le.length).any fun i => decide (p.le.getD i 0 ∈ p.ri)) = p.meet := any_range_getD (q := fun x => decide (x ∈ p.ri))
/-- a listing, the approval of a device -/
structure Lst where
  d : Int
  v : Int
  l : Int
  n : Int
  g : Bool
def Lst.cells (z : Lst) : List Value := [.int .i64 z.d, .int .i64 z.v, .int .i64 z.l, .int .i64 z.n, .bool z.g]
def lstz : Lst := ⟨0, 0, 0, 0, false⟩
structure Con where
  d : Int
  r : Int
  s : Int
def Con.cells (c : Con) : List Value := [.int .i64 c.d, .int .i64 c.r, .int .i64 c.s]
def conz : Con := ⟨0, 0, 0⟩
noncomputable def pmsg (it : Dig) (d : Int) : Dig := tagged [101, 120, 112, 111, 114, 116] (V.enc (.list [.text (dstr it), .int d]))
def at_ (xs : List Lst) (d : Int) : Int := findI (fun j => decide ((xs.getD j lstz).d = d)) xs.length
def own (d : Int) : Int := ((d.toNat / 8 : Nat) : Int)
def dev (d : Int) : Prop := 0 ≤ d ∧ d < 512
instance (d : Int) : Decidable (dev d) := inferInstanceAs (Decidable (_ ∧ _))
/-- an approval that counts -/
def cok (xs : List Lst) (it : Dig) (c : Con) : Prop := 0 ≤ at_ xs c.d ∧ (xs.getD (at_ xs c.d).toNat lstz).g = false ∧ dev c.d ∧ vrf (xs.getD (at_ xs c.d).toNat lstz).v (pmsg it c.d).toList c.r c.s = true
noncomputable instance (xs : List Lst) (it : Dig) (c : Con) : Decidable (cok xs it c) := inferInstanceAs (Decidable (_ ∧ _))
noncomputable def ows (xs : List Lst) (it : Dig) (cs : List Con) : List Int := (cs.filter fun c => decide (cok xs it c)).map fun c => own c.d
theorem ows_app (xs : List Lst) (it : Dig) (a b : List Con) : ows xs it (a ++ b) = ows xs it a ++ ows xs it b := by simp [ows]
theorem take_cons {cs : List Con} {k : Nat} (hk : k < cs.length) : cs.take (k + 1) = cs.take k ++ [cs.getD k conz] := by
  rw [List.take_add_one, List.getElem?_eq_getElem hk]
  simp [List.getElem?_eq_getElem hk]
theorem ows_yes {xs : List Lst} {it : Dig} {cs : List Con} {k : Nat} (hk : k < cs.length) (h : cok xs it (cs.getD k conz)) : ows xs it (cs.take (k + 1)) = ows xs it (cs.take k) ++ [own (cs.getD k conz).d] := by
  rw [take_cons hk, ows_app]
  congr 1
  unfold ows
  rw [List.filter_cons, if_pos (decide_eq_true h)]; rfl
theorem ows_no {xs : List Lst} {it : Dig} {cs : List Con} {k : Nat} (hk : k < cs.length) (h : ¬ cok xs it (cs.getD k conz)) : ows xs it (cs.take (k + 1)) = ows xs it (cs.take k) := by
  rw [take_cons hk, ows_app]
  have : ows xs it [cs.getD k conz] = [] := by
    unfold ows
    rw [List.filter_cons, if_neg (by simpa only [decide_eq_true_eq] using h)]; rfl
  rw [this, List.append_nil]
theorem ows_pre {xs : List Lst} {it : Dig} {cs : List Con} {k : Nat} (hk : k < cs.length) (h : cok xs it (cs.getD k conz)) : (ows xs it (cs.take k)).length < (ows xs it cs).length ∧ (ows xs it cs).getD (ows xs it (cs.take k)).length 0 = own (cs.getD k conz).d := by
  have e : ows xs it cs = ows xs it (cs.take k) ++ ([own (cs.getD k conz).d] ++ ows xs it (cs.drop (k + 1))) := by
    rw [← List.append_assoc, ← ows_yes hk h, ← ows_app, List.take_append_drop]
  rw [e]
  simp
/-- what Export answers -/
noncomputable def expE (p : Pol) (xs : List Lst) (it : Dig) (cs : List Con) : Int := if p.good then (if (setI (ows xs it cs)).length = 0 ∨ (p.two = true ∧ (setI (ows xs it cs)).length = 1) then 460 else 0) else 460
theorem setI_app {a : List Int} {z : Int} : setI (a ++ [z]) = addI (setI a) z := by simp [setI]
/-- what Approve makes -/
def apOk (d x : Int) : Prop := dev d ∧ isPr x
instance (d x : Int) : Decidable (apOk d x) := inferInstanceAs (Decidable (_ ∧ _))
noncomputable def apC (it : Dig) (d x : Int) : Con := if apOk d x then ⟨d, sgR x (pmsg it d).toList, sgS x (pmsg it d).toList⟩ else conz
noncomputable def apE (d x : Int) : Int := if dev d then (if isPr x then 0 else 50) else 1
/-- a listed device -/
noncomputable def lsd (d : Int) (g : Bool) : Lst := ⟨d, if isPr (d + 1) then gexpV 4 (d + 1) else 0, if isPr (d + 1) then gexpV 4 (d + 1) else 0, 1, g⟩
theorem isPr_dev {d : Int} (h : dev d) : isPr (d + 1) := by unfold dev at h; unfold isPr; omega
abbrev U0 : Value := .agg ⟨[]⟩
/-- the elements of a slice of numbers -/
def SlI (h : Heap) (a : Option Addr) (l : List Int) : Prop := Sl1 h a l.length (fun i => .int .i64 (l.getD i 0)) ∧ l.length < 4611686018427387904
theorem SlI.le {h h' : Heap} {a : Option Addr} {l : List Int} (s : SlI h a l) (hl : Heap.le h h') : SlI h' a l := ⟨s.1.le hl, s.2⟩
def SlL (h : Heap) (a : Option Addr) (l : List Lst) : Prop := Sln h a l.length 5 (fun i => (l.getD i lstz).cells) ∧ l.length < 4611686018427387904
theorem SlL.le {h h' : Heap} {a : Option Addr} {l : List Lst} (s : SlL h a l) (hl : Heap.le h h') : SlL h' a l := ⟨s.1.le hl, s.2⟩
def SlC (h : Heap) (a : Option Addr) (l : List Con) : Prop := Sln h a l.length 3 (fun i => (l.getD i conz).cells) ∧ l.length < 4611686018427387904
theorem SlC.le {h h' : Heap} {a : Option Addr} {l : List Con} (s : SlC h a l) (hl : Heap.le h h') : SlC h' a l := ⟨s.1.le hl, s.2⟩
theorem SlI.get {h : Heap} {a : Option Addr} {l : List Int} (s : SlI h a l) {i : Nat} (hi : i < l.length) : ∃ b off all T fr, a = some ⟨b, off, none⟩ ∧ h b = some (.cells ⟨all⟩ T fr) ∧ all[off + i * 1]? = some (.int .i64 (l.getD i 0)) := s.1 i hi
theorem SlI.nil (h : Heap) : SlI h none [] := ⟨fun i hi => absurd hi (Nat.not_lt_zero i), by decide⟩
theorem SlL.nil (h : Heap) : SlL h none [] := ⟨fun i hi => absurd hi (Nat.not_lt_zero i), by decide⟩
theorem SlC.nil (h : Heap) : SlC h none [] := ⟨fun i hi => absurd hi (Nat.not_lt_zero i), by decide⟩
theorem SlI.of {h : Heap} {b : Nat} {T : TypeId} {fr : Nat × Nat} {l : List Int} (hb : h b = some (.cells ⟨l.map (Value.int .i64)⟩ T fr)) (hl : l.length < 4611686018427387904) : SlI h (some ⟨b, 0, none⟩) l := ⟨Sl1.ints hb, hl⟩
theorem sln_rows {h : Heap} {b k : Nat} {T : TypeId} {fr : Nat × Nat} : ∀ {rows : List (List Value)} {pre : List Value}, (∀ r ∈ rows, r.length = k) → h b = some (.cells ⟨pre ++ rows.flatten⟩ T fr) → ∀ i, i < rows.length → cut (pre.length + i * k) k (pre ++ rows.flatten) = some (rows.getD i [])
  | [], _, _, _, i, hi => absurd hi (Nat.not_lt_zero i)
  | r :: rows, pre, hr, hb, 0, _ => by
    have h1 := hr r (by simp)
    have := cut_at pre r rows.flatten
    rw [h1, List.append_assoc] at this
    simpa using this
  | r :: rows, pre, hr, hb, i + 1, hi => by
    have h1 := hr r (by simp)
    have e : pre ++ (r :: rows).flatten = (pre ++ r) ++ rows.flatten := by simp
    have := sln_rows (h := h) (b := b) (T := T) (fr := fr) (pre := pre ++ r) (rows := rows) (k := k) (fun x hx => hr x (by simp [hx])) (by rw [← e]; exact hb) i (by simpa using hi)
    rw [e]
    rw [List.length_append, h1] at this
    rw [show pre.length + (i + 1) * k = pre.length + k + i * k from by rw [Nat.succ_mul]; omega, this]
    simp
theorem Lst.len (z : Lst) : z.cells.length = 5 := rfl
theorem Con.len (z : Con) : z.cells.length = 3 := rfl
theorem Con.one (z : Con) : z.cells.all Value.oneCell' = true := rfl
theorem Con.cutS (z : Con) : cut 0 3 z.cells = some z.cells := cut_self rfl
theorem SlL.of {h : Heap} {b : Nat} {T : TypeId} {fr : Nat × Nat} {l : List Lst} (hb : h b = some (.cells ⟨(l.map Lst.cells).flatten⟩ T fr)) (hl : l.length < 4611686018427387904) : SlL h (some ⟨b, 0, none⟩) l := ⟨fun i hi => by
  refine ⟨b, 0, _, T, fr, rfl, hb, ?_⟩
  have := sln_rows (h := h) (b := b) (T := T) (fr := fr) (pre := []) (rows := l.map Lst.cells) (k := 5) (by simp [Lst.len]) (by simpa using hb) i (by simpa using hi)
  simpa [hi] using this, hl⟩
theorem SlC.of {h : Heap} {b : Nat} {T : TypeId} {fr : Nat × Nat} {l : List Con} (hb : h b = some (.cells ⟨(l.map Con.cells).flatten⟩ T fr)) (hl : l.length < 4611686018427387904) : SlC h (some ⟨b, 0, none⟩) l := ⟨fun i hi => by
  refine ⟨b, 0, _, T, fr, rfl, hb, ?_⟩
  have := sln_rows (h := h) (b := b) (T := T) (fr := fr) (pre := []) (rows := l.map Con.cells) (k := 3) (by simp [Con.len]) (by simpa using hb) i (by simpa using hi)
  simpa [hi] using this, hl⟩
/-- a policy's cells -/
def Pol.cells (p : Pol) (a b : Option Addr) (ca cb : Nat) : List Value := [.int .i64 p.fo, .bool p.two, .slice a p.le.length ca, .slice b p.ri.length cb, .int .i64 p.lo, .int .i64 p.hi]
theorem Pol.len (p : Pol) (a b : Option Addr) (ca cb : Nat) : (p.cells a b ca cb).length = 6 := rfl
theorem Pol.cutS (p : Pol) (a b : Option Addr) (ca cb : Nat) : cut 0 6 (p.cells a b ca cb) = some (p.cells a b ca cb) := rfl
theorem meet_setI {p : Pol} : ((List.range p.le.length).any fun i => decide (p.le.getD i 0 ∈ setI p.ri)) = p.meet := by
  rw [← meet_range]
  congr 1
  funext i
  congr 1
  exact propext setI_mem
def ownE (d : Int) : Int := if dev d then 0 else 371
def ownV (d : Int) : Int := if dev d then own d else 0
theorem dev_ri {d : Int} (h : dev d) : Ri d := by unfold dev at h; unfold Ri; omega
theorem pm_vrs {it : Dig} {d : Int} (hd : Ri d) (hp : Heap) : VRs hp [tC it, iC d] [.text (dstr it), .int d] := .cons (.text _) (.cons (.int _ hd.1 hd.2) .nil)
theorem pm_dep (it : Dig) (d : Int) : (V.list [.text (dstr it), .int d]).depth ≤ 16 := by simp [V.depth, dmax]
theorem pm_len {it : Dig} {d : Int} (hd : Ri d) : (V.enc (.list [.text (dstr it), .int d])).length ≤ 100 := by
  have e1 := enc_dig it
  have e2 := enc_int hd
  have e3 := enc_list (l := [.text (dstr it), .int d]) (show 2 < _ by decide)
  rw [encs_cons, encs_cons, encs_nil] at e3
  omega
theorem cok_at {xs : List Lst} {it : Dig} {c : Con} {k : Nat} (hk : (k : Int) = at_ xs c.d) : cok xs it c ↔ (xs.getD k lstz).g = false ∧ dev c.d ∧ vrf (xs.getD k lstz).v (pmsg it c.d).toList c.r c.s = true := by
  unfold cok
  rw [← hk, Int.toNat_natCast]
  exact ⟨fun g => g.2, fun g => ⟨by omega, g⟩⟩
theorem cok_neg {xs : List Lst} {it : Dig} {c : Con} (hk : at_ xs c.d < 0) : ¬ cok xs it c := fun g => by have := g.1; omega
theorem at_lt {xs : List Lst} {d : Int} {k : Nat} (hk : (k : Int) = at_ xs d) : k < xs.length := by
  rcases findI_le (p := fun j => decide ((xs.getD j lstz).d = d)) (n := xs.length) with h | h
  · have := h.2
    unfold at_ at hk
    omega
  · unfold at_ at hk
    omega
theorem gcz {a : Int} : ((if GC a then (0 : Int) else 40) = 0) ↔ GC a := by
  by_cases g : GC a
  · rw [if_pos g]; simp [g]
  · rw [if_neg g]; simp [g]
theorem gcN (a : Int) : decide ((if GC a then (0 : Int) else 40) ≠ 0) = !decide (GC a) := by
  by_cases g : GC a
  · rw [if_pos g]; simp [g]
  · rw [if_neg g]; simp [g]
theorem meet_yes {p : Pol} {i : Nat} (hi : i < p.le.length) (h : p.le.getD i 0 ∈ p.ri) : p.meet = true := by
  rw [← meet_range, List.any_eq_true]
  exact ⟨i, List.mem_range.2 hi, by simpa using h⟩
theorem meet_no {p : Pol} (h : ∀ j, j < p.le.length → ¬ p.le.getD j 0 ∈ p.ri) : p.meet = false := by
  rw [← meet_range, List.any_eq_false]
  intro i hi
  simpa using h i (List.mem_range.1 hi)
theorem mem_at {l : List Int} {z : Int} {i : Nat} (hi : i < l.length) (h : l.getD i 0 = z) : z ∈ l := by
  rw [← h]
  simp [hi]
theorem mem_none {l : List Int} {z : Int} (h : ∀ j, j < l.length → l.getD j 0 ≠ z) : ¬ z ∈ l := fun g => by
  obtain ⟨j, hj, rfl⟩ := List.getElem_of_mem g
  exact h j hj (by simp [hj])
theorem setI_len : ∀ (l m : List Int), (l.foldl addI m).length ≤ m.length + l.length
  | [], m => by simp
  | z :: l, m => by
    have h1 := setI_len l (addI m z)
    have h2 : (addI m z).length ≤ m.length + 1 := by
      unfold addI
      split
      · omega
      · simp
    rw [List.foldl_cons, List.length_cons]
    omega
theorem ows_len (xs : List Lst) (it : Dig) (cs : List Con) : (ows xs it cs).length ≤ cs.length := by
  unfold ows
  rw [List.length_map]
  exact List.length_filter_le _ _
theorem setow_len (xs : List Lst) (it : Dig) (cs : List Con) (i : Nat) : (setI (ows xs it (cs.take i))).length ≤ cs.length := by
  have h1 := setI_len (ows xs it (cs.take i)) []
  have h2 := ows_len xs it (cs.take i)
  rw [List.length_take] at h2
  unfold setI
  rw [List.length_nil] at h1
  omega
theorem at_some {xs : List Lst} {d : Int} {i : Nat} (hi : i < xs.length) (h : (xs.getD i lstz).d = d) (hno : ∀ j, j < i → (xs.getD j lstz).d ≠ d) : at_ xs d = (i : Int) :=
  findI_some hi (decide_eq_true h) (fun j hj => decide_eq_false (hno j hj))
theorem at_none {xs : List Lst} {d : Int} (hno : ∀ j, j < xs.length → (xs.getD j lstz).d ≠ d) : at_ xs d = -1 :=
  findI_none (fun j hj => decide_eq_false (hno j hj))
theorem cok_mk {xs : List Lst} {it : Dig} {d r s : Int} {k : Nat} (hk : (k : Int) = at_ xs d) (hg : (xs.getD k lstz).g = false) (hd : dev d) (hv : vrf (xs.getD k lstz).v (pmsg it d).toList r s = true) : cok xs it ⟨d, r, s⟩ := (cok_at (c := ⟨d, r, s⟩) hk).2 ⟨hg, hd, hv⟩
end Go.Proofs.Ch
