/- The operations that make or write memory. No program is named here. -/
import Derived.Test.YtglmkcfmcoianaaGreatDoorB
namespace Go.Proofs.Ch
open Go

section
variable {h : Heap} {L : Owned} {w : World}

theorem St.alloc (s : St h L w) (o : Obj) : St h ((w.heap.size, o) :: L) { w with heap := w.heap.push o } := by
  have hlt : ∀ (b : Nat) (o' : Obj), w.heap[b]? = some o' → b < w.heap.size := fun b o' hb => (Array.getElem?_eq_some_iff.1 hb).1
  have keep : ∀ (b : Nat) (o' : Obj), w.heap[b]? = some o' → (w.heap.push o)[b]? = some o' := by
    intro b o' hb
    rw [Array.getElem?_push, if_neg (Nat.ne_of_lt (hlt b o' hb))]
    exact hb
  refine ⟨fun b o' hb => keep b o' (s.per b o' hb), ?_, ?_, ?_, s.os, s.out⟩
  · intro p hp
    cases hp with
    | head => simp
    | tail _ hp => exact keep _ _ (s.own p hp)
  · intro p hp
    cases hp with
    | head =>
      cases hx : h w.heap.size with
      | none => rfl
      | some o' => exact absurd (hlt _ _ (s.per _ _ hx)) (Nat.lt_irrefl _)
    | tail _ hp => exact s.sep p hp
  · simp only [List.map_cons, List.nodup_cons]
    refine ⟨?_, s.nd⟩
    intro hm
    obtain ⟨p, hp, he⟩ := List.mem_map.1 hm
    have := hlt _ _ (s.own p hp)
    rw [he] at this
    exact absurd this (Nat.lt_irrefl _)

theorem St.drew (s : St h L w) (d : Nat) : St h L { w with drawn := d } := ⟨s.per, s.own, s.sep, s.nd, s.os, s.out⟩

/-- one of the call's own blocks is another now -/
theorem St.set {A B : Owned} {b : Nat} {o : Obj} (s : St h (A ++ (b, o) :: B) w) (o' : Obj) {w' : World} (hw : w'.heap[b]? = some o') (hr : ∀ c : Nat, c ≠ b → w'.heap[c]? = w.heap[c]?) (ho : w'.os = w.os := by rfl) (hu : w'.output = w.output := by rfl) : St h (A ++ (b, o') :: B) w' := by
  have hb : h b = none := s.sep (b, o) (by simp)
  have hnd := s.nd
  simp only [List.map_append, List.map_cons] at hnd
  refine ⟨?_, ?_, ?_, ?_, ho.trans s.os, hu.trans s.out⟩
  · intro c o1 hc
    have hne : c ≠ b := by rintro rfl; rw [hb] at hc; cases hc
    rw [hr c hne]; exact s.per c o1 hc
  · intro p hp
    have hcase : p = (b, o') ∨ (p ∈ A ++ (b, o) :: B ∧ p.1 ≠ b) := by
      rcases List.mem_append.1 hp with hp | hp
      · refine .inr ⟨List.mem_append.2 (.inl hp), ?_⟩
        intro he
        have h1 : b ∈ A.map Prod.fst := he ▸ List.mem_map_of_mem hp
        rw [List.nodup_append] at hnd
        exact hnd.2.2 b h1 b (by simp) rfl
      · rcases List.mem_cons.1 hp with rfl | hp
        · exact .inl rfl
        · refine .inr ⟨List.mem_append.2 (.inr (List.mem_cons_of_mem _ hp)), ?_⟩
          intro he
          have h1 : b ∈ B.map Prod.fst := he ▸ List.mem_map_of_mem hp
          rw [List.nodup_append] at hnd
          exact (List.nodup_cons.1 hnd.2.1).1 h1
    rcases hcase with rfl | ⟨hp, hne⟩
    · exact hw
    · rw [hr p.1 hne]; exact s.own p hp
  · intro p hp
    rcases List.mem_append.1 hp with hp | hp
    · exact s.sep p (by simp [hp])
    · rcases List.mem_cons.1 hp with rfl | hp
      · exact hb
      · exact s.sep p (by simp [hp])
  · simp only [List.map_append, List.map_cons]; exact hnd

theorem St.perm {L' : Owned} (hp : L.Perm L') (s : St h L w) : St h L' w :=
  ⟨s.per, fun p hm => s.own p (hp.mem_iff.2 hm), fun p hm => s.sep p (hp.mem_iff.2 hm), (hp.map _).nodup_iff.1 s.nd, s.os, s.out⟩
theorem St.sub {L' : Owned} (hp : L'.Sublist L) (s : St h L w) : St h L' w :=
  ⟨s.per, fun p hm => s.own p (hp.mem hm), fun p hm => s.sep p (hp.mem hm), s.nd.sublist (hp.map _), s.os, s.out⟩
theorem St.weak {h' : Heap} (hh : Heap.le h' h) (s : St h L w) : St h' L w :=
  ⟨fun b o hb => s.per b o (hh b o hb), s.own, fun p hm => (by
    cases hx : h' p.1 with
    | none => rfl
    | some o => have := hh _ _ hx; rw [s.sep p hm] at this; cases this), s.nd, s.os.trans hh.os, s.out.trans hh.out⟩

/-- one of the call's own blocks stays as it is from now on -/
def Heap.with (h : Heap) (b : Nat) (o : Obj) : Heap := { h with f := fun c => if c = b then some o else h c }
theorem St.freeze {b : Nat} {o : Obj} (s : St h ((b, o) :: L) w) : St (h.with b o) L w ∧ Heap.le h (h.with b o) ∧ h.with b o b = some o := by
  have hb : h b = none := s.sep (b, o) (by simp)
  have hnd := List.nodup_cons.1 s.nd
  refine ⟨⟨?_, fun p hm => s.own p (List.mem_cons_of_mem _ hm), ?_, hnd.2, s.os, s.out⟩, ⟨?_, rfl, rfl⟩, by simp [Heap.with]⟩
  · intro c o' hc
    simp only [Heap.with] at hc
    split at hc
    · rename_i he; cases hc; subst he; exact s.own (c, o) (by simp)
    · exact s.per c o' hc
  · intro p hm
    have hne : p.1 ≠ b := fun he => hnd.1 (by have := List.mem_map_of_mem (f := Prod.fst) hm; rw [he] at this; exact this)
    simp [Heap.with, hne, s.sep p (List.mem_cons_of_mem _ hm)]
  · intro c o' hc
    have hne : c ≠ b := by rintro rfl; rw [hb] at hc; cases hc
    simp [Heap.with, hne, hc]
end

section
variable {C : Cx} {R : Pst} {k : List K} {e : Env} {ds : List Deferred} {h : Heap} {L : Owned} {ops : Array Oper} {l : List Oper} {Q : Pst}

theorem WL_perm {L' : Owned} (hp : L.Perm L') (H : WL C ops l Q e ds h L') : WL C ops l Q e ds h L := WL_less (fun _ _ x => x) (fun _ s => s.perm hp) H
theorem WL_weak {h' : Heap} (hh : Heap.le h' h) (H : WL C ops l Q e ds h' L) : WL C ops l Q e ds h L := WL_less (fun _ _ x => x) (fun _ s => s.weak hh) H
theorem WL_drop {L' : Owned} (hp : L'.Sublist L) (H : WL C ops l Q e ds h L') : WL C ops l Q e ds h L := WL_less (fun _ _ x => x) (fun _ s => s.sub hp) H
theorem WL_freeze {b : Nat} {o : Obj} (H : ∀ h', Heap.le h h' → h' b = some o → WL C ops l Q e ds h' L) : WL C ops l Q e ds h ((b, o) :: L) :=
  fun i hi a w he hs => let ⟨s, x, y⟩ := hs.freeze; H _ x y i hi a w he s
theorem WL_st {P : Prop} (hp : ∀ w, St h L w → P) (H : P → WL C ops l Q e ds h L) : WL C ops l Q e ds h L := fun i hi a w he hs => H (hp w hs) i hi a w he hs

variable {c : Code}
theorem den_perm {L' : Owned} (hp : L.Perm L') (H : den C R (.code c :: k) .normal e ds h L') : den C R (.code c :: k) .normal e ds h L := den_less (fun _ _ x => x) (fun _ s => s.perm hp) H
theorem den_weak {h' : Heap} (hh : Heap.le h' h) (H : den C R (.code c :: k) .normal e ds h' L) : den C R (.code c :: k) .normal e ds h L := den_less (fun _ _ x => x) (fun _ s => s.weak hh) H
theorem den_drop {L' : Owned} (hp : L'.Sublist L) (H : den C R (.code c :: k) .normal e ds h L') : den C R (.code c :: k) .normal e ds h L := den_less (fun _ _ x => x) (fun _ s => s.sub hp) H
theorem den_freeze {b : Nat} {o : Obj} (H : ∀ h', Heap.le h h' → h' b = some o → den C R (.code c :: k) .normal e ds h' L) : den C R (.code c :: k) .normal e ds h ((b, o) :: L) :=
  fun a w he hs => let ⟨s, x, y⟩ := hs.freeze; H _ x y a w he s
theorem den_env {e' : Env} (he : ∀ t v, look e' t = some v → look e t = some v) (H : den C R (.code c :: k) .normal e' ds h L) : den C R (.code c :: k) .normal e ds h L := den_less he (fun _ s => s) H

/-! making memory -/
/-- An operation that lays one new block and hands back what f says of its number. -/
theorem op1_new {o : Oper} {ob : Obj} {f : Nat → Value} (hr : ∀ (ρ : Operand → Value) (w : World), (∀ x u, ev e x = some u → ρ x = u) → St h L w → ∃ d, (execOp ρ o).run C.P w = .ok (.value (f w.heap.size)) { w with heap := w.heap.push ob, drawn := d }) :
    Op1 C o e h L (fun v h' L' => ∃ b, v = f b ∧ h' = h ∧ L' = (b, ob) :: L) := by
  intro ds a w next Q he hs H
  refine ⟨fun _ _ => trivial, ?_⟩
  obtain ⟨d, hr⟩ := hr a.eval w (fun x u hx => he.eval hx) hs
  rw [Oper.semAt_eq _ _ _ (not_defer hr), hr]
  exact H _ h _ _ ⟨_, rfl, rfl, rfl⟩ ((hs.alloc ob).drew d)

theorem WL_new {o : Oper} {ob : Obj} {f : Nat → Value} (ho : Op1 C o e h L (fun v h' L' => ∃ b, v = f b ∧ h' = h ∧ L' = (b, ob) :: L)) (hg : o.guard = none) (hd : dstOk o.dst C.n = true)
    (H : ∀ b, WL C ops l Q (put o.dst (f b) e) ds h ((b, ob) :: L)) : WL C ops (o :: l) Q e ds h L :=
  WL_op ho hg hd (by rintro v h' L' ⟨b, rfl, rfl, rfl⟩; exact H b)

theorem o_alloc {d : Option Tmp} {T ty : TypeId} {pos : String} {af : Array Edge} {g : Option (Nat × Bool)} {z : Value} {zs : List Value} (hz : Zer C.P T z) (hc : z.cells = ⟨zs⟩) :
    Op1 C ⟨d, .alloc T, ty, pos, af, g⟩ e h L (fun v h' L' => ∃ b, v = .pointer (some ⟨b, 0, none⟩) ∧ h' = h ∧ L' = (b, .cells ⟨zs⟩ T (0, 0)) :: L) :=
  op1_new (f := fun b => .pointer (some ⟨b, 0, none⟩)) fun ρ w _ _ => ⟨w.drawn, by
    unfold execOp
    simp [Instr.alloc, hz.run, newVar, newRow, hc]⟩

theorem o_box {d : Option Tmp} {T ty : TypeId} {pos : String} {af : Array Edge} {g : Option (Nat × Bool)} {x : Operand} {v : Value} {zs : List Value} (hx : ev e x = some v) (hc : v.cells = ⟨zs⟩) :
    Op1 C ⟨d, .box T x, ty, pos, af, g⟩ e h L (fun v h' L' => ∃ b, v = .pointer (some ⟨b, 0, none⟩) ∧ h' = h ∧ L' = (b, .cells ⟨zs⟩ T (0, 0)) :: L) :=
  op1_new (f := fun b => .pointer (some ⟨b, 0, none⟩)) fun ρ w hρ _ => ⟨w.drawn, by
    unfold execOp
    simp [Instr.box, newVar, newRow, hc, hρ _ _ hx]⟩

/-! filling a row -/
/-- vs, laid over l from i on -/
def spl : Nat → List Value → List Value → Option (List Value)
  | 0, [], l => some l
  | 0, v :: vs, _ :: l => match spl 0 vs l with
    | some r => some (v :: r)
    | none => none
  | 0, _ :: _, [] => none
  | i + 1, vs, a :: l => match spl i vs l with
    | some r => some (a :: r)
    | none => none
  | _ + 1, [], [] => some []
  | _ + 1, _ :: _, [] => none

theorem spl_spec : ∀ {i : Nat} {vs l r : List Value}, spl i vs l = some r → r.length = l.length ∧ (vs ≠ [] → i + vs.length ≤ l.length) ∧ ∀ j, r[j]? = if i ≤ j ∧ j < i + vs.length then vs[j - i]? else l[j]?
  | 0, [], l, r, hr => by
    simp only [spl] at hr; cases hr
    refine ⟨rfl, fun h => absurd rfl h, fun j => ?_⟩
    rw [if_neg (by simp)]
  | 0, v :: vs, a :: l, r, hr => by
    simp only [spl] at hr
    split at hr
    · rename_i r' h1
      cases hr
      obtain ⟨h2, h3, h4⟩ := spl_spec h1
      refine ⟨by simp [h2], fun _ => ?_, fun j => ?_⟩
      · by_cases hv : vs = []
        · subst hv; simp
        · have := h3 hv; simp at this ⊢; omega
      · cases j with
        | zero => simp
        | succ j =>
          have := h4 j
          simp only [List.getElem?_cons_succ, this, Nat.zero_le, true_and, Nat.zero_add, List.length_cons, Nat.sub_zero]
          by_cases hj : j < vs.length
          · rw [if_pos hj, if_pos (by omega)]
          · rw [if_neg hj, if_neg (by omega)]
    · cases hr
  | 0, _ :: _, [], r, hr => by simp [spl] at hr
  | i + 1, vs, a :: l, r, hr => by
    simp only [spl] at hr
    split at hr
    · rename_i r' h1
      cases hr
      obtain ⟨h2, h3, h4⟩ := spl_spec h1
      refine ⟨by simp [h2], fun hv => by have := h3 hv; simp; omega, fun j => ?_⟩
      cases j with
      | zero => simp
      | succ j =>
        have := h4 j
        simp only [List.getElem?_cons_succ, this]
        by_cases hj : i ≤ j ∧ j < i + vs.length
        · rw [if_pos hj, if_pos (by omega)]; congr 1; omega
        · rw [if_neg hj, if_neg (by omega)]
    · cases hr
  | i + 1, [], [], r, hr => by
    simp only [spl] at hr; cases hr
    refine ⟨rfl, fun h => absurd rfl h, fun j => by simp⟩
  | i + 1, _ :: _, [], r, hr => by simp [spl] at hr

theorem spl_fold {i : Nat} {vs l r : List Value} (hr : spl i vs l = some r) : (⟨vs⟩ : Array Value).zipIdx.foldl (fun cs (x : Value × Nat) => cs.setIfInBounds (i + x.2) x.1) (⟨l⟩ : Array Value) = ⟨r⟩ := by
  have key : ∀ (vs : List Value) (n : Nat) (acc : Array Value), ∀ j, ((vs.zipIdx n).foldl (fun cs (x : Value × Nat) => cs.setIfInBounds (i + x.2) x.1) acc)[j]? = if i + n ≤ j ∧ j < i + n + vs.length ∧ j < acc.size then vs[j - (i + n)]? else acc[j]? := by
    intro vs
    induction vs with
    | nil => intro n acc j; simp; intro a b; omega
    | cons v vs ih =>
      intro n acc j
      simp only [List.zipIdx_cons, List.foldl_cons]
      rw [ih]
      simp only [Array.size_setIfInBounds, List.length_cons]
      by_cases h1 : i + (n + 1) ≤ j ∧ j < i + (n + 1) + vs.length ∧ j < acc.size
      · rw [if_pos h1, if_pos (by omega)]
        rw [show j - (i + n) = (j - (i + (n + 1))) + 1 from by omega]
        simp
      · rw [if_neg h1]
        by_cases h2 : i + n = j
        · subst h2
          by_cases h3 : i + n < acc.size
          · rw [if_pos (by omega)]; simp [h3]
          · rw [if_neg (by omega)]; simp [h3]
        · rw [Array.getElem?_setIfInBounds_ne h2]
          rw [if_neg (by omega)]
  obtain ⟨h2, h3, h4⟩ := spl_spec hr
  refine Array.ext_getElem? fun j => ?_
  have := key vs 0 ⟨l⟩ j
  rw [← Array.foldl_toList]
  simp only [Array.toList_zipIdx]
  rw [this]
  simp only [List.getElem?_toArray, List.size_toArray, Nat.add_zero]
  rw [h4 j]
  by_cases hj : i ≤ j ∧ j < i + vs.length
  · have hv : vs ≠ [] := by rintro rfl; simp at hj; omega
    have := h3 hv
    rw [if_pos hj, if_pos (by omega)]
  · rw [if_neg hj, if_neg (by omega)]

/-- what 'fill' makes of parts, reckoned on lists -/
def fil (place : Nat → Option (Nat × Nat)) (cs : List Value) : List (Nat × Value) → Option (List Value)
  | [] => some cs
  | (i, v) :: rest => match place i with
    | some (off, size) => match Nat.beq v.cells.toList.length size with
      | true => match spl off v.cells.toList cs with
        | some cs' => fil place cs' rest
        | none => none
      | false => none
    | none => none

theorem fil_spec {place : Nat → Option (Nat × Nat)} : ∀ {parts : List (Nat × Value)} {cs r : List Value}, (∀ i off size, place i = some (off, size) → size ≠ 0) → fil place cs parts = some r → Instr.fill place ⟨cs⟩ parts = some ⟨r⟩
  | [], cs, r, _, hr => by simp [fil] at hr; simp [Instr.fill, hr]
  | (i, v) :: rest, cs, r, hp, hr => by
    simp only [fil] at hr
    split at hr
    · rename_i off size h1
      split at hr
      · rename_i h2
        split at hr
        · rename_i cs' h3
          have hs : v.cells.size = size := Nat.eq_of_beq_eq_true h2
          have hne : v.cells.toList ≠ [] := by
            intro h0
            have := hp i off size h1
            rw [← hs] at this
            apply this
            rw [← Array.length_toList, h0]; rfl
          have := (spl_spec h3).2.1 hne
          simp only [Instr.fill, h1]
          rw [if_neg (by simp [hs] at this ⊢; omega)]
          have hf := spl_fold h3
          simp only [Array.toArray_toList] at hf
          rw [hf]
          exact fil_spec hp hr
        · cases hr
      · cases hr
    · cases hr

theorem spl_total : ∀ {i : Nat} {vs l : List Value}, i + vs.length ≤ l.length → ∃ r, spl i vs l = some r
  | 0, [], l, _ => ⟨l, by simp [spl]⟩
  | 0, v :: vs, a :: l, hl => by
    obtain ⟨r, hr⟩ := spl_total (i := 0) (vs := vs) (l := l) (by simp at hl ⊢; omega)
    exact ⟨v :: r, by simp [spl, hr]⟩
  | 0, v :: vs, [], hl => by simp at hl
  | i + 1, vs, a :: l, hl => by
    obtain ⟨r, hr⟩ := spl_total (i := i) (vs := vs) (l := l) (by simp at hl ⊢; omega)
    exact ⟨a :: r, by simp [spl, hr]⟩
  | i + 1, [], [], _ => ⟨[], by simp [spl]⟩
  | i + 1, _ :: _, [], hl => by simp at hl

theorem spl_app (A B C V : List Value) (hl : V.length = B.length) : spl A.length V (A ++ B ++ C) = some (A ++ V ++ C) := by
  by_cases hv : V = []
  · subst hv
    have hB : B = [] := List.length_eq_zero_iff.1 hl.symm
    subst hB
    have : ∀ (n : Nat) (l : List Value), spl n [] l = some l := by
      intro n
      induction n with
      | zero => intro l; simp [spl]
      | succ n ih => intro l; cases l <;> simp [spl, ih]
    simp [this]
  · obtain ⟨r, hr⟩ := spl_total (i := A.length) (vs := V) (l := A ++ B ++ C) (by simp [hl])
    rw [hr]
    congr 1
    obtain ⟨h1, _, h3⟩ := spl_spec hr
    refine List.ext_getElem? fun j => ?_
    rw [h3 j]
    by_cases hj : A.length ≤ j ∧ j < A.length + V.length
    · rw [if_pos hj, List.append_assoc, List.getElem?_append_right hj.1, List.getElem?_append_left (by omega)]
    · rw [if_neg hj]
      by_cases hj2 : j < A.length
      · rw [List.append_assoc, List.getElem?_append_left hj2, List.append_assoc, List.getElem?_append_left hj2]
      · rw [List.append_assoc, List.getElem?_append_right (by omega), List.getElem?_append_right (by omega), List.append_assoc, List.getElem?_append_right (by omega), List.getElem?_append_right (by omega), hl]

theorem run_storeCells {P : Program} {b : Nat} {T : TypeId} : ∀ (vs : List Value) (off i : Nat) (cs cs' : List Value) (w : World), w.heap[b]? = some (.cells ⟨cs⟩ T (0, 0)) → spl (off + i) vs cs = some cs' → vs.all Value.oneCell' = true →
    ∃ w', (storeCells ⟨b, off, none⟩ vs i).run P w = .ok () w' ∧ w'.heap[b]? = some (.cells ⟨cs'⟩ T (0, 0)) ∧ (∀ c : Nat, c ≠ b → w'.heap[c]? = w.heap[c]?) ∧ w'.os = w.os ∧ w'.output = w.output := by
  intro vs
  induction vs with
  | nil =>
    intro off i cs cs' w hb hs _
    obtain ⟨h1, _, h3⟩ := spl_spec hs
    have : cs' = cs := by
      refine List.ext_getElem? fun j => ?_
      rw [h3 j, if_neg (by simp)]
    subst this
    exact ⟨w, rfl, hb, fun _ _ => rfl, rfl, rfl⟩
  | cons v vs ih =>
    intro off i cs cs' w hb hs hv
    simp only [List.all_cons, Bool.and_eq_true] at hv
    obtain ⟨h1, h2, h3⟩ := spl_spec hs
    have hlen := h2 (by simp)
    simp only [List.length_cons] at hlen
    have hc : ∃ u, w.cell? ⟨b, off + i, none⟩ = some u := by
      refine ⟨cs[off + i]'(by omega), ?_⟩
      simp [World.cell?, hb]
    obtain ⟨u, hc⟩ := hc
    have hf : w.frozen? ⟨b, off + i, none⟩ = false := by simp [World.frozen?, hb]
    have hst : (store ⟨b, off + i, none⟩ v).run P w = .ok () (w.setCell ⟨b, off + i, none⟩ v) := by
      rw [run_store P w _ v _ hv.1, hc]; simp [hf]
    have hb' : (w.setCell ⟨b, off + i, none⟩ v).heap[b]? = some (.cells ⟨cs.set (off + i) v⟩ T (0, 0)) := by
      simp [World.setCell, Array.getElem?_modify, hb]
    have hs' : spl (off + (i + 1)) vs (cs.set (off + i) v) = some cs' := by
      obtain ⟨r, hr⟩ := spl_total (i := off + (i + 1)) (vs := vs) (l := cs.set (off + i) v) (by rw [List.length_set]; omega)
      rw [hr]; congr 1
      obtain ⟨_, _, h6⟩ := spl_spec hr
      refine List.ext_getElem? fun j => ?_
      rw [h6 j, h3 j]
      by_cases hj : off + (i + 1) ≤ j ∧ j < off + (i + 1) + vs.length
      · rw [if_pos hj, if_pos (by simp; omega), show j - (off + i) = (j - (off + (i + 1))) + 1 from by omega]; simp
      · rw [if_neg hj]
        by_cases hj2 : off + i = j
        · subst hj2
          rw [if_pos (by simp), List.getElem?_set_self (by omega)]; simp
        · rw [if_neg (by simp; omega), List.getElem?_set_ne hj2]
    obtain ⟨w', hr, hw, ho, ho1, ho2⟩ := ih off (i + 1) _ cs' _ hb' hs' hv.2
    refine ⟨w', ?_, hw, ?_, ho1, ho2⟩
    · simp only [storeCells, Sem.run_bind, add_none]
      rw [hst]
      exact hr
    · intro c hne
      rw [ho c hne]
      simp [World.setCell, Array.getElem?_modify, Ne.symm hne]

theorem op1_store {A B : Owned} {d : Option Tmp} {t T ty : TypeId} {pos : String} {af : Array Edge} {g : Option (Nat × Bool)} {x y : Operand} {b off : Nat} {v : Value} {vs cs cs' : List Value} (hc : v.cells = ⟨vs⟩) (hz : Siz C.P t vs.length) (hx : ev e x = some (.pointer (some ⟨b, off, none⟩))) (hy : ev e y = some v) (hs : spl off vs cs = some cs') (ho : vs.all Value.oneCell' = true) :
    Op1 C ⟨d, .store t x y, ty, pos, af, g⟩ e h (A ++ (b, .cells ⟨cs⟩ T (0, 0)) :: B) (fun v' h' L' => v' = undef ∧ h' = h ∧ L' = A ++ (b, .cells ⟨cs'⟩ T (0, 0)) :: B) := by
  intro ds a w next Q he hst H
  refine ⟨fun _ _ => trivial, ?_⟩
  obtain ⟨w', hr, hw, hoth, ho1, ho2⟩ := run_storeCells (P := C.P) vs off 0 cs cs' w (hst.own (b, .cells ⟨cs⟩ T (0, 0)) (by simp)) (by simpa using hs) ho
  have hrun : (execOp a.eval ⟨d, .store t x y, ty, pos, af, g⟩).run C.P w = .ok .skip w' := by
    unfold execOp
    simp only [he.eval hx, he.eval hy, Instr.storeAt, Instr.sureAddr, storeVar, Sem.run_bind, Sem.run_pure, Result.andThen_ok, hz.run, hc]
    simp [hr]
  rw [Oper.semAt_eq _ _ _ (by simp), hrun]
  exact H undef h _ w' ⟨rfl, rfl, rfl⟩ (hst.set _ hw hoth ho1 ho2)

theorem WL_store {A B : Owned} {d : Option Tmp} {t T ty : TypeId} {pos : String} {af : Array Edge} {x y : Operand} {b off : Nat} {v : Value} {vs cs cs' : List Value} (hx : ev e x = some (.pointer (some ⟨b, off, none⟩))) (hy : ev e y = some v) (hc : v.cells = ⟨vs⟩) (hz : Siz C.P t vs.length) (hs : spl off vs cs = some cs') (ho : vs.all Value.oneCell' = true) (hd : dstOk d C.n = true)
    (H : WL C ops l Q (put d undef e) ds h (A ++ (b, .cells ⟨cs'⟩ T (0, 0)) :: B)) : WL C ops (⟨d, .store t x y, ty, pos, af, none⟩ :: l) Q e ds h (A ++ (b, .cells ⟨cs⟩ T (0, 0)) :: B) :=
  WL_op (op1_store hc hz hx hy hs ho) rfl hd (by rintro v' h' L' ⟨rfl, rfl, rfl⟩; exact H)

/-! building -/
def evp (e : Env) : List (Nat × Operand) → Option (List (Nat × Value))
  | [] => some []
  | (i, x) :: xs => match ev e x, evp e xs with
    | some v, some vs => some ((i, v) :: vs)
    | _, _ => none
theorem evp_map {ρ : Operand → Value} (hρ : ∀ x u, ev e x = some u → ρ x = u) : ∀ {xs : List (Nat × Operand)} {vs}, evp e xs = some vs → xs.map (fun p => (p.1, ρ p.2)) = vs
  | [], vs, hx => by simp [evp] at hx; simp [hx]
  | (i, x) :: xs, vs, hx => by
    simp only [evp] at hx
    split at hx
    · rename_i v vs' h1 h2; cases hx; simp [hρ _ _ h1, evp_map hρ h2]
    · cases hx

def Plc (P : Program) (fs : Array Field) (pl : List (Nat × Nat)) : Prop := ∀ w, (fs.mapM fun f => do pure (f.offset, ← sizeOf f.type) : Sem (Array (Nat × Nat))).run P w = .ok ⟨pl⟩ w

theorem v_builds {t : TypeId} {fs : Array Field} {parts : List (Nat × Operand)} {zs r : List Value} {pl : List (Nat × Nat)} {vs : List (Nat × Value)} (hu : Und C.P t (.struct fs)) (hz : Zer C.P t (.agg ⟨zs⟩)) (hp : Plc C.P fs pl) (hall : pl.all (fun p => p.2 != 0) = true) (hv : evp e parts = some vs) (hf : fil (fun i => pl[i]?) zs vs = some r) : OpV C.P (.build t ⟨parts⟩) e h L (.agg ⟨r⟩) := by
  intro ρ w o hρ _ ho; unfold execOp; rw [ho]
  have hfill := fil_spec (fun i off size hi => by
    have := List.all_eq_true.1 hall (off, size) (List.mem_of_getElem? hi)
    simpa using this) hf
  have hm := evp_map hρ hv
  simp only [Instr.build, Sem.run_bind, hz.run, hu.run, hp w, Result.andThen_ok]
  simp only [List.map_toArray]
  rw [hm]
  simp only [List.getElem?_toArray, Value.cells, hfill]
  simp

theorem v_builda {t et : TypeId} {len size : Nat} {parts : List (Nat × Operand)} {zs r : List Value} {vs : List (Nat × Value)} (hu : Und C.P t (.array len et)) (hz : Zer C.P t (.agg ⟨zs⟩)) (hs : Siz C.P et (size + 1)) (hv : evp e parts = some vs) (hf : fil (fun i => some (i * (size + 1), size + 1)) zs vs = some r) : OpV C.P (.build t ⟨parts⟩) e h L (.agg ⟨r⟩) := by
  intro ρ w o hρ _ ho; unfold execOp; rw [ho]
  have hfill := fil_spec (fun i off size' hi => by simp at hi; omega) hf
  have hm := evp_map hρ hv
  simp only [Instr.build, Sem.run_bind, hz.run, hu.run, hs.run, Result.andThen_ok]
  simp only [List.map_toArray]
  rw [hm]
  simp only [Value.cells, hfill]
  simp

def zbase (len : Nat) (zs : List Value) : List Value := (List.range (len * zs.length)).map fun i => zs[i % zs.length]!

theorem o_buildSlice {d : Option Tmp} {t et ty : TypeId} {pos : String} {af : Array Edge} {g : Option (Nat × Bool)} {len : Nat} {z : Value} {parts : List (Nat × Operand)} {zs r : List Value} {vs : List (Nat × Value)} (hu : Und C.P t (.slice et)) (hz : Zer C.P et z) (hzc : z.cells = ⟨zs⟩) (hs : Siz C.P et zs.length) (h0 : (zs.length != 0) = true) (hb : Nat.ble (len * zs.length) 16777216 = true) (hv : evp e parts = some vs) (hf : fil (fun i => some (i * zs.length, zs.length)) (zbase len zs) vs = some r) :
    Op1 C ⟨d, .buildSlice t len ⟨parts⟩, ty, pos, af, g⟩ e h L (fun v h' L' => ∃ b, v = .slice (some ⟨b, 0, none⟩) len len ∧ h' = h ∧ L' = (b, .cells ⟨r⟩ et (0, 0)) :: L) :=
  op1_new (f := fun b => .slice (some ⟨b, 0, none⟩) len len) fun ρ w hρ _ => ⟨w.drawn, by
    have hfill := fil_spec (fun i off size' hi => by simp at hi; simp at h0; rw [← hi.2]; simpa using h0) hf
    have hm := evp_map hρ hv
    have hble : len * zs.length ≤ 16777216 := Nat.le_of_ble_eq_true hb
    unfold execOp
    simp only [Instr.buildSlice, Sem.run_bind, hu.run, hs.run, Result.andThen_ok]
    rw [if_neg (by simpa using hble)]
    simp only [List.map_toArray, hm]
    by_cases hl : len * zs.length = 0
    · have hz0 : zbase len zs = [] := by simp [zbase, hl]
      rw [hz0] at hfill
      have hz1 : ∀ f : Nat → Value, Array.map f (Array.range 0) = ⟨[]⟩ := fun f => by simp [← Array.toList_inj, Array.toList_range]
      simp only [hl, if_true]
      simp only [Sem.run_bind, Sem.run_pure, Result.andThen_ok, hz1, hfill]
      simp [newRow]
    · simp only [hl, if_false, Sem.run_bind, hz.run, Result.andThen_ok, Sem.run_pure, hzc]
      have hz0 : (Array.map (fun x => (⟨zs⟩ : Array Value)[x % (⟨zs⟩ : Array Value).size]!) (Array.range (len * zs.length))) = ⟨zbase len zs⟩ := by
        simp [zbase, ← Array.toList_inj, List.range_eq_range']
      rw [hz0, hfill]
      simp [newRow]⟩

theorem o_makeMap {d : Option Tmp} {t ty : TypeId} {pos : String} {af : Array Edge} {g : Option (Nat × Bool)} :
    Op1 C ⟨d, .makeMap t none, ty, pos, af, g⟩ e h L (fun v h' L' => ∃ b, v = .map (some b) ∧ h' = h ∧ L' = (b, .map #[] 0) :: L) :=
  op1_new (f := fun b => .map (some b)) fun ρ w _ _ => ⟨w.drawn, by
    unfold execOp
    simp [Instr.makeMap]⟩
end
end Go.Proofs.Ch
