/- Regions that draw their order, where part of what is owned changes on the way: what is read is read from a base that stays. No program is named here. -/
import Derived.Test.YtglmkcfmcoianaaGreatDoorG
namespace Go.Proofs.Ch
open Go
section
variable {C : Cx} {R : Pst} {k : List K} {e : Env} {ds : List Deferred} {h hb hb2 : Heap} {L Lb Lb2 : Owned} {ops : Array Oper} {Q : Pst} {fin rem rem' : List Nat}
/-- What is left of a region, in whatever order; the base (hb, Lb) stays as it is. -/
def QB (C : Cx) (ops : Array Oper) (fin rem : List Nat) (Q : Pst) (hb : Heap) (Lb : Owned) (e : Env) (ds : List Deferred) (h : Heap) (L : Owned) : Prop :=
  (∀ w, St h L w → St hb Lb w) → okR ops fin = true → NoP Q → (∀ y ∈ rem, y < ops.size) → Clo ops rem → ∀ σ, Topo ops rem σ → ∀ a w, EnvOk C.n e ds a → St h L w → wpJ C ops (fun w => St hb Lb w) fin (up C Q) σ a w
theorem den_drawB {id : Nat} (fin : List Nat) (hb : Heap) (Lb : Owned) (hsub : ∀ w, St h L w → St hb Lb w) (hm : C.P.follows .mixedOrders = true) (hok : okR ops fin = true) (hr : NoP R) (hrem : List.range ops.size = rem) (H : QB C ops fin rem (den C R k) hb Lb e ds h L) : den C R (.code (.region id ops true) :: k) .normal e ds h L := by
  intro a w he hs
  refine wpIn_region_draw fun t => ?_
  simp only [Region.schedule, hm, Bool.true_or, if_true]
  have hbb : backB ops = true := by simp only [okR, Bool.and_eq_true] at hok; exact hok.1.1
  have ht := topo_all hbb t
  rw [hrem] at ht
  have hclo : Clo ops rem := by
    intro k hk j hj
    rw [← hrem] at hk
    have : ops.size ≤ k := by simpa using hk
    simp [aftAt, Array.getElem?_eq_none this] at hj
  exact (H hsub hok (hr.den k) (fun y hy => by rw [← hrem] at hy; exact List.mem_range.1 hy) hclo _ ht a _ he (hs.drew _)).toOps
theorem QB_nil (H : Q .normal e ds h L) : QB C ops fin [] Q hb Lb e ds h L := by
  intro hsub _ _ _ _ σ ht a w he hs
  cases ht with
  | nil => exact ⟨hsub _ hs, _, _, _, _, he, hs, H⟩
  | cons hi _ _ => cases hi
theorem QB_settled {i : Nat} {o : Oper} {v : Value} (hi : ops[i]? = some o) (hrem : rem.contains i = true) (hr : rdy ops rem i = true) (hf : fin.contains i = false) (he' : rem.erase i = rem') (hd : dstOk o.dst C.n = true)
    (hv : ∀ a, EnvOk C.n e ds a → Settled C ops (fun w => St hb Lb w) o v a) (H : QB C ops fin rem' Q hb Lb (put o.dst v e) ds h L) : QB C ops fin rem Q hb Lb e ds h L := by
  intro hsub hok hq hlt hclo σ ht a w he hs
  obtain ⟨α, β, rfl, hα, ht'⟩ := topo_split ht hclo (by simpa using hrem) hr
  rw [he'] at ht'
  have := H hsub hok hq (fun y hy => hlt y (by rw [← he'] at hy; exact List.mem_of_mem_erase hy)) (by rw [← he']; exact hclo.erase hr) _ ht' _ w (he.put hd v) hs
  refine delay hi (noSel_spec hok hi) hf (up_nop hq) β α a w ?_ (hv a he) this
  intro x hx
  obtain ⟨h1, h2, h3, h4⟩ := hα x hx
  have hxl := hlt x h1
  cases hxo : ops[x]? with
  | none => simp at hxo; omega
  | some ox =>
    have hA := finOk_spec hok hi hxo (Ne.symm h2)
    have hB := finOk_spec hok hxo hi h2
    have hnx : pre2 ops ox i = false := by
      have e1 : aftAt ops x = aft ox := by simp [aftAt, hxo]
      rw [e1] at h3 h4
      simp only [pre2, Bool.or_eq_false_iff, List.any_eq_false]
      exact ⟨by simpa using h3, fun m hm => by simpa using h4 m hm⟩
    have hni : pre2 ops o x = false := by
      have e1 : aftAt ops i = aft o := by simp [aftAt, hi]
      simp only [pre2, Bool.or_eq_false_iff, List.any_eq_false]
      refine ⟨?_, fun m hm => ?_⟩
      · have : x ∉ aft o := fun hc => rdy_out hr (by rw [e1]; exact hc) h1
        simpa using this
      · have : x ∉ aftAt ops m := fun hc => hclo m (rdy_out hr (by rw [e1]; exact hm)) x hc h1
        simpa using this
    simp only [finOk, hnx, hni, hf, Bool.or_false, Bool.and_eq_true] at hA hB
    refine ⟨ox, rfl, noSel_spec hok hxo, by simpa using hA.2, ?_, ?_, ?_⟩
    · intro t ht
      rw [ht] at hA
      simp only [Bool.and_eq_true] at hA
      simpa using hA.1.2
    · intro t ht
      rw [ht] at hA
      simp only [Bool.and_eq_true] at hA
      simpa using hA.1.1
    · intro t ht
      rw [ht] at hB
      simp only [Bool.and_eq_true] at hB
      simpa using hB.1.2
theorem QB_v {i : Nat} {d : Option Tmp} {op : Op} {ty : TypeId} {pos : String} {af : Array Edge} {v : Value} (hi : ops[i]? = some ⟨d, op, ty, pos, af, none⟩) (hv : OpV C.P op e hb Lb v) (hrem : rem.contains i = true) (hr : rdy ops rem i = true) (hf : fin.contains i = false) (he' : rem.erase i = rem') (hd : dstOk d C.n = true)
    (H : QB C ops fin rem' Q hb Lb (put d v e) ds h L) : QB C ops fin rem Q hb Lb e ds h L :=
  QB_settled hi hrem hr hf he' hd (fun _ he => settled_v hv rfl he) H
/-- The next operation in the schedule is i. -/
def QStepB (C : Cx) (ops : Array Oper) (fin rem : List Nat) (Q : Pst) (hb : Heap) (Lb : Owned) (e : Env) (ds : List Deferred) (h : Heap) (L : Owned) (i : Nat) : Prop :=
  ∃ o G, ops[i]? = some o ∧ o.guard = none ∧ Op1 C o e h L G ∧ dstOk o.dst C.n = true ∧
    ∀ v h' L', G v h' L' → ∃ h2 L2 hb2 Lb2, (∀ w, St h' L' w → St h2 L2 w) ∧ QB C ops fin (rem.erase i) Q hb2 Lb2 (put o.dst v e) ds h2 L2 ∧ (∀ w, St h2 L2 w → St hb2 Lb2 w) ∧ (fin.contains i = false → ∀ w, St hb2 Lb2 w → St hb Lb w)
theorem QB_step {is : List Nat} (hne : (rem.isEmpty) = false) (hl : rdyL ops rem = is) (H : ∀ i ∈ is, QStepB C ops fin rem Q hb Lb e ds h L i) : QB C ops fin rem Q hb Lb e ds h L := by
  intro hsub hok hq hlt hclo σ ht a w he hs
  cases ht with
  | nil => simp at hne
  | cons hi hr ht' =>
    rename_i σ i
    have him : i ∈ is := by rw [← hl]; exact List.mem_filter.2 ⟨hi, hr⟩
    obtain ⟨o, G, ho, hg, hop, hd, hnext⟩ := H i him
    refine ⟨hsub _ hs, ?_⟩
    unfold wpOpIn
    simp only [ho]
    rw [if_pos (by simp [Region.wanted, hg])]
    refine hop ds a w _ _ he hs fun v h' L' w' hG hs' => ?_
    obtain ⟨h2, L2, hb2, Lb2, h12, hqs, hsub2, hkeep⟩ := hnext v h' L' hG
    have := hqs hsub2 hok hq (fun y hy => hlt y (List.mem_of_mem_erase hy)) (hclo.erase hr) σ ht' _ w' (he.put hd v) (h12 _ hs')
    cases hfc : fin.contains i with
    | true => simp only [if_true]; exact this.toOps
    | false => simp only [Bool.false_eq_true, if_false]; exact this.mono (hkeep hfc)
/-- an event that keeps the base -/
theorem qb_ev {i : Nat} {o : Oper} {G : Value → Heap → Owned → Prop} (hi : ops[i]? = some o) (hg : o.guard = none) (hop : Op1 C o e h L G) (hd : dstOk o.dst C.n = true) (he' : rem.erase i = rem')
    (H : ∀ v h' L', G v h' L' → (∀ w, St h' L' w → St hb Lb w) ∧ QB C ops fin rem' Q hb Lb (put o.dst v e) ds h' L') : QStepB C ops fin rem Q hb Lb e ds h L i :=
  ⟨o, G, hi, hg, hop, hd, fun v h' L' hG => ⟨h', L', hb, Lb, fun _ s => s, by rw [he']; exact (H v h' L' hG).2, (H v h' L' hG).1, fun _ _ s => s⟩⟩
/-- an event behind which more stays for good -/
theorem qb_evp {i : Nat} {o : Oper} {G : Value → Heap → Owned → Prop} (hi : ops[i]? = some o) (hg : o.guard = none) (hop : Op1 C o e h L G) (hd : dstOk o.dst C.n = true) (he' : rem.erase i = rem')
    (H : ∀ v h' L', G v h' L' → ∃ h2 L2 hb2 Lb2, (∀ w, St h' L' w → St h2 L2 w) ∧ (∀ w, St h2 L2 w → St hb2 Lb2 w) ∧ (∀ w, St hb2 Lb2 w → St hb Lb w) ∧ QB C ops fin rem' Q hb2 Lb2 (put o.dst v e) ds h2 L2) : QStepB C ops fin rem Q hb Lb e ds h L i :=
  ⟨o, G, hi, hg, hop, hd, fun v h' L' hG => by
    obtain ⟨h2, L2, hb2, Lb2, a1, a2, a3, a4⟩ := H v h' L' hG
    exact ⟨h2, L2, hb2, Lb2, a1, by rw [he']; exact a4, a2, fun _ => a3⟩⟩
theorem stb (hl : Heap.le hb h) : ∀ w, St h L w → St hb [] w := fun _ s => (s.weak hl).sub (List.nil_sublist _)
/-- the base: all that is known for good, and nothing of one's own -/
theorem den_draw0 {id : Nat} (fin : List Nat) (hm : C.P.follows .mixedOrders = true) (hok : okR ops fin = true) (hr : NoP R) (hrem : List.range ops.size = rem) (H : QB C ops fin rem (den C R k) h [] e ds h L) : den C R (.code (.region id ops true) :: k) .normal e ds h L :=
  den_drawB fin h [] (stb (Heap.le.refl _)) hm hok hr hrem H
theorem qb_e {i : Nat} {o : Oper} {G : Value → Heap → Owned → Prop} (hi : ops[i]? = some o) (hg : o.guard = none) (hop : Op1 C o e h L G) (hd : dstOk o.dst C.n = true) (he' : rem.erase i = rem')
    (H : ∀ v h' L', G v h' L' → Heap.le h h' ∧ QB C ops fin rem' Q h' [] (put o.dst v e) ds h' L') : QStepB C ops fin rem Q h [] e ds h L i :=
  qb_evp hi hg hop hd he' fun v h' L' hG => by
    obtain ⟨hl, hq⟩ := H v h' L' hG
    exact ⟨h', L', h', [], fun _ s => s, stb (Heap.le.refl _), fun _ s => s.weak hl, hq⟩
/-- a new block that stays as it is -/
theorem qb_newp {i : Nat} {d : Option Tmp} {op : Op} {ty : TypeId} {pos : String} {af : Array Edge} {ob : Obj} {g : Nat → Value} (hi : ops[i]? = some ⟨d, op, ty, pos, af, none⟩) (ho : Op1 C ⟨d, op, ty, pos, af, none⟩ e h L (fun v h' L' => ∃ b, v = g b ∧ h' = h ∧ L' = (b, ob) :: L)) (hd : dstOk d C.n = true) (he' : rem.erase i = rem')
    (H : ∀ b h', Heap.le h h' → h' b = some ob → QB C ops fin rem' Q h' [] (put d (g b) e) ds h' L) : QStepB C ops fin rem Q h [] e ds h L i := by
  refine ⟨⟨d, op, ty, pos, af, none⟩, (fun v h' L' => ∃ b, v = g b ∧ L' = L ∧ Heap.le h h' ∧ h' b = some ob), hi, rfl, ?_, hd, ?_⟩
  · intro ds a w next Q he hs K
    refine ho ds a w next Q he hs ?_
    rintro v h1 L1 w' ⟨b, rfl, rfl, rfl⟩ hs'
    obtain ⟨s1, s2, s3⟩ := hs'.freeze
    exact K _ _ _ _ ⟨b, rfl, rfl, s2, s3⟩ s1
  · rintro v h' L' ⟨b, rfl, rfl, hle, hbb⟩
    exact ⟨h', _, h', [], fun _ s => s, by rw [he']; exact H b h' hle hbb, stb (Heap.le.refl _), fun _ _ s => s.weak hle⟩
theorem QB_perm {L' : Owned} (hp : L.Perm L') (H : QB C ops fin rem Q hb Lb e ds h L') : QB C ops fin rem Q hb Lb e ds h L := by
  intro hsub hok hq hlt hclo σ hσ a w he hs
  exact H (fun w s => hsub w (s.perm hp.symm)) hok hq hlt hclo σ hσ a w he (hs.perm hp)
end
end Go.Proofs.Ch
