/- Regions that draw their order: what only reads and computes is taken first, the rest in every order that the edges leave open. No program is named here. -/
import Derived.Test.YtglmkcfmcoianaaGreatDoorF
import Derived.OrdersIn
namespace Go.Proofs.Ch
open Go

/-- the edges that bind -/
def aft (o : Oper) : List Nat := (o.after.toList.filter (fun e => Region.binds .any e)).map (·.on)
def aftAt (ops : Array Oper) (i : Nat) : List Nat := match ops[i]? with
  | some o => aft o
  | none => []
def rdy (ops : Array Oper) (rem : List Nat) (i : Nat) : Bool := (aftAt ops i).all fun j => !rem.contains j

inductive Topo (ops : Array Oper) : List Nat → List Nat → Prop
  | nil : Topo ops [] []
  | cons {rem σ : List Nat} {i : Nat} (hi : i ∈ rem) (hr : rdy ops rem i = true) (h : Topo ops (rem.erase i) σ) : Topo ops rem (i :: σ)

def left (n : Nat) (listed : Array Bool) : List Nat := (List.range n).filter fun j => !listed.getD j true

theorem left_nodup (n : Nat) (listed : Array Bool) : (left n listed).Nodup := List.nodup_range.filter _

theorem left_set {n : Nat} {listed : Array Bool} {i : Nat} (hi : i ∈ left n listed) : left n (listed.setIfInBounds i true) = (left n listed).erase i := by
  have hlt : i < listed.size := by
    simp only [left, List.mem_filter] at hi
    have h2 := hi.2
    by_cases h : i < listed.size
    · exact h
    · simp [Array.getD, h] at h2
  rw [List.Nodup.erase_eq_filter (left_nodup n listed)]
  simp only [left, List.filter_filter]
  apply List.filter_congr
  intro j _
  by_cases hj : j = i
  · subst hj; simp [Array.getD, hlt]
  · by_cases hjl : j < listed.size
    · simp [Array.getD, hjl, Array.getElem_setIfInBounds_ne, Ne.symm hj, hj]
    · simp [Array.getD, hjl]

/-- all binding edges lead back -/
def backB (ops : Array Oper) : Bool := (List.range ops.size).all fun i => (aftAt ops i).all fun j => Nat.blt j i

theorem topo_go {ops : Array Oper} (hb : backB ops = true) : ∀ (fuel t : Nat) (listed : Array Bool), listed.size = ops.size → (left ops.size listed).length = fuel →
    Topo ops (left ops.size listed) (Region.linearise.go .any ops fuel t listed []) := by
  intro fuel
  induction fuel with
  | zero =>
    intro t listed _ hl
    have : left ops.size listed = [] := List.length_eq_zero_iff.1 hl
    rw [this]
    exact .nil
  | succ fuel ih =>
    intro t listed hsz hl
    have hready : ∀ i, i ∈ Region.ready .any ops listed ↔ i ∈ left ops.size listed ∧ rdy ops (left ops.size listed) i = true := by
      intro i
      simp only [Region.ready, left, List.mem_filter, List.mem_range, Bool.and_eq_true]
      constructor
      · rintro ⟨h1, h2, h3⟩
        refine ⟨⟨h1, h2⟩, ?_⟩
        have hi : ops[i]? = some ops[i] := by simp [h1]
        rw [hi] at h3
        simp only [Option.map_some, Option.getD_some] at h3
        simp only [rdy, aftAt, hi, aft, List.all_map, List.all_filter]
        rw [List.all_eq_true]
        intro e he
        rw [← Array.all_toList, List.all_eq_true] at h3
        have := h3 e he
        simp only [Bool.or_eq_true, Bool.not_eq_true', Function.comp] at this ⊢
        rcases this with h | h
        · exact .inl h
        · right
          simp only [List.contains_eq_mem, List.mem_filter, List.mem_range, decide_eq_false_iff_not, not_and]
          intro hlt
          have : listed.getD e.on true = true := by
            have hlt' : e.on < listed.size := by rw [hsz]; exact hlt
            simp [Array.getD, hlt'] at h ⊢; exact h
          simp [this]
      · rintro ⟨⟨h1, h2⟩, h3⟩
        refine ⟨h1, h2, ?_⟩
        have hi : ops[i]? = some ops[i] := by simp [h1]
        rw [hi]
        simp only [Option.map_some, Option.getD_some]
        rw [← Array.all_toList, List.all_eq_true]
        intro e he
        simp only [rdy, aftAt, hi, aft, List.all_map, List.all_filter] at h3
        rw [List.all_eq_true] at h3
        have h4 := h3 e he
        simp only [Bool.or_eq_true, Bool.not_eq_true', Function.comp] at h4 ⊢
        rcases h4 with h | h
        · exact .inl h
        · by_cases hbind : Region.binds .any e = true
          · right
            simp only [List.contains_eq_mem, List.mem_filter, List.mem_range, decide_eq_false_iff_not, not_and] at h
            have hback := List.all_eq_true.1 hb i (List.mem_range.2 h1)
            have hlt : e.on < i := by
              have := List.all_eq_true.1 hback e.on (by simp only [aftAt, hi, aft]; exact List.mem_map.2 ⟨e, List.mem_filter.2 ⟨he, hbind⟩, rfl⟩)
              simpa [Nat.blt_eq] using this
            have h5 := h (by omega)
            have hlt' : e.on < listed.size := by rw [hsz]; omega
            simp [Array.getD, hlt'] at h5 ⊢; exact h5
          · left; simpa using hbind
    have hne : Region.ready .any ops listed ≠ [] := by
      have hx : ∃ x, x ∈ left ops.size listed := by
        cases hc : left ops.size listed with
        | nil => rw [hc] at hl; simp at hl
        | cons x xs => exact ⟨x, by simp⟩
      obtain ⟨m, hm, hmin⟩ := least hx
      intro hnil
      have : m ∈ Region.ready .any ops listed := (hready m).2 ⟨hm, by
        simp only [rdy]
        rw [List.all_eq_true]
        intro j hj
        simp only [Bool.not_eq_true', List.contains_eq_mem, decide_eq_false_iff_not]
        intro hjl
        have hmlt : m < ops.size := by simp only [left, List.mem_filter, List.mem_range] at hm; exact hm.1
        have := List.all_eq_true.1 (List.all_eq_true.1 hb m (List.mem_range.2 hmlt)) j hj
        have hlt : j < m := by simpa [Nat.blt_eq] using this
        have := hmin j hjl
        omega⟩
      rw [hnil] at this
      cases this
    simp only [Region.linearise.go]
    change Topo ops _ (match (Region.ready .any ops listed)[t % (Region.ready .any ops listed).length]? with
      | some i => Region.linearise.go .any ops fuel (t / (Region.ready .any ops listed).length) (listed.setIfInBounds i true) [i]
      | none => [].reverse)
    have hlt : t % (Region.ready .any ops listed).length < (Region.ready .any ops listed).length := Nat.mod_lt _ (List.length_pos_iff.2 hne)
    rw [List.getElem?_eq_getElem hlt]
    simp only
    rw [linearise_go_acc]
    simp only [List.reverse_singleton, List.singleton_append]
    have hmem := (hready _).1 (List.getElem_mem hlt)
    refine .cons hmem.1 hmem.2 ?_
    rw [← left_set hmem.1]
    refine ih _ _ (by simp [hsz]) ?_
    rw [left_set hmem.1, List.length_erase_of_mem hmem.1, hl]
    rfl

theorem left_all (n : Nat) : left n (Array.replicate n false) = List.range n := by
  simp only [left]
  refine List.filter_eq_self.2 ?_
  intro j hj
  have := List.mem_range.1 hj
  simp [Array.getD, this]

theorem topo_all {ops : Array Oper} (hb : backB ops = true) (t : Nat) : Topo ops (List.range ops.size) (Region.linearise .any ops t) := by
  have := topo_go hb ops.size t (Array.replicate ops.size false) (by simp) (by rw [left_all]; simp)
  rw [left_all] at this
  exact this

/-! ### What is asked on the way -/
section
variable {C : Cx} {ops : Array Oper} {Q : Exit → Act → World → Prop} {J : World → Prop} {fin : List Nat}

def wpJ (C : Cx) (ops : Array Oper) (J : World → Prop) (fin : List Nat) (Q : Exit → Act → World → Prop) : List Nat → Act → World → Prop
  | [], a, w => J w ∧ Q .normal a w
  | i :: σ, a, w => J w ∧ wpOpIn (fx C.r) 0 C.P ops Q i (fun a w => if fin.contains i then wpOpsIn (fx C.r) 0 C.P ops Q σ a w else wpJ C ops J fin Q σ a w) a w

theorem wpJ.j {σ : List Nat} {a : Act} {w : World} (h : wpJ C ops J fin Q σ a w) : J w := by cases σ <;> exact h.1

theorem wpJ.toOps : ∀ {σ : List Nat} {a : Act} {w : World}, wpJ C ops J fin Q σ a w → wpOpsIn (fx C.r) 0 C.P ops Q σ a w
  | [], _, _, h => h.2
  | i :: σ, a, w, h => by
    rw [wpOpsIn_cons]
    refine wpOpIn_mono ?_ h.2
    intro a w hk
    split at hk
    · exact hk
    · exact hk.toOps

theorem wpJ.mono {J' : World → Prop} (hj : ∀ w, J w → J' w) : ∀ {σ : List Nat} {a : Act} {w : World}, wpJ C ops J fin Q σ a w → wpJ C ops J' fin Q σ a w
  | [], _, _, h => ⟨hj _ h.1, h.2⟩
  | i :: σ, a, w, h => by
    refine ⟨hj _ h.1, wpOpIn_mono ?_ h.2⟩
    intro a w hk
    split at hk
    · rename_i hf; rw [if_pos hf]; exact hk
    · rename_i hf; rw [if_neg hf]; exact hk.mono hj

theorem wpOpIn_comm {F : Fence} {n : Nat} {P : Program} {k : Nat} {ok : Oper} {d : Option Tmp} {v : Value} {K : Act → World → Prop} {a : Act} {w : World} (hk : ops[k]? = some ok) (hsel : ∀ cs b, ok.op ≠ .select cs b)
    (hlook : ∀ t, d = some t → t ∉ ok.looksAt ops) (hdst : ∀ t, d = some t → ok.dst ≠ some t) (hQ : ∀ c a w, ¬ Q (.panic c) a w) (h : wpOpIn F n P ops Q k K (a.put d v) w) :
    wpOpIn F n P ops Q k (fun a' w' => K (a'.put d v) w') a w := by
  have hdef : ∀ ds, ({ (a.put d v) with defers := ds } : Act) = ({ a with defers := ds } : Act).put d v := by intro ds; cases d <;> rfl
  have hdf : (a.put d v).defers = a.defers := by cases d <;> rfl
  have hc : ∀ (a : Act) u, (a.put d v).put ok.dst u = (a.put ok.dst u).put d v := fun a u => Act.put_comm a v u hdst
  unfold wpOpIn at *
  simp only [hk] at h ⊢
  rw [wanted_put ok a d v hlook] at h
  split
  · rename_i hw
    rw [if_pos hw] at h
    unfold Oper.wpIn at *
    rw [about_put ok w a d v hlook] at h
    have hsem : ok.semAt F.round (a.put d v).eval = ok.semAt F.round a.eval := by
      unfold Oper.semAt
      split
      · rename_i l c _ hop
        have := resolve_congr (ρ := (a.put d v).eval) (ρ' := a.eval) c ok.type (fun x hx => Act.eval_put fun t ht hxt => hlook t ht (by
          subst hxt
          exact List.mem_append_left _ (List.mem_filterMap.2 ⟨.tmp t, by rw [hop]; simpa [Op.operands] using hx, rfl⟩)))
        rw [this]
      · exact execOp_put ok hsel a d v hlook
    rw [hsem] at h
    refine ⟨h.1, ?_⟩
    have h := h.2
    generalize (ok.semAt F.round a.eval).run P w = r at *
    cases r with
    | ok x w' =>
      cases x <;> simp only [Oper.uponIn, hc, hdef, hdf] at h ⊢ <;>
        first
          | exact h
          | exact ⟨h.1, CallsIn.mono h.2 (fun e w'' he => by cases e <;> first | exact he | exact (hQ _ _ _ he).elim)⟩
          | exact ⟨h.1, RowsIn.mono h.2 (fun _ _ he => he)⟩
          | exact ⟨h.1, RoundIn.mono h.2 (fun e w'' he => by cases e <;> first | exact he | exact (hQ _ _ _ he).elim)⟩
    | halt x w' => cases x <;> simp only [Oper.uponIn] at h ⊢ <;> first | exact (hQ _ _ _ h).elim | exact h.elim
  · rename_i hw
    rw [if_neg hw] at h
    rw [hc] at h
    exact ⟨by rw [about_put ok w a d v hlook] at h; exact h.1, h.2⟩

/-- the operation is settled: it hands back v, in whatever world of J -/
def Settled (C : Cx) (ops : Array Oper) (J : World → Prop) (o : Oper) (v : Value) (a : Act) : Prop :=
  (Region.wanted o (yielded ops a.tmps) = true ∧ ∀ w, J w → (execOp a.eval o).run C.P w = .ok (.value v) w) ∨ (Region.wanted o (yielded ops a.tmps) = false ∧ v = undef)

theorem Settled.put {o ok : Oper} {v u : Value} {a : Act} (hsel : ∀ cs b, o.op ≠ .select cs b) (hlook : ∀ t, ok.dst = some t → t ∉ o.looksAt ops) (h : Settled C ops J o v a) : Settled C ops J o v (a.put ok.dst u) := by
  unfold Settled at *
  rw [wanted_put o a ok.dst u hlook, execOp_put o hsel a ok.dst u hlook]
  exact h

theorem Settled.op {i : Nat} {o : Oper} {v : Value} {a : Act} {w : World} {K : Act → World → Prop} (hi : ops[i]? = some o) (hs : Settled C ops J o v a) (hj : J w) (hK : K (a.put o.dst v) w) : wpOpIn (fx C.r) 0 C.P ops Q i K a w := by
  unfold wpOpIn
  simp only [hi]
  rcases hs with ⟨hw, hv⟩ | ⟨hw, rfl⟩
  · rw [if_pos hw]
    have hr := hv w hj
    refine ⟨fun _ _ => trivial, ?_⟩
    rw [Oper.semAt_eq _ _ _ (not_defer hr), hr]
    exact hK
  · rw [if_neg (by simp [hw])]
    exact ⟨fun _ _ => trivial, hK⟩

theorem delay {i : Nat} {oi : Oper} {v : Value} (hi : ops[i]? = some oi) (hsi : ∀ cs b, oi.op ≠ .select cs b) (hfi : fin.contains i = false) (hQ : ∀ c a w, ¬ Q (.panic c) a w) (β : List Nat) :
    ∀ (α : List Nat) (a : Act) (w : World), (∀ k ∈ α, ∃ ok, ops[k]? = some ok ∧ (∀ cs b, ok.op ≠ .select cs b) ∧ fin.contains k = false ∧ (∀ t, oi.dst = some t → t ∉ ok.looksAt ops) ∧ (∀ t, oi.dst = some t → ok.dst ≠ some t) ∧ (∀ t, ok.dst = some t → t ∉ oi.looksAt ops)) →
      Settled C ops J oi v a → wpJ C ops J fin Q (α ++ β) (a.put oi.dst v) w → wpJ C ops J fin Q (α ++ i :: β) a w := by
  intro α
  induction α with
  | nil =>
    intro a w _ hs h
    refine ⟨h.j, hs.op hi h.j ?_⟩
    rw [hfi]
    simpa using h
  | cons k α ih =>
    intro a w hα hs h
    obtain ⟨ok, hk, hsk, hfk, hl1, hl2, hl3⟩ := hα k (by simp)
    refine ⟨h.1, ?_⟩
    have h2 := wpOpIn_comm hk hsk hl1 hl2 hQ h.2
    -- what the operation does to the frame is a 'put' of its own temporary: the settled one stays settled
    have key : ∀ K K' : Act → World → Prop, (∀ u w, K (a.put ok.dst u) w → K' (a.put ok.dst u) w) → (∀ ds u w, K (({ a with defers := ds } : Act).put ok.dst u) w → K' (({ a with defers := ds } : Act).put ok.dst u) w) → wpOpIn (fx C.r) 0 C.P ops Q k K a w → wpOpIn (fx C.r) 0 C.P ops Q k K' a w := by
      intro K K' hKK hKd hh
      unfold wpOpIn at *
      simp only [hk] at hh ⊢
      split
      · rename_i hw
        rw [if_pos hw] at hh
        refine ⟨hh.1, ?_⟩
        have hh := hh.2
        generalize (ok.semAt (fx C.r).round a.eval).run C.P w = r at *
        cases r with
        | ok x w' =>
          cases x <;> simp only [Oper.uponIn] at hh ⊢ <;>
            first
              | exact hKK _ _ hh
              | exact hKd _ _ _ hh
              | exact ⟨hh.1, CallsIn.mono hh.2 (fun e w'' he => by cases e <;> first | exact hKK _ _ he | exact he)⟩
              | exact ⟨hh.1, RowsIn.mono hh.2 (fun _ _ he => hKK _ _ he)⟩
              | exact ⟨hh.1, RoundIn.mono hh.2 (fun e w'' he => by cases e <;> first | exact hKK _ _ he | exact he)⟩
        | halt x w' => cases x <;> simp only [Oper.uponIn] at hh ⊢ <;> exact hh
      · rename_i hw
        rw [if_neg hw] at hh
        exact ⟨hh.1, hKK _ _ hh.2⟩
    have hsd : ∀ ds, Settled C ops J oi v ({ a with defers := ds } : Act) := fun ds => hs
    refine key _ _ ?_ ?_ h2
    · intro u w' hK
      rw [hfk] at hK ⊢
      simp only [Bool.false_eq_true, if_false] at hK ⊢
      exact ih _ w' (fun k' hk' => hα k' (by simp [hk'])) (hs.put hsi hl3) hK
    · intro ds u w' hK
      rw [hfk] at hK ⊢
      simp only [Bool.false_eq_true, if_false] at hK ⊢
      exact ih _ w' (fun k' hk' => hα k' (by simp [hk'])) ((hsd ds).put hsi hl3) hK
end

/-! ### The rules -/
/-- i stands ahead of the operation o: at once, or with one between -/
def pre2 (ops : Array Oper) (o : Oper) (i : Nat) : Bool := (aft o).contains i || (aft o).any fun m => (aftAt ops m).contains i
def finOk (ops : Array Oper) (fin : List Nat) (i j : Nat) (oi oj : Oper) : Bool :=
  (match oi.dst with
   | some t => (oj.dst != some t) && (!(oj.looksAt ops).contains t || pre2 ops oj i || pre2 ops oi j)
   | none => true) && (!fin.contains j || fin.contains i || pre2 ops oj i || pre2 ops oi j)
def noSel (o : Oper) : Bool := match o.op with
  | .select _ _ => false
  | _ => true
/-- what is asked of a region's text -/
def okR (ops : Array Oper) (fin : List Nat) : Bool :=
  backB ops && ops.toList.all noSel &&
  (List.range ops.size).all fun i => (List.range ops.size).all fun j => Nat.beq i j || (match ops[i]?, ops[j]? with
    | some oi, some oj => finOk ops fin i j oi oj
    | _, _ => true)

theorem noSel_spec {ops : Array Oper} {fin : List Nat} (h : okR ops fin = true) {i : Nat} {o : Oper} (hi : ops[i]? = some o) : ∀ cs b, o.op ≠ .select cs b := by
  intro cs b hc
  simp only [okR, Bool.and_eq_true] at h
  have := List.all_eq_true.1 h.1.2 o (by have := Array.mem_of_getElem? hi; simpa using this)
  simp [noSel, hc] at this

theorem finOk_spec {ops : Array Oper} {fin : List Nat} (h : okR ops fin = true) {i j : Nat} {oi oj : Oper} (hi : ops[i]? = some oi) (hj : ops[j]? = some oj) (hne : i ≠ j) : finOk ops fin i j oi oj = true := by
  simp only [okR, Bool.and_eq_true] at h
  have h1 := List.all_eq_true.1 h.2 i (List.mem_range.2 (Array.getElem?_eq_some_iff.1 hi).1)
  have h2 := List.all_eq_true.1 h1 j (List.mem_range.2 (Array.getElem?_eq_some_iff.1 hj).1)
  simp only [hi, hj, Bool.or_eq_true] at h2
  rcases h2 with h2 | h2
  · exact absurd (Nat.eq_of_beq_eq_true h2) hne
  · exact h2

def NoP (Q : Pst) : Prop := ∀ ch e ds h L, ¬ Q (.panic ch) e ds h L
theorem NoP.den {C : Cx} {R : Pst} (hr : NoP R) : ∀ k, NoP (den C R k)
  | [] => hr
  | .code _ :: k => NoP.den hr k
  | .blk _ :: k => NoP.den hr k
  | .again _ :: k => NoP.den hr k
theorem NoP.fn {P fn n h0 Lf Post} : NoP (fnPost P fn n h0 Lf Post) := fun _ _ _ _ _ h => h
theorem NoP.each {lp h0 Lx J Xc n ps assign body e0} : NoP (eachR lp h0 Lx J Xc n ps assign body e0) := fun _ _ _ _ _ ⟨_, _, _, _, _, h⟩ => h
theorem NoP.never : NoP (fun _ _ _ _ _ => False) := fun _ _ _ _ _ h => h

theorem rdy_mono {ops : Array Oper} {rem : List Nat} {i k : Nat} (h : rdy ops rem k = true) : rdy ops (rem.erase i) k = true := by
  simp only [rdy] at h ⊢
  rw [List.all_eq_true] at h ⊢
  intro j hj
  have := h j hj
  simp only [Bool.not_eq_true', List.contains_eq_mem, decide_eq_false_iff_not] at this ⊢
  exact fun hm => this (List.mem_of_mem_erase hm)

/-- what is done is done with all that stands ahead of it -/
def Clo (ops : Array Oper) (rem : List Nat) : Prop := ∀ k, k ∉ rem → ∀ j ∈ aftAt ops k, j ∉ rem
theorem rdy_out {ops : Array Oper} {rem : List Nat} {i j : Nat} (hr : rdy ops rem i = true) (hj : j ∈ aftAt ops i) : j ∉ rem := by
  have := List.all_eq_true.1 hr j hj
  simpa using this
theorem Clo.erase {ops : Array Oper} {rem : List Nat} {i : Nat} (hc : Clo ops rem) (hr : rdy ops rem i = true) : Clo ops (rem.erase i) := by
  intro k hk j hj hm
  have hm' := List.mem_of_mem_erase hm
  by_cases hki : k = i
  · subst hki; exact rdy_out hr hj hm'
  · exact hc k (fun h => hk ((List.mem_erase_of_ne hki).2 h)) j hj hm'

theorem topo_split {ops : Array Oper} {i : Nat} : ∀ {rem σ : List Nat}, Topo ops rem σ → Clo ops rem → i ∈ rem → rdy ops rem i = true → ∃ α β, σ = α ++ i :: β ∧ (∀ k ∈ α, k ∈ rem ∧ k ≠ i ∧ i ∉ aftAt ops k ∧ ∀ m ∈ aftAt ops k, i ∉ aftAt ops m) ∧ Topo ops (rem.erase i) (α ++ β) := by
  intro rem σ ht
  induction ht with
  | nil => intro _ h; cases h
  | cons hk hr h ih =>
    rename_i rem σ k
    intro hclo hi hri
    by_cases hki : k = i
    · subst hki
      exact ⟨[], σ, rfl, by simp, h⟩
    · obtain ⟨α, β, rfl, hα, ht'⟩ := ih (hclo.erase hr) ((List.mem_erase_of_ne (Ne.symm hki)).2 hi) (rdy_mono hri)
      refine ⟨k :: α, β, rfl, ?_, ?_⟩
      · intro x hx
        rcases List.mem_cons.1 hx with rfl | hx
        · refine ⟨hk, hki, fun hm => rdy_out hr hm hi, fun m hm hm2 => hclo m (rdy_out hr hm) i hm2 hi⟩
        · obtain ⟨h1, h2, h3, h4⟩ := hα x hx
          exact ⟨List.mem_of_mem_erase h1, h2, h3, h4⟩
      · refine .cons ((List.mem_erase_of_ne hki).2 hk) (rdy_mono hr) ?_
        rw [List.erase_comm]
        exact ht'

section
variable {C : Cx} {R : Pst} {k : List K} {e : Env} {ds : List Deferred} {h : Heap} {L : Owned} {ops : Array Oper} {Q : Pst} {fin rem rem' : List Nat}

/-- What is left of a region, in whatever order. -/
def QS (C : Cx) (ops : Array Oper) (fin rem : List Nat) (Q : Pst) (e : Env) (ds : List Deferred) (h : Heap) (L : Owned) : Prop :=
  okR ops fin = true → NoP Q → (∀ y ∈ rem, y < ops.size) → Clo ops rem → ∀ σ, Topo ops rem σ → ∀ a w, EnvOk C.n e ds a → St h L w → wpJ C ops (fun w => St h L w) fin (up C Q) σ a w

theorem up_nop (hq : NoP Q) : ∀ c a w, ¬ up C Q (.panic c) a w := by
  rintro c a w ⟨e, ds, h, L, _, _, hx⟩
  exact hq _ _ _ _ _ hx

theorem den_draw {id : Nat} (fin : List Nat) (hm : C.P.follows .mixedOrders = true) (hok : okR ops fin = true) (hr : NoP R) (hrem : List.range ops.size = rem) (H : QS C ops fin rem (den C R k) e ds h L) : den C R (.code (.region id ops true) :: k) .normal e ds h L := by
  intro a w he hs
  refine wpIn_region_draw fun t => ?_
  simp only [Region.schedule, hm, Bool.true_or, if_true]
  have hb : backB ops = true := by simp only [okR, Bool.and_eq_true] at hok; exact hok.1.1
  have ht := topo_all hb t
  rw [hrem] at ht
  have hclo : Clo ops rem := by
    intro k hk j hj
    rw [← hrem] at hk
    have : ops.size ≤ k := by simpa using hk
    simp [aftAt, Array.getElem?_eq_none this] at hj
  exact (H hok (hr.den k) (fun y hy => by rw [← hrem] at hy; exact List.mem_range.1 hy) hclo _ ht a _ he (hs.drew _)).toOps

theorem QS_nil (H : Q .normal e ds h L) : QS C ops fin [] Q e ds h L := by
  intro _ _ _ _ σ ht a w he hs
  cases ht with
  | nil => exact ⟨hs, _, _, _, _, he, hs, H⟩
  | cons hi _ _ => cases hi

theorem QS_settled {i : Nat} {o : Oper} {v : Value} (hi : ops[i]? = some o) (hrem : rem.contains i = true) (hr : rdy ops rem i = true) (hf : fin.contains i = false) (he' : rem.erase i = rem') (hd : dstOk o.dst C.n = true)
    (hv : ∀ a, EnvOk C.n e ds a → Settled C ops (fun w => St h L w) o v a) (H : QS C ops fin rem' Q (put o.dst v e) ds h L) : QS C ops fin rem Q e ds h L := by
  intro hok hq hlt hclo σ ht a w he hs
  obtain ⟨α, β, rfl, hα, ht'⟩ := topo_split ht hclo (by simpa using hrem) hr
  rw [he'] at ht'
  have := H hok hq (fun y hy => hlt y (by rw [← he'] at hy; exact List.mem_of_mem_erase hy)) (by rw [← he']; exact hclo.erase hr) _ ht' _ w (he.put hd v) hs
  refine delay hi (noSel_spec hok hi) hf (up_nop hq) β α a w ?_ (hv a he) this
  intro x hx
  obtain ⟨h1, h2, h3, h4⟩ := hα x hx
  have hxl := hlt x h1
  cases hxo : ops[x]? with
  | none => simp at hxo; omega
  | some ox =>
    have hA := finOk_spec hok hi hxo (Ne.symm h2)
    have hB := finOk_spec hok hxo hi h2
    have hnx : pre2 ops ox i = false := by
      have e1 : aftAt ops x = aft ox := by simp [aftAt, hxo]
      rw [e1] at h3 h4
      simp only [pre2, Bool.or_eq_false_iff, List.any_eq_false]
      exact ⟨by simpa using h3, fun m hm => by simpa using h4 m hm⟩
    have hni : pre2 ops o x = false := by
      have e1 : aftAt ops i = aft o := by simp [aftAt, hi]
      simp only [pre2, Bool.or_eq_false_iff, List.any_eq_false]
      refine ⟨?_, fun m hm => ?_⟩
      · have : x ∉ aft o := fun hc => rdy_out hr (by rw [e1]; exact hc) h1
        simpa using this
      · have : x ∉ aftAt ops m := fun hc => hclo m (rdy_out hr (by rw [e1]; exact hm)) x hc h1
        simpa using this
    simp only [finOk, hnx, hni, hf, Bool.or_false, Bool.and_eq_true] at hA hB
    refine ⟨ox, rfl, noSel_spec hok hxo, by simpa using hA.2, ?_, ?_, ?_⟩
    · intro t ht
      rw [ht] at hA
      simp only [Bool.and_eq_true] at hA
      simpa using hA.1.2
    · intro t ht
      rw [ht] at hA
      simp only [Bool.and_eq_true] at hA
      simpa using hA.1.1
    · intro t ht
      rw [ht] at hB
      simp only [Bool.and_eq_true] at hB
      simpa using hB.1.2

theorem settled_v {o : Oper} {v : Value} (hv : OpV C.P o.op e h L v) (hg : o.guard = none) {a : Act} (he : EnvOk C.n e ds a) : Settled C ops (fun w => St h L w) o v a :=
  .inl ⟨by simp [Region.wanted, hg], fun w hs => hv a.eval w o (fun x u hx => he.eval hx) hs rfl⟩

/-- an operation that reads or computes -/
theorem QS_v {i : Nat} {d : Option Tmp} {op : Op} {ty : TypeId} {pos : String} {af : Array Edge} {v : Value} (hi : ops[i]? = some ⟨d, op, ty, pos, af, none⟩) (hv : OpV C.P op e h L v) (hrem : rem.contains i = true) (hr : rdy ops rem i = true) (hf : fin.contains i = false) (he' : rem.erase i = rem') (hd : dstOk d C.n = true)
    (H : QS C ops fin rem' Q (put d v e) ds h L) : QS C ops fin rem Q e ds h L :=
  QS_settled hi hrem hr hf he' hd (fun _ he => settled_v hv rfl he) H
theorem QS_vg {i j t : Nat} {b : Bool} {d : Option Tmp} {op : Op} {ty : TypeId} {pos : String} {af : Array Edge} {v : Value} (hi : ops[i]? = some ⟨d, op, ty, pos, af, some (j, b)⟩) (hj : guardTmp ops j = some t) (hl : look e t = some (.bool b)) (hv : OpV C.P op e h L v) (hrem : rem.contains i = true) (hr : rdy ops rem i = true) (hf : fin.contains i = false) (he' : rem.erase i = rem') (hd : dstOk d C.n = true)
    (H : QS C ops fin rem' Q (put d v e) ds h L) : QS C ops fin rem Q e ds h L :=
  QS_settled hi hrem hr hf he' hd (fun _ he => .inl ⟨by simp [Region.wanted, yielded_of hj he hl], fun w hs => hv _ w _ (fun x u hx => he.eval hx) hs rfl⟩) H
theorem QS_skip {i j t : Nat} {b : Bool} {d : Option Tmp} {op : Op} {ty : TypeId} {pos : String} {af : Array Edge} (hi : ops[i]? = some ⟨d, op, ty, pos, af, some (j, !b)⟩) (hj : guardTmp ops j = some t) (hl : look e t = some (.bool b)) (hrem : rem.contains i = true) (hr : rdy ops rem i = true) (hf : fin.contains i = false) (he' : rem.erase i = rem') (hd : dstOk d C.n = true)
    (H : QS C ops fin rem' Q (put d undef e) ds h L) : QS C ops fin rem Q e ds h L :=
  QS_settled hi hrem hr hf he' hd (fun _ he => .inr ⟨by simp [Region.wanted, yielded_of hj he hl], rfl⟩) H

theorem QS_split {t : Nat} {b : Bool} (hl : look e t = some (.bool b)) (ht : b = true → QS C ops fin rem Q ((t, .bool true) :: e) ds h L) (hf : b = false → QS C ops fin rem Q ((t, .bool false) :: e) ds h L) : QS C ops fin rem Q e ds h L := by
  intro hok hq hlt hclo σ hσ a w he hs
  have key : ∀ b', b = b' → EnvOk C.n ((t, .bool b') :: e) ds a := by
    rintro b' rfl
    refine ⟨he.size, ?_, he.df⟩
    intro t' v' hx
    simp only [look] at hx
    cases hb : Nat.beq t t' with
    | true => have := Nat.eq_of_beq_eq_true hb; subst this; simp [hb] at hx; subst hx; exact he.ok _ _ hl
    | false => simp [hb] at hx; exact he.ok _ _ hx
  cases b with
  | true => exact ht rfl hok hq hlt hclo σ hσ a w (key _ rfl) hs
  | false => exact hf rfl hok hq hlt hclo σ hσ a w (key _ rfl) hs

/-- The next operation in the schedule is i. -/
def QStep (C : Cx) (ops : Array Oper) (fin rem : List Nat) (Q : Pst) (e : Env) (ds : List Deferred) (h : Heap) (L : Owned) (i : Nat) : Prop :=
  ∃ o G, ops[i]? = some o ∧ (∀ a, EnvOk C.n e ds a → Region.wanted o (yielded ops a.tmps) = true) ∧ Op1 C o e h L G ∧ dstOk o.dst C.n = true ∧
    ∀ v h' L', G v h' L' → ∃ h2 L2, (∀ w, St h' L' w → St h2 L2 w) ∧ QS C ops fin (rem.erase i) Q (put o.dst v e) ds h2 L2 ∧ (fin.contains i = false → ∀ w, St h2 L2 w → St h L w)

def rdyL (ops : Array Oper) (rem : List Nat) : List Nat := rem.filter (rdy ops rem)

/-- nothing that reads or computes is ready: whichever stands next -/
theorem QS_step {is : List Nat} (hne : (rem.isEmpty) = false) (hl : rdyL ops rem = is) (H : ∀ i ∈ is, QStep C ops fin rem Q e ds h L i) : QS C ops fin rem Q e ds h L := by
  intro hok hq hlt hclo σ ht a w he hs
  cases ht with
  | nil => simp at hne
  | cons hi hr ht' =>
    rename_i σ i
    have him : i ∈ is := by rw [← hl]; exact List.mem_filter.2 ⟨hi, hr⟩
    obtain ⟨o, G, ho, hw, hop, hd, hnext⟩ := H i him
    refine ⟨hs, ?_⟩
    unfold wpOpIn
    simp only [ho]
    rw [if_pos (hw a he)]
    refine hop ds a w _ _ he hs fun v h' L' w' hG hs' => ?_
    obtain ⟨h2, L2, h12, hqs, hkeep⟩ := hnext v h' L' hG
    have := hqs hok hq (fun y hy => hlt y (List.mem_of_mem_erase hy)) (hclo.erase hr) σ ht' _ w' (he.put hd v) (h12 _ hs')
    cases hfc : fin.contains i with
    | true => simp only [if_true]; exact this.toOps
    | false => simp only [Bool.false_eq_true, if_false]; exact this.mono (hkeep hfc)

theorem qstep {i : Nat} {o : Oper} {G : Value → Heap → Owned → Prop} (ho : ops[i]? = some o) (hg : o.guard = none) (hop : Op1 C o e h L G) (hd : dstOk o.dst C.n = true)
    (H : ∀ v h' L', G v h' L' → ∃ h2 L2, (∀ w, St h' L' w → St h2 L2 w) ∧ QS C ops fin (rem.erase i) Q (put o.dst v e) ds h2 L2 ∧ (fin.contains i = false → ∀ w, St h2 L2 w → St h L w)) : QStep C ops fin rem Q e ds h L i :=
  ⟨o, G, ho, fun _ _ => by simp [Region.wanted, hg], hop, hd, H⟩
theorem qstepg {i j t : Nat} {b : Bool} {o : Oper} {G : Value → Heap → Owned → Prop} (ho : ops[i]? = some o) (hg : o.guard = some (j, b)) (hj : guardTmp ops j = some t) (hl : look e t = some (.bool b)) (hop : Op1 C o e h L G) (hd : dstOk o.dst C.n = true)
    (H : ∀ v h' L', G v h' L' → ∃ h2 L2, (∀ w, St h' L' w → St h2 L2 w) ∧ QS C ops fin (rem.erase i) Q (put o.dst v e) ds h2 L2 ∧ (fin.contains i = false → ∀ w, St h2 L2 w → St h L w)) : QStep C ops fin rem Q e ds h L i :=
  ⟨o, G, ho, fun _ he => by simp [Region.wanted, hg, yielded_of hj he hl], hop, hd, H⟩

theorem qall1 {p : Nat → Prop} {i : Nat} (h : p i) : ∀ x ∈ [i], p x := by simpa using h
theorem qall2 {p : Nat → Prop} {i j : Nat} (h1 : p i) (h2 : p j) : ∀ x ∈ [i, j], p x := by
  intro x hx; simp at hx; rcases hx with rfl | rfl <;> assumption
theorem qall3 {p : Nat → Prop} {i j k : Nat} (h1 : p i) (h2 : p j) (h3 : p k) : ∀ x ∈ [i, j, k], p x := by
  intro x hx; simp at hx; rcases hx with rfl | rfl | rfl <;> assumption
theorem QS_perm {L' : Owned} (hp : L.Perm L') (H : QS C ops fin rem Q e ds h L') : QS C ops fin rem Q e ds h L := by
  intro hok hq hlt hclo σ hσ a w he hs
  exact (H hok hq hlt hclo σ hσ a w he (hs.perm hp)).mono fun w s => s.perm hp.symm

section
variable {i : Nat} {d : Option Tmp} {ty : TypeId} {pos : String} {af : Array Edge} {f : FuncId} {xs : List Operand} {ts : Array TypeId} {vs : List Value} {r : Value} {x y : Operand} {fi ca : List Value}

theorem st_le {h h' : Heap} {L : Owned} (hle : Heap.le h h') : ∀ w, St h' L w → St h L w := fun _ s => s.weak hle

theorem qs_callq (hi : ops[i]? = some ⟨d, .call ⟨.value (.func f), ⟨xs⟩, ts⟩, ty, pos, af, none⟩) (hv : evs e xs = some vs) (t : Fn0 C.P f vs h r) (hd : dstOk d C.n = true) (he' : rem.erase i = rem')
    (H : QS C ops fin rem' Q (put d r e) ds h L) : QStep C ops fin rem Q e ds h L i :=
  qstep hi rfl (op1_call (L1 := []) rfl hv (TrV.of0 t)) hd (by
    rintro v h' L' ⟨L2, rfl, hle, rfl, rfl⟩
    rw [he']
    exact ⟨h, L, st_le hle, H, fun _ _ s => s⟩)
theorem qs_callqg {j t : Nat} {b : Bool} (hi : ops[i]? = some ⟨d, .call ⟨.value (.func f), ⟨xs⟩, ts⟩, ty, pos, af, some (j, b)⟩) (hj : guardTmp ops j = some t) (hl : look e t = some (.bool b)) (hv : evs e xs = some vs) (tr : Fn0 C.P f vs h r) (hd : dstOk d C.n = true) (he' : rem.erase i = rem')
    (H : QS C ops fin rem' Q (put d r e) ds h L) : QStep C ops fin rem Q e ds h L i :=
  qstepg hi rfl hj hl (op1_call (L1 := []) rfl hv (TrV.of0 tr)) hd (by
    rintro v h' L' ⟨L2, rfl, hle, rfl, rfl⟩
    rw [he']
    exact ⟨h, L, st_le hle, H, fun _ _ s => s⟩)
theorem qs_callp {G : Value → Heap → Prop} (hi : ops[i]? = some ⟨d, .call ⟨.value (.func f), ⟨xs⟩, ts⟩, ty, pos, af, none⟩) (hv : evs e xs = some vs) (t : Fnp C.P f vs h G) (hd : dstOk d C.n = true) (he' : rem.erase i = rem')
    (H : ∀ v h', Heap.le h h' → G v h' → QS C ops fin rem' Q (put d v e) ds h' L) : QStep C ops fin rem Q e ds h L i :=
  qstep hi rfl (op1_call (L1 := []) rfl hv (TrV.of0 t)) hd (by
    rintro v h' L' ⟨L2, rfl, hle, hg, rfl⟩
    rw [he']
    exact ⟨h', L, fun _ s => s, H v h' hle hg, fun _ => st_le hle⟩)
theorem qs_vcallq {as : List Value} (hi : ops[i]? = some ⟨d, .call ⟨.value x, ⟨xs⟩, ts⟩, ty, pos, af, none⟩) (hx : ev e x = some (.func (.func f) ⟨fi⟩ ⟨ca⟩)) (hv : evs e xs = some vs) (ha : fi ++ vs ++ ca = as) (t : Fn0 C.P f as h r) (hd : dstOk d C.n = true) (he' : rem.erase i = rem')
    (H : QS C ops fin rem' Q (put d r e) ds h L) : QStep C ops fin rem Q e ds h L i :=
  qstep hi rfl (op1_call (L1 := []) hx hv (TrV.of t ha)) hd (by
    rintro v h' L' ⟨L2, rfl, hle, rfl, rfl⟩
    rw [he']
    exact ⟨h, L, st_le hle, H, fun _ _ s => s⟩)
theorem qs_vcallqg {as : List Value} {j t : Nat} {b : Bool} (hi : ops[i]? = some ⟨d, .call ⟨.value x, ⟨xs⟩, ts⟩, ty, pos, af, some (j, b)⟩) (hj : guardTmp ops j = some t) (hl : look e t = some (.bool b)) (hx : ev e x = some (.func (.func f) ⟨fi⟩ ⟨ca⟩)) (hv : evs e xs = some vs) (ha : fi ++ vs ++ ca = as) (tr : Fn0 C.P f as h r) (hd : dstOk d C.n = true) (he' : rem.erase i = rem')
    (H : QS C ops fin rem' Q (put d r e) ds h L) : QStep C ops fin rem Q e ds h L i :=
  qstepg hi rfl hj hl (op1_call (L1 := []) hx hv (TrV.of tr ha)) hd (by
    rintro v h' L' ⟨L2, rfl, hle, rfl, rfl⟩
    rw [he']
    exact ⟨h, L, st_le hle, H, fun _ _ s => s⟩)
theorem qs_new {op : Op} {ob : Obj} {g : Nat → Value} (hi : ops[i]? = some ⟨d, op, ty, pos, af, none⟩) (ho : Op1 C ⟨d, op, ty, pos, af, none⟩ e h L (fun v h' L' => ∃ b, v = g b ∧ h' = h ∧ L' = (b, ob) :: L)) (hd : dstOk d C.n = true) (he' : rem.erase i = rem')
    (H : ∀ b, QS C ops fin rem' Q (put d (g b) e) ds h ((b, ob) :: L)) : QStep C ops fin rem Q e ds h L i :=
  qstep hi rfl ho hd (by
    rintro v h' L' ⟨b, rfl, rfl, rfl⟩
    rw [he']
    exact ⟨_, _, fun _ s => s, H b, fun _ _ s => s.sub (List.sublist_cons_self _ _)⟩)
/-- a new block that stays as it is from now on -/
theorem qs_newp {op : Op} {ob : Obj} {g : Nat → Value} (hi : ops[i]? = some ⟨d, op, ty, pos, af, none⟩) (ho : Op1 C ⟨d, op, ty, pos, af, none⟩ e h L (fun v h' L' => ∃ b, v = g b ∧ h' = h ∧ L' = (b, ob) :: L)) (hd : dstOk d C.n = true) (he' : rem.erase i = rem')
    (H : ∀ b h', Heap.le h h' → h' b = some ob → QS C ops fin rem' Q (put d (g b) e) ds h' L) : QStep C ops fin rem Q e ds h L i := by
  refine ⟨⟨d, op, ty, pos, af, none⟩, (fun v h' L' => ∃ b, v = g b ∧ L' = L ∧ Heap.le h h' ∧ h' b = some ob), hi, fun _ _ => by simp [Region.wanted], ?_, hd, ?_⟩
  · intro ds a w next Q he hs K
    refine ho ds a w next Q he hs ?_
    rintro v h1 L1 w' ⟨b, rfl, rfl, rfl⟩ hs'
    obtain ⟨s1, s2, s3⟩ := hs'.freeze
    exact K _ _ _ _ ⟨b, rfl, rfl, s2, s3⟩ s1
  · rintro v h' L' ⟨b, rfl, rfl, hle, hb⟩
    rw [he']
    exact ⟨h', _, fun _ s => s, H b h' hle hb, fun _ => st_le hle⟩
theorem qs_store {A B : Owned} {t T : TypeId} {b off : Nat} {v : Value} {us cs cs' : List Value} (hi : ops[i]? = some ⟨d, .store t x y, ty, pos, af, none⟩) (hx : ev e x = some (.pointer (some ⟨b, off, none⟩))) (hy : ev e y = some v) (hc : v.cells = ⟨us⟩) (hz : Siz C.P t us.length) (hs : spl off us cs = some cs') (ho : us.all Value.oneCell' = true) (hd : dstOk d C.n = true) (hf : fin.contains i = true) (he' : rem.erase i = rem') (hL : L = A ++ (b, .cells ⟨cs⟩ T (0, 0)) :: B)
    {L2 : Owned} (hL2 : A ++ (b, .cells ⟨cs'⟩ T (0, 0)) :: B = L2)
    (H : QS C ops fin rem' Q (put d undef e) ds h L2) : QStep C ops fin rem Q e ds h L i := by
  subst hL hL2
  refine qstep hi rfl (op1_store hc hz hx hy hs ho) hd ?_
  rintro v' h' L' ⟨rfl, rfl, rfl⟩
  rw [he']
  exact ⟨_, _, fun _ s => s, H, fun hx => by rw [hf] at hx; cases hx⟩
end
end
end Go.Proofs.Ch
