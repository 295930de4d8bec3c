/- Texts of my own, of no program: G, M, N, I, Da, Ga, Di. -/
import Derived.Test.YtmeakefbepbapaaGreatDoorS1
import Derived.OrdersIn
/- Regions that draw their order: what only reads and computes is taken first, the rest in every order that the edges leave open. No program is named here. -/
namespace Go.Proofs.Ch
open Go

/-- the edges that bind -/
def aft (o : Oper) : List Nat := (o.after.toList.filter (fun e => Region.binds .any e)).map (·.on)
def aftAt (ops : Array Oper) (i : Nat) : List Nat := match ops[i]? with
  | some o => aft o
  | none => []
def rdy (ops : Array Oper) (rem : List Nat) (i : Nat) : Bool := (aftAt ops i).all fun j => !rem.contains j

inductive Topo (ops : Array Oper) : List Nat → List Nat → Prop
  | nil : Topo ops [] []
  | cons {rem σ : List Nat} {i : Nat} (hi : i ∈ rem) (hr : rdy ops rem i = true) (h : Topo ops (rem.erase i) σ) : Topo ops rem (i :: σ)

def left (n : Nat) (listed : Array Bool) : List Nat := (List.range n).filter fun j => !listed.getD j true

theorem left_nodup (n : Nat) (listed : Array Bool) : (left n listed).Nodup := List.nodup_range.filter _

theorem left_set {n : Nat} {listed : Array Bool} {i : Nat} (hi : i ∈ left n listed) : left n (listed.setIfInBounds i true) = (left n listed).erase i := by
  have hlt : i < listed.size := by
    simp only [left, List.mem_filter] at hi
    have h2 := hi.2
    by_cases h : i < listed.size
    · exact h
    · simp [Array.getD, h] at h2
  rw [List.Nodup.erase_eq_filter (left_nodup n listed)]
  simp only [left, List.filter_filter]
  apply List.filter_congr
  intro j _
  by_cases hj : j = i
  · subst hj; simp [Array.getD, hlt]
  · by_cases hjl : j < listed.size
    · simp [Array.getD, hjl, Array.getElem_setIfInBounds_ne, Ne.symm hj, hj]
    · simp [Array.getD, hjl]

/-- all binding edges lead back -/
def backB (ops : Array Oper) : Bool := (List.range ops.size).all fun i => (aftAt ops i).all fun j => Nat.blt j i

theorem topo_go {ops : Array Oper} (hb : backB ops = true) : ∀ (fuel t : Nat) (listed : Array Bool), listed.size = ops.size → (left ops.size listed).length = fuel →
    Topo ops (left ops.size listed) (Region.linearise.go .any ops fuel t listed []) := by
  intro fuel
  induction fuel with
  | zero =>
    intro t listed _ hl
    have : left ops.size listed = [] := List.length_eq_zero_iff.1 hl
    rw [this]
    exact .nil
  | succ fuel ih =>
    intro t listed hsz hl
    have hready : ∀ i, i ∈ Region.ready .any ops listed ↔ i ∈ left ops.size listed ∧ rdy ops (left ops.size listed) i = true := by
      intro i
      simp only [Region.ready, left, List.mem_filter, List.mem_range, Bool.and_eq_true]
      constructor
      · rintro ⟨h1, h2, h3⟩
        refine ⟨⟨h1, h2⟩, ?_⟩
        have hi : ops[i]? = some ops[i] := by simp [h1]
        rw [hi] at h3
        simp only [Option.map_some, Option.getD_some] at h3
        simp only [rdy, aftAt, hi, aft, List.all_map, List.all_filter]
        rw [List.all_eq_true]
        intro e he
        rw [← Array.all_toList, List.all_eq_true] at h3
        have := h3 e he
        simp only [Bool.or_eq_true, Bool.not_eq_true', Function.comp] at this ⊢
        rcases this with h | h
        · exact .inl h
        · right
          simp only [List.contains_eq_mem, List.mem_filter, List.mem_range, decide_eq_false_iff_not, not_and]
          intro hlt
          have : listed.getD e.on true = true := by
            have hlt' : e.on < listed.size := by rw [hsz]; exact hlt
            simp [Array.getD, hlt'] at h ⊢; exact h
          simp [this]
      · rintro ⟨⟨h1, h2⟩, h3⟩
        refine ⟨h1, h2, ?_⟩
        have hi : ops[i]? = some ops[i] := by simp [h1]
        rw [hi]
        simp only [Option.map_some, Option.getD_some]
        rw [← Array.all_toList, List.all_eq_true]
        intro e he
        simp only [rdy, aftAt, hi, aft, List.all_map, List.all_filter] at h3
        rw [List.all_eq_true] at h3
        have h4 := h3 e he
        simp only [Bool.or_eq_true, Bool.not_eq_true', Function.comp] at h4 ⊢
        rcases h4 with h | h
        · exact .inl h
        · by_cases hbind : Region.binds .any e = true
          · right
            simp only [List.contains_eq_mem, List.mem_filter, List.mem_range, decide_eq_false_iff_not, not_and] at h
            have hback := List.all_eq_true.1 hb i (List.mem_range.2 h1)
            have hlt : e.on < i := by
              have := List.all_eq_true.1 hback e.on (by simp only [aftAt, hi, aft]; exact List.mem_map.2 ⟨e, List.mem_filter.2 ⟨he, hbind⟩, rfl⟩)
              simpa [Nat.blt_eq] using this
            have h5 := h (by omega)
            have hlt' : e.on < listed.size := by rw [hsz]; omega
            simp [Array.getD, hlt'] at h5 ⊢; exact h5
          · left; simpa using hbind
    have hne : Region.ready .any ops listed ≠ [] := by
      have hx : ∃ x, x ∈ left ops.size listed := by
        cases hc : left ops.size listed with
        | nil => rw [hc] at hl; simp at hl
        | cons x xs => exact ⟨x, by simp⟩
      obtain ⟨m, hm, hmin⟩ := least hx
      intro hnil
      have : m ∈ Region.ready .any ops listed := (hready m).2 ⟨hm, by
        simp only [rdy]
        rw [List.all_eq_true]
        intro j hj
        simp only [Bool.not_eq_true', List.contains_eq_mem, decide_eq_false_iff_not]
        intro hjl
        have hmlt : m < ops.size := by simp only [left, List.mem_filter, List.mem_range] at hm; exact hm.1
        have := List.all_eq_true.1 (List.all_eq_true.1 hb m (List.mem_range.2 hmlt)) j hj
        have hlt : j < m := by simpa [Nat.blt_eq] using this
        have := hmin j hjl
        omega⟩
      rw [hnil] at this
      cases this
    simp only [Region.linearise.go]
    change Topo ops _ (match (Region.ready .any ops listed)[t % (Region.ready .any ops listed).length]? with
      | some i => Region.linearise.go .any ops fuel (t / (Region.ready .any ops listed).length) (listed.setIfInBounds i true) [i]
      | none => [].reverse)
    have hlt : t % (Region.ready .any ops listed).length < (Region.ready .any ops listed).length := Nat.mod_lt _ (List.length_pos_iff.2 hne)
    rw [List.getElem?_eq_getElem hlt]
    simp only
    rw [linearise_go_acc]
    simp only [List.reverse_singleton, List.singleton_append]
    have hmem := (hready _).1 (List.getElem_mem hlt)
    refine .cons hmem.1 hmem.2 ?_
    rw [← left_set hmem.1]
    refine ih _ _ (by simp [hsz]) ?_
    rw [left_set hmem.1, List.length_erase_of_mem hmem.1, hl]
    rfl

theorem left_all (n : Nat) : left n (Array.replicate n false) = List.range n := by
  simp only [left]
  refine List.filter_eq_self.2 ?_
  intro j hj
  have := List.mem_range.1 hj
  simp [Array.getD, this]

theorem topo_all {ops : Array Oper} (hb : backB ops = true) (t : Nat) : Topo ops (List.range ops.size) (Region.linearise .any ops t) := by
  have := topo_go hb ops.size t (Array.replicate ops.size false) (by simp) (by rw [left_all]; simp)
  rw [left_all] at this
  exact this

/-! ### What is asked on the way -/
section
variable {C : Cx} {ops : Array Oper} {Q : Exit → Act → World → Prop} {J : World → Prop} {fin : List Nat}

def wpJ (C : Cx) (ops : Array Oper) (J : World → Prop) (fin : List Nat) (Q : Exit → Act → World → Prop) : List Nat → Act → World → Prop
  | [], a, w => J w ∧ Q .normal a w
  | i :: σ, a, w => J w ∧ wpOpIn (fx C.r) 0 C.P ops Q i (fun a w => if fin.contains i then wpOpsIn (fx C.r) 0 C.P ops Q σ a w else wpJ C ops J fin Q σ a w) a w

theorem wpJ.j {σ : List Nat} {a : Act} {w : World} (h : wpJ C ops J fin Q σ a w) : J w := by cases σ <;> exact h.1

theorem wpJ.toOps : ∀ {σ : List Nat} {a : Act} {w : World}, wpJ C ops J fin Q σ a w → wpOpsIn (fx C.r) 0 C.P ops Q σ a w
  | [], _, _, h => h.2
  | i :: σ, a, w, h => by
    rw [wpOpsIn_cons]
    refine wpOpIn_mono ?_ h.2
    intro a w hk
    split at hk
    · exact hk
    · exact hk.toOps

theorem wpJ.mono {J' : World → Prop} (hj : ∀ w, J w → J' w) : ∀ {σ : List Nat} {a : Act} {w : World}, wpJ C ops J fin Q σ a w → wpJ C ops J' fin Q σ a w
  | [], _, _, h => ⟨hj _ h.1, h.2⟩
  | i :: σ, a, w, h => by
    refine ⟨hj _ h.1, wpOpIn_mono ?_ h.2⟩
    intro a w hk
    split at hk
    · rename_i hf; rw [if_pos hf]; exact hk
    · rename_i hf; rw [if_neg hf]; exact hk.mono hj

theorem wpOpIn_comm {F : Fence} {n : Nat} {P : Program} {k : Nat} {ok : Oper} {d : Option Tmp} {v : Value} {K : Act → World → Prop} {a : Act} {w : World} (hk : ops[k]? = some ok) (hsel : ∀ cs b, ok.op ≠ .select cs b)
    (hlook : ∀ t, d = some t → t ∉ ok.looksAt ops) (hdst : ∀ t, d = some t → ok.dst ≠ some t) (hQ : ∀ c a w, ¬ Q (.panic c) a w) (h : wpOpIn F n P ops Q k K (a.put d v) w) :
    wpOpIn F n P ops Q k (fun a' w' => K (a'.put d v) w') a w := by
  have hdef : ∀ ds, ({ (a.put d v) with defers := ds } : Act) = ({ a with defers := ds } : Act).put d v := by intro ds; cases d <;> rfl
  have hdf : (a.put d v).defers = a.defers := by cases d <;> rfl
  have hc : ∀ (a : Act) u, (a.put d v).put ok.dst u = (a.put ok.dst u).put d v := fun a u => Act.put_comm a v u hdst
  unfold wpOpIn at *
  simp only [hk] at h ⊢
  rw [wanted_put ok a d v hlook] at h
  split
  · rename_i hw
    rw [if_pos hw] at h
    unfold Oper.wpIn at *
    rw [about_put ok w a d v hlook] at h
    have hsem : ok.semAt F.round (a.put d v).eval = ok.semAt F.round a.eval := by
      unfold Oper.semAt
      split
      · rename_i l c _ hop
        have := resolve_congr (ρ := (a.put d v).eval) (ρ' := a.eval) c ok.type (fun x hx => Act.eval_put fun t ht hxt => hlook t ht (by
          subst hxt
          exact List.mem_append_left _ (List.mem_filterMap.2 ⟨.tmp t, by rw [hop]; simpa [Op.operands] using hx, rfl⟩)))
        rw [this]
      · exact execOp_put ok hsel a d v hlook
    rw [hsem] at h
    refine ⟨h.1, ?_⟩
    have h := h.2
    generalize (ok.semAt F.round a.eval).run P w = r at *
    cases r with
    | ok x w' =>
      cases x <;> simp only [Oper.uponIn, hc, hdef, hdf] at h ⊢ <;>
        first
          | exact h
          | exact ⟨h.1, CallsIn.mono h.2 (fun e w'' he => by cases e <;> first | exact he | exact (hQ _ _ _ he).elim)⟩
          | exact ⟨h.1, RowsIn.mono h.2 (fun _ _ he => he)⟩
          | exact ⟨h.1, RoundIn.mono h.2 (fun e w'' he => by cases e <;> first | exact he | exact (hQ _ _ _ he).elim)⟩
    | halt x w' => cases x <;> simp only [Oper.uponIn] at h ⊢ <;> first | exact (hQ _ _ _ h).elim | exact h.elim
  · rename_i hw
    rw [if_neg hw] at h
    rw [hc] at h
    exact ⟨by rw [about_put ok w a d v hlook] at h; exact h.1, h.2⟩

/-- the operation is settled: it hands back v, in whatever world of J -/
def Settled (C : Cx) (ops : Array Oper) (J : World → Prop) (o : Oper) (v : Value) (a : Act) : Prop :=
  (Region.wanted o (yielded ops a.tmps) = true ∧ ∀ w, J w → (execOp a.eval o).run C.P w = .ok (.value v) w) ∨ (Region.wanted o (yielded ops a.tmps) = false ∧ v = undef)

theorem Settled.put {o ok : Oper} {v u : Value} {a : Act} (hsel : ∀ cs b, o.op ≠ .select cs b) (hlook : ∀ t, ok.dst = some t → t ∉ o.looksAt ops) (h : Settled C ops J o v a) : Settled C ops J o v (a.put ok.dst u) := by
  unfold Settled at *
  rw [wanted_put o a ok.dst u hlook, execOp_put o hsel a ok.dst u hlook]
  exact h

theorem Settled.op {i : Nat} {o : Oper} {v : Value} {a : Act} {w : World} {K : Act → World → Prop} (hi : ops[i]? = some o) (hs : Settled C ops J o v a) (hj : J w) (hK : K (a.put o.dst v) w) : wpOpIn (fx C.r) 0 C.P ops Q i K a w := by
  unfold wpOpIn
  simp only [hi]
  rcases hs with ⟨hw, hv⟩ | ⟨hw, rfl⟩
  · rw [if_pos hw]
    have hr := hv w hj
    refine ⟨fun _ _ => trivial, ?_⟩
    rw [Oper.semAt_eq _ _ _ (not_defer hr), hr]
    exact hK
  · rw [if_neg (by simp [hw])]
    exact ⟨fun _ _ => trivial, hK⟩

theorem delay {i : Nat} {oi : Oper} {v : Value} (hi : ops[i]? = some oi) (hsi : ∀ cs b, oi.op ≠ .select cs b) (hfi : fin.contains i = false) (hQ : ∀ c a w, ¬ Q (.panic c) a w) (β : List Nat) :
    ∀ (α : List Nat) (a : Act) (w : World), (∀ k ∈ α, ∃ ok, ops[k]? = some ok ∧ (∀ cs b, ok.op ≠ .select cs b) ∧ fin.contains k = false ∧ (∀ t, oi.dst = some t → t ∉ ok.looksAt ops) ∧ (∀ t, oi.dst = some t → ok.dst ≠ some t) ∧ (∀ t, ok.dst = some t → t ∉ oi.looksAt ops)) →
      Settled C ops J oi v a → wpJ C ops J fin Q (α ++ β) (a.put oi.dst v) w → wpJ C ops J fin Q (α ++ i :: β) a w := by
  intro α
  induction α with
  | nil =>
    intro a w _ hs h
    refine ⟨h.j, hs.op hi h.j ?_⟩
    rw [hfi]
    simpa using h
  | cons k α ih =>
    intro a w hα hs h
    obtain ⟨ok, hk, hsk, hfk, hl1, hl2, hl3⟩ := hα k (by simp)
    refine ⟨h.1, ?_⟩
    have h2 := wpOpIn_comm hk hsk hl1 hl2 hQ h.2
    -- what the operation does to the frame is a 'put' of its own temporary: the settled one stays settled
    have key : ∀ K K' : Act → World → Prop, (∀ u w, K (a.put ok.dst u) w → K' (a.put ok.dst u) w) → (∀ ds u w, K (({ a with defers := ds } : Act).put ok.dst u) w → K' (({ a with defers := ds } : Act).put ok.dst u) w) → wpOpIn (fx C.r) 0 C.P ops Q k K a w → wpOpIn (fx C.r) 0 C.P ops Q k K' a w := by
      intro K K' hKK hKd hh
      unfold wpOpIn at *
      simp only [hk] at hh ⊢
      split
      · rename_i hw
        rw [if_pos hw] at hh
        refine ⟨hh.1, ?_⟩
        have hh := hh.2
        generalize (ok.semAt (fx C.r).round a.eval).run C.P w = r at *
        cases r with
        | ok x w' =>
          cases x <;> simp only [Oper.uponIn] at hh ⊢ <;>
            first
              | exact hKK _ _ hh
              | exact hKd _ _ _ hh
              | exact ⟨hh.1, CallsIn.mono hh.2 (fun e w'' he => by cases e <;> first | exact hKK _ _ he | exact he)⟩
              | exact ⟨hh.1, RowsIn.mono hh.2 (fun _ _ he => hKK _ _ he)⟩
              | exact ⟨hh.1, RoundIn.mono hh.2 (fun e w'' he => by cases e <;> first | exact hKK _ _ he | exact he)⟩
        | halt x w' => cases x <;> simp only [Oper.uponIn] at hh ⊢ <;> exact hh
      · rename_i hw
        rw [if_neg hw] at hh
        exact ⟨hh.1, hKK _ _ hh.2⟩
    have hsd : ∀ ds, Settled C ops J oi v ({ a with defers := ds } : Act) := fun ds => hs
    refine key _ _ ?_ ?_ h2
    · intro u w' hK
      rw [hfk] at hK ⊢
      simp only [Bool.false_eq_true, if_false] at hK ⊢
      exact ih _ w' (fun k' hk' => hα k' (by simp [hk'])) (hs.put hsi hl3) hK
    · intro ds u w' hK
      rw [hfk] at hK ⊢
      simp only [Bool.false_eq_true, if_false] at hK ⊢
      exact ih _ w' (fun k' hk' => hα k' (by simp [hk'])) ((hsd ds).put hsi hl3) hK
end

/-! ### The rules -/
/-- i stands ahead of the operation o: at once, or with one between -/
def pre2 (ops : Array Oper) (o : Oper) (i : Nat) : Bool := (aft o).contains i || (aft o).any fun m => (aftAt ops m).contains i
def finOk (ops : Array Oper) (fin : List Nat) (i j : Nat) (oi oj : Oper) : Bool :=
  (match oi.dst with
   | some t => (oj.dst != some t) && (!(oj.looksAt ops).contains t || pre2 ops oj i || pre2 ops oi j)
   | none => true) && (!fin.contains j || fin.contains i || pre2 ops oj i || pre2 ops oi j)
def noSel (o : Oper) : Bool := match o.op with
  | .select _ _ => false
  | _ => true
/-- what is asked of a region's text -/
def okR (ops : Array Oper) (fin : List Nat) : Bool :=
  backB ops && ops.toList.all noSel &&
  (List.range ops.size).all fun i => (List.range ops.size).all fun j => Nat.beq i j || (match ops[i]?, ops[j]? with
    | some oi, some oj => finOk ops fin i j oi oj
    | _, _ => true)

theorem noSel_spec {ops : Array Oper} {fin : List Nat} (h : okR ops fin = true) {i : Nat} {o : Oper} (hi : ops[i]? = some o) : ∀ cs b, o.op ≠ .select cs b := by
  intro cs b hc
  simp only [okR, Bool.and_eq_true] at h
  have := List.all_eq_true.1 h.1.2 o (by have := Array.mem_of_getElem? hi; simpa using this)
  simp [noSel, hc] at this

theorem finOk_spec {ops : Array Oper} {fin : List Nat} (h : okR ops fin = true) {i j : Nat} {oi oj : Oper} (hi : ops[i]? = some oi) (hj : ops[j]? = some oj) (hne : i ≠ j) : finOk ops fin i j oi oj = true := by
  simp only [okR, Bool.and_eq_true] at h
  have h1 := List.all_eq_true.1 h.2 i (List.mem_range.2 (Array.getElem?_eq_some_iff.1 hi).1)
  have h2 := List.all_eq_true.1 h1 j (List.mem_range.2 (Array.getElem?_eq_some_iff.1 hj).1)
  simp only [hi, hj, Bool.or_eq_true] at h2
  rcases h2 with h2 | h2
  · exact absurd (Nat.eq_of_beq_eq_true h2) hne
  · exact h2

def NoP (Q : Pst) : Prop := ∀ ch e ds h L, ¬ Q (.panic ch) e ds h L
theorem NoP.den {C : Cx} {R : Pst} (hr : NoP R) : ∀ k, NoP (den C R k)
  | [] => hr
  | .code _ :: k => NoP.den hr k
  | .blk _ :: k => NoP.den hr k
  | .again _ :: k => NoP.den hr k
theorem NoP.fn {P fn n h0 Lf Post} : NoP (fnPost P fn n h0 Lf Post) := fun _ _ _ _ _ h => h
theorem NoP.each {lp h0 Lx J Xc n ps assign body e0} : NoP (eachR lp h0 Lx J Xc n ps assign body e0) := fun _ _ _ _ _ ⟨_, _, _, _, _, h⟩ => h
theorem NoP.never : NoP (fun _ _ _ _ _ => False) := fun _ _ _ _ _ h => h

theorem rdy_mono {ops : Array Oper} {rem : List Nat} {i k : Nat} (h : rdy ops rem k = true) : rdy ops (rem.erase i) k = true := by
  simp only [rdy] at h ⊢
  rw [List.all_eq_true] at h ⊢
  intro j hj
  have := h j hj
  simp only [Bool.not_eq_true', List.contains_eq_mem, decide_eq_false_iff_not] at this ⊢
  exact fun hm => this (List.mem_of_mem_erase hm)

/-- what is done is done with all that stands ahead of it -/
def Clo (ops : Array Oper) (rem : List Nat) : Prop := ∀ k, k ∉ rem → ∀ j ∈ aftAt ops k, j ∉ rem
theorem rdy_out {ops : Array Oper} {rem : List Nat} {i j : Nat} (hr : rdy ops rem i = true) (hj : j ∈ aftAt ops i) : j ∉ rem := by
  have := List.all_eq_true.1 hr j hj
  simpa using this
theorem Clo.erase {ops : Array Oper} {rem : List Nat} {i : Nat} (hc : Clo ops rem) (hr : rdy ops rem i = true) : Clo ops (rem.erase i) := by
  intro k hk j hj hm
  have hm' := List.mem_of_mem_erase hm
  by_cases hki : k = i
  · subst hki; exact rdy_out hr hj hm'
  · exact hc k (fun h => hk ((List.mem_erase_of_ne hki).2 h)) j hj hm'

theorem topo_split {ops : Array Oper} {i : Nat} : ∀ {rem σ : List Nat}, Topo ops rem σ → Clo ops rem → i ∈ rem → rdy ops rem i = true → ∃ α β, σ = α ++ i :: β ∧ (∀ k ∈ α, k ∈ rem ∧ k ≠ i ∧ i ∉ aftAt ops k ∧ ∀ m ∈ aftAt ops k, i ∉ aftAt ops m) ∧ Topo ops (rem.erase i) (α ++ β) := by
  intro rem σ ht
  induction ht with
  | nil => intro _ h; cases h
  | cons hk hr h ih =>
    rename_i rem σ k
    intro hclo hi hri
    by_cases hki : k = i
    · subst hki
      exact ⟨[], σ, rfl, by simp, h⟩
    · obtain ⟨α, β, rfl, hα, ht'⟩ := ih (hclo.erase hr) ((List.mem_erase_of_ne (Ne.symm hki)).2 hi) (rdy_mono hri)
      refine ⟨k :: α, β, rfl, ?_, ?_⟩
      · intro x hx
        rcases List.mem_cons.1 hx with rfl | hx
        · refine ⟨hk, hki, fun hm => rdy_out hr hm hi, fun m hm hm2 => hclo m (rdy_out hr hm) i hm2 hi⟩
        · obtain ⟨h1, h2, h3, h4⟩ := hα x hx
          exact ⟨List.mem_of_mem_erase h1, h2, h3, h4⟩
      · refine .cons ((List.mem_erase_of_ne hki).2 hk) (rdy_mono hr) ?_
        rw [List.erase_comm]
        exact ht'

section
variable {C : Cx} {R : Pst} {k : List K} {e : Env} {ds : List Deferred} {h : Heap} {L : Owned} {ops : Array Oper} {Q : Pst} {fin rem rem' : List Nat}

/-- What is left of a region, in whatever order. -/
def QS (C : Cx) (ops : Array Oper) (fin rem : List Nat) (Q : Pst) (e : Env) (ds : List Deferred) (h : Heap) (L : Owned) : Prop :=
  okR ops fin = true → NoP Q → (∀ y ∈ rem, y < ops.size) → Clo ops rem → ∀ σ, Topo ops rem σ → ∀ a w, EnvOk C.n e ds a → St h L w → wpJ C ops (fun w => St h L w) fin (up C Q) σ a w

theorem up_nop (hq : NoP Q) : ∀ c a w, ¬ up C Q (.panic c) a w := by
  rintro c a w ⟨e, ds, h, L, _, _, hx⟩
  exact hq _ _ _ _ _ hx

theorem den_draw {id : Nat} (fin : List Nat) (hm : C.P.follows .mixedOrders = true) (hok : okR ops fin = true) (hr : NoP R) (hrem : List.range ops.size = rem) (H : QS C ops fin rem (den C R k) e ds h L) : den C R (.code (.region id ops true) :: k) .normal e ds h L := by
  intro a w he hs
  refine wpIn_region_draw fun t => ?_
  simp only [Region.schedule, hm, Bool.true_or, if_true]
  have hb : backB ops = true := by simp only [okR, Bool.and_eq_true] at hok; exact hok.1.1
  have ht := topo_all hb t
  rw [hrem] at ht
  have hclo : Clo ops rem := by
    intro k hk j hj
    rw [← hrem] at hk
    have : ops.size ≤ k := by simpa using hk
    simp [aftAt, Array.getElem?_eq_none this] at hj
  exact (H hok (hr.den k) (fun y hy => by rw [← hrem] at hy; exact List.mem_range.1 hy) hclo _ ht a _ he (hs.drew _)).toOps

theorem QS_nil (H : Q .normal e ds h L) : QS C ops fin [] Q e ds h L := by
  intro _ _ _ _ σ ht a w he hs
  cases ht with
  | nil => exact ⟨hs, _, _, _, _, he, hs, H⟩
  | cons hi _ _ => cases hi

theorem QS_settled {i : Nat} {o : Oper} {v : Value} (hi : ops[i]? = some o) (hrem : rem.contains i = true) (hr : rdy ops rem i = true) (hf : fin.contains i = false) (he' : rem.erase i = rem') (hd : dstOk o.dst C.n = true)
    (hv : ∀ a, EnvOk C.n e ds a → Settled C ops (fun w => St h L w) o v a) (H : QS C ops fin rem' Q (put o.dst v e) ds h L) : QS C ops fin rem Q e ds h L := by
  intro hok hq hlt hclo σ ht a w he hs
  obtain ⟨α, β, rfl, hα, ht'⟩ := topo_split ht hclo (by simpa using hrem) hr
  rw [he'] at ht'
  have := H hok hq (fun y hy => hlt y (by rw [← he'] at hy; exact List.mem_of_mem_erase hy)) (by rw [← he']; exact hclo.erase hr) _ ht' _ w (he.put hd v) hs
  refine delay hi (noSel_spec hok hi) hf (up_nop hq) β α a w ?_ (hv a he) this
  intro x hx
  obtain ⟨h1, h2, h3, h4⟩ := hα x hx
  have hxl := hlt x h1
  cases hxo : ops[x]? with
  | none => simp at hxo; omega
  | some ox =>
    have hA := finOk_spec hok hi hxo (Ne.symm h2)
    have hB := finOk_spec hok hxo hi h2
    have hnx : pre2 ops ox i = false := by
      have e1 : aftAt ops x = aft ox := by simp [aftAt, hxo]
      rw [e1] at h3 h4
      simp only [pre2, Bool.or_eq_false_iff, List.any_eq_false]
      exact ⟨by simpa using h3, fun m hm => by simpa using h4 m hm⟩
    have hni : pre2 ops o x = false := by
      have e1 : aftAt ops i = aft o := by simp [aftAt, hi]
      simp only [pre2, Bool.or_eq_false_iff, List.any_eq_false]
      refine ⟨?_, fun m hm => ?_⟩
      · have : x ∉ aft o := fun hc => rdy_out hr (by rw [e1]; exact hc) h1
        simpa using this
      · have : x ∉ aftAt ops m := fun hc => hclo m (rdy_out hr (by rw [e1]; exact hm)) x hc h1
        simpa using this
    simp only [finOk, hnx, hni, hf, Bool.or_false, Bool.and_eq_true] at hA hB
    refine ⟨ox, rfl, noSel_spec hok hxo, by simpa using hA.2, ?_, ?_, ?_⟩
    · intro t ht
      rw [ht] at hA
      simp only [Bool.and_eq_true] at hA
      simpa using hA.1.2
    · intro t ht
      rw [ht] at hA
      simp only [Bool.and_eq_true] at hA
      simpa using hA.1.1
    · intro t ht
      rw [ht] at hB
      simp only [Bool.and_eq_true] at hB
      simpa using hB.1.2

theorem settled_v {o : Oper} {v : Value} (hv : OpV C.P o.op e h L v) (hg : o.guard = none) {a : Act} (he : EnvOk C.n e ds a) : Settled C ops (fun w => St h L w) o v a :=
  .inl ⟨by simp [Region.wanted, hg], fun w hs => hv a.eval w o (fun x u hx => he.eval hx) hs rfl⟩

/-- an operation that reads or computes -/
theorem QS_v {i : Nat} {d : Option Tmp} {op : Op} {ty : TypeId} {pos : String} {af : Array Edge} {v : Value} (hi : ops[i]? = some ⟨d, op, ty, pos, af, none⟩) (hv : OpV C.P op e h L v) (hrem : rem.contains i = true) (hr : rdy ops rem i = true) (hf : fin.contains i = false) (he' : rem.erase i = rem') (hd : dstOk d C.n = true)
    (H : QS C ops fin rem' Q (put d v e) ds h L) : QS C ops fin rem Q e ds h L :=
  QS_settled hi hrem hr hf he' hd (fun _ he => settled_v hv rfl he) H
theorem QS_vg {i j t : Nat} {b : Bool} {d : Option Tmp} {op : Op} {ty : TypeId} {pos : String} {af : Array Edge} {v : Value} (hi : ops[i]? = some ⟨d, op, ty, pos, af, some (j, b)⟩) (hj : guardTmp ops j = some t) (hl : look e t = some (.bool b)) (hv : OpV C.P op e h L v) (hrem : rem.contains i = true) (hr : rdy ops rem i = true) (hf : fin.contains i = false) (he' : rem.erase i = rem') (hd : dstOk d C.n = true)
    (H : QS C ops fin rem' Q (put d v e) ds h L) : QS C ops fin rem Q e ds h L :=
  QS_settled hi hrem hr hf he' hd (fun _ he => .inl ⟨by simp [Region.wanted, yielded_of hj he hl], fun w hs => hv _ w _ (fun x u hx => he.eval hx) hs rfl⟩) H
theorem QS_skip {i j t : Nat} {b : Bool} {d : Option Tmp} {op : Op} {ty : TypeId} {pos : String} {af : Array Edge} (hi : ops[i]? = some ⟨d, op, ty, pos, af, some (j, !b)⟩) (hj : guardTmp ops j = some t) (hl : look e t = some (.bool b)) (hrem : rem.contains i = true) (hr : rdy ops rem i = true) (hf : fin.contains i = false) (he' : rem.erase i = rem') (hd : dstOk d C.n = true)
    (H : QS C ops fin rem' Q (put d undef e) ds h L) : QS C ops fin rem Q e ds h L :=
  QS_settled hi hrem hr hf he' hd (fun _ he => .inr ⟨by simp [Region.wanted, yielded_of hj he hl], rfl⟩) H

theorem QS_split {t : Nat} {b : Bool} (hl : look e t = some (.bool b)) (ht : b = true → QS C ops fin rem Q ((t, .bool true) :: e) ds h L) (hf : b = false → QS C ops fin rem Q ((t, .bool false) :: e) ds h L) : QS C ops fin rem Q e ds h L := by
  intro hok hq hlt hclo σ hσ a w he hs
  have key : ∀ b', b = b' → EnvOk C.n ((t, .bool b') :: e) ds a := by
    rintro b' rfl
    refine ⟨he.size, ?_, he.df⟩
    intro t' v' hx
    simp only [look] at hx
    cases hb : Nat.beq t t' with
    | true => have := Nat.eq_of_beq_eq_true hb; subst this; simp [hb] at hx; subst hx; exact he.ok _ _ hl
    | false => simp [hb] at hx; exact he.ok _ _ hx
  cases b with
  | true => exact ht rfl hok hq hlt hclo σ hσ a w (key _ rfl) hs
  | false => exact hf rfl hok hq hlt hclo σ hσ a w (key _ rfl) hs

/-- The next operation in the schedule is i. -/
def QStep (C : Cx) (ops : Array Oper) (fin rem : List Nat) (Q : Pst) (e : Env) (ds : List Deferred) (h : Heap) (L : Owned) (i : Nat) : Prop :=
  ∃ o G, ops[i]? = some o ∧ (∀ a, EnvOk C.n e ds a → Region.wanted o (yielded ops a.tmps) = true) ∧ Op1 C o e h L G ∧ dstOk o.dst C.n = true ∧
    ∀ v h' L', G v h' L' → ∃ h2 L2, (∀ w, St h' L' w → St h2 L2 w) ∧ QS C ops fin (rem.erase i) Q (put o.dst v e) ds h2 L2 ∧ (fin.contains i = false → ∀ w, St h2 L2 w → St h L w)

def rdyL (ops : Array Oper) (rem : List Nat) : List Nat := rem.filter (rdy ops rem)

/-- nothing that reads or computes is ready: whichever stands next -/
theorem QS_step {is : List Nat} (hne : (rem.isEmpty) = false) (hl : rdyL ops rem = is) (H : ∀ i ∈ is, QStep C ops fin rem Q e ds h L i) : QS C ops fin rem Q e ds h L := by
  intro hok hq hlt hclo σ ht a w he hs
  cases ht with
  | nil => simp at hne
  | cons hi hr ht' =>
    rename_i σ i
    have him : i ∈ is := by rw [← hl]; exact List.mem_filter.2 ⟨hi, hr⟩
    obtain ⟨o, G, ho, hw, hop, hd, hnext⟩ := H i him
    refine ⟨hs, ?_⟩
    unfold wpOpIn
    simp only [ho]
    rw [if_pos (hw a he)]
    refine hop ds a w _ _ he hs fun v h' L' w' hG hs' => ?_
    obtain ⟨h2, L2, h12, hqs, hkeep⟩ := hnext v h' L' hG
    have := hqs hok hq (fun y hy => hlt y (List.mem_of_mem_erase hy)) (hclo.erase hr) σ ht' _ w' (he.put hd v) (h12 _ hs')
    cases hfc : fin.contains i with
    | true => simp only [if_true]; exact this.toOps
    | false => simp only [Bool.false_eq_true, if_false]; exact this.mono (hkeep hfc)

theorem qstep {i : Nat} {o : Oper} {G : Value → Heap → Owned → Prop} (ho : ops[i]? = some o) (hg : o.guard = none) (hop : Op1 C o e h L G) (hd : dstOk o.dst C.n = true)
    (H : ∀ v h' L', G v h' L' → ∃ h2 L2, (∀ w, St h' L' w → St h2 L2 w) ∧ QS C ops fin (rem.erase i) Q (put o.dst v e) ds h2 L2 ∧ (fin.contains i = false → ∀ w, St h2 L2 w → St h L w)) : QStep C ops fin rem Q e ds h L i :=
  ⟨o, G, ho, fun _ _ => by simp [Region.wanted, hg], hop, hd, H⟩
theorem qstepg {i j t : Nat} {b : Bool} {o : Oper} {G : Value → Heap → Owned → Prop} (ho : ops[i]? = some o) (hg : o.guard = some (j, b)) (hj : guardTmp ops j = some t) (hl : look e t = some (.bool b)) (hop : Op1 C o e h L G) (hd : dstOk o.dst C.n = true)
    (H : ∀ v h' L', G v h' L' → ∃ h2 L2, (∀ w, St h' L' w → St h2 L2 w) ∧ QS C ops fin (rem.erase i) Q (put o.dst v e) ds h2 L2 ∧ (fin.contains i = false → ∀ w, St h2 L2 w → St h L w)) : QStep C ops fin rem Q e ds h L i :=
  ⟨o, G, ho, fun _ he => by simp [Region.wanted, hg, yielded_of hj he hl], hop, hd, H⟩

theorem qall1 {p : Nat → Prop} {i : Nat} (h : p i) : ∀ x ∈ [i], p x := by simpa using h
theorem qall2 {p : Nat → Prop} {i j : Nat} (h1 : p i) (h2 : p j) : ∀ x ∈ [i, j], p x := by
  intro x hx; simp at hx; rcases hx with rfl | rfl <;> assumption
theorem qall3 {p : Nat → Prop} {i j k : Nat} (h1 : p i) (h2 : p j) (h3 : p k) : ∀ x ∈ [i, j, k], p x := by
  intro x hx; simp at hx; rcases hx with rfl | rfl | rfl <;> assumption
theorem QS_perm {L' : Owned} (hp : L.Perm L') (H : QS C ops fin rem Q e ds h L') : QS C ops fin rem Q e ds h L := by
  intro hok hq hlt hclo σ hσ a w he hs
  exact (H hok hq hlt hclo σ hσ a w he (hs.perm hp)).mono fun w s => s.perm hp.symm

section
variable {i : Nat} {d : Option Tmp} {ty : TypeId} {pos : String} {af : Array Edge} {f : FuncId} {xs : List Operand} {ts : Array TypeId} {vs : List Value} {r : Value} {x y : Operand} {fi ca : List Value}

theorem st_le {h h' : Heap} {L : Owned} (hle : Heap.le h h') : ∀ w, St h' L w → St h L w := fun _ s => s.weak hle

theorem qs_callq (hi : ops[i]? = some ⟨d, .call ⟨.value (.func f), ⟨xs⟩, ts⟩, ty, pos, af, none⟩) (hv : evs e xs = some vs) (t : Fn0 C.P f vs h r) (hd : dstOk d C.n = true) (he' : rem.erase i = rem')
    (H : QS C ops fin rem' Q (put d r e) ds h L) : QStep C ops fin rem Q e ds h L i :=
  qstep hi rfl (op1_call (L1 := []) rfl hv (TrV.of0 t)) hd (by
    rintro v h' L' ⟨L2, rfl, hle, rfl, rfl⟩
    rw [he']
    exact ⟨h, L, st_le hle, H, fun _ _ s => s⟩)
theorem qs_callqg {j t : Nat} {b : Bool} (hi : ops[i]? = some ⟨d, .call ⟨.value (.func f), ⟨xs⟩, ts⟩, ty, pos, af, some (j, b)⟩) (hj : guardTmp ops j = some t) (hl : look e t = some (.bool b)) (hv : evs e xs = some vs) (tr : Fn0 C.P f vs h r) (hd : dstOk d C.n = true) (he' : rem.erase i = rem')
    (H : QS C ops fin rem' Q (put d r e) ds h L) : QStep C ops fin rem Q e ds h L i :=
  qstepg hi rfl hj hl (op1_call (L1 := []) rfl hv (TrV.of0 tr)) hd (by
    rintro v h' L' ⟨L2, rfl, hle, rfl, rfl⟩
    rw [he']
    exact ⟨h, L, st_le hle, H, fun _ _ s => s⟩)
theorem qs_callp {G : Value → Heap → Prop} (hi : ops[i]? = some ⟨d, .call ⟨.value (.func f), ⟨xs⟩, ts⟩, ty, pos, af, none⟩) (hv : evs e xs = some vs) (t : Fnp C.P f vs h G) (hd : dstOk d C.n = true) (he' : rem.erase i = rem')
    (H : ∀ v h', Heap.le h h' → G v h' → QS C ops fin rem' Q (put d v e) ds h' L) : QStep C ops fin rem Q e ds h L i :=
  qstep hi rfl (op1_call (L1 := []) rfl hv (TrV.of0 t)) hd (by
    rintro v h' L' ⟨L2, rfl, hle, hg, rfl⟩
    rw [he']
    exact ⟨h', L, fun _ s => s, H v h' hle hg, fun _ => st_le hle⟩)
theorem qs_vcallq {as : List Value} (hi : ops[i]? = some ⟨d, .call ⟨.value x, ⟨xs⟩, ts⟩, ty, pos, af, none⟩) (hx : ev e x = some (.func (.func f) ⟨fi⟩ ⟨ca⟩)) (hv : evs e xs = some vs) (ha : fi ++ vs ++ ca = as) (t : Fn0 C.P f as h r) (hd : dstOk d C.n = true) (he' : rem.erase i = rem')
    (H : QS C ops fin rem' Q (put d r e) ds h L) : QStep C ops fin rem Q e ds h L i :=
  qstep hi rfl (op1_call (L1 := []) hx hv (TrV.of t ha)) hd (by
    rintro v h' L' ⟨L2, rfl, hle, rfl, rfl⟩
    rw [he']
    exact ⟨h, L, st_le hle, H, fun _ _ s => s⟩)
theorem qs_vcallqg {as : List Value} {j t : Nat} {b : Bool} (hi : ops[i]? = some ⟨d, .call ⟨.value x, ⟨xs⟩, ts⟩, ty, pos, af, some (j, b)⟩) (hj : guardTmp ops j = some t) (hl : look e t = some (.bool b)) (hx : ev e x = some (.func (.func f) ⟨fi⟩ ⟨ca⟩)) (hv : evs e xs = some vs) (ha : fi ++ vs ++ ca = as) (tr : Fn0 C.P f as h r) (hd : dstOk d C.n = true) (he' : rem.erase i = rem')
    (H : QS C ops fin rem' Q (put d r e) ds h L) : QStep C ops fin rem Q e ds h L i :=
  qstepg hi rfl hj hl (op1_call (L1 := []) hx hv (TrV.of tr ha)) hd (by
    rintro v h' L' ⟨L2, rfl, hle, rfl, rfl⟩
    rw [he']
    exact ⟨h, L, st_le hle, H, fun _ _ s => s⟩)
theorem qs_new {op : Op} {ob : Obj} {g : Nat → Value} (hi : ops[i]? = some ⟨d, op, ty, pos, af, none⟩) (ho : Op1 C ⟨d, op, ty, pos, af, none⟩ e h L (fun v h' L' => ∃ b, v = g b ∧ h' = h ∧ L' = (b, ob) :: L)) (hd : dstOk d C.n = true) (he' : rem.erase i = rem')
    (H : ∀ b, QS C ops fin rem' Q (put d (g b) e) ds h ((b, ob) :: L)) : QStep C ops fin rem Q e ds h L i :=
  qstep hi rfl ho hd (by
    rintro v h' L' ⟨b, rfl, rfl, rfl⟩
    rw [he']
    exact ⟨_, _, fun _ s => s, H b, fun _ _ s => s.sub (List.sublist_cons_self _ _)⟩)
/-- a new block that stays as it is from now on -/
theorem qs_newp {op : Op} {ob : Obj} {g : Nat → Value} (hi : ops[i]? = some ⟨d, op, ty, pos, af, none⟩) (ho : Op1 C ⟨d, op, ty, pos, af, none⟩ e h L (fun v h' L' => ∃ b, v = g b ∧ h' = h ∧ L' = (b, ob) :: L)) (hd : dstOk d C.n = true) (he' : rem.erase i = rem')
    (H : ∀ b h', Heap.le h h' → h' b = some ob → QS C ops fin rem' Q (put d (g b) e) ds h' L) : QStep C ops fin rem Q e ds h L i := by
  refine ⟨⟨d, op, ty, pos, af, none⟩, (fun v h' L' => ∃ b, v = g b ∧ L' = L ∧ Heap.le h h' ∧ h' b = some ob), hi, fun _ _ => by simp [Region.wanted], ?_, hd, ?_⟩
  · intro ds a w next Q he hs K
    refine ho ds a w next Q he hs ?_
    rintro v h1 L1 w' ⟨b, rfl, rfl, rfl⟩ hs'
    obtain ⟨s1, s2, s3⟩ := hs'.freeze
    exact K _ _ _ _ ⟨b, rfl, rfl, s2, s3⟩ s1
  · rintro v h' L' ⟨b, rfl, rfl, hle, hb⟩
    rw [he']
    exact ⟨h', _, fun _ s => s, H b h' hle hb, fun _ => st_le hle⟩
theorem qs_store {A B : Owned} {t T : TypeId} {b off : Nat} {v : Value} {us cs cs' : List Value} (hi : ops[i]? = some ⟨d, .store t x y, ty, pos, af, none⟩) (hx : ev e x = some (.pointer (some ⟨b, off, none⟩))) (hy : ev e y = some v) (hc : v.cells = ⟨us⟩) (hz : Siz C.P t us.length) (hs : spl off us cs = some cs') (ho : us.all Value.oneCell' = true) (hd : dstOk d C.n = true) (hf : fin.contains i = true) (he' : rem.erase i = rem') (hL : L = A ++ (b, .cells ⟨cs⟩ T (0, 0)) :: B)
    {L2 : Owned} (hL2 : A ++ (b, .cells ⟨cs'⟩ T (0, 0)) :: B = L2)
    (H : QS C ops fin rem' Q (put d undef e) ds h L2) : QStep C ops fin rem Q e ds h L i := by
  subst hL hL2
  refine qstep hi rfl (op1_store hc hz hx hy hs ho) hd ?_
  rintro v' h' L' ⟨rfl, rfl, rfl⟩
  rw [he']
  exact ⟨_, _, fun _ s => s, H, fun hx => by rw [hf] at hx; cases hx⟩
end
end
end Go.Proofs.Ch

/- Plain arithmetic of the group and of the field, and the numbers of the machine: no Go here but the names of the kinds. -/
namespace Go.Proofs.Ch
open Go

def MP : Nat := 4611686018427377339
def MQ : Nat := 2305843009213688669
theorem MP_eq : MP = 4611686018427377339 := rfl
theorem MQ_eq : MQ = 2305843009213688669 := rfl

/-- a power, most significant bit first: what the program reckons -/
def powm (m a : Nat) : Nat → Nat := fun k => a ^ k % m

theorem mul_lt {a b m : Nat} (ha : a < m) (hb : b < m) (hm : m ≤ 9223372036854775808) : a * b / 18446744073709551616 < m := by
  have h1 : a * b < m * m := Nat.mul_lt_mul'' ha hb
  have h2 : a * b / 18446744073709551616 ≤ a * b / (2 * m) := Nat.div_le_div_left (by omega) (by omega)
  have h3 : a * b / (2 * m) ≤ m * m / (2 * m) := Nat.div_le_div_right (Nat.le_of_lt h1)
  have h4 : m * m / (2 * m) = m / 2 := by
    rw [Nat.mul_comm 2 m, ← Nat.div_div_eq_div_mul, Nat.mul_div_cancel_left _ (by omega)]
  omega

/-! unsigned kinds -/
theorem bv_nat (k : IntKind) (a : Nat) (ha : a < 2 ^ k.bits) : (BitVec.ofInt k.bits (a : Int)).toNat = a := by
  rw [BitVec.toNat_ofInt]
  have : ((a : Int) % ((2 ^ k.bits : Nat) : Int)) = ((a % 2 ^ k.bits : Nat) : Int) := by simp
  rw [this, Int.toNat_natCast, Nat.mod_eq_of_lt ha]
theorem bits_and (k : IntKind) {a b : Nat} (ha : a < 2 ^ k.bits) (hb : b < 2 ^ k.bits) : (BitVec.ofInt k.bits (a : Int) &&& BitVec.ofInt k.bits (b : Int)).toNat = a &&& b := by
  rw [BitVec.toNat_and, bv_nat k a ha, bv_nat k b hb]
theorem bits_or (k : IntKind) {a b : Nat} (ha : a < 2 ^ k.bits) (hb : b < 2 ^ k.bits) : (BitVec.ofInt k.bits (a : Int) ||| BitVec.ofInt k.bits (b : Int)).toNat = a ||| b := by
  rw [BitVec.toNat_or, bv_nat k a ha, bv_nat k b hb]
theorem bits_xor (k : IntKind) {a b : Nat} (ha : a < 2 ^ k.bits) (hb : b < 2 ^ k.bits) : (BitVec.ofInt k.bits (a : Int) ^^^ BitVec.ofInt k.bits (b : Int)).toNat = a ^^^ b := by
  rw [BitVec.toNat_xor, bv_nat k a ha, bv_nat k b hb]
theorem wrap_unsigned (k : IntKind) (hk : k.signed = false) (n : Nat) (h : n < 2 ^ k.bits) : k.wrap (n : Int) = (n : Int) := by
  simp only [IntKind.wrap, hk, Bool.false_and, Bool.false_eq_true, if_false]
  have : ((n : Int) % (2 ^ k.bits : Int)) = ((n % 2 ^ k.bits : Nat) : Int) := by simp
  rw [this, Nat.mod_eq_of_lt h]
theorem wrap_unsigned_mod (k : IntKind) (hk : k.signed = false) (n : Nat) : k.wrap (n : Int) = ((n % 2 ^ k.bits : Nat) : Int) := by
  simp only [IntKind.wrap, hk, Bool.false_and, Bool.false_eq_true, if_false]
  simp
theorem and_u64 {a b : Nat} (ha : a < 18446744073709551616) (hb : b < 18446744073709551616) : IntKind.u64.wrap (BitVec.ofInt IntKind.u64.bits (a : Int) &&& BitVec.ofInt IntKind.u64.bits (b : Int)).toNat = ((a &&& b : Nat) : Int) := by
  rw [bits_and .u64 ha hb]
  exact wrap_unsigned .u64 rfl _ (Nat.lt_of_le_of_lt Nat.and_le_left ha)
theorem or_u64 {a b : Nat} (ha : a < 18446744073709551616) (hb : b < 18446744073709551616) : IntKind.u64.wrap (BitVec.ofInt IntKind.u64.bits (a : Int) ||| BitVec.ofInt IntKind.u64.bits (b : Int)).toNat = ((a ||| b : Nat) : Int) := by
  rw [bits_or .u64 ha hb]
  exact wrap_unsigned .u64 rfl _ (Nat.or_lt_two_pow (n := 64) ha hb)
theorem low_u64 {a : Nat} (ha : a < 18446744073709551616) (n : Nat) (hn : n < 64) : IntKind.u64.wrap (BitVec.ofInt IntKind.u64.bits (a : Int) &&& BitVec.ofInt IntKind.u64.bits ((2 ^ n - 1 : Nat) : Int)).toNat = ((a % 2 ^ n : Nat) : Int) := by
  have h2 : 2 ^ n ≤ 2 ^ 63 := Nat.pow_le_pow_right (by omega) (by omega)
  rw [and_u64 ha (by omega), Nat.and_two_pow_sub_one_eq_mod]
theorem low_u64' {a : Nat} (ha : a < 18446744073709551616) {m : Int} (n : Nat) (hn : n < 64) (hm : m = ((2 ^ n - 1 : Nat) : Int)) : IntKind.u64.wrap (BitVec.ofInt IntKind.u64.bits (a : Int) &&& BitVec.ofInt IntKind.u64.bits m).toNat = ((a % 2 ^ n : Nat) : Int) := by
  subst hm; exact low_u64 ha n hn

theorem fdiv_pow (a n : Nat) : (a : Int).fdiv (2 ^ n) = ((a / 2 ^ n : Nat) : Int) := by
  rw [Int.fdiv_eq_ediv_of_nonneg _ (by exact Int.le_of_lt (Int.pow_pos (by omega)))]
  simp
end Go.Proofs.Ch

/- Operations on unsigned integers, told on natural numbers; on 32-bit words. No program is named here. -/
namespace Go.Proofs.Ch
open Go
section
variable {P : Program} {e : Env} {h : Heap} {L : Owned} {xt yt : TypeId} {x y : Operand} {k : IntKind} {m n : Nat}

theorem bits_val : IntKind.u64.bits = 64 ∧ IntKind.u32.bits = 32 ∧ IntKind.u8.bits = 8 := ⟨rfl, rfl, rfl⟩

theorem v_addn (hx : ev e x = some (.int k (m : Int))) (hy : ev e y = some (.int k (n : Int))) (hk : k.signed = false) (hb : m + n < 2 ^ k.bits) : OpV P (.binOp .add xt x y yt) e h L (.int k ((m + n : Nat) : Int)) :=
  v_add hx hy (by rw [← Int.natCast_add]; exact wrap_unsigned k hk _ hb)
theorem v_addw (hx : ev e x = some (.int k (m : Int))) (hy : ev e y = some (.int k (n : Int))) (hk : k.signed = false) : OpV P (.binOp .add xt x y yt) e h L (.int k (((m + n) % 2 ^ k.bits : Nat) : Int)) :=
  v_add hx hy (by rw [← Int.natCast_add]; exact wrap_unsigned_mod k hk _)
theorem v_subn (hx : ev e x = some (.int k (m : Int))) (hy : ev e y = some (.int k (n : Int))) (hk : k.signed = false) (hle : n ≤ m) (hb : m < 2 ^ k.bits) : OpV P (.binOp .sub xt x y yt) e h L (.int k ((m - n : Nat) : Int)) :=
  v_sub hx hy (by rw [← Int.ofNat_sub hle]; exact wrap_unsigned k hk _ (by omega))
theorem v_subw (hx : ev e x = some (.int k (m : Int))) (hy : ev e y = some (.int k (n : Int))) (hk : k.signed = false) (hn : n < 2 ^ k.bits) : OpV P (.binOp .sub xt x y yt) e h L (.int k (((m + (2 ^ k.bits - n)) % 2 ^ k.bits : Nat) : Int)) :=
  v_sub hx hy (by
    rw [← wrap_unsigned_mod k hk]
    simp only [IntKind.wrap, hk, Bool.false_and, Bool.false_eq_true, if_false]
    have : ((m + (2 ^ k.bits - n) : Nat) : Int) = (m : Int) - n + (2 ^ k.bits : Int) := by
      rw [Int.natCast_add, Int.ofNat_sub (Nat.le_of_lt hn)]; simp; omega
    rw [this]; simp)
theorem v_muln (hx : ev e x = some (.int k (m : Int))) (hy : ev e y = some (.int k (n : Int))) (hk : k.signed = false) (hb : m * n < 2 ^ k.bits) : OpV P (.binOp .mul xt x y yt) e h L (.int k ((m * n : Nat) : Int)) :=
  v_mul hx hy (by rw [← Int.natCast_mul]; exact wrap_unsigned k hk _ hb)
theorem v_mulw (hx : ev e x = some (.int k (m : Int))) (hy : ev e y = some (.int k (n : Int))) (hk : k.signed = false) : OpV P (.binOp .mul xt x y yt) e h L (.int k (((m * n) % 2 ^ k.bits : Nat) : Int)) :=
  v_mul hx hy (by rw [← Int.natCast_mul]; exact wrap_unsigned_mod k hk _)
theorem v_quon (hx : ev e x = some (.int k (m : Int))) (hy : ev e y = some (.int k (n : Int))) (hk : k.signed = false) (h0 : n ≠ 0) (hb : m < 2 ^ k.bits) : OpV P (.binOp .quo xt x y yt) e h L (.int k ((m / n : Nat) : Int)) :=
  v_quo hx hy (by simpa using h0) (by
    rw [show ((m : Int).tdiv (n : Int)) = ((m / n : Nat) : Int) from by simp]
    exact wrap_unsigned k hk _ (Nat.lt_of_le_of_lt (Nat.div_le_self _ _) hb))
theorem v_remn (hx : ev e x = some (.int k (m : Int))) (hy : ev e y = some (.int k (n : Int))) (h0 : n ≠ 0) : OpV P (.binOp .rem xt x y yt) e h L (.int k ((m % n : Nat) : Int)) :=
  v_rem hx hy (by simpa using h0) (by rw [Int.tmod_eq_emod_of_nonneg (by omega)]; simp)
theorem v_andn (hx : ev e x = some (.int k (m : Int))) (hy : ev e y = some (.int k (n : Int))) (hk : k.signed = false) (hm : m < 2 ^ k.bits) (hn : n < 2 ^ k.bits) : OpV P (.binOp .and xt x y yt) e h L (.int k ((m &&& n : Nat) : Int)) :=
  v_and hx hy (by rw [bits_and k hm hn]; exact wrap_unsigned k hk _ (Nat.lt_of_le_of_lt Nat.and_le_left hm))
theorem v_orn (hx : ev e x = some (.int k (m : Int))) (hy : ev e y = some (.int k (n : Int))) (hk : k.signed = false) (hm : m < 2 ^ k.bits) (hn : n < 2 ^ k.bits) : OpV P (.binOp .or xt x y yt) e h L (.int k ((m ||| n : Nat) : Int)) :=
  v_or hx hy (by rw [bits_or k hm hn]; exact wrap_unsigned k hk _ (Nat.or_lt_two_pow hm hn))
theorem v_xorn (hx : ev e x = some (.int k (m : Int))) (hy : ev e y = some (.int k (n : Int))) (hk : k.signed = false) (hm : m < 2 ^ k.bits) (hn : n < 2 ^ k.bits) : OpV P (.binOp .xor xt x y yt) e h L (.int k ((m ^^^ n : Nat) : Int)) :=
  v_xor hx hy (by rw [bits_xor k hm hn]; exact wrap_unsigned k hk _ (Nat.xor_lt_two_pow hm hn))
/-- the low bits -/
theorem v_low (j : Nat) (hx : ev e x = some (.int k (m : Int))) (hy : ev e y = some (.int k (n : Int))) (hk : k.signed = false) (hm : m < 2 ^ k.bits) (hj : j ≤ k.bits) (hn : n = 2 ^ j - 1) : OpV P (.binOp .and xt x y yt) e h L (.int k ((m % 2 ^ j : Nat) : Int)) := by
  subst hn
  have h2 : 2 ^ j ≤ 2 ^ k.bits := Nat.pow_le_pow_right (by omega) hj
  have hp : 0 < 2 ^ j := Nat.pow_pos (by omega)
  rw [← Nat.and_two_pow_sub_one_eq_mod]
  exact v_andn hx hy hk hm (by omega)
theorem v_shrn {yk : IntKind} {s : Nat} (hx : ev e x = some (.int k (m : Int))) (hy : ev e y = some (.int yk (s : Int))) (hm : m < 2 ^ k.bits) : OpV P (.binOp .shr xt x y yt) e h L (.int k ((m / 2 ^ s : Nat) : Int)) :=
  v_shr hx hy (by omega) (by
    rw [fdiv_pow, Int.toNat_natCast]
    by_cases hs : s ≤ k.bits
    · rw [Nat.min_eq_left hs]
    · rw [Nat.min_eq_right (by omega), Nat.div_eq_of_lt hm, Nat.div_eq_of_lt (Nat.lt_of_lt_of_le hm (Nat.pow_le_pow_right (by omega) (by omega)))])
theorem v_shln {yk : IntKind} {s : Nat} (hx : ev e x = some (.int k (m : Int))) (hy : ev e y = some (.int yk (s : Int))) (hk : k.signed = false) : OpV P (.binOp .shl xt x y yt) e h L (.int k (((m * 2 ^ s) % 2 ^ k.bits : Nat) : Int)) :=
  v_shl hx hy (by omega) (by
    rw [Int.toNat_natCast]
    have e1 : ((m : Int) * 2 ^ (min s k.bits)) = ((m * 2 ^ (min s k.bits) : Nat) : Int) := by simp
    rw [e1, wrap_unsigned_mod k hk]
    by_cases hs : s ≤ k.bits
    · rw [Nat.min_eq_left hs]
    · rw [Nat.min_eq_right (by omega), Nat.mul_mod_left, show s = k.bits + (s - k.bits) from by omega, Nat.pow_add, ← Nat.mul_assoc, Nat.mul_comm m, Nat.mul_assoc, Nat.mul_mod_right])
theorem v_convn {s d : TypeId} {k' : IntKind} {du : TypeDesc} (hu : Und P s du) (hu' : Und P d (.int k')) (hx : ev e x = some (.int k (m : Int))) (hk : k'.signed = false) : OpV P (.convert s d x) e h L (.int k' ((m % 2 ^ k'.bits : Nat) : Int)) :=
  v_conv hu hu' hx (wrap_unsigned_mod k' hk _)
theorem v_ltn (hx : ev e x = some (.int k (m : Int))) (hy : ev e y = some (.int k (n : Int))) : OpV P (.binOp .lss xt x y yt) e h L (.bool (decide (m < n))) := by
  have := v_lss (P := P) (h := h) (L := L) (xt := xt) (yt := yt) hx hy; simpa using this

/-! words of 64 bits, with their wraps told -/
theorem v_addm (hx : ev e x = some (.int .u64 (m : Int))) (hy : ev e y = some (.int .u64 (n : Int))) : OpV P (.binOp .add xt x y yt) e h L (.int .u64 (((m + n) % 18446744073709551616 : Nat) : Int)) := v_addw hx hy rfl
theorem v_subm (hx : ev e x = some (.int .u64 (m : Int))) (hy : ev e y = some (.int .u64 (n : Int))) (hn : n < 18446744073709551616) : OpV P (.binOp .sub xt x y yt) e h L (.int .u64 (((m + (18446744073709551616 - n)) % 18446744073709551616 : Nat) : Int)) := v_subw hx hy rfl hn
theorem v_mulm (hx : ev e x = some (.int .u64 (m : Int))) (hy : ev e y = some (.int .u64 (n : Int))) : OpV P (.binOp .mul xt x y yt) e h L (.int .u64 (((m * n) % 18446744073709551616 : Nat) : Int)) := v_mulw hx hy rfl
theorem v_shlm {yk : IntKind} {s : Nat} (hx : ev e x = some (.int .u64 (m : Int))) (hy : ev e y = some (.int yk (s : Int))) : OpV P (.binOp .shl xt x y yt) e h L (.int .u64 (((m * 2 ^ s) % 18446744073709551616 : Nat) : Int)) := v_shln hx hy rfl
theorem v_shlx {yk : IntKind} {s : Nat} (hx : ev e x = some (.int .u64 (m : Int))) (hy : ev e y = some (.int yk (s : Int))) (hb : m * 2 ^ s < 18446744073709551616) : OpV P (.binOp .shl xt x y yt) e h L (.int .u64 ((m * 2 ^ s : Nat) : Int)) := by
  have := v_shlm (P := P) (h := h) (L := L) (xt := xt) (yt := yt) hx hy
  rwa [Nat.mod_eq_of_lt hb] at this

/-! words of 32 bits -/
def w32 (a : UInt32) : Value := .int .u32 (a.toNat : Int)
variable {a b : UInt32}
theorem u32_lt (a : UInt32) : a.toNat < 2 ^ IntKind.u32.bits := a.toNat_lt
theorem v_add32 (hx : ev e x = some (w32 a)) (hy : ev e y = some (w32 b)) : OpV P (.binOp .add xt x y yt) e h L (w32 (a + b)) := by
  have := v_addw (P := P) (h := h) (L := L) (xt := xt) (yt := yt) (k := .u32) hx hy rfl
  simpa only [w32, UInt32.toNat_add, show (2 : Nat) ^ IntKind.u32.bits = 2 ^ 32 from rfl] using this
theorem v_and32 (hx : ev e x = some (w32 a)) (hy : ev e y = some (w32 b)) : OpV P (.binOp .and xt x y yt) e h L (w32 (a &&& b)) := by
  have := v_andn (P := P) (h := h) (L := L) (xt := xt) (yt := yt) (k := .u32) hx hy rfl (u32_lt a) (u32_lt b)
  simpa only [w32, UInt32.toNat_and] using this
theorem v_or32 (hx : ev e x = some (w32 a)) (hy : ev e y = some (w32 b)) : OpV P (.binOp .or xt x y yt) e h L (w32 (a ||| b)) := by
  have := v_orn (P := P) (h := h) (L := L) (xt := xt) (yt := yt) (k := .u32) hx hy rfl (u32_lt a) (u32_lt b)
  simpa only [w32, UInt32.toNat_or] using this
theorem v_xor32 (hx : ev e x = some (w32 a)) (hy : ev e y = some (w32 b)) : OpV P (.binOp .xor xt x y yt) e h L (w32 (a ^^^ b)) := by
  have := v_xorn (P := P) (h := h) (L := L) (xt := xt) (yt := yt) (k := .u32) hx hy rfl (u32_lt a) (u32_lt b)
  simpa only [w32, UInt32.toNat_xor] using this
/-- a shift right, a shift left, by a number of bits below 32 -/
def shr32 (a : UInt32) (s : Nat) : UInt32 := a >>> (UInt32.ofNat s)
def shl32 (a : UInt32) (s : Nat) : UInt32 := a <<< (UInt32.ofNat s)
/-- turned to the right -/
def ror32 (a : UInt32) (n : Nat) : UInt32 := shl32 a (32 - n) ||| shr32 a n
theorem wrap_neg {n : Nat} (h1 : 1 ≤ n) (h2 : n ≤ 31) : IntKind.u64.wrap (-(n : Int)) = ((18446744073709551616 - n : Nat) : Int) := by
  simp only [IntKind.wrap, IntKind.bits, IntKind.signed]
  simp
  omega
theorem low_neg {n : Nat} (h1 : 1 ≤ n) (h2 : n ≤ 31) : (18446744073709551616 - n) % 2 ^ 5 = 32 - n := by omega
theorem shr32_nat (a : UInt32) {s : Nat} (hs : s < 32) : (shr32 a s).toNat = a.toNat / 2 ^ s := by
  simp [shr32, UInt32.toNat_shiftRight, Nat.shiftRight_eq_div_pow, Nat.mod_eq_of_lt hs, Nat.mod_eq_of_lt (show s < 4294967296 by omega)]
theorem shl32_nat (a : UInt32) {s : Nat} (hs : s < 32) : (shl32 a s).toNat = a.toNat * 2 ^ s % 4294967296 := by
  simp [shl32, UInt32.toNat_shiftLeft, Nat.shiftLeft_eq, Nat.mod_eq_of_lt hs, Nat.mod_eq_of_lt (show s < 4294967296 by omega)]
theorem v_shr32 {yk : IntKind} {s : Nat} (hx : ev e x = some (w32 a)) (hy : ev e y = some (.int yk (s : Int))) (hs : s < 32) : OpV P (.binOp .shr xt x y yt) e h L (w32 (shr32 a s)) := by
  have := v_shrn (P := P) (h := h) (L := L) (xt := xt) (yt := yt) (k := .u32) hx hy (u32_lt a)
  simpa only [w32, shr32_nat a hs] using this
theorem v_shl32 {yk : IntKind} {s : Nat} (hx : ev e x = some (w32 a)) (hy : ev e y = some (.int yk (s : Int))) (hs : s < 32) : OpV P (.binOp .shl xt x y yt) e h L (w32 (shl32 a s)) := by
  have := v_shln (P := P) (h := h) (L := L) (xt := xt) (yt := yt) (k := .u32) hx hy rfl
  simpa only [w32, shl32_nat a hs, show (2 : Nat) ^ IntKind.u32.bits = 4294967296 from rfl] using this
theorem v_not32 {t : TypeId} (hx : ev e x = some (w32 a)) : OpV P (.unOp .xor t x) e h L (w32 (~~~a)) := by
  intro ρ w o hρ _ ho; unfold execOp; rw [ho]
  simp only [hρ _ _ hx, w32, Op.unary, Op.intBits]
  have h1 : (if IntKind.u32.signed then (-1 : Int) else IntKind.u32.max) = ((4294967295 : Nat) : Int) := rfl
  rw [h1]
  have h2 : (BitVec.ofInt IntKind.u32.bits ((4294967295 : Nat) : Int) ^^^ BitVec.ofInt IntKind.u32.bits (a.toNat : Int)).toNat = (~~~a).toNat := by
    rw [bits_xor .u32 (by decide) (u32_lt a)]
    have : (~~~a).toNat = 4294967295 - a.toNat := by simp
    rw [this]
    have key : (4294967295 : Nat) ^^^ a.toNat = 4294967295 - a.toNat := by
      have h3 := congrArg BitVec.toNat (BitVec.allOnes_xor (x := a.toBitVec))
      simpa using h3
    exact key
  rw [h2, wrap_unsigned .u32 rfl (~~~a).toNat (u32_lt _)]
  rfl
end
end Go.Proofs.Ch

/- Signed 64-bit arithmetic on numbers that are not negative; a few small rules. No program is named here. -/
namespace Go.Proofs.Ch
open Go
section
variable {P : Program} {e : Env} {h : Heap} {L : Owned} {x y : Operand} {xt yt : TypeId} {m n : Nat}
theorem v_addj (hx : ev e x = some (.int .i64 (m : Int))) (hy : ev e y = some (.int .i64 (n : Int))) (hb : m + n < 9223372036854775808) : OpV P (.binOp .add xt x y yt) e h L (.int .i64 ((m + n : Nat) : Int)) :=
  v_add hx hy (by rw [wrap_i64 (by omega) (by omega)]; omega)
theorem v_subj (hx : ev e x = some (.int .i64 (m : Int))) (hy : ev e y = some (.int .i64 (n : Int))) (hle : n ≤ m) (hb : m < 9223372036854775808) : OpV P (.binOp .sub xt x y yt) e h L (.int .i64 ((m - n : Nat) : Int)) :=
  v_sub hx hy (by rw [wrap_i64 (by omega) (by omega)]; omega)
theorem v_mulj (hx : ev e x = some (.int .i64 (m : Int))) (hy : ev e y = some (.int .i64 (n : Int))) (hb : m * n < 9223372036854775808) : OpV P (.binOp .mul xt x y yt) e h L (.int .i64 ((m * n : Nat) : Int)) :=
  v_mul hx hy (by
    have : ((m * n : Nat) : Int) = (m : Int) * (n : Int) := by simp
    rw [← this, wrap_i64 (by omega) (by omega)])
theorem v_quoj (hx : ev e x = some (.int .i64 (m : Int))) (hy : ev e y = some (.int .i64 (n : Int))) (h0 : n ≠ 0) (hb : m < 9223372036854775808) : OpV P (.binOp .quo xt x y yt) e h L (.int .i64 ((m / n : Nat) : Int)) :=
  v_quo hx hy (by omega) (by
    rw [← Int.ofNat_tdiv]
    have := Nat.div_le_self m n
    generalize m / n = q at *
    exact wrap_i64 (by omega) (by omega))
theorem v_convj {s d : TypeId} {k : IntKind} {du : TypeDesc} (hu : Und P s du) (hu' : Und P d (.int .i64)) (hx : ev e x = some (.int k (m : Int))) (hb : m < 9223372036854775808) : OpV P (.convert s d x) e h L (.int .i64 (m : Int)) :=
  v_conv hu hu' hx (wrap_i64 (by omega) (by omega))
theorem v_convu {s d : TypeId} {k : IntKind} {du : TypeDesc} (hu : Und P s du) (hu' : Und P d (.int .u64)) (hx : ev e x = some (.int k (m : Int))) (hb : m < 18446744073709551616) : OpV P (.convert s d x) e h L (.int .u64 (m : Int)) :=
  v_conv hu hu' hx (wrap_u64 (by omega) (by omega))
/-- a number that is known to be one that is not negative -/
theorem v_convz {s d : TypeId} {k : IntKind} {z : Int} {du : TypeDesc} (hu : Und P s du) (hu' : Und P d (.int .u64)) (hx : ev e x = some (.int k z)) (h0 : 0 ≤ z) (hb : z < 18446744073709551616) : OpV P (.convert s d x) e h L (.int .u64 (z.toNat : Int)) :=
  v_conv hu hu' hx (by rw [wrap_u64 h0 (by omega), Int.toNat_of_nonneg h0])
end
/-- what a yield comes to -/
theorem yv {v : Value} {A B : Prop} (h : (v = .bool true ∧ A) ∨ (v = .bool false ∧ B)) : ∃ b, v = .bool b ∧ (b = true → A) ∧ (b = false → B) := by
  rcases h with ⟨rfl, h⟩ | ⟨rfl, h⟩
  · exact ⟨true, rfl, fun _ => h, fun h => by cases h⟩
  · exact ⟨false, rfl, (fun h => Bool.noConfusion h), fun _ => h⟩
theorem int_nat {z : Int} (h : 0 ≤ z) : ∃ n : Nat, z = (n : Int) := ⟨z.toNat, by omega⟩
end Go.Proofs.Ch
/-! results that lie in memory -/
namespace Go.Proofs.Ch
open Go
def RV (P : Program) (e : Env) (h : Heap) (L : Owned) : ResultVar → Value → Prop
  | .tmp t, v => look e t = some v
  | .cell a T, v => ∃ b off cs T' fr, look e a = some (.pointer (some ⟨b, off, none⟩)) ∧ Kn h L b (.cells ⟨cs⟩ T' fr) ∧ ((One P T ∧ cs[off]? = some v) ∨ ∃ n r, Many P T n ∧ cut off n cs = some r ∧ v = .agg ⟨r⟩)
section
variable {P : Program} {e : Env} {h : Heap} {L : Owned}
theorem rv_t {t : Nat} {v : Value} (hl : look e t = some v) : RV P e h L (.tmp t) v := hl
theorem rv_1 {a b off : Nat} {T T' : TypeId} {cs : List Value} {fr : Nat × Nat} {v : Value} (h1 : One P T) (hl : look e a = some (.pointer (some ⟨b, off, none⟩))) (hk : Kn h L b (.cells ⟨cs⟩ T' fr)) (hv : cs[off]? = some v) : RV P e h L (.cell a T) v :=
  ⟨b, off, cs, T', fr, hl, hk, .inl ⟨h1, hv⟩⟩
theorem rv_n {a b off n : Nat} {T T' : TypeId} {cs r : List Value} {fr : Nat × Nat} (h1 : Many P T n) (hl : look e a = some (.pointer (some ⟨b, off, none⟩))) (hk : Kn h L b (.cells ⟨cs⟩ T' fr)) (hv : cut off n cs = some r) : RV P e h L (.cell a T) (.agg ⟨r⟩) :=
  ⟨b, off, cs, T', fr, hl, hk, .inr ⟨n, r, h1, hv, rfl⟩⟩
def resOf (tmps : Array Value) : ResultVar → Sem Value := fun
  | .tmp t => pure (tmps.getD t undef)
  | .cell a t => do loadVar t (← asAddr (tmps.getD a undef))
theorem results_eq (fn : Func) (tmps : Array Value) : results fn tmps = (do
  let vs ← fn.results.mapM (resOf tmps)
  pure (if h : vs.size = 1 then vs[0] else .tuple vs)) := rfl
theorem rv_run {n : Nat} {ds : List Deferred} {a : Act} {w : World} {r : ResultVar} {v : Value} (he : EnvOk n e ds a) (hs : St h L w) (hv : RV P e h L r v) : (resOf a.tmps r).run P w = .ok v w := by
  cases r with
  | tmp t => simp only [resOf, getD_of he hv, Sem.run_pure]
  | cell x t =>
    obtain ⟨b, off, cs, T', fr, hl, hk, ⟨h1, hv⟩ | ⟨n', r, h1, hv, rfl⟩⟩ := hv
    · have := run_load_at (P := P) (hs.kn hk) hv
      simp only [resOf, getD_of he hl, asAddr, loadVar, Sem.run_bind, Sem.run_pure, Result.andThen_ok, h1 w, Bool.false_eq_true, if_false, this]
    · have := run_loadCells (P := P) (hs.kn hk) hv
      simp only [resOf, getD_of he hl, asAddr, loadVar, Sem.run_bind, Sem.run_pure, Result.andThen_ok, (h1 w).1, (h1 w).2, if_true, this]
variable {fn : Func} {n : Nat} {h0 h' : Heap} {Lf L' : Owned} {Post : Value → Heap → Owned → Prop}
theorem endsr1 {r : ResultVar} {v : Value} (hr : fn.results = #[r]) (h1 : RV P e h' L r v) (hle : Heap.le h0 h') (hL : (L' ++ Lf).Sublist L) (hp : Post v h' L') : Ends P fn n h0 Lf Post e [] h' L :=
  ends_of (fun a w he hs => by
    have i1 := rv_run he hs h1
    rw [results_eq, hr]
    generalize resOf a.tmps = g at *
    simp [i1]) hle hL hp
theorem endsr2 {r r2 : ResultVar} {v v2 : Value} (hr : fn.results = #[r, r2]) (h1 : RV P e h' L r v) (h2 : RV P e h' L r2 v2) (hle : Heap.le h0 h') (hL : (L' ++ Lf).Sublist L) (hp : Post (.tuple ⟨[v, v2]⟩) h' L') : Ends P fn n h0 Lf Post e [] h' L :=
  ends_of (fun a w he hs => by
    have i1 := rv_run he hs h1
    have i2 := rv_run he hs h2
    rw [results_eq, hr]
    generalize resOf a.tmps = g at *
    simp [i1, i2]) hle hL hp
theorem endsr3 {r r2 r3 : ResultVar} {v v2 v3 : Value} (hr : fn.results = #[r, r2, r3]) (h1 : RV P e h' L r v) (h2 : RV P e h' L r2 v2) (h3 : RV P e h' L r3 v3) (hle : Heap.le h0 h') (hL : (L' ++ Lf).Sublist L) (hp : Post (.tuple ⟨[v, v2, v3]⟩) h' L') : Ends P fn n h0 Lf Post e [] h' L :=
  ends_of (fun a w he hs => by
    have i1 := rv_run he hs h1
    have i2 := rv_run he hs h2
    have i3 := rv_run he hs h3
    rw [results_eq, hr]
    generalize resOf a.tmps = g at *
    simp [i1, i2, i3]) hle hL hp
end
theorem dec_one {x : Nat} : decide ((x : Int) = 1) = decide (x = 1) := by congr 1; exact propext ⟨fun h => by omega, fun h => by omega⟩
end Go.Proofs.Ch

/- Long division of two words by one, in plain numbers; the length of a number in bits. -/
namespace Go.Proofs.Ch
open Go

def nlen (n : Nat) : Nat := if h : n = 0 then 0 else nlen (n / 2) + 1
termination_by n
decreasing_by omega

theorem nlen_zero : nlen 0 = 0 := by unfold nlen; simp
theorem nlen_pos {n : Nat} (h : n ≠ 0) : nlen n = nlen (n / 2) + 1 := by rw [nlen]; simp [h]
theorem nlen_shift : ∀ (k n : Nat), 2 ^ k ≤ n → nlen n = k + nlen (n / 2 ^ k)
  | 0, n, _ => by simp
  | k + 1, n, h => by
    have hp : 0 < 2 ^ k := Nat.pow_pos (by omega)
    have h2 : 2 ^ (k + 1) = 2 * 2 ^ k := by rw [Nat.pow_succ]; omega
    rw [nlen_pos (by omega), nlen_shift k (n / 2) (by rw [Nat.le_div_iff_mul_le (by omega)]; omega), h2, ← Nat.div_div_eq_div_mul]
    omega
theorem nlen_bound : ∀ (k n : Nat), n < 2 ^ k → nlen n ≤ k
  | 0, n, h => by have : n = 0 := by simpa using h
                  rw [this, nlen_zero]; omega
  | k + 1, n, h => by
    by_cases h0 : n = 0
    · rw [h0, nlen_zero]; omega
    · rw [nlen_pos h0]
      have := nlen_bound k (n / 2) (by rw [Nat.pow_succ] at h; omega)
      omega
theorem nlen_lt (n : Nat) : n < 2 ^ nlen n := by
  induction n using Nat.strongRecOn with
  | _ n ih =>
    by_cases h0 : n = 0
    · rw [h0, nlen_zero]; omega
    · rw [nlen_pos h0, Nat.pow_succ]
      have := ih (n / 2) (by omega)
      omega
theorem nlen_ge {n : Nat} (h0 : n ≠ 0) : 2 ^ (nlen n - 1) ≤ n := by
  induction n using Nat.strongRecOn with
  | _ n ih =>
    rw [nlen_pos h0]
    by_cases h1 : n / 2 = 0
    · rw [h1, nlen_zero]; simp; omega
    · have := ih (n / 2) (by omega) h1
      have hp : nlen (n / 2) ≠ 0 := by rw [nlen_pos h1]; omega
      rw [show nlen (n / 2) + 1 - 1 = (nlen (n / 2) - 1) + 1 from by omega, Nat.pow_succ]
      omega

/-! one digit of a quotient, base 2^32 -/
/-- u: the two upper digits; u1: the next one; y = y1 * 2^32 + y0 is normalized -/
structure DInv (y1 y0 u u1 q r : Nat) : Prop where
  eq : q * y1 + r = u
  rlt : r < 4294967296
  ge : (u * 4294967296 + u1) / (y1 * 4294967296 + y0) ≤ q
  le : q ≤ 4294967297

structure DNorm (y1 y0 u u1 : Nat) : Prop where
  y1lo : 2147483648 ≤ y1
  y1hi : y1 < 4294967296
  y0hi : y0 < 4294967296
  ult : u < y1 * 4294967296 + y0
  u1hi : u1 < 4294967296

section
variable {y1 y0 u u1 q r : Nat}
theorem DNorm.start (n : DNorm y1 y0 u u1) : DInv y1 y0 u u1 (u / y1) (u - u / y1 * y1) := by
  have hy : 0 < y1 := by have := n.y1lo; omega
  have hm := Nat.div_add_mod u y1
  have hml := Nat.mod_lt u hy
  have hc : y1 * (u / y1) = u / y1 * y1 := Nat.mul_comm _ _
  have hr : u - u / y1 * y1 = u % y1 := by omega
  refine ⟨by omega, by rw [hr]; have := n.y1hi; omega, ?_, ?_⟩
  · have hY : 0 < y1 * 4294967296 + y0 := by omega
    rw [Nat.div_le_iff_le_mul_add_pred hY]
    have hlt : u < (u / y1 + 1) * y1 := by rw [Nat.add_mul]; omega
    have h1 : u * 4294967296 + u1 < (u / y1 + 1) * y1 * 4294967296 := by have := n.u1hi; omega
    generalize u / y1 = Q at *
    have e1 : (Q + 1) * y1 * 4294967296 = (y1 * 4294967296) * Q + y1 * 4294967296 := by
      rw [Nat.add_mul, Nat.add_mul, Nat.one_mul, Nat.mul_comm Q y1, Nat.mul_right_comm]
    have e2 : (y1 * 4294967296 + y0) * Q = (y1 * 4294967296) * Q + y0 * Q := Nat.add_mul _ _ _
    omega
  · rw [Nat.div_le_iff_le_mul_add_pred hy]
    have := n.ult; have := n.y0hi; have := n.y1lo
    omega

theorem DNorm.qlt (n : DNorm y1 y0 u u1) : (u * 4294967296 + u1) / (y1 * 4294967296 + y0) < 4294967296 := by
  have hy := n.y1lo
  rw [Nat.div_lt_iff_lt_mul (by omega)]
  have := n.ult; have := n.u1hi
  omega

theorem DInv.prod (i : DInv y1 y0 u u1 q r) : q * (y1 * 4294967296 + y0) + (4294967296 * r + u1) = (u * 4294967296 + u1) + q * y0 := by
  have := i.eq
  have e : q * (y1 * 4294967296 + y0) = (q * y1) * 4294967296 + q * y0 := by rw [Nat.mul_add, Nat.mul_assoc]
  rw [e, ← this, Nat.add_mul]
  omega

/-- the digit is too great: one less -/
theorem DInv.next (n : DNorm y1 y0 u u1) (i : DInv y1 y0 u u1 q r) (h : 4294967296 ≤ q ∨ 4294967296 * r + u1 < q * y0) : 1 ≤ q ∧ (q - 1) * y1 + (r + y1) = u ∧ (u * 4294967296 + u1) / (y1 * 4294967296 + y0) ≤ q - 1 := by
  have hq := n.qlt
  have hge := i.ge
  have hlt : (u * 4294967296 + u1) / (y1 * 4294967296 + y0) < q := by
    rcases h with h | h
    · exact Nat.lt_of_lt_of_le hq h
    · have hp := i.prod
      have hy := n.y1lo
      rw [Nat.div_lt_iff_lt_mul (by omega)]
      omega
  have hle : (u * 4294967296 + u1) / (y1 * 4294967296 + y0) ≤ q - 1 := Nat.le_sub_one_of_lt hlt
  refine ⟨Nat.lt_of_le_of_lt (Nat.zero_le _) hlt, ?_, hle⟩
  have hq1 : 1 ≤ q := Nat.lt_of_le_of_lt (Nat.zero_le _) hlt
  have := i.eq
  obtain ⟨p, rfl⟩ : ∃ p, q = p + 1 := ⟨q - 1, by omega⟩
  rw [Nat.add_mul] at this
  simp
  omega

/-- no longer too great: the digit -/
theorem digit_of (n : DNorm y1 y0 u u1) (hge : (u * 4294967296 + u1) / (y1 * 4294967296 + y0) ≤ q) (heq : q * y1 + r = u) (h : q * y0 ≤ 4294967296 * r + u1) : q = (u * 4294967296 + u1) / (y1 * 4294967296 + y0) := by
  have e : q * (y1 * 4294967296 + y0) = (q * y1) * 4294967296 + q * y0 := by rw [Nat.mul_add, Nat.mul_assoc]
  have hy := n.y1lo
  have hle : q ≤ (u * 4294967296 + u1) / (y1 * 4294967296 + y0) := by
    rw [Nat.le_div_iff_mul_le (by omega), e, ← heq, Nat.add_mul]
    omega
  omega
/-- left by the break -/
theorem digit_break (n : DNorm y1 y0 u u1) (hq : q ≤ 4294967296) (hr : 4294967296 ≤ r) (hge : (u * 4294967296 + u1) / (y1 * 4294967296 + y0) ≤ q) (heq : q * y1 + r = u) : q = (u * 4294967296 + u1) / (y1 * 4294967296 + y0) := by
  refine digit_of n hge heq ?_
  have : q * y0 ≤ 4294967296 * 4294967295 := Nat.mul_le_mul hq (by have := n.y0hi; omega)
  omega
end

/-- the rest, as it is reckoned modulo 2^64 -/
theorem rest_wrap {u u1 y q : Nat} (hq : q = (u * 4294967296 + u1) / y) (hy : 0 < y) (hy2 : y < 18446744073709551616) :
    (((u * 4294967296 % 18446744073709551616 + u1) % 18446744073709551616) + (18446744073709551616 - q * y % 18446744073709551616)) % 18446744073709551616 = (u * 4294967296 + u1) % y := by
  have h1 : (u * 4294967296 + u1) % y < y := Nat.mod_lt _ hy
  have h2 := Nat.div_add_mod (u * 4294967296 + u1) y
  rw [← hq, Nat.mul_comm] at h2
  omega

/-- the two digits together, and the rest, brought back -/
theorem long_division {hi lo y s Y : Nat} (hY : Y = y * 2 ^ s) (hhi : hi < y) (hy : 0 < y) (hlo : lo < 18446744073709551616) (hs : s ≤ 63)
    {U L1 L0 : Nat} (hU : U * 18446744073709551616 + (L1 * 4294967296 + L0) = (hi * 18446744073709551616 + lo) * 2 ^ s) (hL0 : L0 < 4294967296) :
    (U * 4294967296 + L1) / Y * 4294967296 + ((U * 4294967296 + L1) % Y * 4294967296 + L0) / Y = (hi * 18446744073709551616 + lo) / y ∧
    (((U * 4294967296 + L1) % Y * 4294967296 + L0) % Y) / 2 ^ s = (hi * 18446744073709551616 + lo) % y := by
  have hp : 0 < 2 ^ s := Nat.pow_pos (by omega)
  have hY0 : 0 < Y := by rw [hY]; exact Nat.mul_pos hy hp
  have hN : (U * 4294967296 + L1) * 4294967296 + L0 = (hi * 18446744073709551616 + lo) * 2 ^ s := by
    rw [← hU]
    clear hU hY hY0 hp
    omega
  clear hU
  obtain ⟨N1, hN1⟩ : ∃ N1, N1 = U * 4294967296 + L1 := ⟨_, rfl⟩
  rw [← hN1] at hN ⊢
  have hd := Nat.div_add_mod N1 Y
  have hA : N1 * 4294967296 + L0 = Y * (N1 / Y * 4294967296) + (N1 % Y * 4294967296 + L0) := by
    have e : Y * (N1 / Y * 4294967296) = (Y * (N1 / Y)) * 4294967296 := (Nat.mul_assoc Y (N1 / Y) 4294967296).symm
    generalize Y * (N1 / Y * 4294967296) = A1 at *
    generalize Y * (N1 / Y) = A2 at *
    omega
  obtain ⟨T, hT⟩ : ∃ T, T = N1 % Y * 4294967296 + L0 := ⟨_, rfl⟩
  obtain ⟨S, hS⟩ : ∃ S, S = N1 / Y * 4294967296 := ⟨_, rfl⟩
  obtain ⟨M, hM⟩ : ∃ M, M = N1 * 4294967296 + L0 := ⟨_, rfl⟩
  rw [← hT, ← hS, ← hM] at hA
  rw [← hM] at hN
  rw [← hT, ← hS]
  subst hA
  have hq : (Y * S + T) / Y = S + T / Y := Nat.mul_add_div hY0 _ _
  have hr : (Y * S + T) % Y = T % Y := Nat.mul_add_mod _ _ _
  have hq2 : (hi * 18446744073709551616 + lo) * 2 ^ s / Y = (hi * 18446744073709551616 + lo) / y := by
    rw [hY, Nat.mul_div_mul_right _ _ hp]
  have hr2 : (hi * 18446744073709551616 + lo) * 2 ^ s % Y = (hi * 18446744073709551616 + lo) % y * 2 ^ s := by
    rw [hY, Nat.mul_mod_mul_right]
  refine ⟨by rw [← hq, hN, hq2], ?_⟩
  rw [← hr, hN, hr2, Nat.mul_div_cancel _ hp]

theorem or_parts {hi lo s : Nat} (h1 : hi * 2 ^ s < 18446744073709551616) (hlo : lo < 18446744073709551616) (hs : s ≤ 63) :
    (hi * 2 ^ s % 18446744073709551616) ||| (lo / 2 ^ (64 - s)) = hi * 2 ^ s + lo / 2 ^ (64 - s) := by
  rw [Nat.mod_eq_of_lt h1]
  have h2 : lo / 2 ^ (64 - s) < 2 ^ s := by
    rw [Nat.div_lt_iff_lt_mul (Nat.pow_pos (by omega)), ← Nat.pow_add, show s + (64 - s) = 64 from by omega]
    exact hlo
  have := Nat.shiftLeft_add_eq_or_of_lt h2 hi
  rw [Nat.shiftLeft_eq] at this
  exact this.symm

/-- the normalized dividend -/
theorem norm_dividend {hi lo s : Nat} (hs : s ≤ 63) (hlo : lo < 18446744073709551616) :
    (hi * 2 ^ s + lo / 2 ^ (64 - s)) * 18446744073709551616 + (lo * 2 ^ s % 18446744073709551616) = (hi * 18446744073709551616 + lo) * 2 ^ s := by
  have e1 : lo * 2 ^ s / 18446744073709551616 = lo / 2 ^ (64 - s) := by
    have : (18446744073709551616 : Nat) = 2 ^ (64 - s) * 2 ^ s := by rw [← Nat.pow_add, show 64 - s + s = 64 from by omega]
    rw [this, Nat.mul_div_mul_right _ _ (Nat.pow_pos (by omega))]
  have e2 := Nat.div_add_mod (lo * 2 ^ s) 18446744073709551616
  rw [e1] at e2
  rw [Nat.add_mul, Nat.add_mul, Nat.mul_right_comm hi]
  omega
end Go.Proofs.Ch
namespace Go.Proofs.Ch
open Go
theorem nlen_i64 {n : Nat} (h : n < 256) : IntKind.i64.wrap ((nlen n : Nat) : Int) = ((nlen n : Nat) : Int) := by
  have := nlen_bound 8 n h
  exact wrap_i64 (by omega) (by omega)
theorem nlen_add {c : Int} {n : Nat} (h : n < 256) (h0 : 0 ≤ c) (h1 : c ≤ 1000) : IntKind.i64.wrap (c + ((nlen n : Nat) : Int)) = c + ((nlen n : Nat) : Int) := by
  have := nlen_bound 8 n h
  exact wrap_i64 (by omega) (by omega)
theorem len64_1 {a : Nat} (h1 : 4294967296 ≤ a) : nlen a = 32 + nlen (a / 2 ^ 32) := nlen_shift 32 a h1
theorem len64_2 {a : Nat} (h1 : 65536 ≤ a) : nlen a = 16 + nlen (a / 2 ^ 16) := nlen_shift 16 a h1
theorem len64_3 {a : Nat} (h1 : 256 ≤ a) : nlen a = 8 + nlen (a / 2 ^ 8) := nlen_shift 8 a h1
theorem v_indexstrn {P : Program} {e : Env} {h : Heap} {L : Owned} {t : TypeId} {x y : Operand} {k : IntKind} {i : Int} {n z : Nat} {s : ByteArray} (hu : Und P t .string) (hx : ev e x = some (.string s)) (hy : ev e y = some (.int k i)) (hn : i = (n : Int)) (hb : s[n]? = some (UInt8.ofNat z)) (hz : z < 256) : OpV P (.index t x y) e h L (.int .u8 (z : Int)) := by
  have := v_indexstr (P := P) (h := h) (L := L) hu hx hy hn hb
  simpa [byteV, Nat.mod_eq_of_lt hz] using this
theorem nlen_256 {n : Nat} (h : n < 256) : nlen n < 256 := by have := nlen_bound 8 n h; omega
end Go.Proofs.Ch
namespace Go.Proofs.Ch
theorem norm_y {c : Nat} (h0 : c ≠ 0) (hc : c < 18446744073709551616) : 64 - nlen c ≤ 63 ∧ c * 2 ^ (64 - nlen c) < 18446744073709551616 ∧ 9223372036854775808 ≤ c * 2 ^ (64 - nlen c) := by
  have h1 := nlen_bound 64 c hc
  have h2 : 1 ≤ nlen c := by rw [nlen_pos h0]; omega
  have h3 := nlen_lt c
  have h4 := nlen_ge h0
  refine ⟨by omega, ?_, ?_⟩
  · have : c * 2 ^ (64 - nlen c) < 2 ^ nlen c * 2 ^ (64 - nlen c) := Nat.mul_lt_mul_of_pos_right h3 (Nat.pow_pos (by omega))
    rw [← Nat.pow_add, show nlen c + (64 - nlen c) = 64 from by omega] at this
    exact this
  · have : 2 ^ (nlen c - 1) * 2 ^ (64 - nlen c) ≤ c * 2 ^ (64 - nlen c) := Nat.mul_le_mul_right _ h4
    rw [← Nat.pow_add, show nlen c - 1 + (64 - nlen c) = 63 from by omega] at this
    exact this
/-- the upper part of the dividend, brought up -/
theorem norm_u {a b c s : Nat} (ha : a < c) (hb : b < 18446744073709551616) (hs : s ≤ 63) (hc : c * 2 ^ s < 18446744073709551616) :
    (a * 2 ^ s % 18446744073709551616 ||| b / 2 ^ (64 - s)) = a * 2 ^ s + b / 2 ^ (64 - s) ∧ a * 2 ^ s + b / 2 ^ (64 - s) < c * 2 ^ s ∧ a * 2 ^ s < 18446744073709551616 ∧ b / 2 ^ (64 - s) < 18446744073709551616 := by
  have h1 : a * 2 ^ s + 2 ^ s ≤ c * 2 ^ s := by
    have : (a + 1) * 2 ^ s ≤ c * 2 ^ s := Nat.mul_le_mul_right _ ha
    rwa [Nat.add_mul, Nat.one_mul] at this
  have h2 : b / 2 ^ (64 - s) < 2 ^ s := by
    rw [Nat.div_lt_iff_lt_mul (Nat.pow_pos (by omega)), ← Nat.pow_add, show s + (64 - s) = 64 from by omega]
    exact hb
  have h3 : a * 2 ^ s < 18446744073709551616 := Nat.lt_of_le_of_lt (Nat.le_trans (Nat.le_add_right _ _) h1) hc
  exact ⟨or_parts h3 hb hs, Nat.lt_of_lt_of_le (Nat.add_lt_add_left h2 _) h1, h3, Nat.lt_of_le_of_lt (Nat.div_le_self _ _) hb⟩
theorem dnorm {Y U u1 : Nat} (h1 : 9223372036854775808 ≤ Y) (h2 : Y < 18446744073709551616) (hU : U < Y) (hu : u1 < 4294967296) : DNorm (Y / 2 ^ 32) (Y % 2 ^ 32) U u1 :=
  ⟨by omega, by omega, by omega, by omega, hu⟩
theorem dsplit (Y : Nat) : Y / 2 ^ 32 * 4294967296 + Y % 2 ^ 32 = Y := by omega
end Go.Proofs.Ch
namespace Go.Proofs.Ch
open Go
theorem mul64_bounds (a b : Nat) (ha : a < 18446744073709551616) (hb : b < 18446744073709551616) :
   a % 2 ^ 32 * (b % 2 ^ 32) < 18446744073709551616 ∧ a / 2 ^ 32 * (b % 2 ^ 32) < 18446744073709551616 ∧
   a / 2 ^ 32 * (b % 2 ^ 32) + a % 2 ^ 32 * (b % 2 ^ 32) / 2 ^ 32 < 18446744073709551616 ∧
   a % 2 ^ 32 * (b / 2 ^ 32) < 18446744073709551616 ∧
   (a / 2 ^ 32 * (b % 2 ^ 32) + a % 2 ^ 32 * (b % 2 ^ 32) / 2 ^ 32) % 2 ^ 32 + a % 2 ^ 32 * (b / 2 ^ 32) < 18446744073709551616 ∧
   a / 2 ^ 32 * (b / 2 ^ 32) < 18446744073709551616 ∧
   a / 2 ^ 32 * (b / 2 ^ 32) + (a / 2 ^ 32 * (b % 2 ^ 32) + a % 2 ^ 32 * (b % 2 ^ 32) / 2 ^ 32) / 2 ^ 32 < 18446744073709551616 ∧
   a / 2 ^ 32 * (b / 2 ^ 32) + (a / 2 ^ 32 * (b % 2 ^ 32) + a % 2 ^ 32 * (b % 2 ^ 32) / 2 ^ 32) / 2 ^ 32 + ((a / 2 ^ 32 * (b % 2 ^ 32) + a % 2 ^ 32 * (b % 2 ^ 32) / 2 ^ 32) % 2 ^ 32 + a % 2 ^ 32 * (b / 2 ^ 32)) / 2 ^ 32 < 18446744073709551616 ∧
   a / 2 ^ 32 * (b / 2 ^ 32) + (a / 2 ^ 32 * (b % 2 ^ 32) + a % 2 ^ 32 * (b % 2 ^ 32) / 2 ^ 32) / 2 ^ 32 + ((a / 2 ^ 32 * (b % 2 ^ 32) + a % 2 ^ 32 * (b % 2 ^ 32) / 2 ^ 32) % 2 ^ 32 + a % 2 ^ 32 * (b / 2 ^ 32)) / 2 ^ 32 = a * b / 18446744073709551616 ∧ True := by
  have hx0 : a % 2 ^ 32 < 4294967296 := by omega
  have hx1 : a / 2 ^ 32 < 4294967296 := by omega
  have hy0 : b % 2 ^ 32 < 4294967296 := by omega
  have hy1 : b / 2 ^ 32 < 4294967296 := by omega
  have ea : a = a / 2 ^ 32 * 4294967296 + a % 2 ^ 32 := by omega
  have eb : b = b / 2 ^ 32 * 4294967296 + b % 2 ^ 32 := by omega
  have eab : a * b = (a / 2 ^ 32 * 4294967296 + a % 2 ^ 32) * (b / 2 ^ 32 * 4294967296 + b % 2 ^ 32) := by rw [← ea, ← eb]
  generalize a / 2 ^ 32 = x1 at *
  generalize a % 2 ^ 32 = x0 at *
  generalize b / 2 ^ 32 = y1 at *
  generalize b % 2 ^ 32 = y0 at *
  have p00 : x0 * y0 ≤ 4294967295 * 4294967295 := Nat.mul_le_mul (by omega) (by omega)
  have p10 : x1 * y0 ≤ 4294967295 * 4294967295 := Nat.mul_le_mul (by omega) (by omega)
  have p01 : x0 * y1 ≤ 4294967295 * 4294967295 := Nat.mul_le_mul (by omega) (by omega)
  have p11 : x1 * y1 ≤ 4294967295 * 4294967295 := Nat.mul_le_mul (by omega) (by omega)
  have e2 : a * b = x1 * y1 * 18446744073709551616 + (x1 * y0 + x0 * y1) * 4294967296 + x0 * y0 := by
    rw [eab, Nat.add_mul, Nat.mul_add, Nat.mul_add]
    have t1 : x1 * 4294967296 * (y1 * 4294967296) = x1 * y1 * 18446744073709551616 := by
      rw [Nat.mul_mul_mul_comm]
    have t2 : x1 * 4294967296 * y0 = x1 * y0 * 4294967296 := by rw [Nat.mul_right_comm]
    have t3 : x0 * (y1 * 4294967296) = x0 * y1 * 4294967296 := by rw [Nat.mul_assoc]
    rw [t1, t2, t3, Nat.add_mul]; omega
  rw [e2]
  generalize x0 * y0 = q00 at *
  generalize x1 * y0 = q10 at *
  generalize x0 * y1 = q01 at *
  generalize x1 * y1 = q11 at *
  refine ⟨by omega, by omega, by omega, by omega, by omega, by omega, by omega, by omega, by omega, trivial⟩
theorem q_small {q y : Nat} (hq : q < 4294967296) (hy : y < 4294967296) : q * y < 18446744073709551616 := by
  have : q * y ≤ 4294967295 * 4294967295 := Nat.mul_le_mul (by omega) (by omega)
  omega
theorem div_low {a b c : Nat} (h : a = 0) : (Value.tuple ⟨[.int .u64 ((b / c : Nat) : Int), .int .u64 ((b % c : Nat) : Int)]⟩) = .tuple ⟨[.int .u64 (((a * 18446744073709551616 + b) / c : Nat) : Int), .int .u64 (((a * 18446744073709551616 + b) % c : Nat) : Int)]⟩ := by
  rw [h, Nat.zero_mul, Nat.zero_add]
theorem join32 {Q1 Q0 : Nat} (h : Q1 * 4294967296 + Q0 < 18446744073709551616) : (Q1 * 4294967296 % 18446744073709551616 + Q0) % 18446744073709551616 = Q1 * 4294967296 + Q0 := by omega
theorem div_final {a b c s Y U Lo V : Nat} (hY : Y = c * 2 ^ s) (ha : a < c) (hb : b < 18446744073709551616) (hs : s ≤ 63) (hU : U * 18446744073709551616 + Lo = (a * 18446744073709551616 + b) * 2 ^ s) (_hLo : Lo < 18446744073709551616)
    (hV : V = (U * 4294967296 + Lo / 2 ^ 32) % Y) (hY2 : Y < 18446744073709551616) (hY1 : 9223372036854775808 ≤ Y) :
    (Value.tuple ⟨[.int .u64 (((((U * 4294967296 + Lo / 2 ^ 32) / Y * 4294967296 % 18446744073709551616) + (V * 4294967296 + Lo % 2 ^ 32) / Y) % 18446744073709551616 : Nat) : Int), .int .u64 ((((V * 4294967296 % 18446744073709551616 + Lo % 2 ^ 32) % 18446744073709551616 + (18446744073709551616 - (V * 4294967296 + Lo % 2 ^ 32) / Y * Y % 18446744073709551616)) % 18446744073709551616 / 2 ^ s : Nat) : Int)]⟩)
    = .tuple ⟨[.int .u64 (((a * 18446744073709551616 + b) / c : Nat) : Int), .int .u64 (((a * 18446744073709551616 + b) % c : Nat) : Int)]⟩ := by
  rw [rest_wrap (y := Y) rfl (by omega) hY2]
  have hL : Lo / 2 ^ 32 * 4294967296 + Lo % 2 ^ 32 = Lo := dsplit Lo
  obtain ⟨r1, r2⟩ := long_division (L1 := Lo / 2 ^ 32) (L0 := Lo % 2 ^ 32) hY ha (by omega) hb hs (by rw [hL]; exact hU) (Nat.mod_lt _ (by decide))
  rw [← hV] at r1 r2
  have hq : (a * 18446744073709551616 + b) / c < 18446744073709551616 := by
    rw [Nat.div_lt_iff_lt_mul (by omega)]; omega
  rw [r2]
  rw [← r1] at hq ⊢
  have e := join32 hq
  rw [e]
end Go.Proofs.Ch

/- Powers and products modulo a number, as the program and its reference reckon them. -/
namespace Go.Proofs.Ch
open Go
def mpow (m a k : Nat) : Nat := a ^ k % m
section
variable {m a b c k n : Nat}
theorem mpow_zero (h : 1 < m) : mpow m a 0 = 1 := by simp [mpow, Nat.mod_eq_of_lt h]
theorem mpow_lt (h : 0 < m) : mpow m a k < m := Nat.mod_lt _ h
theorem mpow_sq : mpow m a n * mpow m a n % m = mpow m a (2 * n) := by
  unfold mpow
  rw [← Nat.mul_mod, ← Nat.pow_add, Nat.two_mul]
theorem mpow_mul : mpow m a n * a % m = mpow m a (n + 1) := by
  unfold mpow
  rw [Nat.mod_mul_mod, ← Nat.pow_succ]
/-- fast, for numbers -/
def pw (m : Nat) : Nat → Nat → Nat → Nat
  | 0, _, _ => 1 % m
  | f + 1, a, k => if k % 2 = 1 then pw m f (a * a % m) (k / 2) * a % m else pw m f (a * a % m) (k / 2)
theorem pw_eq (m : Nat) : ∀ (f a k : Nat), k < 2 ^ f → pw m f a k = a ^ k % m
  | 0, a, k, h => by
    have : k = 0 := by simpa using h
    simp [pw, this]
  | f + 1, a, k, h => by
    have h2 : k / 2 < 2 ^ f := by rw [Nat.pow_succ] at h; omega
    have key : pw m f (a * a % m) (k / 2) = a ^ (2 * (k / 2)) % m := by
      rw [pw_eq m f _ _ h2, ← Nat.pow_mod, ← Nat.pow_two, ← Nat.pow_mul]
    simp only [pw, key]
    split
    · rename_i h1
      rw [Nat.mod_mul_mod, ← Nat.pow_succ]
      congr 2; omega
    · rename_i h1
      congr 2; omega
theorem mpow_pw (f : Nat) (h : k < 2 ^ f) : mpow m a k = pw m f a k := (pw_eq m f a k h).symm

/-- the reference's product -/
theorem prod_step (h0 : b ≠ 0) : ((if b % 2 = 1 then (c + a) % m else c) + (a + a) % m * (b / 2)) % m = (c + a * b) % m := by
  have e1 : ∀ x y : Nat, (x + (a + a) % m * y) % m = (x + (a + a) * y) % m := fun x y => by
    rw [Nat.add_mod, Nat.mod_mul_mod, ← Nat.add_mod]
  rw [e1]
  split
  · rename_i h1
    rw [Nat.mod_add_mod]
    congr 1
    have : b = 2 * (b / 2) + 1 := by omega
    have e2 : a * b = a * (2 * (b / 2) + 1) := by rw [← this]
    rw [e2, Nat.mul_add, Nat.mul_one, ← Nat.mul_assoc, Nat.mul_two]
    omega
  · rename_i h1
    have : b = 2 * (b / 2) := by omega
    have e2 : a * b = a * (2 * (b / 2)) := by rw [← this]
    rw [e2, ← Nat.mul_assoc, Nat.mul_two]
theorem pow_step : (if k % 2 = 1 then c * a % m else c) * mpow m (a * a % m) (k / 2) % m = c * mpow m a k % m := by
  have e0 : mpow m (a * a % m) (k / 2) = mpow m a (2 * (k / 2)) := by
    unfold mpow
    rw [← Nat.pow_mod, ← Nat.pow_two, ← Nat.pow_mul]
  rw [e0]
  split
  · rename_i h1
    have : k = 2 * (k / 2) + 1 := by omega
    have e2 : mpow m a k = mpow m a (2 * (k / 2) + 1) := by rw [← this]
    rw [e2, ← mpow_mul, Nat.mod_mul_mod, Nat.mul_mod_mod, Nat.mul_assoc, Nat.mul_comm a]
  · rename_i h1
    have : k = 2 * (k / 2) := by omega
    rw [← this]
theorem sum_mod (ha : a < m) (hb : b < m) : (if m ≤ a + b then a + b - m else a + b) = (a + b) % m := by
  split
  · rename_i h1
    rw [Nat.mod_eq_sub_mod h1, Nat.mod_eq_of_lt (by omega)]
  · rw [Nat.mod_eq_of_lt (by omega)]
theorem times_val (a b : Nat) : a * b / 18446744073709551616 * 18446744073709551616 + a * b % 18446744073709551616 = a * b := Nat.div_add_mod' _ _
theorem hi_lt (ha : a < m) (hb : b < m) (hm : m < 18446744073709551616) : a * b / 18446744073709551616 < m := by
  rw [Nat.div_lt_iff_lt_mul (by decide)]
  have h1 : a * b ≤ a * m := Nat.mul_le_mul_left _ (Nat.le_of_lt hb)
  have h2 : a * m < m * m := Nat.mul_lt_mul_of_pos_right ha (by omega)
  have h3 : m * m ≤ m * 18446744073709551616 := Nat.mul_le_mul_left _ (by omega)
  omega
end
/-- the bit of a number that is the (i+1)-th from above -/
theorem bit_step {k i n : Nat} (h : i < n) : k / 2 ^ (n - (i + 1)) = 2 * (k / 2 ^ (n - i)) + k / 2 ^ (n - 1 - i) % 2 := by
  have e1 : n - (i + 1) = n - 1 - i := by omega
  have e2 : n - i = (n - 1 - i) + 1 := by omega
  rw [e1, e2, Nat.pow_succ, ← Nat.div_div_eq_div_mul]
  omega
theorem nlen_top (k : Nat) : k / 2 ^ nlen k = 0 := Nat.div_eq_of_lt (nlen_lt k)
theorem mpow_bit {m a k i n : Nat} (h : i < n) : (if k / 2 ^ (n - 1 - i) % 2 = 1 then mpow m a (k / 2 ^ (n - i)) * mpow m a (k / 2 ^ (n - i)) % m * a % m else mpow m a (k / 2 ^ (n - i)) * mpow m a (k / 2 ^ (n - i)) % m) = mpow m a (k / 2 ^ (n - (i + 1))) := by
  rw [bit_step h, mpow_sq]
  split
  · rename_i h1; rw [h1, mpow_mul]
  · rename_i h1
    have : k / 2 ^ (n - 1 - i) % 2 = 0 := by omega
    rw [this]; rfl
end Go.Proofs.Ch

/- Digests and keys: 32 bytes; their cells in memory; the number of a digest, modulo a number. -/
namespace Go.Proofs.Ch
open Go
abbrev Dig := Vector UInt8 32
def dcells (d : Dig) : List Value := [byteV d[0], byteV d[1], byteV d[2], byteV d[3], byteV d[4], byteV d[5], byteV d[6], byteV d[7], byteV d[8], byteV d[9], byteV d[10], byteV d[11], byteV d[12], byteV d[13], byteV d[14], byteV d[15], byteV d[16], byteV d[17], byteV d[18], byteV d[19], byteV d[20], byteV d[21], byteV d[22], byteV d[23], byteV d[24], byteV d[25], byteV d[26], byteV d[27], byteV d[28], byteV d[29], byteV d[30], byteV d[31]]
theorem dcells_eq (d : Dig) : dcells d = d.toList.map byteV := by
  obtain ⟨⟨l⟩, hl⟩ := d
  simp at hl
  match l, hl with
  | [_, _, _, _, _, _, _, _, _, _, _, _, _, _, _, _, _, _, _, _, _, _, _, _, _, _, _, _, _, _, _, _], _ => rfl
/-- a byte of a digest, as a number -/
def dn (d : Dig) (i : Nat) : Nat := (d.toList.getD i 0).toNat
theorem dn_lt (d : Dig) (i : Nat) : dn d i < 256 := UInt8.toNat_lt _
theorem dcells_get (d : Dig) {i : Nat} (hi : i < 32) : (dcells d)[i]? = some (.int .u8 ((dn d i : Nat) : Int)) := by
  rw [dcells_eq]
  have h1 : i < d.toList.length := by simpa using hi
  rw [List.getElem?_map, List.getElem?_eq_getElem h1]
  simp [byteV, dn, List.getElem?_eq_getElem h1]
def rst (f : Nat → Nat) (m : Nat) : Nat → Nat
  | 0 => 0
  | i + 1 => (rst f m i * 256 + f i) % m
theorem rst_lt {f : Nat → Nat} {m : Nat} (hm : 0 < m) : ∀ i, rst f m i < m
  | 0 => hm
  | _ + 1 => Nat.mod_lt _ hm
theorem fold_val {n c m : Nat} (hn : n < 18446744073709551616) (hc : c < 256) : ((n / 2 ^ 56 * 18446744073709551616 + (n * 2 ^ 8 % 18446744073709551616 ||| c)) % m) = (n * 256 + c) % m := by
  have h1 : (n * 2 ^ 8 % 18446744073709551616 ||| c) = n * 256 % 18446744073709551616 + c := by
    have e : n * 2 ^ 8 % 18446744073709551616 = (n % 72057594037927936) * 2 ^ 8 := by omega
    have := Nat.shiftLeft_add_eq_or_of_lt (show c < 2 ^ 8 from hc) (n % 72057594037927936)
    rw [Nat.shiftLeft_eq] at this
    rw [e, ← this]
  have h2 : n / 2 ^ 56 * 18446744073709551616 + (n * 256 % 18446744073709551616 + c) = n * 256 + c := by omega
  rw [h1, h2]
theorem or_lt {n c : Nat} (hc : c < 256) : (n * 2 ^ 8 % 18446744073709551616 ||| c) < 18446744073709551616 :=
  Nat.or_lt_two_pow (n := 64) (Nat.mod_lt _ (by decide)) (by omega)
/-- an element of the group -/
def GC (a : Int) : Prop := 1 ≤ a ∧ a < 4611686018427377339 ∧ mpow 4611686018427377339 a.toNat 2305843009213688669 = 1
instance (a : Int) : Decidable (GC a) := inferInstanceAs (Decidable (_ ∧ _ ∧ _))
def gexpV (a k : Int) : Int := if GC a ∧ 0 ≤ k ∧ k < 2305843009213688669 then ((mpow 4611686018427377339 a.toNat k.toNat : Nat) : Int) else 0
def gexpE (a k : Int) : Int := if ¬ GC a then 40 else if 0 ≤ k ∧ k < 2305843009213688669 then 0 else 1
theorem GC4 : GC 4 := by
  refine ⟨by decide, by decide, ?_⟩
  rw [mpow_pw 61 (by decide)]
  decide +kernel
theorem gc_nat {m : Nat} (h1 : 1 ≤ (m : Int)) (h2 : (m : Int) < 4611686018427377339) (h3 : ¬ ((mpow 4611686018427377339 m 2305843009213688669 : Nat) : Int) ≠ 1) : GC (m : Int) :=
  ⟨h1, h2, by rw [Int.toNat_natCast]; omega⟩
theorem gc_nat_f {m : Nat} (h3 : ((mpow 4611686018427377339 m 2305843009213688669 : Nat) : Int) ≠ 1) : ¬ GC (m : Int) := by
  rintro ⟨_, _, g⟩
  rw [Int.toNat_natCast] at g
  omega
theorem rst_ref {f : Nat → Nat} {m i : Nat} : ((256 * rst f m i % m + f i) % m) = rst f m (i + 1) := by
  simp only [rst]
  rw [Nat.mod_add_mod, Nat.mul_comm]
end Go.Proofs.Ch
