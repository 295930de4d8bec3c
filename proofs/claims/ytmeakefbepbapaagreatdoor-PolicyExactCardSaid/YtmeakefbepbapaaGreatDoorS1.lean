/- Texts of my own, of no program: A, B, D, E, F. -/
import Derived.RangeFuncLeaves
import Derived.Laws.Sem
/- The core of the walks: what is known of memory (what never changes any more, and what is the call's own), what is known of a frame's temporaries, and the rules by which code is walked. No program is named here. -/
namespace Go.Proofs.Ch
open Go

/-- What is known of memory for good. -/
structure Heap where
  f : Nat → Option Obj
  os : Os
  out : Array (Nat × ByteArray)
instance : CoeFun Heap (fun _ => Nat → Option Obj) := ⟨Heap.f⟩
/-- The call's own blocks, and what they hold. -/
abbrev Owned := List (Nat × Obj)

structure Heap.le (h h' : Heap) : Prop where
  sub : ∀ b o, h b = some o → h' b = some o
  os : h'.os = h.os
  out : h'.out = h.out
instance {h h' : Heap} : CoeFun (Heap.le h h') (fun _ => ∀ b o, h b = some o → h' b = some o) := ⟨Heap.le.sub⟩
theorem Heap.le.refl (h : Heap) : Heap.le h h := ⟨fun _ _ x => x, rfl, rfl⟩
theorem Heap.le.trans {a b c : Heap} (x : Heap.le a b) (y : Heap.le b c) : Heap.le a c := ⟨fun i o z => y i o (x i o z), y.os.trans x.os, y.out.trans x.out⟩

structure St (h : Heap) (L : Owned) (w : World) : Prop where
  per : ∀ b o, h b = some o → w.heap[b]? = some o
  own : ∀ p ∈ L, w.heap[p.1]? = some p.2
  sep : ∀ p ∈ L, h p.1 = none
  nd : (L.map Prod.fst).Nodup
  os : w.os = h.os
  out : w.output = h.out

/-- What is known of the temporaries: the newest first. -/
abbrev Env := List (Nat × Value)
def look : Env → Nat → Option Value
  | [], _ => none
  | (k, v) :: e, t => bif Nat.beq k t then some v else look e t
def ev (e : Env) : Operand → Option Value
  | .tmp t => look e t
  | .const v => some v
  | .global g => some (.pointer (some ⟨g, 0, none⟩))
  | .func f => some (.func (.func f) #[] #[])
def evs (e : Env) : List Operand → Option (List Value)
  | [] => some []
  | x :: xs => match ev e x, evs e xs with
    | some v, some vs => some (v :: vs)
    | _, _ => none

structure EnvOk (n : Nat) (e : Env) (ds : List Deferred) (a : Act) : Prop where
  size : a.tmps.size = n
  ok : ∀ t v, look e t = some v → a.tmps[t]? = some v
  df : a.defers = ds

theorem EnvOk.eval {n e ds a} (h : EnvOk n e ds a) {x v} (hx : ev e x = some v) : a.eval x = v := by
  cases x with
  | tmp t => have := h.ok t v hx; simp [Act.eval, this]
  | const v' => simpa [ev, Act.eval] using hx
  | global g => simpa [ev, Act.eval] using hx
  | func f => simpa [ev, Act.eval] using hx

theorem EnvOk.evals {n e ds a} (h : EnvOk n e ds a) : ∀ {xs vs}, evs e xs = some vs → xs.map a.eval = vs := by
  intro xs
  induction xs with
  | nil => intro vs hx; simp [evs] at hx; simp [← hx]
  | cons x xs ih =>
    intro vs hx
    simp only [evs] at hx
    split at hx
    · rename_i v vs' h1 h2
      cases hx
      simp [h.eval h1, ih h2]
    · cases hx

def put (d : Option Tmp) (v : Value) (e : Env) : Env := match d with
  | some t => (t, v) :: e
  | none => e

def dstOk (d : Option Tmp) (n : Nat) : Bool := match d with
  | some t => Nat.blt t n
  | none => true

theorem EnvOk.put {n e ds a} (h : EnvOk n e ds a) {d : Option Tmp} (hd : dstOk d n = true) (v : Value) : EnvOk n (Ch.put d v e) ds (a.put d v) := by
  cases d with
  | none => exact h
  | some t =>
    have ht : t < n := by simpa [dstOk, Nat.blt_eq] using hd
    refine ⟨by simp [Act.put, h.size], ?_, by simp [Act.put, h.df]⟩
    intro t' v' hl
    simp only [Ch.put, look] at hl
    simp only [Act.put]
    cases hb : Nat.beq t t' with
    | true =>
      have : t = t' := Nat.eq_of_beq_eq_true hb
      subst this
      simp [hb] at hl
      subst hl
      simp [h.size, ht]
    | false =>
      have hne : t ≠ t' := Nat.ne_of_beq_eq_false hb
      simp [hb] at hl
      rw [Array.getElem?_setIfInBounds_ne hne]
      exact h.ok _ _ hl

theorem EnvOk.less {n e ds a} (h : EnvOk n e ds a) {e'} (he : ∀ t v, look e' t = some v → look e t = some v) : EnvOk n e' ds a :=
  ⟨h.size, fun t v x => h.ok t v (he t v x), h.df⟩

/-- The fence that lets all in, in a round or not. -/
def fx (r : Option Nat) : Fence := { Fence.wide with round := r }
theorem fx_none : fx none = Fence.wide := rfl
theorem fx_fn (r f) : (fx r).fn f := trivial
theorem fx_depth (r) : (fx r).depth = none := rfl

structure Cx where
  P : Program
  r : Option Nat
  n : Nat

abbrev Pst := Exit → Env → List Deferred → Heap → Owned → Prop

/-- A postcondition on what is known, as one on frames and worlds. -/
def up (C : Cx) (Q : Pst) : Exit → Act → World → Prop := fun x a w => ∃ e ds h L, EnvOk C.n e ds a ∧ St h L w ∧ Q x e ds h L

def W (C : Cx) (c : Code) (Q : Pst) (e : Env) (ds : List Deferred) (h : Heap) (L : Owned) : Prop :=
  ∀ a w, EnvOk C.n e ds a → St h L w → c.wpIn (fx C.r) 0 C.P (up C Q) a w

inductive K where
  | code (c : Code)
  | blk (id : Nat)
  | again (I : Env → List Deferred → Heap → Owned → Prop)

def den (C : Cx) (R : Pst) : List K → Pst
  | [] => R
  | .code c :: k => fun x e ds h L => match x with
    | .normal => W C c (den C R k) e ds h L
    | x => den C R k x e ds h L
  | .blk id :: k => fun x e ds h L => match x with
    | .exit j => bif Nat.beq j id then den C R k .normal e ds h L else den C R k (.exit j) e ds h L
    | x => den C R k x e ds h L
  | .again I :: k => fun x e ds h L => match x with
    | .normal => I e ds h L
    | x => den C R k x e ds h L

section rules
variable {C : Cx} {R : Pst} {k : List K} {e : Env} {ds : List Deferred} {h : Heap} {L : Owned}

theorem den_seq {a b : Code} (H : den C R (.code a :: .code b :: k) .normal e ds h L) : den C R (.code (.seq a b) :: k) .normal e ds h L := by
  intro a' w he hs
  refine wpIn_seq (wpIn_mono (H a' w he hs) ?_)
  rintro x a'' w'' ⟨e', ds', h', L', he', hs', hq⟩
  cases x with
  | normal => exact hq a'' w'' he' hs'
  | _ => exact ⟨e', ds', h', L', he', hs', hq⟩

theorem den_skip (H : den C R k .normal e ds h L) : den C R (.code .skip :: k) .normal e ds h L :=
  fun _ _ he hs => wpIn_skip ⟨_, _, _, _, he, hs, H⟩

theorem den_blk {id : Nat} (H : den C R k .normal e ds h L) : den C R (.blk id :: k) .normal e ds h L := H
theorem den_nil (H : R .normal e ds h L) : den C R [] .normal e ds h L := H

theorem den_scope_not (H : den C R k .normal e ds h L) : den C R (.code (.label 0) :: k) .normal e ds h L :=
  fun _ _ he hs => wpIn_label ⟨_, _, _, _, he, hs, H⟩

def exitK (id : Nat) : List K → Option (List K)
  | [] => none
  | .blk j :: k => bif Nat.beq id j then some k else exitK id k
  | .code _ :: k => exitK id k
  | .again _ :: k => exitK id k

theorem den_of_exitK {id : Nat} {k' : List K} (H : den C R k' .normal e ds h L) : ∀ {k : List K}, exitK id k = some k' → den C R k (.exit id) e ds h L := by
  intro k
  induction k with
  | nil => intro hk; cases hk
  | cons x k ih =>
    intro hk
    cases x with
    | blk j =>
      simp only [exitK] at hk
      simp only [den]
      cases hb : Nat.beq id j with
      | true => simp [hb] at hk; subst hk; exact H
      | false => simp [hb] at hk; simpa using ih hk
    | code c => simp only [exitK] at hk; exact ih hk
    | again I => simp only [exitK] at hk; exact ih hk

theorem den_exit {id : Nat} {k' : List K} (hk : exitK id k = some k') (H : den C R k' .normal e ds h L) : den C R (.code (.exit id) :: k) .normal e ds h L :=
  fun _ _ he hs => wpIn_exit ⟨_, _, _, _, he, hs, den_of_exitK H hk⟩

/-- an exit that no block here catches (a round's way out of its loop) -/
theorem den_exitR {id : Nat} (hk : exitK id k = none) (H : R (.exit id) e ds h L) : den C R (.code (.exit id) :: k) .normal e ds h L := by
  have key : ∀ k : List K, exitK id k = none → den C R k (.exit id) e ds h L := by
    intro k
    induction k with
    | nil => intro _; exact H
    | cons x k ih =>
      intro hk
      cases x with
      | blk j =>
        simp only [exitK] at hk
        simp only [den]
        cases hb : Nat.beq id j with
        | true => simp [hb] at hk
        | false => simp [hb] at hk; simpa using ih hk
      | code c => simp only [exitK] at hk; exact ih hk
      | again I => simp only [exitK] at hk; exact ih hk
  exact fun _ _ he hs => wpIn_exit ⟨_, _, _, _, he, hs, key k hk⟩

theorem den_pass_ret : ∀ {k : List K}, R .ret e ds h L → den C R k .ret e ds h L
  | [], H => H
  | .blk _ :: k, H => den_pass_ret (k := k) H
  | .code _ :: k, H => den_pass_ret (k := k) H
  | .again _ :: k, H => den_pass_ret (k := k) H

theorem den_pass_panic {ch} : ∀ {k : List K}, R (.panic ch) e ds h L → den C R k (.panic ch) e ds h L
  | [], H => H
  | .blk _ :: k, H => den_pass_panic (k := k) H
  | .code _ :: k, H => den_pass_panic (k := k) H
  | .again _ :: k, H => den_pass_panic (k := k) H

theorem den_ret (H : R .ret e ds h L) : den C R (.code .ret :: k) .normal e ds h L :=
  fun _ _ he hs => wpIn_ret ⟨_, _, _, _, he, hs, den_pass_ret H⟩

theorem den_if {c : Operand} {x y : Code} {b : Bool} (hc : ev e c = some (.bool b))
    (ht : b = true → den C R (.code x :: k) .normal e ds h L) (hf : b = false → den C R (.code y :: k) .normal e ds h L) :
    den C R (.code (.cond c x y) :: k) .normal e ds h L :=
  fun a w he hs => wpIn_cond_split (he.eval hc) (fun t => ht t a w he hs) (fun t => hf t a w he hs)

theorem den_ifd {c : Operand} {x y : Code} {p : Prop} [Decidable p] (hc : ev e c = some (.bool (decide p)))
    (ht : p → den C R (.code x :: k) .normal e ds h L) (hf : ¬p → den C R (.code y :: k) .normal e ds h L) :
    den C R (.code (.cond c x y) :: k) .normal e ds h L :=
  den_if hc (fun t => ht (of_decide_eq_true t)) (fun t => hf (of_decide_eq_false t))

theorem den_true {c : Operand} {x y : Code} (hc : ev e c = some (.bool true)) (H : den C R (.code x :: k) .normal e ds h L) :
    den C R (.code (.cond c x y) :: k) .normal e ds h L := den_if hc (fun _ => H) (fun t => by cases t)
theorem den_false {c : Operand} {x y : Code} (hc : ev e c = some (.bool false)) (H : den C R (.code y :: k) .normal e ds h L) :
    den C R (.code (.cond c x y) :: k) .normal e ds h L := den_if hc (fun t => by cases t) (fun _ => H)

theorem den_block {id : Nat} {c : Code} (H : den C R (.code c :: .blk id :: k) .normal e ds h L) : den C R (.code (.block id c) :: k) .normal e ds h L := by
  intro a w he hs
  refine wpIn_block (wpIn_mono (H a w he hs) ?_)
  rintro x a' w' ⟨e', ds', h', L', he', hs', hq⟩
  cases x with
  | exit j =>
    simp only [den] at hq
    simp only [Exit.inBlock]
    cases hb : Nat.beq j id with
    | true => have := Nat.eq_of_beq_eq_true hb; rw [if_pos this]; simp [hb] at hq; exact ⟨e', ds', h', L', he', hs', hq⟩
    | false => have := Nat.ne_of_beq_eq_false hb; rw [if_neg this]; simp [hb] at hq; exact ⟨e', ds', h', L', he', hs', hq⟩
  | _ => exact ⟨e', ds', h', L', he', hs', hq⟩

theorem den_block' {c : Code} (H : den C R (.code c :: k) .normal e ds h L) : den C R (.code c :: k) .normal e ds h L := H

theorem least {p : Nat → Prop} (hx : ∃ n, p n) : ∃ n, p n ∧ ∀ m, p m → n ≤ m := by
  obtain ⟨n, hn⟩ := hx
  induction n using Nat.strongRecOn with
  | _ n ih =>
    by_cases hm : ∃ m, m < n ∧ p m
    · obtain ⟨m, hlt, hp⟩ := hm
      exact ih m hlt hp
    · exact ⟨n, hn, fun m hp => Nat.not_lt.1 fun hlt => hm ⟨m, hlt, hp⟩⟩

/-- a loop: what holds at each round's head, told over a measure -/
theorem den_loop {c : Code} (I : Nat → Env → List Deferred → Heap → Owned → Prop) (m : Nat) (h0 : I m e ds h L)
    (round : ∀ m e ds h L, I m e ds h L → den C R (.code c :: .again (fun e ds h L => ∃ m', m' < m ∧ I m' e ds h L) :: k) .normal e ds h L) :
    den C R (.code (.loop c) :: k) .normal e ds h L := by
  intro a w he hs
  let p : Act → World → Nat → Prop := fun a w m => ∃ e ds h L, I m e ds h L ∧ EnvOk C.n e ds a ∧ St h L w
  have hdec : ∀ a w, ∃ n, (∃ m, p a w m) → p a w n ∧ ∀ m, p a w m → n ≤ m := by
    intro a w
    by_cases hx : ∃ m, p a w m
    · obtain ⟨n, hn⟩ := least hx; exact ⟨n, fun _ => hn⟩
    · exact ⟨0, fun y => absurd y hx⟩
  let μ : Act → World → Nat := fun a w => Classical.choose (hdec a w)
  have hμ : ∀ a w, (∃ m, p a w m) → p a w (μ a w) ∧ ∀ m, p a w m → μ a w ≤ m := fun a w => Classical.choose_spec (hdec a w)
  refine wpIn_loop (fun a w => ∃ m, p a w m) μ ⟨m, e, ds, h, L, h0, he, hs⟩ ?_
  intro a w hI
  obtain ⟨e1, ds1, h1, L1, hi1, he1, hs1⟩ := (hμ a w hI).1
  refine wpIn_mono (round (μ a w) e1 ds1 h1 L1 hi1 a w he1 hs1) ?_
  rintro x a' w' ⟨e', ds', h', L', he', hs', hq⟩
  cases x with
  | normal =>
    obtain ⟨m', hm', hi'⟩ := hq
    have hx' : p a' w' m' := ⟨e', ds', h', L', hi', he', hs'⟩
    exact ⟨⟨m', hx'⟩, Nat.lt_of_le_of_lt ((hμ a' w' ⟨m', hx'⟩).2 m' hx') hm'⟩
  | _ => exact ⟨e', ds', h', L', he', hs', hq⟩

theorem den_again {I : Env → List Deferred → Heap → Owned → Prop} (H : I e ds h L) : den C R (.again I :: k) .normal e ds h L := H

/-- forget -/
theorem den_less {e' : Env} {h' : Heap} {L' : Owned} {c : Code} (he : ∀ t v, look e' t = some v → look e t = some v) (hh : ∀ w, St h L w → St h' L' w)
    (H : den C R (.code c :: k) .normal e' ds h' L') : den C R (.code c :: k) .normal e ds h L :=
  fun a w ho hs => H a w (ho.less he) (hh w hs)

/-! regions -/

def WL (C : Cx) (ops : Array Oper) (l : List Oper) (Q : Pst) (e : Env) (ds : List Deferred) (h : Heap) (L : Owned) : Prop :=
  ∀ i, ops.toList.drop i = l → ∀ a w, EnvOk C.n e ds a → St h L w → wpOpsIn (fx C.r) 0 C.P ops (up C Q) (List.range' i l.length) a w

theorem den_region {id : Nat} {ops : Array Oper} {l : List Oper} (hl : ops.toList = l) (H : WL C ops l (den C R k) e ds h L) :
    den C R (.code (.region id ops false) :: k) .normal e ds h L := by
  intro a w he hs
  refine wpIn_region ?_
  have := H 0 (by simpa using hl) a w he hs
  rw [← hl] at this
  rw [List.range_eq_range']
  simpa using this

variable {ops : Array Oper} {l : List Oper} {Q : Pst}

theorem WL_nil (H : Q .normal e ds h L) : WL C ops [] Q e ds h L :=
  fun _ _ _ _ he hs => ⟨_, _, _, _, he, hs, H⟩

theorem WL_at {o : Oper} {i : Nat} (hi : ops.toList.drop i = o :: l) : ops[i]? = some o ∧ ops.toList.drop (i + 1) = l := by
  have h1 : ops.toList[i]? = some o := by
    have := congrArg List.head? hi
    simpa [List.head?_drop] using this
  refine ⟨by simpa using h1, ?_⟩
  have h2 : (ops.toList.drop i).drop 1 = l := by rw [hi]; rfl
  simpa [List.drop_drop] using h2

/-- One operation: from what is known, it comes to one of the values (and to what is known then) that G says; or it panics. -/
def Op1 (C : Cx) (o : Oper) (e : Env) (h : Heap) (L : Owned) (G : Value → Heap → Owned → Prop) : Prop :=
  ∀ ds a w next Q, EnvOk C.n e ds a → St h L w → (∀ v h' L' w', G v h' L' → St h' L' w' → next (a.put o.dst v) w') → o.wpIn (fx C.r) 0 C.P a w next Q

theorem WL_op {o : Oper} {G : Value → Heap → Owned → Prop} (ho : Op1 C o e h L G) (hg : o.guard = none) (hd : dstOk o.dst C.n = true)
    (H : ∀ v h' L', G v h' L' → WL C ops l Q (put o.dst v e) ds h' L') : WL C ops (o :: l) Q e ds h L := by
  intro i hi a w he hs
  obtain ⟨h1, h2⟩ := WL_at hi
  simp only [List.length_cons, List.range'_succ, wpOpsIn, h1]
  rw [if_pos (by simp [Region.wanted, hg])]
  exact ho ds a w _ _ he hs fun v h' L' w' hG hs' => H v h' L' hG (i + 1) h2 _ _ (he.put hd v) hs'

def guardTmp (ops : Array Oper) (j : Nat) : Option Nat := (ops[j]?).bind (·.dst)

theorem yielded_of {j t : Nat} {b : Bool} {a : Act} (hj : guardTmp ops j = some t) (he : EnvOk C.n e ds a) (hl : look e t = some (.bool b)) : yielded ops a.tmps j = some b := by
  simp only [guardTmp] at hj
  simp [yielded, hj, he.ok _ _ hl]

theorem WL_opg {o : Oper} {G : Value → Heap → Owned → Prop} {j t : Nat} {b : Bool} (ho : Op1 C o e h L G) (hg : o.guard = some (j, b)) (hj : guardTmp ops j = some t) (hl : look e t = some (.bool b)) (hd : dstOk o.dst C.n = true)
    (H : ∀ v h' L', G v h' L' → WL C ops l Q (put o.dst v e) ds h' L') : WL C ops (o :: l) Q e ds h L := by
  intro i hi a w he hs
  obtain ⟨h1, h2⟩ := WL_at hi
  simp only [List.length_cons, List.range'_succ, wpOpsIn, h1]
  rw [if_pos (by simp [Region.wanted, hg, yielded_of hj he hl])]
  exact ho ds a w _ _ he hs fun v h' L' w' hG hs' => H v h' L' hG (i + 1) h2 _ _ (he.put hd v) hs'

theorem WL_skip {o : Oper} {j t : Nat} {b : Bool} (hg : o.guard = some (j, !b)) (hj : guardTmp ops j = some t) (hl : look e t = some (.bool b)) (hd : dstOk o.dst C.n = true)
    (H : WL C ops l Q (put o.dst undef e) ds h L) : WL C ops (o :: l) Q e ds h L := by
  intro i hi a w he hs
  obtain ⟨h1, h2⟩ := WL_at hi
  simp only [List.length_cons, List.range'_succ, wpOpsIn, h1]
  rw [if_neg (by simp [Region.wanted, hg, yielded_of hj he hl])]
  exact ⟨fun _ _ => trivial, H (i + 1) h2 _ _ (he.put hd _) hs⟩

/-- a guard that is not decided: two ways -/
theorem WL_split {t : Nat} {b : Bool} (hl : look e t = some (.bool b)) (ht : b = true → WL C ops l Q ((t, .bool true) :: e) ds h L) (hf : b = false → WL C ops l Q ((t, .bool false) :: e) ds h L) : WL C ops l Q e ds h L := by
  intro i hi a w he hs
  have key : ∀ b', b = b' → EnvOk C.n ((t, .bool b') :: e) ds a := by
    rintro b' rfl
    refine ⟨he.size, ?_, he.df⟩
    intro t' v' hx
    simp only [look] at hx
    cases hb : Nat.beq t t' with
    | true => have := Nat.eq_of_beq_eq_true hb; subst this; simp [hb] at hx; subst hx; exact he.ok _ _ hl
    | false => simp [hb] at hx; exact he.ok _ _ hx
  cases b with
  | true => exact ht rfl i hi a w (key _ rfl) hs
  | false => exact hf rfl i hi a w (key _ rfl) hs

theorem WL_less {e' : Env} {h' : Heap} {L' : Owned} (he : ∀ t v, look e' t = some v → look e t = some v) (hh : ∀ w, St h L w → St h' L' w)
    (H : WL C ops l Q e' ds h' L') : WL C ops l Q e ds h L :=
  fun i hi a w ho hs => H i hi a w (ho.less he) (hh w hs)

end rules
end Go.Proofs.Ch

/- The operations that only compute and read: what each comes to. No program is named here. -/
namespace Go.Proofs.Ch
open Go

/-- The operation comes to v, whatever else is so, and leaves the world as it was. -/
def OpV (P : Program) (op : Op) (e : Env) (h : Heap) (L : Owned) (v : Value) : Prop :=
  ∀ (ρ : Operand → Value) (w : World) (o : Oper), (∀ x u, ev e x = some u → ρ x = u) → St h L w → o.op = op → (execOp ρ o).run P w = .ok (.value v) w

section
variable {C : Cx} {e : Env} {ds : List Deferred} {h : Heap} {L : Owned} {ops : Array Oper} {l : List Oper} {Q : Pst}

theorem not_defer {P : Program} {ρ : Operand → Value} {o : Oper} {w : World} {v : Value} {w' : World} (hr : (execOp ρ o).run P w = .ok (.value v) w') : ∀ c, o.op ≠ .defer c := by
  intro c hc
  unfold execOp at hr
  rw [hc] at hr
  simp only [Sem.run_bind] at hr
  cases hx : (resolve ρ c o.type).run P w with
  | ok d w1 => rw [hx] at hr; simp at hr
  | halt x w1 => rw [hx] at hr; simp at hr

theorem op1_v {o : Oper} {v : Value} (hv : OpV C.P o.op e h L v) : Op1 C o e h L (fun v' h' L' => v' = v ∧ h' = h ∧ L' = L) := by
  intro ds a w next Q he hs H
  refine ⟨fun _ _ => trivial, ?_⟩
  have hr := hv a.eval w o (fun x u hx => he.eval hx) hs rfl
  rw [Oper.semAt_eq _ _ _ (not_defer hr), hr]
  exact H v h L w ⟨rfl, rfl, rfl⟩ hs

theorem WL_v {d : Option Tmp} {op : Op} {ty : TypeId} {pos : String} {af : Array Edge} {v : Value} (hv : OpV C.P op e h L v) (hd : dstOk d C.n = true)
    (H : WL C ops l Q (put d v e) ds h L) : WL C ops (⟨d, op, ty, pos, af, none⟩ :: l) Q e ds h L :=
  WL_op (op1_v hv) rfl hd (by rintro v' h' L' ⟨rfl, rfl, rfl⟩; exact H)

theorem WL_vg {d : Option Tmp} {op : Op} {ty : TypeId} {pos : String} {af : Array Edge} {v : Value} {j t : Nat} {b : Bool} (hj : guardTmp ops j = some t) (hl : look e t = some (.bool b)) (hv : OpV C.P op e h L v) (hd : dstOk d C.n = true)
    (H : WL C ops l Q (put d v e) ds h L) : WL C ops (⟨d, op, ty, pos, af, some (j, b)⟩ :: l) Q e ds h L :=
  WL_opg (op1_v hv) rfl hj hl hd (by rintro v' h' L' ⟨rfl, rfl, rfl⟩; exact H)
end

/-! facts on types, told once for a program -/
def One (P : Program) (t : TypeId) : Prop := ∀ w, (isAgg t).run P w = .ok false w
def Many (P : Program) (t : TypeId) (n : Nat) : Prop := ∀ w, (isAgg t).run P w = .ok true w ∧ (sizeOf t).run P w = .ok n w
def Und (P : Program) (t : TypeId) (d : TypeDesc) : Prop := P.underlying t = some d
def Siz (P : Program) (t : TypeId) (n : Nat) : Prop := (P.info? t).map (·.size) = some n
def Byt (P : Program) (t : TypeId) (n : Nat) : Prop := (P.info? t).map (·.bytes) = some n
def Zer (P : Program) (t : TypeId) (v : Value) : Prop := (P.info? t).map (·.zero) = some (some v)

theorem Und.run {P t d} (hu : Und P t d) (w : World) : (underlying t).run P w = .ok d w := by
  simp [underlying, show P.underlying t = some d from hu]
theorem Siz.run {P t n} (hs : Siz P t n) (w : World) : (sizeOf t).run P w = .ok n w := by
  unfold Siz at hs
  cases hi : P.info? t with
  | none => simp [hi] at hs
  | some i => simp [hi] at hs; simp [sizeOf, typeInfo, hi, hs]
theorem Byt.run {P t n} (hs : Byt P t n) (w : World) : ∃ i, (typeInfo t).run P w = .ok i w ∧ i.bytes = n := by
  unfold Byt at hs
  cases hi : P.info? t with
  | none => simp [hi] at hs
  | some i => simp [hi] at hs; exact ⟨i, by simp [typeInfo, hi], hs⟩
theorem Zer.run {P t v} (hs : Zer P t v) (w : World) : (zeroValue t).run P w = .ok v w := by
  unfold Zer at hs
  cases hi : P.info? t with
  | none => simp [hi] at hs
  | some i => simp [hi] at hs; simp [zeroValue, typeInfo, hi, hs]
theorem One.of {P t d} (hu : Und P t d) (h1 : (match d with | .struct _ | .array .. => true | _ => false) = false) : One P t := by
  intro w
  cases d <;> simp_all [isAgg, hu.run]
theorem Many.of {P t d n} (hu : Und P t d) (h1 : (match d with | .struct _ | .array .. => true | _ => false) = true) (hs : Siz P t n) : Many P t n := by
  intro w
  cases d <;> simp_all [isAgg, hu.run, hs.run]

section
variable {P : Program} {e : Env} {h : Heap} {L : Owned}

theorem v_move {x : Operand} {v : Value} (hx : ev e x = some v) : OpV P (.move x) e h L v := by
  intro ρ w o hρ _ ho; unfold execOp; rw [ho]; simp [hρ _ _ hx]
theorem v_assign {x : Operand} {v : Value} (hx : ev e x = some v) : OpV P (.assign x) e h L v := by
  intro ρ w o hρ _ ho; unfold execOp; rw [ho]; simp [hρ _ _ hx]
theorem v_pickt {c a b : Operand} {v : Value} (hc : ev e c = some (.bool true)) (ha : ev e a = some v) : OpV P (.pick c a b) e h L v := by
  intro ρ w o hρ _ ho; unfold execOp; rw [ho]; simp [hρ _ _ hc, hρ _ _ ha, asBool]
theorem v_pickf {c a b : Operand} {v : Value} (hc : ev e c = some (.bool false)) (hb : ev e b = some v) : OpV P (.pick c a b) e h L v := by
  intro ρ w o hρ _ ho; unfold execOp; rw [ho]; simp [hρ _ _ hc, hρ _ _ hb, asBool]
theorem v_pick {c a b : Operand} {t : Bool} {u v : Value} (hc : ev e c = some (.bool t)) (ha : ev e a = some u) (hb : ev e b = some v) : OpV P (.pick c a b) e h L (bif t then u else v) := by
  intro ρ w o hρ _ ho; unfold execOp; rw [ho]; cases t <;> simp [hρ _ _ hc, hρ _ _ hb, hρ _ _ ha, asBool]

/-! integers -/
theorem v_add {k : IntKind} {xt yt : TypeId} {x y : Operand} {m n z : Int} (hx : ev e x = some (.int k m)) (hy : ev e y = some (.int k n)) (hz : k.wrap (m + n) = z) : OpV P (.binOp .add xt x y yt) e h L (.int k z) := by
  intro ρ w o hρ _ ho; unfold execOp; rw [ho]; simp [hρ _ _ hx, hρ _ _ hy, eqGuard, binOp, Op.intArith, hz]
theorem v_sub {k : IntKind} {xt yt : TypeId} {x y : Operand} {m n z : Int} (hx : ev e x = some (.int k m)) (hy : ev e y = some (.int k n)) (hz : k.wrap (m - n) = z) : OpV P (.binOp .sub xt x y yt) e h L (.int k z) := by
  intro ρ w o hρ _ ho; unfold execOp; rw [ho]; simp [hρ _ _ hx, hρ _ _ hy, eqGuard, binOp, Op.intArith, hz]
theorem v_mul {k : IntKind} {xt yt : TypeId} {x y : Operand} {m n z : Int} (hx : ev e x = some (.int k m)) (hy : ev e y = some (.int k n)) (hz : k.wrap (m * n) = z) : OpV P (.binOp .mul xt x y yt) e h L (.int k z) := by
  intro ρ w o hρ _ ho; unfold execOp; rw [ho]; simp [hρ _ _ hx, hρ _ _ hy, eqGuard, binOp, Op.intArith, hz]
theorem v_quo {k : IntKind} {xt yt : TypeId} {x y : Operand} {m n z : Int} (hx : ev e x = some (.int k m)) (hy : ev e y = some (.int k n)) (h0 : n ≠ 0) (hz : k.wrap (m.tdiv n) = z) : OpV P (.binOp .quo xt x y yt) e h L (.int k z) := by
  intro ρ w o hρ _ ho; unfold execOp; rw [ho]; simp [hρ _ _ hx, hρ _ _ hy, eqGuard, binOp, Op.intDiv, h0, hz]
theorem v_rem {k : IntKind} {xt yt : TypeId} {x y : Operand} {m n z : Int} (hx : ev e x = some (.int k m)) (hy : ev e y = some (.int k n)) (h0 : n ≠ 0) (hz : m.tmod n = z) : OpV P (.binOp .rem xt x y yt) e h L (.int k z) := by
  intro ρ w o hρ _ ho; unfold execOp; rw [ho]; simp [hρ _ _ hx, hρ _ _ hy, eqGuard, binOp, Op.intDiv, h0, hz]
theorem v_and {k : IntKind} {xt yt : TypeId} {x y : Operand} {m n z : Int} (hx : ev e x = some (.int k m)) (hy : ev e y = some (.int k n)) (hz : k.wrap (BitVec.ofInt k.bits m &&& BitVec.ofInt k.bits n).toNat = z) : OpV P (.binOp .and xt x y yt) e h L (.int k z) := by
  intro ρ w o hρ _ ho; unfold execOp; rw [ho]; simp only [hρ _ _ hx, hρ _ _ hy, eqGuard, binOp, Op.intBits]; simp [← hz]
theorem v_or {k : IntKind} {xt yt : TypeId} {x y : Operand} {m n z : Int} (hx : ev e x = some (.int k m)) (hy : ev e y = some (.int k n)) (hz : k.wrap (BitVec.ofInt k.bits m ||| BitVec.ofInt k.bits n).toNat = z) : OpV P (.binOp .or xt x y yt) e h L (.int k z) := by
  intro ρ w o hρ _ ho; unfold execOp; rw [ho]; simp only [hρ _ _ hx, hρ _ _ hy, eqGuard, binOp, Op.intBits]; simp [← hz]
theorem v_xor {k : IntKind} {xt yt : TypeId} {x y : Operand} {m n z : Int} (hx : ev e x = some (.int k m)) (hy : ev e y = some (.int k n)) (hz : k.wrap (BitVec.ofInt k.bits m ^^^ BitVec.ofInt k.bits n).toNat = z) : OpV P (.binOp .xor xt x y yt) e h L (.int k z) := by
  intro ρ w o hρ _ ho; unfold execOp; rw [ho]; simp only [hρ _ _ hx, hρ _ _ hy, eqGuard, binOp, Op.intBits]; simp [← hz]
theorem v_shl {k yk : IntKind} {xt yt : TypeId} {x y : Operand} {m n z : Int} (hx : ev e x = some (.int k m)) (hy : ev e y = some (.int yk n)) (h0 : 0 ≤ n) (hz : k.wrap (m * 2 ^ (min n.toNat k.bits)) = z) : OpV P (.binOp .shl xt x y yt) e h L (.int k z) := by
  intro ρ w o hρ _ ho; unfold execOp; rw [ho]; simp [hρ _ _ hx, hρ _ _ hy, eqGuard, binOp, Op.shift, Int.not_lt.2 h0, hz]
theorem v_shr {k yk : IntKind} {xt yt : TypeId} {x y : Operand} {m n z : Int} (hx : ev e x = some (.int k m)) (hy : ev e y = some (.int yk n)) (h0 : 0 ≤ n) (hz : m.fdiv (2 ^ (min n.toNat k.bits)) = z) : OpV P (.binOp .shr xt x y yt) e h L (.int k z) := by
  intro ρ w o hρ _ ho; unfold execOp; rw [ho]; simp [hρ _ _ hx, hρ _ _ hy, eqGuard, binOp, Op.shift, Int.not_lt.2 h0, hz]
theorem v_lss {k : IntKind} {xt yt : TypeId} {x y : Operand} {m n : Int} (hx : ev e x = some (.int k m)) (hy : ev e y = some (.int k n)) : OpV P (.binOp .lss xt x y yt) e h L (.bool (decide (m < n))) := by
  intro ρ w o hρ _ ho; unfold execOp; rw [ho]; simp [hρ _ _ hx, hρ _ _ hy, eqGuard, binOp, Op.intCmp]
theorem v_leq {k : IntKind} {xt yt : TypeId} {x y : Operand} {m n : Int} (hx : ev e x = some (.int k m)) (hy : ev e y = some (.int k n)) : OpV P (.binOp .leq xt x y yt) e h L (.bool (decide (m ≤ n))) := by
  intro ρ w o hρ _ ho; unfold execOp; rw [ho]; simp [hρ _ _ hx, hρ _ _ hy, eqGuard, binOp, Op.intCmp]
theorem v_gtr {k : IntKind} {xt yt : TypeId} {x y : Operand} {m n : Int} (hx : ev e x = some (.int k m)) (hy : ev e y = some (.int k n)) : OpV P (.binOp .gtr xt x y yt) e h L (.bool (decide (n < m))) := by
  intro ρ w o hρ _ ho; unfold execOp; rw [ho]; simp [hρ _ _ hx, hρ _ _ hy, eqGuard, binOp, Op.intCmp]
theorem v_geq {k : IntKind} {xt yt : TypeId} {x y : Operand} {m n : Int} (hx : ev e x = some (.int k m)) (hy : ev e y = some (.int k n)) : OpV P (.binOp .geq xt x y yt) e h L (.bool (decide (n ≤ m))) := by
  intro ρ w o hρ _ ho; unfold execOp; rw [ho]; simp [hρ _ _ hx, hρ _ _ hy, eqGuard, binOp, Op.intCmp]
theorem v_eql {k : IntKind} {xt yt : TypeId} {x y : Operand} {m n : Int} (hx : ev e x = some (.int k m)) (hy : ev e y = some (.int k n)) : OpV P (.binOp .eql xt x y yt) e h L (.bool (decide (m = n))) := by
  intro ρ w o hρ _ ho; unfold execOp; rw [ho]; simp [hρ _ _ hx, hρ _ _ hy, eqGuard, binOp, Op.intCmp]; rfl
theorem v_neq {k : IntKind} {xt yt : TypeId} {x y : Operand} {m n : Int} (hx : ev e x = some (.int k m)) (hy : ev e y = some (.int k n)) : OpV P (.binOp .neq xt x y yt) e h L (.bool (decide (m ≠ n))) := by
  intro ρ w o hρ _ ho; unfold execOp; rw [ho]; simp [hρ _ _ hx, hρ _ _ hy, eqGuard, binOp, Op.intCmp]; rfl
theorem v_not {t : TypeId} {x : Operand} {b : Bool} (hx : ev e x = some (.bool b)) : OpV P (.unOp .not t x) e h L (.bool (!b)) := by
  intro ρ w o hρ _ ho; unfold execOp; rw [ho]; simp [hρ _ _ hx, Op.unary]
theorem v_notd {t : TypeId} {x : Operand} {p : Prop} [Decidable p] (hx : ev e x = some (.bool (decide p))) : OpV P (.unOp .not t x) e h L (.bool (decide (¬p))) := by
  have := v_not (P := P) (h := h) (L := L) (t := t) hx; simpa using this
theorem v_neg {k : IntKind} {t : TypeId} {x : Operand} {m z : Int} (hx : ev e x = some (.int k m)) (hz : k.wrap (0 - m) = z) : OpV P (.unOp .neg t x) e h L (.int k z) := by
  intro ρ w o hρ _ ho; unfold execOp; rw [ho]; simp only [hρ _ _ hx, Op.unary, Op.intArith]; simp [← hz]
theorem v_conv {s d : TypeId} {k k' : IntKind} {x : Operand} {m z : Int} {du : TypeDesc} (hu : Und P s du) (hu' : Und P d (.int k')) (hx : ev e x = some (.int k m)) (hz : k'.wrap m = z) : OpV P (.convert s d x) e h L (.int k' z) := by
  intro ρ w o hρ _ ho; unfold execOp; rw [ho]; cases du <;> simp [hρ _ _ hx, convert, hu.run, hu'.run, Conv.intToInt, hz]

/-! strings -/
theorem v_seql {xt yt : TypeId} {x y : Operand} {a b : ByteArray} (hx : ev e x = some (.string a)) (hy : ev e y = some (.string b)) : OpV P (.binOp .eql xt x y yt) e h L (.bool (a.toList == b.toList)) := by
  intro ρ w o hρ _ ho; unfold execOp; rw [ho]; simp [hρ _ _ hx, hρ _ _ hy, eqGuard, binOp, Op.stringOp]
theorem v_sneq {xt yt : TypeId} {x y : Operand} {a b : ByteArray} (hx : ev e x = some (.string a)) (hy : ev e y = some (.string b)) : OpV P (.binOp .neq xt x y yt) e h L (.bool (!(a.toList == b.toList))) := by
  intro ρ w o hρ _ ho; unfold execOp; rw [ho]; simp [hρ _ _ hx, hρ _ _ hy, eqGuard, binOp, Op.stringOp]

/-! parts -/
theorem v_extract {x : Operand} {i : Nat} {vs : List Value} {v : Value} (hx : ev e x = some (.tuple ⟨vs⟩)) (hi : vs[i]? = some v) : OpV P (.extract x i) e h L v := by
  intro ρ w o hρ _ ho; unfold execOp; rw [ho]; simp [hρ _ _ hx, Instr.extract, hi]

theorem v_func {fn : Fn} {first cap : Array Operand} {f' c' : List Value} (hf : evs e first.toList = some f') (hc : evs e cap.toList = some c') : OpV P (.makeFunc fn first cap) e h L (.func fn ⟨f'⟩ ⟨c'⟩) := by
  intro ρ w o hρ _ ho
  have key : ∀ (xs : List Operand) vs, evs e xs = some vs → xs.map ρ = vs := by
    intro xs
    induction xs with
    | nil => intro vs hx; simp [evs] at hx; simp [hx]
    | cons x xs ih =>
      intro vs hx
      simp only [evs] at hx
      split at hx
      · rename_i v vs' h1 h2; cases hx; simp [hρ _ _ h1, ih _ h2]
      · cases hx
  have h1 : first.map ρ = ⟨f'⟩ := by rw [← key _ _ hf]; simp [← Array.toList_inj]
  have h2 : cap.map ρ = ⟨c'⟩ := by rw [← key _ _ hc]; simp [← Array.toList_inj]
  unfold execOp; rw [ho]; simp [h1, h2, Instr.makeFunc]

theorem v_iface {t : TypeId} {x : Operand} {v : Value} {d : TypeDesc} (hu : Und P t d) (hd : (match d with | .interface _ => true | _ => false) = false) (hx : ev e x = some v) : OpV P (.makeInterface t x) e h L (.iface t v) := by
  intro ρ w o hρ _ ho; unfold execOp; rw [ho]; cases d <;> simp_all [hρ _ _ hx, Instr.makeInterface, hu.run]

theorem v_nilfunc {x : Operand} {f : FuncId} {a b : Array Value} (hx : ev e x = some (.func (.func f) a b)) : OpV P (.nilCheck x) e h L (.func (.func f) a b) := by
  intro ρ w o hρ _ ho; unfold execOp; rw [ho]; simp [hρ _ _ hx]
theorem v_nilyield {x : Operand} {f : Nat} {a b : Array Value} (hx : ev e x = some (.func (.yield f) a b)) : OpV P (.nilCheck x) e h L (.func (.yield f) a b) := by
  intro ρ w o hρ _ ho; unfold execOp; rw [ho]; simp [hρ _ _ hx]
theorem v_nilptr {x : Operand} {p : Addr} (hx : ev e x = some (.pointer (some p))) : OpV P (.nilCheck x) e h L (.pointer (some p)) := by
  intro ρ w o hρ _ ho; unfold execOp; rw [ho]; simp [hρ _ _ hx]

/-- a part of a row of cells: all of it is laid bare where this reads 'some' -/
def cut : Nat → Nat → List Value → Option (List Value)
  | 0, 0, _ => some []
  | 0, n + 1, v :: l => match cut 0 n l with
    | some r => some (v :: r)
    | none => none
  | 0, _ + 1, [] => none
  | i + 1, n, _ :: l => cut i n l
  | _ + 1, 0, [] => some []
  | _ + 1, _ + 1, [] => none

theorem cut_spec : ∀ {i n : Nat} {l r : List Value}, cut i n l = some r → (l.drop i).take n = r ∧ r.length = n
  | 0, 0, l, r, hr => by cases l <;> simp [cut] at hr <;> simp [← hr]
  | 0, n + 1, v :: l, r, hr => by
    simp only [cut] at hr
    split at hr
    · rename_i r' h1
      cases hr
      have := cut_spec h1
      simp at this
      simp [this.1, this.2]
    · cases hr
  | 0, n + 1, [], r, hr => by simp [cut] at hr
  | i + 1, n, v :: l, r, hr => by simp only [cut] at hr; simpa using cut_spec hr
  | i + 1, 0, [], r, hr => by simp [cut] at hr; simp [← hr]
  | i + 1, n + 1, [], r, hr => by simp [cut] at hr

theorem part_one {t : TypeId} (h1 : One P t) {cs : List Value} {off : Nat} {v : Value} (hv : cs[off]? = some v) (w : World) : (part t ⟨cs⟩ off).run P w = .ok v w := by
  simp [part, h1 w, hv]
theorem part_many {t : TypeId} {n : Nat} (h1 : Many P t n) {cs r : List Value} {off : Nat} (hv : cut off n cs = some r) (w : World) : (part t ⟨cs⟩ off).run P w = .ok (.agg ⟨r⟩) w := by
  simp [part, (h1 w).1, (h1 w).2, ← (cut_spec hv).1]

theorem v_field1 {t : TypeId} {fs : Array Field} {f : Field} {x : Operand} {i : Nat} {cs : List Value} {v : Value} (hu : Und P t (.struct fs)) (hf : fs[i]? = some f) (h1 : One P f.type) (hx : ev e x = some (.agg ⟨cs⟩)) (hv : cs[f.offset]? = some v) : OpV P (.field t x i) e h L v := by
  intro ρ w o hρ _ ho; unfold execOp; rw [ho]; simp [hρ _ _ hx, Instr.field, hu.run, hf, asAgg, part_one h1 hv]
theorem v_fieldn {t : TypeId} {fs : Array Field} {f : Field} {x : Operand} {i n : Nat} {cs r : List Value} (hu : Und P t (.struct fs)) (hf : fs[i]? = some f) (h1 : Many P f.type n) (hx : ev e x = some (.agg ⟨cs⟩)) (hv : cut f.offset n cs = some r) : OpV P (.field t x i) e h L (.agg ⟨r⟩) := by
  intro ρ w o hρ _ ho; unfold execOp; rw [ho]; simp [hρ _ _ hx, Instr.field, hu.run, hf, asAgg, part_many h1 hv]

theorem v_index1 {t et : TypeId} {len size : Nat} {x y : Operand} {k : IntKind} {i : Int} {cs : List Value} {v : Value} (hu : Und P t (.array len et)) (hs : Siz P et size) (h1 : One P et) (hx : ev e x = some (.agg ⟨cs⟩)) (hy : ev e y = some (.int k i)) (h0 : 0 ≤ i) (hl : i < len) (hv : cs[i.toNat * size]? = some v) : OpV P (.index t x y) e h L v := by
  intro ρ w o hρ _ ho; unfold execOp; rw [ho]; simp [hρ _ _ hx, hρ _ _ hy, Instr.index, asIntOf, hu.run, hs.run, h0, hl, part_one h1 hv]

theorem add_none (b off n : Nat) : (⟨b, off, none⟩ : Addr).add n = ⟨b, off + n, none⟩ := by
  unfold Addr.add; split <;> simp_all

/-- where a field of a struct in memory lies -/
theorem v_faddr {t : TypeId} {fs : Array Field} {f : Field} {x : Operand} {i b off sz : Nat} (hu : Und P t (.struct fs)) (hf : fs[i]? = some f) (hz : Siz P f.type (sz + 1)) (hx : ev e x = some (.pointer (some ⟨b, off, none⟩))) : OpV P (.fieldAddr t x i) e h L (.pointer (some ⟨b, off + f.offset, none⟩)) := by
  intro ρ w o hρ _ ho; unfold execOp; rw [ho]
  simp [hρ _ _ hx, Instr.fieldAt, hu.run, hf, Instr.sureAddr, fieldPlace, hz.run, add_none]

/-- where an element of a slice lies -/
theorem v_iaddrs {t et : TypeId} {x y : Operand} {k : IntKind} {i : Int} {b off len cap size n : Nat} (hu : Und P t (.slice et)) (hs : Siz P et size) (hx : ev e x = some (.slice (some ⟨b, off, none⟩) len cap)) (hy : ev e y = some (.int k i)) (hn : i = (n : Int)) (hl : n < len) : OpV P (.indexAddr t x y) e h L (.pointer (some ⟨b, off + n * size, none⟩)) := by
  subst hn
  intro ρ w o hρ _ ho; unfold execOp; rw [ho]
  simp [hρ _ _ hx, hρ _ _ hy, Instr.indexAt, asIntOf, hu.run, hs.run, hl, add_none]
/-- where an element of an array in memory lies -/
theorem v_iaddra {t et : TypeId} {x y : Operand} {k : IntKind} {i : Int} {b off len size n : Nat} (hu : Und P t (.array len et)) (hs : Siz P et size) (hx : ev e x = some (.pointer (some ⟨b, off, none⟩))) (hy : ev e y = some (.int k i)) (hn : i = (n : Int)) (hl : n < len) : OpV P (.indexAddr t x y) e h L (.pointer (some ⟨b, off + n * size, none⟩)) := by
  subst hn
  intro ρ w o hρ _ ho; unfold execOp; rw [ho]
  simp [hρ _ _ hx, hρ _ _ hy, Instr.indexAt, asIntOf, hu.run, hs.run, hl, add_none, Instr.sureAddr]

/-- what is known of a block -/
def Kn (h : Heap) (L : Owned) (b : Nat) (o : Obj) : Prop := h b = some o ∨ (b, o) ∈ L
theorem Kn.own {L : Owned} {b : Nat} {o : Obj} (i : Nat) (hi : L[i]? = some (b, o)) : Kn h L b o := .inr (List.mem_of_getElem? hi)
theorem Kn.per {b : Nat} {o : Obj} (hb : h b = some o) : Kn h L b o := .inl hb
theorem St.kn {h : Heap} {L : Owned} {w : World} (s : St h L w) {b : Nat} {o : Obj} (hk : Kn h L b o) : w.heap[b]? = some o := by
  rcases hk with hk | hk
  · exact s.per b o hk
  · exact s.own _ hk

theorem run_load_at {w : World} {b off : Nat} {cs : List Value} {T : TypeId} {fr : Nat × Nat} {v : Value} (hb : w.heap[b]? = some (.cells ⟨cs⟩ T fr)) (hv : cs[off]? = some v) : (load ⟨b, off, none⟩).run P w = .ok v w := by
  simp [World.cell?, hb, hv]

theorem run_loadCellsFrom {w : World} {b : Nat} {cs : List Value} {T : TypeId} {fr : Nat × Nat} (hb : w.heap[b]? = some (.cells ⟨cs⟩ T fr)) : ∀ (n i off : Nat) (acc : Array Value) (r : List Value), cut (off + i) n cs = some r → (loadCellsFrom ⟨b, off, none⟩ i n acc).run P w = .ok (acc ++ ⟨r⟩) w := by
  intro n
  induction n with
  | zero =>
    intro i off acc r hr
    have := (cut_spec hr).1
    simp at this
    subst this
    simp [loadCellsFrom]
  | succ n ih =>
    intro i off acc r hr
    have hs := cut_spec hr
    obtain ⟨v, r', rfl⟩ : ∃ v r', r = v :: r' := by
      cases r with
      | nil => simp at hs
      | cons v r' => exact ⟨v, r', rfl⟩
    have h1 : cs[off + i]? = some v := by
      have := congrArg List.head? hs.1
      simp [List.head?_take, List.head?_drop] at this
      exact this
    have h2 : cut (off + (i + 1)) n cs = some r' := by
      have hc : ∀ (i n : Nat) (l : List Value) (v : Value) (r : List Value), cut i (n + 1) l = some (v :: r) → cut (i + 1) n l = some r := by
        intro i
        induction i with
        | zero =>
          intro n l v r hh
          cases l with
          | nil => simp [cut] at hh
          | cons a l =>
            simp only [cut] at hh ⊢
            split at hh
            · rename_i r1 h3; cases hh; exact h3
            · cases hh
        | succ i ihh =>
          intro n l v r hh
          cases l with
          | nil => simp [cut] at hh
          | cons a l => simp only [cut] at hh ⊢; exact ihh n l v r hh
      exact hc _ _ _ _ _ hr
    simp only [loadCellsFrom, Sem.run_bind, add_none]
    rw [run_load_at hb h1]
    simp only [Result.andThen_ok]
    rw [ih (i + 1) off _ r' h2]
    simp

theorem run_loadCells {w : World} {b off n : Nat} {cs r : List Value} {T : TypeId} {fr : Nat × Nat} (hb : w.heap[b]? = some (.cells ⟨cs⟩ T fr)) (hv : cut off n cs = some r) : (loadCells ⟨b, off, none⟩ n).run P w = .ok ⟨r⟩ w := by
  have := run_loadCellsFrom (P := P) hb n 0 off #[] r hv
  simpa [loadCells] using this

theorem v_load1 {t T : TypeId} {x : Operand} {b off : Nat} {cs : List Value} {fr : Nat × Nat} {v : Value} (h1 : One P t) (hx : ev e x = some (.pointer (some ⟨b, off, none⟩))) (hk : Kn h L b (.cells ⟨cs⟩ T fr)) (hv : cs[off]? = some v) : OpV P (.load t x) e h L v := by
  intro ρ w o hρ hs ho; unfold execOp; rw [ho]
  have := run_load_at (P := P) (hs.kn hk) hv
  simp only [hρ _ _ hx, Instr.loadAt, Instr.sureAddr, loadVar, Sem.run_bind, Sem.run_pure, Result.andThen_ok, h1 w, Bool.false_eq_true, if_false, this]
theorem v_loadn {t T : TypeId} {x : Operand} {b off n : Nat} {cs r : List Value} {fr : Nat × Nat} (h1 : Many P t n) (hx : ev e x = some (.pointer (some ⟨b, off, none⟩))) (hk : Kn h L b (.cells ⟨cs⟩ T fr)) (hv : cut off n cs = some r) : OpV P (.load t x) e h L (.agg ⟨r⟩) := by
  intro ρ w o hρ hs ho; unfold execOp; rw [ho]
  have := run_loadCells (P := P) (hs.kn hk) hv
  simp only [hρ _ _ hx, Instr.loadAt, Instr.sureAddr, loadVar, Sem.run_bind, Sem.run_pure, Result.andThen_ok, (h1 w).1, (h1 w).2, if_true, this]

/-! built-in functions that only read -/
theorem v_lens {t : TypeId} {x : Operand} {a : Option Addr} {n cap : Nat} {et : TypeId} (hu : Und P t (.slice et)) (hx : ev e x = some (.slice a n cap)) : OpV P (.call ⟨.builtin .len, #[x], #[t]⟩) e h L (.int .i64 n) := by
  intro ρ w o hρ _ ho; unfold execOp; rw [ho]
  simp [hρ _ _ hx, resolve, invoke, builtin, Builtin.len_, hu.run, goInt]
theorem v_lenstr {t : TypeId} {x : Operand} {s : ByteArray} (hu : Und P t .string) (hx : ev e x = some (.string s)) : OpV P (.call ⟨.builtin .len, #[x], #[t]⟩) e h L (.int .i64 s.size) := by
  intro ρ w o hρ _ ho; unfold execOp; rw [ho]
  simp [hρ _ _ hx, resolve, invoke, builtin, Builtin.len_, hu.run, goInt]
theorem v_lenarr {t et : TypeId} {n : Nat} {x : Operand} {v : Value} (hu : Und P t (.array n et)) (hx : ev e x = some v) : OpV P (.call ⟨.builtin .len, #[x], #[t]⟩) e h L (.int .i64 n) := by
  intro ρ w o hρ _ ho; unfold execOp; rw [ho]
  simp [hρ _ _ hx, resolve, invoke, builtin, Builtin.len_, hu.run, goInt]
theorem v_lenmap {t kt et : TypeId} {x : Operand} {b : Nat} {es : Array MapEntry} {ck : Nat} (hu : Und P t (.map kt et)) (hx : ev e x = some (.map (some b))) (hk : Kn h L b (.map es ck)) : OpV P (.call ⟨.builtin .len, #[x], #[t]⟩) e h L (.int .i64 es.size) := by
  intro ρ w o hρ hs ho; unfold execOp; rw [ho]
  have := hs.kn hk
  simp [hρ _ _ hx, resolve, invoke, builtin, Builtin.len_, hu.run, goInt, getObj, Sem.run, this]
theorem v_lenmapn {t kt et : TypeId} {x : Operand} (hu : Und P t (.map kt et)) (hx : ev e x = some (.map none)) : OpV P (.call ⟨.builtin .len, #[x], #[t]⟩) e h L (.int .i64 0) := by
  intro ρ w o hρ _ ho; unfold execOp; rw [ho]
  simp [hρ _ _ hx, resolve, invoke, builtin, Builtin.len_, hu.run, goInt]
theorem v_cap {t : TypeId} {x : Operand} {a : Option Addr} {n cap : Nat} {et : TypeId} (hu : Und P t (.slice et)) (hx : ev e x = some (.slice a n cap)) : OpV P (.call ⟨.builtin .cap, #[x], #[t]⟩) e h L (.int .i64 cap) := by
  intro ρ w o hρ _ ho; unfold execOp; rw [ho]
  simp [hρ _ _ hx, resolve, invoke, builtin, Builtin.cap_, hu.run, goInt]
theorem v_max2 {ts : Array TypeId} {x y : Operand} {k k' : IntKind} {m n : Int} (hx : ev e x = some (.int k m)) (hy : ev e y = some (.int k' n)) : OpV P (.call ⟨.builtin .max, #[x, y], ts⟩) e h L (.int k (if n > m then n else m)) := by
  intro ρ w o hρ _ ho; unfold execOp; rw [ho]
  simp [hρ _ _ hx, hρ _ _ hy, resolve, invoke, builtin, Builtin.max_, Builtin.max2]
theorem v_min2 {ts : Array TypeId} {x y : Operand} {k k' : IntKind} {m n : Int} (hx : ev e x = some (.int k m)) (hy : ev e y = some (.int k' n)) : OpV P (.call ⟨.builtin .min, #[x, y], ts⟩) e h L (.int k (if n < m then n else m)) := by
  intro ρ w o hρ _ ho; unfold execOp; rw [ho]
  simp [hρ _ _ hx, hρ _ _ hy, resolve, invoke, builtin, Builtin.min_, Builtin.min2]

/-! slices of slices -/
/-- a bound of a slice expression, or what stands for it -/
def Bnd (e : Env) (x : Option Operand) (d n : Nat) : Prop := match x with
  | none => n = d
  | some y => ∃ k, ev e y = some (.int k (n : Int))
theorem Bnd.none {e : Env} {d : Nat} : Bnd e none d d := rfl
theorem Bnd.some {e : Env} {y : Operand} {d n : Nat} {k : IntKind} {i : Int} (hy : ev e y = some (.int k i)) (hi : i = (n : Int)) : Bnd e (some y) d n := ⟨k, by rw [hy, hi]⟩

theorem run_bounds {ρ : Operand → Value} {w : World} (hρ : ∀ x u, ev e x = some u → ρ x = u) {lo hi : Option Operand} {isS : Bool} {len cap l m : Nat} (h1 : Bnd e lo 0 l) (h2 : Bnd e hi len m) (hl : l ≤ m) (hm : m ≤ cap) : (Instr.sliceBounds isS len cap (lo.map ρ) (hi.map ρ) none).run P w = .ok (l, m, cap) w := by
  cases lo with
  | none =>
    have h1 : l = 0 := h1
    subst h1
    cases hi with
    | none => have h2 : m = len := h2; subst h2; simp [Instr.sliceBounds]
    | some y => obtain ⟨k, hy⟩ := h2; simp [Instr.sliceBounds, Instr.sliceBound, hρ _ _ hy, asIntOf]; omega
  | some x =>
    obtain ⟨k, hx⟩ := h1
    cases hi with
    | none => have h2 : m = len := h2; subst h2; simp [Instr.sliceBounds, Instr.sliceBound, hρ _ _ hx, asIntOf]; omega
    | some y => obtain ⟨k', hy⟩ := h2; simp [Instr.sliceBounds, Instr.sliceBound, hρ _ _ hy, hρ _ _ hx, asIntOf]; rw [if_pos (by omega)]; simp; omega

theorem v_slices {t et : TypeId} {x : Operand} {lo hi : Option Operand} {b off len cap size l m : Nat} (hu : Und P t (.slice et)) (hs : Siz P et size) (hx : ev e x = some (.slice (some ⟨b, off, none⟩) len cap)) (h1 : Bnd e lo 0 l) (h2 : Bnd e hi len m) (hl : l ≤ m) (hm : m ≤ cap) :
    OpV P (.slice t x lo hi none) e h L (.slice (some ⟨b, if cap = l then off else off + l * size, none⟩) (m - l) (cap - l)) := by
  intro ρ w o hρ _ ho; unfold execOp; rw [ho]
  simp [hρ _ _ hx, Instr.sliceAt, Instr.slice, hu.run, run_bounds hρ h1 h2 hl hm, hs.run, add_none]
  split <;> simp
theorem v_slicesn {t et : TypeId} {x : Operand} {lo hi : Option Operand} {size : Nat} (hu : Und P t (.slice et)) (hs : Siz P et size) (hx : ev e x = some (.slice none 0 0)) (h1 : Bnd e lo 0 0) (h2 : Bnd e hi 0 0) :
    OpV P (.slice t x lo hi none) e h L (.slice none 0 0) := by
  intro ρ w o hρ _ ho; unfold execOp; rw [ho]
  simp [hρ _ _ hx, Instr.sliceAt, Instr.slice, hu.run, run_bounds hρ h1 h2 (Nat.le_refl 0) (Nat.le_refl 0), hs.run]
theorem v_slicea {t et : TypeId} {x : Operand} {lo hi : Option Operand} {b off len size l m : Nat} (hu : Und P t (.array len et)) (hs : Siz P et size) (hx : ev e x = some (.pointer (some ⟨b, off, none⟩))) (h1 : Bnd e lo 0 l) (h2 : Bnd e hi len m) (hl : l ≤ m) (hm : m ≤ len) :
    OpV P (.slice t x lo hi none) e h L (.slice (some ⟨b, if len = l then off else off + l * size, none⟩) (m - l) (len - l)) := by
  intro ρ w o hρ _ ho; unfold execOp; rw [ho]
  simp [hρ _ _ hx, Instr.sliceAt, hu.run, run_bounds hρ h1 h2 hl hm, hs.run, add_none, Instr.sureAddr]
  split <;> simp
/-- the whole of an array in memory -/
theorem v_slicea0 {t et : TypeId} {x : Operand} {b off len size : Nat} (hu : Und P t (.array len et)) (hs : Siz P et size) (hx : ev e x = some (.pointer (some ⟨b, off, none⟩))) :
    OpV P (.slice t x none none none) e h L (.slice (some ⟨b, off, none⟩) len len) := by
  have := v_slicea (P := P) (h := h) (L := L) (lo := none) (hi := none) (l := 0) (m := len) hu hs hx rfl rfl (Nat.zero_le _) (Nat.le_refl _)
  simpa using this
/-- a slice's beginning -/
theorem v_slices0 {t et : TypeId} {x : Operand} {hi : Option Operand} {b off len cap size m : Nat} (hu : Und P t (.slice et)) (hs : Siz P et size) (hx : ev e x = some (.slice (some ⟨b, off, none⟩) len cap)) (h2 : Bnd e hi len m) (hm : m ≤ cap) :
    OpV P (.slice t x none hi none) e h L (.slice (some ⟨b, off, none⟩) m cap) := by
  have := v_slices (P := P) (h := h) (L := L) (lo := none) (l := 0) hu hs hx rfl h2 (Nat.zero_le _) hm
  simpa using this
theorem v_slicestr {t : TypeId} {x : Operand} {lo hi : Option Operand} {s : ByteArray} {l m : Nat} (hu : Und P t .string) (hx : ev e x = some (.string s)) (h1 : Bnd e lo 0 l) (h2 : Bnd e hi s.size m) (hl : l ≤ m) (hm : m ≤ s.size) :
    OpV P (.slice t x lo hi none) e h L (.string (s.extract l m)) := by
  intro ρ w o hρ _ ho; unfold execOp; rw [ho]
  simp [hρ _ _ hx, Instr.sliceAt, Instr.slice, hu.run, run_bounds hρ h1 h2 hl hm]

/-! bytes -/
def byteV (b : UInt8) : Value := .int .u8 b.toNat
theorem run_forIn_bytes (f : Value → ByteArray → Sem (ForInStep ByteArray)) (hf : ∀ b r, f (byteV b) r = pure (.yield (r.push b))) (w : World) : ∀ (bs : List UInt8) (acc : ByteArray), (forIn (m := Sem) (bs.map byteV) acc f).run P w = .ok ⟨acc.data ++ ⟨bs⟩⟩ w := by
  intro bs
  induction bs with
  | nil => intro acc; simp
  | cons b bs ih =>
    intro acc
    simp only [List.map_cons, List.forIn_cons, hf, Sem.run_bind, Sem.run_pure, Result.andThen_ok]
    refine Eq.trans (ih (acc.push b)) ?_
    show Result.ok (ByteArray.mk ((acc.data.push b) ++ _)) w = _
    simp
/-- 'string(b)' of a slice of bytes that is known -/
theorem v_tostr {s d et : TypeId} {x : Operand} {b off n cap : Nat} {cs : List Value} {T : TypeId} {fr : Nat × Nat} {bs : List UInt8} (hu : Und P s (.slice et)) (hu' : Und P d .string) (hue : Und P et (.int .u8)) (hx : ev e x = some (.slice (some ⟨b, off, none⟩) n cap)) (hk : Kn h L b (.cells ⟨cs⟩ T fr)) (hv : cut off n cs = some (bs.map byteV)) :
    OpV P (.convert s d x) e h L (.string ⟨⟨bs⟩⟩) := by
  intro ρ w o hρ hs ho; unfold execOp; rw [ho]
  have hl := run_loadCells (P := P) (hs.kn hk) hv
  simp only [hρ _ _ hx, convert, hu.run, hu'.run, hue.run, Sem.run_bind, Result.andThen_ok, Conv.bytesToString, hl]
  rw [List.forIn_toArray, run_forIn_bytes _ (by intro b r; simp [byteV])]
  have he : (ByteArray.empty).data = #[] := rfl
  simp [he]
theorem v_tostrn {s d et : TypeId} {x : Operand} {n cap : Nat} (hu : Und P s (.slice et)) (hu' : Und P d .string) (hue : Und P et (.int .u8)) (hx : ev e x = some (.slice none n cap)) :
    OpV P (.convert s d x) e h L (.string ⟨⟨[]⟩⟩) := by
  intro ρ w o hρ hs ho; unfold execOp; rw [ho]
  simp only [hρ _ _ hx, convert, hu.run, hu'.run, hue.run, Conv.bytesToString, Sem.run_bind, Result.andThen_ok, Sem.run_pure]
  rfl
/-- a conversion between types of strings -/
theorem v_strstr {s d : TypeId} {x : Operand} {bs : ByteArray} (hu : Und P s .string) (hu' : Und P d .string) (hx : ev e x = some (.string bs)) :
    OpV P (.convert s d x) e h L (.string bs) := by
  intro ρ w o hρ hs ho; unfold execOp; rw [ho]
  simp [hρ _ _ hx, convert, hu.run, hu'.run]
/-- indexing a string -/
theorem v_indexstr {t : TypeId} {x y : Operand} {k : IntKind} {i : Int} {n : Nat} {s : ByteArray} {b : UInt8} (hu : Und P t .string) (hx : ev e x = some (.string s)) (hy : ev e y = some (.int k i)) (hn : i = (n : Int)) (hb : s[n]? = some b) : OpV P (.index t x y) e h L (byteV b) := by
  subst hn
  intro ρ w o hρ _ ho; unfold execOp; rw [ho]; simp [hρ _ _ hx, hρ _ _ hy, Instr.index, asIntOf, hu.run, hb, byteV]
end
end Go.Proofs.Ch

/- The operations that make or write memory. No program is named here. -/
namespace Go.Proofs.Ch
open Go

section
variable {h : Heap} {L : Owned} {w : World}

theorem St.alloc (s : St h L w) (o : Obj) : St h ((w.heap.size, o) :: L) { w with heap := w.heap.push o } := by
  have hlt : ∀ (b : Nat) (o' : Obj), w.heap[b]? = some o' → b < w.heap.size := fun b o' hb => (Array.getElem?_eq_some_iff.1 hb).1
  have keep : ∀ (b : Nat) (o' : Obj), w.heap[b]? = some o' → (w.heap.push o)[b]? = some o' := by
    intro b o' hb
    rw [Array.getElem?_push, if_neg (Nat.ne_of_lt (hlt b o' hb))]
    exact hb
  refine ⟨fun b o' hb => keep b o' (s.per b o' hb), ?_, ?_, ?_, s.os, s.out⟩
  · intro p hp
    cases hp with
    | head => simp
    | tail _ hp => exact keep _ _ (s.own p hp)
  · intro p hp
    cases hp with
    | head =>
      cases hx : h w.heap.size with
      | none => rfl
      | some o' => exact absurd (hlt _ _ (s.per _ _ hx)) (Nat.lt_irrefl _)
    | tail _ hp => exact s.sep p hp
  · simp only [List.map_cons, List.nodup_cons]
    refine ⟨?_, s.nd⟩
    intro hm
    obtain ⟨p, hp, he⟩ := List.mem_map.1 hm
    have := hlt _ _ (s.own p hp)
    rw [he] at this
    exact absurd this (Nat.lt_irrefl _)

theorem St.drew (s : St h L w) (d : Nat) : St h L { w with drawn := d } := ⟨s.per, s.own, s.sep, s.nd, s.os, s.out⟩

/-- one of the call's own blocks is another now -/
theorem St.set {A B : Owned} {b : Nat} {o : Obj} (s : St h (A ++ (b, o) :: B) w) (o' : Obj) {w' : World} (hw : w'.heap[b]? = some o') (hr : ∀ c : Nat, c ≠ b → w'.heap[c]? = w.heap[c]?) (ho : w'.os = w.os := by rfl) (hu : w'.output = w.output := by rfl) : St h (A ++ (b, o') :: B) w' := by
  have hb : h b = none := s.sep (b, o) (by simp)
  have hnd := s.nd
  simp only [List.map_append, List.map_cons] at hnd
  refine ⟨?_, ?_, ?_, ?_, ho.trans s.os, hu.trans s.out⟩
  · intro c o1 hc
    have hne : c ≠ b := by rintro rfl; rw [hb] at hc; cases hc
    rw [hr c hne]; exact s.per c o1 hc
  · intro p hp
    have hcase : p = (b, o') ∨ (p ∈ A ++ (b, o) :: B ∧ p.1 ≠ b) := by
      rcases List.mem_append.1 hp with hp | hp
      · refine .inr ⟨List.mem_append.2 (.inl hp), ?_⟩
        intro he
        have h1 : b ∈ A.map Prod.fst := he ▸ List.mem_map_of_mem hp
        rw [List.nodup_append] at hnd
        exact hnd.2.2 b h1 b (by simp) rfl
      · rcases List.mem_cons.1 hp with rfl | hp
        · exact .inl rfl
        · refine .inr ⟨List.mem_append.2 (.inr (List.mem_cons_of_mem _ hp)), ?_⟩
          intro he
          have h1 : b ∈ B.map Prod.fst := he ▸ List.mem_map_of_mem hp
          rw [List.nodup_append] at hnd
          exact (List.nodup_cons.1 hnd.2.1).1 h1
    rcases hcase with rfl | ⟨hp, hne⟩
    · exact hw
    · rw [hr p.1 hne]; exact s.own p hp
  · intro p hp
    rcases List.mem_append.1 hp with hp | hp
    · exact s.sep p (by simp [hp])
    · rcases List.mem_cons.1 hp with rfl | hp
      · exact hb
      · exact s.sep p (by simp [hp])
  · simp only [List.map_append, List.map_cons]; exact hnd

theorem St.perm {L' : Owned} (hp : L.Perm L') (s : St h L w) : St h L' w :=
  ⟨s.per, fun p hm => s.own p (hp.mem_iff.2 hm), fun p hm => s.sep p (hp.mem_iff.2 hm), (hp.map _).nodup_iff.1 s.nd, s.os, s.out⟩
theorem St.sub {L' : Owned} (hp : L'.Sublist L) (s : St h L w) : St h L' w :=
  ⟨s.per, fun p hm => s.own p (hp.mem hm), fun p hm => s.sep p (hp.mem hm), s.nd.sublist (hp.map _), s.os, s.out⟩
theorem St.weak {h' : Heap} (hh : Heap.le h' h) (s : St h L w) : St h' L w :=
  ⟨fun b o hb => s.per b o (hh b o hb), s.own, fun p hm => (by
    cases hx : h' p.1 with
    | none => rfl
    | some o => have := hh _ _ hx; rw [s.sep p hm] at this; cases this), s.nd, s.os.trans hh.os, s.out.trans hh.out⟩

/-- one of the call's own blocks stays as it is from now on -/
def Heap.with (h : Heap) (b : Nat) (o : Obj) : Heap := { h with f := fun c => if c = b then some o else h c }
theorem St.freeze {b : Nat} {o : Obj} (s : St h ((b, o) :: L) w) : St (h.with b o) L w ∧ Heap.le h (h.with b o) ∧ h.with b o b = some o := by
  have hb : h b = none := s.sep (b, o) (by simp)
  have hnd := List.nodup_cons.1 s.nd
  refine ⟨⟨?_, fun p hm => s.own p (List.mem_cons_of_mem _ hm), ?_, hnd.2, s.os, s.out⟩, ⟨?_, rfl, rfl⟩, by simp [Heap.with]⟩
  · intro c o' hc
    simp only [Heap.with] at hc
    split at hc
    · rename_i he; cases hc; subst he; exact s.own (c, o) (by simp)
    · exact s.per c o' hc
  · intro p hm
    have hne : p.1 ≠ b := fun he => hnd.1 (by have := List.mem_map_of_mem (f := Prod.fst) hm; rw [he] at this; exact this)
    simp [Heap.with, hne, s.sep p (List.mem_cons_of_mem _ hm)]
  · intro c o' hc
    have hne : c ≠ b := by rintro rfl; rw [hb] at hc; cases hc
    simp [Heap.with, hne, hc]
end

section
variable {C : Cx} {R : Pst} {k : List K} {e : Env} {ds : List Deferred} {h : Heap} {L : Owned} {ops : Array Oper} {l : List Oper} {Q : Pst}

theorem WL_perm {L' : Owned} (hp : L.Perm L') (H : WL C ops l Q e ds h L') : WL C ops l Q e ds h L := WL_less (fun _ _ x => x) (fun _ s => s.perm hp) H
theorem WL_weak {h' : Heap} (hh : Heap.le h' h) (H : WL C ops l Q e ds h' L) : WL C ops l Q e ds h L := WL_less (fun _ _ x => x) (fun _ s => s.weak hh) H
theorem WL_drop {L' : Owned} (hp : L'.Sublist L) (H : WL C ops l Q e ds h L') : WL C ops l Q e ds h L := WL_less (fun _ _ x => x) (fun _ s => s.sub hp) H
theorem WL_freeze {b : Nat} {o : Obj} (H : ∀ h', Heap.le h h' → h' b = some o → WL C ops l Q e ds h' L) : WL C ops l Q e ds h ((b, o) :: L) :=
  fun i hi a w he hs => let ⟨s, x, y⟩ := hs.freeze; H _ x y i hi a w he s
theorem WL_st {P : Prop} (hp : ∀ w, St h L w → P) (H : P → WL C ops l Q e ds h L) : WL C ops l Q e ds h L := fun i hi a w he hs => H (hp w hs) i hi a w he hs

variable {c : Code}
theorem den_perm {L' : Owned} (hp : L.Perm L') (H : den C R (.code c :: k) .normal e ds h L') : den C R (.code c :: k) .normal e ds h L := den_less (fun _ _ x => x) (fun _ s => s.perm hp) H
theorem den_weak {h' : Heap} (hh : Heap.le h' h) (H : den C R (.code c :: k) .normal e ds h' L) : den C R (.code c :: k) .normal e ds h L := den_less (fun _ _ x => x) (fun _ s => s.weak hh) H
theorem den_drop {L' : Owned} (hp : L'.Sublist L) (H : den C R (.code c :: k) .normal e ds h L') : den C R (.code c :: k) .normal e ds h L := den_less (fun _ _ x => x) (fun _ s => s.sub hp) H
theorem den_freeze {b : Nat} {o : Obj} (H : ∀ h', Heap.le h h' → h' b = some o → den C R (.code c :: k) .normal e ds h' L) : den C R (.code c :: k) .normal e ds h ((b, o) :: L) :=
  fun a w he hs => let ⟨s, x, y⟩ := hs.freeze; H _ x y a w he s
theorem den_env {e' : Env} (he : ∀ t v, look e' t = some v → look e t = some v) (H : den C R (.code c :: k) .normal e' ds h L) : den C R (.code c :: k) .normal e ds h L := den_less he (fun _ s => s) H

/-! making memory -/
/-- An operation that lays one new block and hands back what f says of its number. -/
theorem op1_new {o : Oper} {ob : Obj} {f : Nat → Value} (hr : ∀ (ρ : Operand → Value) (w : World), (∀ x u, ev e x = some u → ρ x = u) → St h L w → ∃ d, (execOp ρ o).run C.P w = .ok (.value (f w.heap.size)) { w with heap := w.heap.push ob, drawn := d }) :
    Op1 C o e h L (fun v h' L' => ∃ b, v = f b ∧ h' = h ∧ L' = (b, ob) :: L) := by
  intro ds a w next Q he hs H
  refine ⟨fun _ _ => trivial, ?_⟩
  obtain ⟨d, hr⟩ := hr a.eval w (fun x u hx => he.eval hx) hs
  rw [Oper.semAt_eq _ _ _ (not_defer hr), hr]
  exact H _ h _ _ ⟨_, rfl, rfl, rfl⟩ ((hs.alloc ob).drew d)

theorem WL_new {o : Oper} {ob : Obj} {f : Nat → Value} (ho : Op1 C o e h L (fun v h' L' => ∃ b, v = f b ∧ h' = h ∧ L' = (b, ob) :: L)) (hg : o.guard = none) (hd : dstOk o.dst C.n = true)
    (H : ∀ b, WL C ops l Q (put o.dst (f b) e) ds h ((b, ob) :: L)) : WL C ops (o :: l) Q e ds h L :=
  WL_op ho hg hd (by rintro v h' L' ⟨b, rfl, rfl, rfl⟩; exact H b)

theorem o_alloc {d : Option Tmp} {T ty : TypeId} {pos : String} {af : Array Edge} {g : Option (Nat × Bool)} {z : Value} {zs : List Value} (hz : Zer C.P T z) (hc : z.cells = ⟨zs⟩) :
    Op1 C ⟨d, .alloc T, ty, pos, af, g⟩ e h L (fun v h' L' => ∃ b, v = .pointer (some ⟨b, 0, none⟩) ∧ h' = h ∧ L' = (b, .cells ⟨zs⟩ T (0, 0)) :: L) :=
  op1_new (f := fun b => .pointer (some ⟨b, 0, none⟩)) fun ρ w _ _ => ⟨w.drawn, by
    unfold execOp
    simp [Instr.alloc, hz.run, newVar, newRow, hc]⟩

theorem o_box {d : Option Tmp} {T ty : TypeId} {pos : String} {af : Array Edge} {g : Option (Nat × Bool)} {x : Operand} {v : Value} {zs : List Value} (hx : ev e x = some v) (hc : v.cells = ⟨zs⟩) :
    Op1 C ⟨d, .box T x, ty, pos, af, g⟩ e h L (fun v h' L' => ∃ b, v = .pointer (some ⟨b, 0, none⟩) ∧ h' = h ∧ L' = (b, .cells ⟨zs⟩ T (0, 0)) :: L) :=
  op1_new (f := fun b => .pointer (some ⟨b, 0, none⟩)) fun ρ w hρ _ => ⟨w.drawn, by
    unfold execOp
    simp [Instr.box, newVar, newRow, hc, hρ _ _ hx]⟩

/-! filling a row -/
/-- vs, laid over l from i on -/
def spl : Nat → List Value → List Value → Option (List Value)
  | 0, [], l => some l
  | 0, v :: vs, _ :: l => match spl 0 vs l with
    | some r => some (v :: r)
    | none => none
  | 0, _ :: _, [] => none
  | i + 1, vs, a :: l => match spl i vs l with
    | some r => some (a :: r)
    | none => none
  | _ + 1, [], [] => some []
  | _ + 1, _ :: _, [] => none

theorem spl_spec : ∀ {i : Nat} {vs l r : List Value}, spl i vs l = some r → r.length = l.length ∧ (vs ≠ [] → i + vs.length ≤ l.length) ∧ ∀ j, r[j]? = if i ≤ j ∧ j < i + vs.length then vs[j - i]? else l[j]?
  | 0, [], l, r, hr => by
    simp only [spl] at hr; cases hr
    refine ⟨rfl, fun h => absurd rfl h, fun j => ?_⟩
    rw [if_neg (by simp)]
  | 0, v :: vs, a :: l, r, hr => by
    simp only [spl] at hr
    split at hr
    · rename_i r' h1
      cases hr
      obtain ⟨h2, h3, h4⟩ := spl_spec h1
      refine ⟨by simp [h2], fun _ => ?_, fun j => ?_⟩
      · by_cases hv : vs = []
        · subst hv; simp
        · have := h3 hv; simp at this ⊢; omega
      · cases j with
        | zero => simp
        | succ j =>
          have := h4 j
          simp only [List.getElem?_cons_succ, this, Nat.zero_le, true_and, Nat.zero_add, List.length_cons, Nat.sub_zero]
          by_cases hj : j < vs.length
          · rw [if_pos hj, if_pos (by omega)]
          · rw [if_neg hj, if_neg (by omega)]
    · cases hr
  | 0, _ :: _, [], r, hr => by simp [spl] at hr
  | i + 1, vs, a :: l, r, hr => by
    simp only [spl] at hr
    split at hr
    · rename_i r' h1
      cases hr
      obtain ⟨h2, h3, h4⟩ := spl_spec h1
      refine ⟨by simp [h2], fun hv => by have := h3 hv; simp; omega, fun j => ?_⟩
      cases j with
      | zero => simp
      | succ j =>
        have := h4 j
        simp only [List.getElem?_cons_succ, this]
        by_cases hj : i ≤ j ∧ j < i + vs.length
        · rw [if_pos hj, if_pos (by omega)]; congr 1; omega
        · rw [if_neg hj, if_neg (by omega)]
    · cases hr
  | i + 1, [], [], r, hr => by
    simp only [spl] at hr; cases hr
    refine ⟨rfl, fun h => absurd rfl h, fun j => by simp⟩
  | i + 1, _ :: _, [], r, hr => by simp [spl] at hr

theorem spl_fold {i : Nat} {vs l r : List Value} (hr : spl i vs l = some r) : (⟨vs⟩ : Array Value).zipIdx.foldl (fun cs (x : Value × Nat) => cs.setIfInBounds (i + x.2) x.1) (⟨l⟩ : Array Value) = ⟨r⟩ := by
  have key : ∀ (vs : List Value) (n : Nat) (acc : Array Value), ∀ j, ((vs.zipIdx n).foldl (fun cs (x : Value × Nat) => cs.setIfInBounds (i + x.2) x.1) acc)[j]? = if i + n ≤ j ∧ j < i + n + vs.length ∧ j < acc.size then vs[j - (i + n)]? else acc[j]? := by
    intro vs
    induction vs with
    | nil => intro n acc j; simp; intro a b; omega
    | cons v vs ih =>
      intro n acc j
      simp only [List.zipIdx_cons, List.foldl_cons]
      rw [ih]
      simp only [Array.size_setIfInBounds, List.length_cons]
      by_cases h1 : i + (n + 1) ≤ j ∧ j < i + (n + 1) + vs.length ∧ j < acc.size
      · rw [if_pos h1, if_pos (by omega)]
        rw [show j - (i + n) = (j - (i + (n + 1))) + 1 from by omega]
        simp
      · rw [if_neg h1]
        by_cases h2 : i + n = j
        · subst h2
          by_cases h3 : i + n < acc.size
          · rw [if_pos (by omega)]; simp [h3]
          · rw [if_neg (by omega)]; simp [h3]
        · rw [Array.getElem?_setIfInBounds_ne h2]
          rw [if_neg (by omega)]
  obtain ⟨h2, h3, h4⟩ := spl_spec hr
  refine Array.ext_getElem? fun j => ?_
  have := key vs 0 ⟨l⟩ j
  rw [← Array.foldl_toList]
  simp only [Array.toList_zipIdx]
  rw [this]
  simp only [List.getElem?_toArray, List.size_toArray, Nat.add_zero]
  rw [h4 j]
  by_cases hj : i ≤ j ∧ j < i + vs.length
  · have hv : vs ≠ [] := by rintro rfl; simp at hj; omega
    have := h3 hv
    rw [if_pos hj, if_pos (by omega)]
  · rw [if_neg hj, if_neg (by omega)]

/-- what 'fill' makes of parts, reckoned on lists -/
def fil (place : Nat → Option (Nat × Nat)) (cs : List Value) : List (Nat × Value) → Option (List Value)
  | [] => some cs
  | (i, v) :: rest => match place i with
    | some (off, size) => match Nat.beq v.cells.toList.length size with
      | true => match spl off v.cells.toList cs with
        | some cs' => fil place cs' rest
        | none => none
      | false => none
    | none => none

theorem fil_spec {place : Nat → Option (Nat × Nat)} : ∀ {parts : List (Nat × Value)} {cs r : List Value}, (∀ i off size, place i = some (off, size) → size ≠ 0) → fil place cs parts = some r → Instr.fill place ⟨cs⟩ parts = some ⟨r⟩
  | [], cs, r, _, hr => by simp [fil] at hr; simp [Instr.fill, hr]
  | (i, v) :: rest, cs, r, hp, hr => by
    simp only [fil] at hr
    split at hr
    · rename_i off size h1
      split at hr
      · rename_i h2
        split at hr
        · rename_i cs' h3
          have hs : v.cells.size = size := Nat.eq_of_beq_eq_true h2
          have hne : v.cells.toList ≠ [] := by
            intro h0
            have := hp i off size h1
            rw [← hs] at this
            apply this
            rw [← Array.length_toList, h0]; rfl
          have := (spl_spec h3).2.1 hne
          simp only [Instr.fill, h1]
          rw [if_neg (by simp [hs] at this ⊢; omega)]
          have hf := spl_fold h3
          simp only [Array.toArray_toList] at hf
          rw [hf]
          exact fil_spec hp hr
        · cases hr
      · cases hr
    · cases hr

theorem spl_total : ∀ {i : Nat} {vs l : List Value}, i + vs.length ≤ l.length → ∃ r, spl i vs l = some r
  | 0, [], l, _ => ⟨l, by simp [spl]⟩
  | 0, v :: vs, a :: l, hl => by
    obtain ⟨r, hr⟩ := spl_total (i := 0) (vs := vs) (l := l) (by simp at hl ⊢; omega)
    exact ⟨v :: r, by simp [spl, hr]⟩
  | 0, v :: vs, [], hl => by simp at hl
  | i + 1, vs, a :: l, hl => by
    obtain ⟨r, hr⟩ := spl_total (i := i) (vs := vs) (l := l) (by simp at hl ⊢; omega)
    exact ⟨a :: r, by simp [spl, hr]⟩
  | i + 1, [], [], _ => ⟨[], by simp [spl]⟩
  | i + 1, _ :: _, [], hl => by simp at hl

theorem spl_app (A B C V : List Value) (hl : V.length = B.length) : spl A.length V (A ++ B ++ C) = some (A ++ V ++ C) := by
  by_cases hv : V = []
  · subst hv
    have hB : B = [] := List.length_eq_zero_iff.1 hl.symm
    subst hB
    have : ∀ (n : Nat) (l : List Value), spl n [] l = some l := by
      intro n
      induction n with
      | zero => intro l; simp [spl]
      | succ n ih => intro l; cases l <;> simp [spl, ih]
    simp [this]
  · obtain ⟨r, hr⟩ := spl_total (i := A.length) (vs := V) (l := A ++ B ++ C) (by simp [hl])
    rw [hr]
    congr 1
    obtain ⟨h1, _, h3⟩ := spl_spec hr
    refine List.ext_getElem? fun j => ?_
    rw [h3 j]
    by_cases hj : A.length ≤ j ∧ j < A.length + V.length
    · rw [if_pos hj, List.append_assoc, List.getElem?_append_right hj.1, List.getElem?_append_left (by omega)]
    · rw [if_neg hj]
      by_cases hj2 : j < A.length
      · rw [List.append_assoc, List.getElem?_append_left hj2, List.append_assoc, List.getElem?_append_left hj2]
      · rw [List.append_assoc, List.getElem?_append_right (by omega), List.getElem?_append_right (by omega), List.append_assoc, List.getElem?_append_right (by omega), List.getElem?_append_right (by omega), hl]

theorem run_storeCells {P : Program} {b : Nat} {T : TypeId} : ∀ (vs : List Value) (off i : Nat) (cs cs' : List Value) (w : World), w.heap[b]? = some (.cells ⟨cs⟩ T (0, 0)) → spl (off + i) vs cs = some cs' → vs.all Value.oneCell' = true →
    ∃ w', (storeCells ⟨b, off, none⟩ vs i).run P w = .ok () w' ∧ w'.heap[b]? = some (.cells ⟨cs'⟩ T (0, 0)) ∧ (∀ c : Nat, c ≠ b → w'.heap[c]? = w.heap[c]?) ∧ w'.os = w.os ∧ w'.output = w.output := by
  intro vs
  induction vs with
  | nil =>
    intro off i cs cs' w hb hs _
    obtain ⟨h1, _, h3⟩ := spl_spec hs
    have : cs' = cs := by
      refine List.ext_getElem? fun j => ?_
      rw [h3 j, if_neg (by simp)]
    subst this
    exact ⟨w, rfl, hb, fun _ _ => rfl, rfl, rfl⟩
  | cons v vs ih =>
    intro off i cs cs' w hb hs hv
    simp only [List.all_cons, Bool.and_eq_true] at hv
    obtain ⟨h1, h2, h3⟩ := spl_spec hs
    have hlen := h2 (by simp)
    simp only [List.length_cons] at hlen
    have hc : ∃ u, w.cell? ⟨b, off + i, none⟩ = some u := by
      refine ⟨cs[off + i]'(by omega), ?_⟩
      simp [World.cell?, hb]
    obtain ⟨u, hc⟩ := hc
    have hf : w.frozen? ⟨b, off + i, none⟩ = false := by simp [World.frozen?, hb]
    have hst : (store ⟨b, off + i, none⟩ v).run P w = .ok () (w.setCell ⟨b, off + i, none⟩ v) := by
      rw [run_store P w _ v _ hv.1, hc]; simp [hf]
    have hb' : (w.setCell ⟨b, off + i, none⟩ v).heap[b]? = some (.cells ⟨cs.set (off + i) v⟩ T (0, 0)) := by
      simp [World.setCell, Array.getElem?_modify, hb]
    have hs' : spl (off + (i + 1)) vs (cs.set (off + i) v) = some cs' := by
      obtain ⟨r, hr⟩ := spl_total (i := off + (i + 1)) (vs := vs) (l := cs.set (off + i) v) (by rw [List.length_set]; omega)
      rw [hr]; congr 1
      obtain ⟨_, _, h6⟩ := spl_spec hr
      refine List.ext_getElem? fun j => ?_
      rw [h6 j, h3 j]
      by_cases hj : off + (i + 1) ≤ j ∧ j < off + (i + 1) + vs.length
      · rw [if_pos hj, if_pos (by simp; omega), show j - (off + i) = (j - (off + (i + 1))) + 1 from by omega]; simp
      · rw [if_neg hj]
        by_cases hj2 : off + i = j
        · subst hj2
          rw [if_pos (by simp), List.getElem?_set_self (by omega)]; simp
        · rw [if_neg (by simp; omega), List.getElem?_set_ne hj2]
    obtain ⟨w', hr, hw, ho, ho1, ho2⟩ := ih off (i + 1) _ cs' _ hb' hs' hv.2
    refine ⟨w', ?_, hw, ?_, ho1, ho2⟩
    · simp only [storeCells, Sem.run_bind, add_none]
      rw [hst]
      exact hr
    · intro c hne
      rw [ho c hne]
      simp [World.setCell, Array.getElem?_modify, Ne.symm hne]

theorem op1_store {A B : Owned} {d : Option Tmp} {t T ty : TypeId} {pos : String} {af : Array Edge} {g : Option (Nat × Bool)} {x y : Operand} {b off : Nat} {v : Value} {vs cs cs' : List Value} (hc : v.cells = ⟨vs⟩) (hz : Siz C.P t vs.length) (hx : ev e x = some (.pointer (some ⟨b, off, none⟩))) (hy : ev e y = some v) (hs : spl off vs cs = some cs') (ho : vs.all Value.oneCell' = true) :
    Op1 C ⟨d, .store t x y, ty, pos, af, g⟩ e h (A ++ (b, .cells ⟨cs⟩ T (0, 0)) :: B) (fun v' h' L' => v' = undef ∧ h' = h ∧ L' = A ++ (b, .cells ⟨cs'⟩ T (0, 0)) :: B) := by
  intro ds a w next Q he hst H
  refine ⟨fun _ _ => trivial, ?_⟩
  obtain ⟨w', hr, hw, hoth, ho1, ho2⟩ := run_storeCells (P := C.P) vs off 0 cs cs' w (hst.own (b, .cells ⟨cs⟩ T (0, 0)) (by simp)) (by simpa using hs) ho
  have hrun : (execOp a.eval ⟨d, .store t x y, ty, pos, af, g⟩).run C.P w = .ok .skip w' := by
    unfold execOp
    simp only [he.eval hx, he.eval hy, Instr.storeAt, Instr.sureAddr, storeVar, Sem.run_bind, Sem.run_pure, Result.andThen_ok, hz.run, hc]
    simp [hr]
  rw [Oper.semAt_eq _ _ _ (by simp), hrun]
  exact H undef h _ w' ⟨rfl, rfl, rfl⟩ (hst.set _ hw hoth ho1 ho2)

theorem WL_store {A B : Owned} {d : Option Tmp} {t T ty : TypeId} {pos : String} {af : Array Edge} {x y : Operand} {b off : Nat} {v : Value} {vs cs cs' : List Value} (hx : ev e x = some (.pointer (some ⟨b, off, none⟩))) (hy : ev e y = some v) (hc : v.cells = ⟨vs⟩) (hz : Siz C.P t vs.length) (hs : spl off vs cs = some cs') (ho : vs.all Value.oneCell' = true) (hd : dstOk d C.n = true)
    (H : WL C ops l Q (put d undef e) ds h (A ++ (b, .cells ⟨cs'⟩ T (0, 0)) :: B)) : WL C ops (⟨d, .store t x y, ty, pos, af, none⟩ :: l) Q e ds h (A ++ (b, .cells ⟨cs⟩ T (0, 0)) :: B) :=
  WL_op (op1_store hc hz hx hy hs ho) rfl hd (by rintro v' h' L' ⟨rfl, rfl, rfl⟩; exact H)

/-! building -/
def evp (e : Env) : List (Nat × Operand) → Option (List (Nat × Value))
  | [] => some []
  | (i, x) :: xs => match ev e x, evp e xs with
    | some v, some vs => some ((i, v) :: vs)
    | _, _ => none
theorem evp_map {ρ : Operand → Value} (hρ : ∀ x u, ev e x = some u → ρ x = u) : ∀ {xs : List (Nat × Operand)} {vs}, evp e xs = some vs → xs.map (fun p => (p.1, ρ p.2)) = vs
  | [], vs, hx => by simp [evp] at hx; simp [hx]
  | (i, x) :: xs, vs, hx => by
    simp only [evp] at hx
    split at hx
    · rename_i v vs' h1 h2; cases hx; simp [hρ _ _ h1, evp_map hρ h2]
    · cases hx

def Plc (P : Program) (fs : Array Field) (pl : List (Nat × Nat)) : Prop := ∀ w, (fs.mapM fun f => do pure (f.offset, ← sizeOf f.type) : Sem (Array (Nat × Nat))).run P w = .ok ⟨pl⟩ w

theorem v_builds {t : TypeId} {fs : Array Field} {parts : List (Nat × Operand)} {zs r : List Value} {pl : List (Nat × Nat)} {vs : List (Nat × Value)} (hu : Und C.P t (.struct fs)) (hz : Zer C.P t (.agg ⟨zs⟩)) (hp : Plc C.P fs pl) (hall : pl.all (fun p => p.2 != 0) = true) (hv : evp e parts = some vs) (hf : fil (fun i => pl[i]?) zs vs = some r) : OpV C.P (.build t ⟨parts⟩) e h L (.agg ⟨r⟩) := by
  intro ρ w o hρ _ ho; unfold execOp; rw [ho]
  have hfill := fil_spec (fun i off size hi => by
    have := List.all_eq_true.1 hall (off, size) (List.mem_of_getElem? hi)
    simpa using this) hf
  have hm := evp_map hρ hv
  simp only [Instr.build, Sem.run_bind, hz.run, hu.run, hp w, Result.andThen_ok]
  simp only [List.map_toArray]
  rw [hm]
  simp only [List.getElem?_toArray, Value.cells, hfill]
  simp

theorem v_builda {t et : TypeId} {len size : Nat} {parts : List (Nat × Operand)} {zs r : List Value} {vs : List (Nat × Value)} (hu : Und C.P t (.array len et)) (hz : Zer C.P t (.agg ⟨zs⟩)) (hs : Siz C.P et (size + 1)) (hv : evp e parts = some vs) (hf : fil (fun i => some (i * (size + 1), size + 1)) zs vs = some r) : OpV C.P (.build t ⟨parts⟩) e h L (.agg ⟨r⟩) := by
  intro ρ w o hρ _ ho; unfold execOp; rw [ho]
  have hfill := fil_spec (fun i off size' hi => by simp at hi; omega) hf
  have hm := evp_map hρ hv
  simp only [Instr.build, Sem.run_bind, hz.run, hu.run, hs.run, Result.andThen_ok]
  simp only [List.map_toArray]
  rw [hm]
  simp only [Value.cells, hfill]
  simp

def zbase (len : Nat) (zs : List Value) : List Value := (List.range (len * zs.length)).map fun i => zs[i % zs.length]!

theorem o_buildSlice {d : Option Tmp} {t et ty : TypeId} {pos : String} {af : Array Edge} {g : Option (Nat × Bool)} {len : Nat} {z : Value} {parts : List (Nat × Operand)} {zs r : List Value} {vs : List (Nat × Value)} (hu : Und C.P t (.slice et)) (hz : Zer C.P et z) (hzc : z.cells = ⟨zs⟩) (hs : Siz C.P et zs.length) (h0 : (zs.length != 0) = true) (hb : Nat.ble (len * zs.length) 16777216 = true) (hv : evp e parts = some vs) (hf : fil (fun i => some (i * zs.length, zs.length)) (zbase len zs) vs = some r) :
    Op1 C ⟨d, .buildSlice t len ⟨parts⟩, ty, pos, af, g⟩ e h L (fun v h' L' => ∃ b, v = .slice (some ⟨b, 0, none⟩) len len ∧ h' = h ∧ L' = (b, .cells ⟨r⟩ et (0, 0)) :: L) :=
  op1_new (f := fun b => .slice (some ⟨b, 0, none⟩) len len) fun ρ w hρ _ => ⟨w.drawn, by
    have hfill := fil_spec (fun i off size' hi => by simp at hi; simp at h0; rw [← hi.2]; simpa using h0) hf
    have hm := evp_map hρ hv
    have hble : len * zs.length ≤ 16777216 := Nat.le_of_ble_eq_true hb
    unfold execOp
    simp only [Instr.buildSlice, Sem.run_bind, hu.run, hs.run, Result.andThen_ok]
    rw [if_neg (by simpa using hble)]
    simp only [List.map_toArray, hm]
    by_cases hl : len * zs.length = 0
    · have hz0 : zbase len zs = [] := by simp [zbase, hl]
      rw [hz0] at hfill
      have hz1 : ∀ f : Nat → Value, Array.map f (Array.range 0) = ⟨[]⟩ := fun f => by simp [← Array.toList_inj, Array.toList_range]
      simp only [hl, if_true]
      simp only [Sem.run_bind, Sem.run_pure, Result.andThen_ok, hz1, hfill]
      simp [newRow]
    · simp only [hl, if_false, Sem.run_bind, hz.run, Result.andThen_ok, Sem.run_pure, hzc]
      have hz0 : (Array.map (fun x => (⟨zs⟩ : Array Value)[x % (⟨zs⟩ : Array Value).size]!) (Array.range (len * zs.length))) = ⟨zbase len zs⟩ := by
        simp [zbase, ← Array.toList_inj, List.range_eq_range']
      rw [hz0, hfill]
      simp [newRow]⟩

theorem o_makeMap {d : Option Tmp} {t ty : TypeId} {pos : String} {af : Array Edge} {g : Option (Nat × Bool)} :
    Op1 C ⟨d, .makeMap t none, ty, pos, af, g⟩ e h L (fun v h' L' => ∃ b, v = .map (some b) ∧ h' = h ∧ L' = (b, .map #[] 0) :: L) :=
  op1_new (f := fun b => .map (some b)) fun ρ w _ _ => ⟨w.drawn, by
    unfold execOp
    simp [Instr.makeMap]⟩
end
end Go.Proofs.Ch

/- Calls: what a call comes to; functions out of their bodies; ranges over functions. No program is named here. -/
namespace Go.Proofs.Ch
open Go

/-- the function has a body, so it is entered -/
def Bod (P : Program) (f : FuncId) : Prop := ∃ fn, P.funcs[f]? = some fn ∧ fn.body.isNone = false ∧ (fn.name == "runtime.NumGoroutine") = false

def TrPost (h : Heap) (Lf : Owned) (Post : Value → Heap → Owned → Prop) : Ending → World → Prop :=
  fun e w' => ∃ v h' L', e = .returned v ∧ Heap.le h h' ∧ St h' (L' ++ Lf) w' ∧ Post v h' L'

/-- What the call of f with these arguments comes to, where h is known and L is handed over. -/
def Tr (P : Program) (f : FuncId) (args : List Value) (h : Heap) (L : Owned) (Post : Value → Heap → Owned → Prop) : Prop :=
  Bod P f ∧ ∀ Lf w, St h (L ++ Lf) w → CallsIn Fence.wide 0 P f ⟨args⟩ w (TrPost h Lf Post)

theorem TrPost.mono {h Lf} {Post Post' : Value → Heap → Owned → Prop} (hp : ∀ v h' L', Heap.le h h' → Post v h' L' → Post' v h' L') : ∀ e w, TrPost h Lf Post e w → TrPost h Lf Post' e w := by
  rintro e w ⟨v, h', L', he, hle, hs, hq⟩
  exact ⟨v, h', L', he, hle, hs, hp _ _ _ hle hq⟩

theorem Tr.mono {P f args h L} {Post Post' : Value → Heap → Owned → Prop} (t : Tr P f args h L Post) (hp : ∀ v h' L', Heap.le h h' → Post v h' L' → Post' v h' L') : Tr P f args h L Post' :=
  ⟨t.1, fun Lf w hs => (t.2 Lf w hs).mono (TrPost.mono hp)⟩

/-- with more of the caller's own blocks -/
theorem Tr.frame {P f args h L} {Post : Value → Heap → Owned → Prop} (t : Tr P f args h L Post) (M : Owned) : Tr P f args h (L ++ M) (fun v h' L' => ∃ L1, L' = L1 ++ M ∧ Post v h' L1) :=
  ⟨t.1, fun Lf w hs => (t.2 (M ++ Lf) w (by rw [← List.append_assoc]; exact hs)).mono (by
    rintro e w' ⟨v, h', L', he, hle, hs', hq⟩
    exact ⟨v, h', L' ++ M, he, hle, by rw [List.append_assoc]; exact hs', L', rfl, hq⟩)⟩

theorem Tr.perm {P f args h L L'} {Post : Value → Heap → Owned → Prop} (hp : L'.Perm L) (t : Tr P f args h L Post) : Tr P f args h L' Post :=
  ⟨t.1, fun Lf w hs => t.2 Lf w (hs.perm (hp.append_right Lf))⟩

/-- A round of the loop l. -/
def TrY (P : Program) (l : Nat) (args : List Value) (h : Heap) (L : Owned) (Post : Value → Heap → Owned → Prop) : Prop :=
  ∀ Lf w, St h (L ++ Lf) w → ∃ r, w.heap[l]? = some (.loop r) ∧ args.length = r.params.size ∧
    RoundIn Fence.wide 0 P l r.fn ((r.params.zip ⟨args⟩).foldl (fun tmps (t, a) => tmps.setIfInBounds t a) r.tmps) r.assign r.body w (TrPost h Lf Post)

/-- The call of a function value. -/
def TrV (P : Program) (fv : Value) (args : List Value) (h : Heap) (L : Owned) (Post : Value → Heap → Owned → Prop) : Prop :=
  match fv with
  | .func (.func f) fi ca => Tr P f (fi.toList ++ args ++ ca.toList) h L Post
  | .func (.yield l) fi _ => TrY P l (fi.toList ++ args) h L Post
  | _ => False

theorem TrV.mono {P fv args h L} {Post Post' : Value → Heap → Owned → Prop} (t : TrV P fv args h L Post) (hp : ∀ v h' L', Heap.le h h' → Post v h' L' → Post' v h' L') : TrV P fv args h L Post' := by
  unfold TrV at t ⊢
  split at t
  · exact t.mono hp
  · intro Lf w hs
    obtain ⟨r, h1, h2, h3⟩ := t Lf w hs
    exact ⟨r, h1, h2, h3.mono (TrPost.mono hp)⟩
  · exact t.elim

theorem TrV.frame {P fv args h L} {Post : Value → Heap → Owned → Prop} (t : TrV P fv args h L Post) (M : Owned) : TrV P fv args h (L ++ M) (fun v h' L' => ∃ L1, L' = L1 ++ M ∧ Post v h' L1) := by
  unfold TrV at t ⊢
  split at t
  · exact t.frame M
  · intro Lf w hs
    obtain ⟨r, h1, h2, h3⟩ := t (M ++ Lf) w (by rw [← List.append_assoc]; exact hs)
    refine ⟨r, h1, h2, h3.mono ?_⟩
    rintro e w' ⟨v, h', L', he, hle, hs', hq⟩
    exact ⟨v, h', L' ++ M, he, hle, by rw [List.append_assoc]; exact hs', L', rfl, hq⟩
  · exact t.elim

theorem TrV.perm {P fv args h L L'} {Post : Value → Heap → Owned → Prop} (hp : L'.Perm L) (t : TrV P fv args h L Post) : TrV P fv args h L' Post := by
  unfold TrV at t ⊢
  split at t
  · exact t.perm hp
  · exact fun Lf w hs => t Lf w (hs.perm (hp.append_right Lf))
  · exact t.elim

section
variable {C : Cx} {R : Pst} {k : List K} {e : Env} {ds : List Deferred} {h : Heap} {L : Owned} {ops : Array Oper} {l : List Oper} {Q : Pst}

theorem run_callFunc {P : Program} {f : FuncId} (hb : Bod P f) (args : Array Value) (w : World) : (callFunc f args).run P w = .ok (.enter f args) w := by
  obtain ⟨fn, h1, h2, h3⟩ := hb
  simp only [callFunc, Sem.run_bind, run_program, Result.andThen_ok, h1, h2, h3]
  rfl

/-- The operation that calls a function value. -/
theorem op1_call {L1 Lf : Owned} {d : Option Tmp} {ty : TypeId} {pos : String} {af : Array Edge} {g : Option (Nat × Bool)} {x : Operand} {xs : List Operand} {ts : Array TypeId} {fv : Value} {vs : List Value} {Post : Value → Heap → Owned → Prop}
    (hx : ev e x = some fv) (hv : evs e xs = some vs) (t : TrV C.P fv vs h L1 Post) :
    Op1 C ⟨d, .call ⟨.value x, ⟨xs⟩, ts⟩, ty, pos, af, g⟩ e h (L1 ++ Lf) (fun v h' L' => ∃ L2, L' = L2 ++ Lf ∧ Heap.le h h' ∧ Post v h' L2) := by
  intro ds a w next Q he hs H
  refine ⟨fun _ _ => trivial, ?_⟩
  rw [Oper.semAt_eq _ _ _ (by simp)]
  unfold execOp
  have hxs : (⟨xs⟩ : Array Operand).map a.eval = ⟨vs⟩ := by rw [← he.evals hv]; simp
  simp only [resolve, hxs, he.eval hx, Sem.run_bind]
  unfold TrV at t
  split at t
  · rename_i f fi ca
    simp only [Deferred.ofValue, Sem.run_pure, Result.andThen_ok, invoke, run_callFunc t.1]
    refine ⟨fun hh => by simp [fx, Fence.wide] at hh, ?_⟩
    have := t.2 Lf w hs
    rw [show (fi ++ (⟨vs⟩ : Array Value) ++ ca) = ⟨fi.toList ++ vs ++ ca.toList⟩ from by simp [← Array.toList_inj]]
    refine CallsIn.mono (F := fx C.r) (n := 0) this ?_
    rintro e' w' ⟨v, h', L', rfl, hle, hs', hq⟩
    exact H v h' _ w' ⟨L', rfl, hle, hq⟩ hs'
  · rename_i lp fi ca
    obtain ⟨r, h1, h2, h3⟩ := t Lf w hs
    have hsz : (fi ++ (⟨vs⟩ : Array Value)).size = r.params.size := by rw [← h2]; simp
    have hy : (Instr.yield lp (fi ++ (⟨vs⟩ : Array Value))).run C.P w = .ok (.round lp r.fn ((r.params.zip (fi ++ (⟨vs⟩ : Array Value))).foldl (fun tmps (t, a) => tmps.setIfInBounds t a) r.tmps) r.assign r.body) w := by
      simp only [Instr.yield, Instr.getLoop, Sem.run_bind]
      have hg : (getObj lp).run C.P w = .ok (.loop r) w := by simp [getObj, Sem.run, h1]
      simp only [hg, Result.andThen_ok, Sem.run_pure, hsz]
      simp
    simp only [Deferred.ofValue, Sem.run_pure, Result.andThen_ok, invoke, hy]
    refine ⟨fun hh => by simp [fx, Fence.wide] at hh, ?_⟩
    rw [show (fi ++ (⟨vs⟩ : Array Value)) = ⟨fi.toList ++ vs⟩ from by simp [← Array.toList_inj]]
    refine RoundIn.mono (F := fx C.r) (n := 0) h3 ?_
    rintro e' w' ⟨v, h', L', rfl, hle, hs', hq⟩
    exact H v h' _ w' ⟨L', rfl, hle, hq⟩ hs'
  · exact t.elim

theorem WL_call {L1 Lf : Owned} {d : Option Tmp} {ty : TypeId} {pos : String} {af : Array Edge} {x : Operand} {xs : List Operand} {ts : Array TypeId} {fv : Value} {vs : List Value} {Post : Value → Heap → Owned → Prop}
    (hx : ev e x = some fv) (hv : evs e xs = some vs) (t : TrV C.P fv vs h L1 Post) (hd : dstOk d C.n = true)
    (H : ∀ v h' L', Heap.le h h' → Post v h' L' → WL C ops l Q (put d v e) ds h' (L' ++ Lf)) : WL C ops (⟨d, .call ⟨.value x, ⟨xs⟩, ts⟩, ty, pos, af, none⟩ :: l) Q e ds h (L1 ++ Lf) :=
  WL_op (op1_call hx hv t) rfl hd (by rintro v h' L' ⟨L2, rfl, hle, hq⟩; exact H v h' L2 hle hq)


/-! a function out of its body -/
def envL : Nat → List Value → Env
  | _, [] => []
  | i, v :: vs => (i, v) :: envL (i + 1) vs

theorem look_envL : ∀ (vs : List Value) (i t : Nat) (v : Value), look (envL i vs) t = some v → i ≤ t ∧ vs[t - i]? = some v
  | [], _, _, _, hl => by simp [envL, look] at hl
  | u :: vs, i, t, v, hl => by
    simp only [envL, look] at hl
    cases hb : Nat.beq i t with
    | true =>
      have := Nat.eq_of_beq_eq_true hb
      subst this
      simp at hl
      simp [hl]
    | false =>
      have hne := Nat.ne_of_beq_eq_false hb
      simp [hb] at hl
      obtain ⟨h1, h2⟩ := look_envL vs (i + 1) t v hl
      refine ⟨by omega, ?_⟩
      rw [show t - i = (t - (i + 1)) + 1 from by omega]
      simpa using h2

/-- what is owed where the function ends: its deferred calls, its results -/
def Ends (P : Program) (fn : Func) (n : Nat) (h0 : Heap) (Lf : Owned) (Post : Value → Heap → Owned → Prop) (e : Env) (ds : List Deferred) (h : Heap) (L : Owned) : Prop :=
  ∀ a w, EnvOk n e ds a → St h L w → LeavesInM Fence.wide 0 P fn a.tmps (TrPost h0 Lf Post) ds .returning w

def fnPost (P : Program) (fn : Func) (n : Nat) (h0 : Heap) (Lf : Owned) (Post : Value → Heap → Owned → Prop) : Pst
  | .normal, e, ds, h, L => Ends P fn n h0 Lf Post e ds h L
  | .ret, e, ds, h, L => Ends P fn n h0 Lf Post e ds h L
  | _, _, _, _, _ => False

theorem Tr_of {P : Program} {f : FuncId} {fn : Func} {c : Code} {args : List Value} {h : Heap} {L : Owned} {Post : Value → Heap → Owned → Prop} {n : Nat}
    (hf : P.funcs[f]? = some fn) (hb : fn.body = some c) (hnm : (fn.name == "runtime.NumGoroutine") = false) (hnt : fn.ntmps = n) (hn : Nat.ble args.length n = true) (e0 : Env) (he0 : envL 0 args = e0)
    (H : ∀ Lf, den ⟨P, none, n⟩ (fnPost P fn n h Lf Post) [.code c] .normal e0 [] h (L ++ Lf)) : Tr P f args h L Post := by
  subst hnt
  refine ⟨⟨fn, hf, by simp [hb], hnm⟩, fun Lf w hs => ?_⟩
  refine callsIn_of_wp_marks hf hb trivial ?_ rfl
  have hle : args.length ≤ fn.ntmps := Nat.le_of_ble_eq_true hn
  have hok : EnvOk fn.ntmps e0 [] { tmps := (⟨args⟩ : Array Value) ++ Array.replicate (fn.ntmps - (⟨args⟩ : Array Value).size) undef, defers := [] } := by
    refine ⟨by simp; omega, ?_, rfl⟩
    intro t v hl
    rw [← he0] at hl
    obtain ⟨_, h2⟩ := look_envL args 0 t v hl
    simp only [Nat.sub_zero] at h2
    have hlt : t < args.length := (List.getElem?_eq_some_iff.1 h2).1
    rw [Array.getElem?_append_left (by simpa using hlt)]
    simpa using h2
  refine wpIn_mono (H Lf _ w hok hs) ?_
  rintro x a w' ⟨e, ds, h', L', he, hs', hq⟩
  cases x with
  | normal => have := hq a w' he hs'; rw [← he.df] at this; exact this
  | ret => have := hq a w' he hs'; rw [← he.df] at this; exact this
  | _ => exact hq.elim

theorem ends_of {P : Program} {fn : Func} {n : Nat} {h0 h' : Heap} {Lf L L' : Owned} {Post : Value → Heap → Owned → Prop} {v : Value} {e : Env}
    (hr : ∀ a w, EnvOk n e [] a → St h' L w → (results fn a.tmps).run P w = .ok v w) (hle : Heap.le h0 h') (hL : (L' ++ Lf).Sublist L) (hp : Post v h' L') : Ends P fn n h0 Lf Post e [] h' L :=
  fun a w he hs => ⟨v, hr a w he hs, v, h', L', rfl, hle, hs.sub hL, hp⟩

theorem getD_of {n : Nat} {e : Env} {ds : List Deferred} {a : Act} (he : EnvOk n e ds a) {t : Nat} {v : Value} (hl : look e t = some v) : a.tmps.getD t undef = v := by
  have := he.ok _ _ hl; simp [this]

theorem ends0 {P : Program} {fn : Func} {n : Nat} {h0 h' : Heap} {Lf L L' : Owned} {Post : Value → Heap → Owned → Prop} {e : Env}
    (hr : fn.results = #[]) (hle : Heap.le h0 h') (hL : (L' ++ Lf).Sublist L) (hp : Post (.tuple ⟨[]⟩) h' L') : Ends P fn n h0 Lf Post e [] h' L :=
  ends_of (fun a w _ _ => by simp [results, hr]) hle hL hp
theorem ends1 {P : Program} {fn : Func} {n t : Nat} {h0 h' : Heap} {Lf L L' : Owned} {Post : Value → Heap → Owned → Prop} {e : Env} {v : Value}
    (hr : fn.results = #[.tmp t]) (h1 : look e t = some v) (hle : Heap.le h0 h') (hL : (L' ++ Lf).Sublist L) (hp : Post v h' L') : Ends P fn n h0 Lf Post e [] h' L :=
  ends_of (fun a w he _ => by simp only [results, hr]; simp [he.ok _ _ h1]) hle hL hp
theorem ends2 {P : Program} {fn : Func} {n t u : Nat} {h0 h' : Heap} {Lf L L' : Owned} {Post : Value → Heap → Owned → Prop} {e : Env} {v v2 : Value}
    (hr : fn.results = #[.tmp t, .tmp u]) (h1 : look e t = some v) (h2 : look e u = some v2) (hle : Heap.le h0 h') (hL : (L' ++ Lf).Sublist L) (hp : Post (.tuple ⟨[v, v2]⟩) h' L') : Ends P fn n h0 Lf Post e [] h' L :=
  ends_of (fun a w he _ => by simp only [results, hr]; simp [he.ok _ _ h1, he.ok _ _ h2]) hle hL hp
theorem ends3 {P : Program} {fn : Func} {n t u x : Nat} {h0 h' : Heap} {Lf L L' : Owned} {Post : Value → Heap → Owned → Prop} {e : Env} {v v2 v3 : Value}
    (hr : fn.results = #[.tmp t, .tmp u, .tmp x]) (h1 : look e t = some v) (h2 : look e u = some v2) (h3 : look e x = some v3) (hle : Heap.le h0 h') (hL : (L' ++ Lf).Sublist L) (hp : Post (.tuple ⟨[v, v2, v3]⟩) h' L') : Ends P fn n h0 Lf Post e [] h' L :=
  ends_of (fun a w he _ => by simp only [results, hr]; simp [he.ok _ _ h1, he.ok _ _ h2, he.ok _ _ h3]) hle hL hp

abbrev markOf (D : Nat) : Deferred := { target := .collected D, args := #[] }
/-- the mark of a range over a function, taken up at the function's end -/
theorem ends_mark {P : Program} {fn : Func} {n D : Nat} {h0 h' : Heap} {Lf A B : Owned} {Post : Value → Heap → Owned → Prop} {e : Env} {ds : List Deferred}
    (H : Ends P fn n h0 Lf Post e ds h' (A ++ (D, .deferred none) :: B)) : Ends P fn n h0 Lf Post e (markOf D :: ds) h' (A ++ (D, .deferred (some [])) :: B) := by
  intro a w he hs
  have hD : w.heap[D]? = some (.deferred (some [])) := hs.own (D, .deferred (some [])) (by simp)
  have hlt : D < w.heap.size := (Array.getElem?_eq_some_iff.1 hD).1
  refine ⟨by simp, .inl ⟨D, { w with heap := w.heap.setIfInBounds D (.deferred none) }, rfl, ?_, ?_⟩⟩
  · simp [Instr.takeDeferred, getObj, setObj, Sem.run, hD]
  · refine H { a with defers := ds } _ ⟨he.size, he.ok, rfl⟩ (hs.set _ (by simp [hlt]) (fun c hc => ?_))
    simp [Array.getElem?_setIfInBounds_ne (Ne.symm hc)]

/-! ranges over functions -/
/-- What is known of the temporaries that a loop's record keeps. -/
def EnvT (n : Nat) (e : Env) (tmps : Array Value) : Prop := tmps.size = n ∧ ∀ t v, look e t = some v → tmps[t]? = some v
theorem EnvT.act {n e tmps} (he : EnvT n e tmps) : EnvOk n e [] { tmps := tmps, defers := [] } := ⟨he.1, he.2, rfl⟩

def putAll : List Nat → List Value → Env → Env
  | p :: ps, v :: vs, e => putAll ps vs ((p, v) :: e)
  | _, _, e => e

theorem envT_put {n : Nat} : ∀ {ps : List Nat} {vs : List Value} {e : Env} {tmps : Array Value}, ps.all (fun p => Nat.blt p n) = true → EnvT n e tmps → EnvT n (putAll ps vs e) (List.foldl (fun tmps (x : Nat × Value) => tmps.setIfInBounds x.1 x.2) tmps (ps.zip vs))
  | [], vs, e, tmps, _, he => by simpa [putAll] using he
  | p :: ps, [], e, tmps, _, he => by simpa [putAll] using he
  | p :: ps, v :: vs, e, tmps, hp, he => by
    simp only [List.all_cons, Bool.and_eq_true] at hp
    simp only [putAll, List.zip_cons_cons, List.foldl_cons]
    refine envT_put hp.2 ?_
    have h1 := he.act.put (d := some p) (by simpa [dstOk] using hp.1) v
    exact ⟨h1.size, h1.ok⟩

/-- what is asked at a round's end -/
def roundR (lp : Nat) (h0 : Heap) (Lf : Owned) (Post : Value → Heap → Owned → Prop) : Pst := fun x _ _ h' L =>
  ∃ r L', L = (lp, .loop r) :: (L' ++ Lf) ∧ Heap.le h0 h' ∧ (match x with
    | .normal => Post (.bool true) h' ((lp, .loop { r with state := .ready, pending := none }) :: L')
    | .ret => Post (.bool false) h' ((lp, .loop { r with state := .done, pending := some .ret }) :: L')
    | .exit id => Post (.bool false) h' ((lp, .loop { r with state := .done, pending := some (.exit id) }) :: L')
    | _ => False)

theorem St.set0 {h : Heap} {b : Nat} {o : Obj} {B : Owned} {w : World} (s : St h ((b, o) :: B) w) (o' : Obj) : St h ((b, o') :: B) { w with heap := w.heap.setIfInBounds b o' } := by
  have hb := s.own (b, o) (by simp)
  have hlt : b < w.heap.size := (Array.getElem?_eq_some_iff.1 hb).1
  exact St.set (A := []) s o' (by simp [hlt]) (fun c hc => by simp [Array.getElem?_setIfInBounds_ne (Ne.symm hc)])

/-- A ROUND, out of the walk of its body: the record stands first among what is handed over. -/
theorem TrY_of {P : Program} {lp n : Nat} {args : List Value} {h : Heap} {L : Owned} {Post : Value → Heap → Owned → Prop} {r : Loop} {e0 : Env} {ps : List Nat}
    (hst : r.state = .ready) (hps : r.params = ⟨ps⟩) (hlen : args.length = ps.length) (hpn : ps.all (fun p => Nat.blt p n) = true) (he : EnvT n e0 r.tmps)
    (H : ∀ Lf, den ⟨P, some lp, n⟩ (fun _ _ _ _ _ => False) [.code r.assign, .again (fun e ds h' L' => ∃ L2, L' = (lp, .loop r) :: (L2 ++ Lf) ∧ Heap.le h h' ∧
      den ⟨P, some lp, n⟩ (roundR lp h Lf Post) [.code r.body] .normal e ds h' ((lp, .loop { r with state := .busy }) :: (L2 ++ Lf)))] .normal (putAll ps args e0) [] h ((lp, .loop r) :: (L ++ Lf))) :
    TrY P lp args h ((lp, .loop r) :: L) Post := by
  intro Lf w hs
  have hr : w.heap[lp]? = some (.loop r) := hs.own (lp, .loop r) (by simp)
  refine ⟨r, hr, by rw [hps]; simpa using hlen, ?_⟩
  refine roundIn_of_wpIn (F := Fence.wide) (n := 0) trivial ?_
  have hT : EnvT n (putAll ps args e0) ((r.params.zip ⟨args⟩).foldl (fun tmps (t, a) => tmps.setIfInBounds t a) r.tmps) := by
    have := envT_put (vs := args) hpn he
    rw [hps]
    rw [← Array.foldl_toList]
    simpa using this
  refine wpIn_mono (F := fx (some lp)) (H Lf _ w hT.act hs) ?_
  rintro x a w1 ⟨e, ds, h1, L1, he1, hs1, hq⟩
  have hno : ∀ x, x ≠ Exit.normal → ¬ den ⟨P, some lp, n⟩ (fun _ _ _ _ _ => False) [.again (fun e ds h' L' => ∃ L2, L' = (lp, .loop r) :: (L2 ++ Lf) ∧ Heap.le h h' ∧
      den ⟨P, some lp, n⟩ (roundR lp h Lf Post) [.code r.body] .normal e ds h' ((lp, .loop { r with state := .busy }) :: (L2 ++ Lf)))] x e ds h1 L1 := by
    intro x hx hq
    cases x <;> first | exact hx rfl | exact hq
  cases x with
  | normal =>
    obtain ⟨L2, rfl, hle, hq⟩ := hq
    have hr1 : w1.heap[lp]? = some (.loop r) := hs1.own (lp, .loop r) (by simp)
    refine ⟨{ w1 with heap := w1.heap.setIfInBounds lp (.loop { r with state := .busy }) }, ?_, ?_⟩
    · simp [Instr.beginRound, Instr.getLoop, getObj, setObj, Sem.run, hr1, hst]
    · refine wpIn_mono (F := fx (some lp)) (hq a _ he1 (hs1.set0 _)) ?_
      rintro x2 a2 w2 ⟨e2, ds2, h2, L3, he2, hs2, hq2⟩
      have hend : ∀ (r' : Loop) (L4 : Owned) (j : Option Code), L3 = (lp, .loop r') :: (L4 ++ Lf) → (Instr.endRound lp j).run P w2 = .ok (.bool j.isNone) { w2 with heap := w2.heap.setIfInBounds lp (.loop { r' with state := if j.isNone then .ready else .done, pending := j }) } := by
        rintro r' L4 j rfl
        have hr2 : w2.heap[lp]? = some (.loop r') := hs2.own (lp, .loop r') (by simp)
        simp [Instr.endRound, Instr.getLoop, getObj, setObj, Sem.run, hr2]
      obtain ⟨r', L4, hL, hle2, hx⟩ := hq2
      cases x2 with
      | normal => exact ⟨_, _, hend r' L4 none hL, _, h2, _, rfl, hle2, by rw [hL] at hs2; exact hs2.set0 _, hx⟩
      | ret => exact ⟨_, _, hend r' L4 (some .ret) hL, _, h2, _, rfl, hle2, by rw [hL] at hs2; exact hs2.set0 _, hx⟩
      | exit id => exact ⟨_, _, hend r' L4 (some (.exit id)) hL, _, h2, _, rfl, hle2, by rw [hL] at hs2; exact hs2.set0 _, hx⟩
      | goto t => exact hx.elim
      | panic c => exact hx.elim
      | outgrown => exact hx.elim
  | exit id => exact (hno _ (by simp) hq).elim
  | goto id => exact (hno _ (by simp) hq).elim
  | ret => exact (hno _ (by simp) hq).elim
  | panic c => exact (hno _ (by simp) hq).elim
  | outgrown => exact (hno _ (by simp) hq).elim

theorem run_endLoop {P : Program} {lp : Nat} {r : Loop} {w : World} (hr : w.heap[lp]? = some (.loop r)) (hb : r.state ≠ .busy) : (Instr.endLoop lp).run P w = .ok r.pending { w with heap := w.heap.setIfInBounds lp (.loop { r with state := .exhausted }) } := by
  have h1 : (r.state == LoopState.busy) = false := by
    cases hs : r.state <;> first | rfl | exact absurd hs hb
  simp only [Instr.endLoop, Instr.getLoop, getObj, setObj, Sem.run_bind, Sem.run, hr, Result.andThen_ok, h1, Sem.run_pure, Bool.false_eq_true, if_false]

/-- THE STATEMENT 'for .. := range g { .. }', outermost. -/
theorem den_range {g : Operand} {ps : Array Tmp} {assign body : Code} {f : FuncId} {fi ca : Array Value} {L1 Lf : Owned} (hr : C.r = none) (hg : ev e g = some (.func (.func f) fi ca))
    (H : ∀ (D lp : Nat) (r : Loop), r.state = .ready → r.pending = none → r.params = ps → r.assign = assign → r.body = body → EnvT C.n e r.tmps →
      ∃ Post, Tr C.P f (fi.toList ++ [.func (.yield lp) #[] #[]] ++ ca.toList) h ((lp, .loop r) :: L1) Post ∧
      ∀ v h' L', Heap.le h h' → Post v h' L' → ∃ r' L2, L' = (lp, .loop r') :: L2 ∧ r'.state ≠ .busy ∧
        (match r'.pending with
         | none => den C R k .normal e (markOf D :: ds) h' (L2 ++ (D, .deferred (some [])) :: Lf)
         | some c => den C R (.code c :: k) .normal e (markOf D :: ds) h' (L2 ++ (D, .deferred (some [])) :: Lf))) :
    den C R (.code (.rangeFunc g ps assign body) :: k) .normal e ds h (L1 ++ Lf) := by
  intro a w he hs
  rw [hr]
  refine wpIn_rangeFunc (F := fx none) (n := 0) fun fn _ => ?_
  let D := w.heap.size
  let lp := w.heap.size + 1
  let r : Loop := { state := .ready, pending := none, fn, tmps := a.tmps, params := ps, assign, body, defers := D }
  let w1 : World := { w with heap := w.heap.push (.deferred (some [])) }
  let w2 : World := { w1 with heap := w1.heap.push (.loop r) }
  have hs1 : St h ((D, .deferred (some [])) :: (L1 ++ Lf)) w1 := hs.alloc _
  have hs2 : St h ((lp, .loop r) :: (D, .deferred (some [])) :: (L1 ++ Lf)) w2 := by
    have := hs1.alloc (.loop r)
    rw [show w1.heap.size = lp from by simp [w1, lp]] at this
    exact this
  have hs3 : St h (((lp, .loop r) :: L1) ++ ((D, .deferred (some [])) :: Lf)) w2 := by
    refine hs2.perm ?_
    rw [List.cons_append]
    exact List.Perm.cons _ List.perm_middle.symm
  obtain ⟨Post, t, hp⟩ := H D lp r rfl rfl rfl rfl rfl ⟨he.size, he.ok⟩
  refine ⟨lp, [markOf D], w2, { target := .fn (.func f) ca, args := fi ++ #[.func (.yield lp) #[] #[]] }, w2, f, (fi ++ #[.func (.yield lp) #[] #[]]) ++ ca, w2, ?_, ?_, fun _ _ => trivial, ?_, fun hh => by simp [fx, Fence.wide] at hh, ?_⟩
  · have h1 : w1.heap.size = lp := by simp [w1, lp]
    simp [fx, Instr.enterLoop, w2, w1, r, D, lp]
  · simp only [resolve]; rw [he.eval hg]; simp [Deferred.ofValue, Act.eval]
  · simp only [invoke]
    exact run_callFunc t.1 _ _
  · have hc := t.2 _ w2 hs3
    rw [show ((fi ++ #[.func (.yield lp) #[] #[]]) ++ ca) = ⟨fi.toList ++ [.func (.yield lp) #[] #[]] ++ ca.toList⟩ from by simp [← Array.toList_inj]]
    refine CallsIn.mono (F := fx none) (n := 0) hc ?_
    rintro e' w3 ⟨v, h', L', rfl, hle, hs4, hq⟩
    obtain ⟨r', L2, rfl, hb, hx⟩ := hp v h' L' hle hq
    have hrec : w3.heap[lp]? = some (.loop r') := hs4.own (lp, .loop r') (by simp)
    refine ⟨_, _, run_endLoop hrec hb, ?_⟩
    have hs5 := St.set0 (B := L2 ++ (D, .deferred (some [])) :: Lf) (by simpa using hs4) (.loop { r' with state := .exhausted })
    have hs6 := hs5.sub (List.sublist_cons_self _ _)
    have he' : EnvOk C.n e (markOf D :: ds) { a with defers := [markOf D] ++ a.defers } := ⟨he.size, he.ok, by simp [he.df]⟩
    cases hpd : r'.pending with
    | none => rw [hpd] at hx hs6; exact ⟨_, _, _, _, he', hs6, hx⟩
    | some c => rw [hpd] at hx hs6; have := hx _ _ he' hs6; rw [hr] at this; exact this

/-- The same in a round of an outer range. -/
theorem den_rangeN {g : Operand} {ps : Array Tmp} {assign body : Code} {f : FuncId} {fi ca : Array Value} {L1 Lf : Owned} {l0 : Nat} {r0 : Loop} (hr : C.r = some l0) (hl0 : (l0, .loop r0) ∈ L1 ++ Lf) (hg : ev e g = some (.func (.func f) fi ca))
    (H : ∀ (lp : Nat) (r : Loop), r.state = .ready → r.pending = none → r.params = ps → r.assign = assign → r.body = body → EnvT C.n e r.tmps →
      ∃ Post, Tr C.P f (fi.toList ++ [.func (.yield lp) #[] #[]] ++ ca.toList) h ((lp, .loop r) :: L1) Post ∧
      ∀ v h' L', Heap.le h h' → Post v h' L' → ∃ r' L2, L' = (lp, .loop r') :: L2 ∧ r'.state ≠ .busy ∧
        (match r'.pending with
         | none => den C R k .normal e ds h' (L2 ++ Lf)
         | some c => den C R (.code c :: k) .normal e ds h' (L2 ++ Lf))) :
    den C R (.code (.rangeFunc g ps assign body) :: k) .normal e ds h (L1 ++ Lf) := by
  intro a w he hs
  rw [hr]
  refine wpIn_rangeFunc (F := fx (some l0)) (n := 0) fun fn _ => ?_
  have hrec0 : w.heap[l0]? = some (.loop r0) := hs.own _ hl0
  let lp := w.heap.size
  let r : Loop := { state := .ready, pending := none, fn, tmps := a.tmps, params := ps, assign, body, defers := r0.defers }
  let w2 : World := { w with heap := w.heap.push (.loop r) }
  have hs3 : St h (((lp, .loop r) :: L1) ++ Lf) w2 := hs.alloc (.loop r)
  obtain ⟨Post, t, hp⟩ := H lp r rfl rfl rfl rfl rfl ⟨he.size, he.ok⟩
  refine ⟨lp, [], w2, { target := .fn (.func f) ca, args := fi ++ #[.func (.yield lp) #[] #[]] }, w2, f, (fi ++ #[.func (.yield lp) #[] #[]]) ++ ca, w2, ?_, ?_, fun _ _ => trivial, ?_, fun hh => by simp [fx, Fence.wide] at hh, ?_⟩
  · simp [fx, Instr.enterLoop, Instr.getLoop, getObj, Sem.run, hrec0, w2, r, lp]
  · simp only [resolve]; rw [he.eval hg]; simp [Deferred.ofValue, Act.eval]
  · simp only [invoke]
    exact run_callFunc t.1 _ _
  · have hc := t.2 _ w2 hs3
    rw [show ((fi ++ #[.func (.yield lp) #[] #[]]) ++ ca) = ⟨fi.toList ++ [.func (.yield lp) #[] #[]] ++ ca.toList⟩ from by simp [← Array.toList_inj]]
    refine CallsIn.mono (F := fx (some l0)) (n := 0) hc ?_
    rintro e' w3 ⟨v, h', L', rfl, hle, hs4, hq⟩
    obtain ⟨r', L2, rfl, hb, hx⟩ := hp v h' L' hle hq
    have hrec : w3.heap[lp]? = some (.loop r') := hs4.own (lp, .loop r') (by simp)
    refine ⟨_, _, run_endLoop hrec hb, ?_⟩
    have hs5 := St.set0 (B := L2 ++ Lf) (by simpa using hs4) (.loop { r' with state := .exhausted })
    have hs6 := hs5.sub (List.sublist_cons_self _ _)
    have he' : EnvOk C.n e ds { a with defers := [] ++ a.defers } := ⟨he.size, he.ok, by simp [he.df]⟩
    cases hpd : r'.pending with
    | none => rw [hpd] at hx hs6; exact ⟨_, _, _, _, he', hs6, hx⟩
    | some c => rw [hpd] at hx hs6; have := hx _ _ he' hs6; rw [hr] at this; exact this

/-- An iterator: it calls yield with the items, one after the other, as long as yield says true. -/
def Iter (P : Program) (f : FuncId) (fi ca : List Value) (Lc : Owned) (n : Nat) (item : Nat → List Value → Heap → Prop) (h : Heap) : Prop :=
  ∀ (y : Value) (S : Nat → Heap → Owned → Prop) (X : Heap → Owned → Prop),
    (∀ i h1 h2 M, Heap.le h1 h2 → S i h1 M → S i h2 M) →
    (∀ i args h1 M, i < n → Heap.le h h1 → item i args h1 → S i h1 M → TrV P y args h1 M (fun v h2 M2 => (v = .bool true ∧ S (i + 1) h2 M2) ∨ (v = .bool false ∧ X h2 M2))) →
    ∀ h0 M0, Heap.le h h0 → S 0 h0 M0 → Tr P f (fi ++ [y] ++ ca) h0 (M0 ++ Lc) (fun _ h2 M2 => S n h2 M2 ∨ X h2 M2)

/-- the loop's record, as it lies between two rounds -/
def Rec (n : Nat) (ps : Array Tmp) (assign body : Code) (e : Env) (r : Loop) : Prop := r.params = ps ∧ r.assign = assign ∧ r.body = body ∧ EnvT n e r.tmps

/-- what is owed where a round of 'for .. := range' ends -/
def eachR (lp : Nat) (h0 : Heap) (Lx : Owned) (J : Heap → Owned → Prop) (Xc : Code → Heap → Owned → Prop) (n : Nat) (ps : Array Tmp) (assign body : Code) (e0 : Env) : Pst := fun x _ _ h' L =>
  ∃ r L', L = (lp, .loop r) :: (L' ++ Lx) ∧ Rec n ps assign body e0 r ∧ Heap.le h0 h' ∧ (match x with
    | .normal => J h' L'
    | .ret => Xc .ret h' L'
    | .exit id => Xc (.exit id) h' L'
    | _ => False)

theorem each_round {P : Program} {n lp : Nat} {psl : List Nat} {assign body : Code} {e : Env} {args : List Value} {h1 : Heap} {L1 : Owned} {r : Loop} {J : Heap → Owned → Prop} {Xc : Code → Heap → Owned → Prop}
    (hst : r.state = .ready) (hrec : Rec n ⟨psl⟩ assign body e r) (hlen : args.length = psl.length) (hpn : psl.all (fun p => Nat.blt p n) = true)
    (H : ∀ r1 Lx, Rec n ⟨psl⟩ assign body e r1 → den ⟨P, some lp, n⟩ (fun _ _ _ _ _ => False) [.code assign, .again (fun e' ds' h' L' => ∃ L2, L' = (lp, .loop r1) :: (L2 ++ Lx) ∧ Heap.le h1 h' ∧
      ∀ r2, Rec n ⟨psl⟩ assign body e r2 → den ⟨P, some lp, n⟩ (eachR lp h1 Lx J Xc n ⟨psl⟩ assign body e) [.code body] .normal e' ds' h' ((lp, .loop r2) :: (L2 ++ Lx)))] .normal (putAll psl args e) [] h1 ((lp, .loop r1) :: (L1 ++ Lx))) :
    TrY P lp args h1 ((lp, .loop r) :: L1) (fun v h2 M2 => ∃ r' L2, M2 = (lp, .loop r') :: L2 ∧ Rec n ⟨psl⟩ assign body e r' ∧
      ((v = .bool true ∧ r'.state = .ready ∧ r'.pending = none ∧ J h2 L2) ∨ (v = .bool false ∧ r'.state = .done ∧ ∃ c, r'.pending = some c ∧ Xc c h2 L2))) := by
  obtain ⟨h1', rfl, rfl, h4'⟩ := hrec
  have h2' : r.assign = r.assign := rfl
  have h3' : r.body = r.body := rfl
  refine TrY_of (ps := psl) hst h1' hlen hpn h4' fun Lf => ?_
  have key := H r Lf ⟨h1', h2', h3', h4'⟩
  intro a w he hs
  refine wpIn_mono (key a w he hs) ?_
  rintro x a' w' ⟨e', ds', h', L', he', hs', hq⟩
  refine ⟨e', ds', h', L', he', hs', ?_⟩
  cases x with
  | normal =>
    obtain ⟨L2, rfl, hle, hq⟩ := hq
    refine ⟨L2, rfl, hle, ?_⟩
    have hb := hq { r with state := .busy } ⟨h1', h2', h3', h4'⟩
    intro a2 w2 he2 hs2
    refine wpIn_mono (hb a2 w2 he2 hs2) ?_
    rintro x3 a3 w3 ⟨e3, ds3, h3, L3, he3, hs3, r3, L4, hL3, hr3, hle3, hx3⟩
    refine ⟨e3, ds3, h3, L3, he3, hs3, r3, L4, hL3, hle3, ?_⟩
    cases x3 with
    | normal => exact ⟨_, L4, rfl, hr3, .inl ⟨rfl, rfl, rfl, hx3⟩⟩
    | ret => exact ⟨_, L4, rfl, hr3, .inr ⟨rfl, rfl, _, rfl, hx3⟩⟩
    | exit id => exact ⟨_, L4, rfl, hr3, .inr ⟨rfl, rfl, _, rfl, hx3⟩⟩
    | goto t => exact hx3.elim
    | panic c => exact hx3.elim
    | outgrown => exact hx3.elim
  | _ => exact hq

/-- 'for .. := range g { .. }' over an iterator, outermost. -/
theorem den_each {g : Operand} {psl : List Nat} {assign body : Code} {f : FuncId} {fi ca : List Value} {Lc Lb Lf : Owned} {n : Nat} {item : Nat → List Value → Heap → Prop}
    (hit : Iter C.P f fi ca Lc n item h) (I : Nat → Heap → Owned → Prop) (Xc : Code → Heap → Owned → Prop) (hr : C.r = none) (hg : ev e g = some (.func (.func f) ⟨fi⟩ ⟨ca⟩)) (hpn : psl.all (fun p => Nat.blt p C.n) = true)
    (hlen : ∀ i args h1, item i args h1 → args.length = psl.length)
    (hI : ∀ i h1 h2 M, Heap.le h1 h2 → I i h1 M → I i h2 M) (h0 : I 0 h Lb)
    (Hb : ∀ lp i args h1 L1 r1 Lx, i < n → Heap.le h h1 → item i args h1 → I i h1 L1 → Rec C.n ⟨psl⟩ assign body e r1 → den ⟨C.P, some lp, C.n⟩ (fun _ _ _ _ _ => False) [.code assign, .again (fun e' ds' h' L' => ∃ L2, L' = (lp, .loop r1) :: (L2 ++ Lx) ∧ Heap.le h1 h' ∧
      ∀ r2, Rec C.n ⟨psl⟩ assign body e r2 → den ⟨C.P, some lp, C.n⟩ (eachR lp h1 Lx (I (i + 1)) Xc C.n ⟨psl⟩ assign body e) [.code body] .normal e' ds' h' ((lp, .loop r2) :: (L2 ++ Lx)))] .normal (putAll psl args e) [] h1 ((lp, .loop r1) :: (L1 ++ Lx)))
    (Hd : ∀ D h' L2, Heap.le h h' → I n h' L2 → den C R k .normal e (markOf D :: ds) h' (L2 ++ (D, .deferred (some [])) :: Lf))
    (Hx : ∀ D c h' L2, Heap.le h h' → Xc c h' L2 → den C R (.code c :: k) .normal e (markOf D :: ds) h' (L2 ++ (D, .deferred (some [])) :: Lf)) :
    den C R (.code (.rangeFunc g ⟨psl⟩ assign body) :: k) .normal e ds h ((Lb ++ Lc) ++ Lf) := by
  refine den_range (L1 := Lb ++ Lc) hr hg fun D lp r hst hpd h1 h2 h3 h4 => ?_
  have hrec : Rec C.n ⟨psl⟩ assign body e r := ⟨h1, h2, h3, h4⟩
  let S : Nat → Heap → Owned → Prop := fun i h1 M => ∃ r' L1, M = (lp, .loop r') :: L1 ∧ Rec C.n ⟨psl⟩ assign body e r' ∧ r'.state = .ready ∧ r'.pending = none ∧ I i h1 L1
  let X : Heap → Owned → Prop := fun h1 M => ∃ r' L1, M = (lp, .loop r') :: L1 ∧ r'.state = .done ∧ ∃ c, r'.pending = some c ∧ Xc c h1 L1
  have ht := hit (.func (.yield lp) #[] #[]) S X (by
    rintro i ha hb M hle ⟨r', L1, rfl, hr', hs1, hp1, hi⟩
    exact ⟨r', L1, rfl, hr', hs1, hp1, hI _ _ _ _ hle hi⟩) (by
    rintro i args ha M hi hle hitem ⟨r', L1, rfl, hr', hs1, hp1, hinv⟩
    have := each_round (P := C.P) (lp := lp) (J := I (i + 1)) (Xc := Xc) hs1 hr' (hlen _ _ _ hitem) hpn (fun r1 Lx hr1 => Hb lp i args ha L1 r1 Lx hi hle hitem hinv hr1)
    refine TrV.mono (fv := .func (.yield lp) #[] #[]) (P := C.P) this ?_
    rintro v hv M2 _ ⟨r2, L2, rfl, hr2, ⟨rfl, hs2, hp2, hj⟩ | ⟨rfl, hs2, c, hc, hx⟩⟩
    · exact .inl ⟨rfl, r2, L2, rfl, hr2, hs2, hp2, hj⟩
    · exact .inr ⟨rfl, r2, L2, rfl, hs2, c, hc, hx⟩) h ((lp, .loop r) :: Lb) (Heap.le.refl h) ⟨r, Lb, rfl, hrec, hst, hpd, h0⟩
  refine ⟨_, ht, ?_⟩
  rintro v h' L' hle (⟨r', L1, rfl, hr', hs1, hp1, hi⟩ | ⟨r', L1, rfl, hs1, c, hc, hx⟩)
  · refine ⟨r', L1, rfl, by rw [hs1]; simp, ?_⟩
    rw [hp1]
    exact Hd D h' L1 hle hi
  · refine ⟨r', L1, rfl, by rw [hs1]; simp, ?_⟩
    rw [hc]
    exact Hx D c h' L1 hle hx
end
end Go.Proofs.Ch

/- The rules of A to E in the forms in which the printed walks use them. No program is named here. -/
namespace Go.Proofs.Ch
open Go

/-- a function that hands back r, and keeps nothing -/
abbrev Fn0 (P : Program) (f : FuncId) (args : List Value) (h : Heap) (r : Value) : Prop := Tr P f args h [] (fun v _ L' => v = r ∧ L' = [])
/-- a function that hands back what G tells, and keeps nothing of its own -/
abbrev Fnp (P : Program) (f : FuncId) (args : List Value) (h : Heap) (G : Value → Heap → Prop) : Prop := Tr P f args h [] (fun v h' L' => G v h' ∧ L' = [])

section
variable {C : Cx} {R : Pst} {k : List K} {e : Env} {ds : List Deferred} {h : Heap} {L : Owned} {ops : Array Oper} {l : List Oper} {Q : Pst}
variable {d : Option Tmp} {ty : TypeId} {pos : String} {af : Array Edge} {f : FuncId} {xs : List Operand} {ts : Array TypeId} {vs : List Value} {r : Value} {x : Operand} {fi ca : List Value}

theorem TrV.of {P : Program} {Post : Value → Heap → Owned → Prop} {L1 : Owned} {as : List Value} (t : Tr P f as h L1 Post) (ha : fi ++ vs ++ ca = as) : TrV P (.func (.func f) ⟨fi⟩ ⟨ca⟩) vs h L1 Post := by
  subst ha; exact t
theorem TrV.of0 {P : Program} {Post : Value → Heap → Owned → Prop} {L1 : Owned} (t : Tr P f vs h L1 Post) : TrV P (.func (.func f) #[] #[]) vs h L1 Post :=
  TrV.of (fi := []) (ca := []) t (by simp)

/-- a static call -/
theorem WL_callf {L1 Lf : Owned} {Post : Value → Heap → Owned → Prop} (hv : evs e xs = some vs) (t : Tr C.P f vs h L1 Post) (hd : dstOk d C.n = true)
    (H : ∀ v h' L', Heap.le h h' → Post v h' L' → WL C ops l Q (put d v e) ds h' (L' ++ Lf)) : WL C ops (⟨d, .call ⟨.value (.func f), ⟨xs⟩, ts⟩, ty, pos, af, none⟩ :: l) Q e ds h (L1 ++ Lf) :=
  WL_call rfl hv (TrV.of0 t) hd H
theorem WL_callp {G : Value → Heap → Prop} (hv : evs e xs = some vs) (t : Fnp C.P f vs h G) (hd : dstOk d C.n = true)
    (H : ∀ v h', Heap.le h h' → G v h' → WL C ops l Q (put d v e) ds h' L) : WL C ops (⟨d, .call ⟨.value (.func f), ⟨xs⟩, ts⟩, ty, pos, af, none⟩ :: l) Q e ds h L :=
  WL_callf (L1 := []) hv t hd (by rintro v h' L' hle ⟨hg, rfl⟩; exact H v h' hle hg)
theorem WL_callq (hv : evs e xs = some vs) (t : Fn0 C.P f vs h r) (hd : dstOk d C.n = true)
    (H : WL C ops l Q (put d r e) ds h L) : WL C ops (⟨d, .call ⟨.value (.func f), ⟨xs⟩, ts⟩, ty, pos, af, none⟩ :: l) Q e ds h L :=
  WL_callf (L1 := []) hv t hd (by rintro v h' L' hle ⟨rfl, rfl⟩; exact WL_weak hle H)
/-- the call of a function value -/
theorem WL_vcallp {G : Value → Heap → Prop} (hx : ev e x = some (.func (.func f) ⟨fi⟩ ⟨ca⟩)) (hv : evs e xs = some vs) {as : List Value} (ha : fi ++ vs ++ ca = as) (t : Fnp C.P f as h G) (hd : dstOk d C.n = true)
    (H : ∀ v h', Heap.le h h' → G v h' → WL C ops l Q (put d v e) ds h' L) : WL C ops (⟨d, .call ⟨.value x, ⟨xs⟩, ts⟩, ty, pos, af, none⟩ :: l) Q e ds h L :=
  WL_call (L1 := []) hx hv (TrV.of t ha) hd (by rintro v h' L' hle ⟨hg, rfl⟩; exact H v h' hle hg)
theorem WL_vcallq (hx : ev e x = some (.func (.func f) ⟨fi⟩ ⟨ca⟩)) (hv : evs e xs = some vs) {as : List Value} (ha : fi ++ vs ++ ca = as) (t : Fn0 C.P f as h r) (hd : dstOk d C.n = true)
    (H : WL C ops l Q (put d r e) ds h L) : WL C ops (⟨d, .call ⟨.value x, ⟨xs⟩, ts⟩, ty, pos, af, none⟩ :: l) Q e ds h L :=
  WL_call (L1 := []) hx hv (TrV.of t ha) hd (by rintro v h' L' hle ⟨rfl, rfl⟩; exact WL_weak hle H)
/-- the same with a guard that holds -/
theorem WL_callqg {j t : Nat} {b : Bool} (hj : guardTmp ops j = some t) (hl : look e t = some (.bool b)) (hv : evs e xs = some vs) (tr : Fn0 C.P f vs h r) (hd : dstOk d C.n = true)
    (H : WL C ops l Q (put d r e) ds h L) : WL C ops (⟨d, .call ⟨.value (.func f), ⟨xs⟩, ts⟩, ty, pos, af, some (j, b)⟩ :: l) Q e ds h L :=
  WL_opg (op1_call (L1 := []) rfl hv (TrV.of0 tr)) rfl hj hl hd (by rintro v h' L' ⟨L2, rfl, hle, rfl, rfl⟩; exact WL_weak hle H)
theorem WL_vcallqg {j t : Nat} {b : Bool} (hj : guardTmp ops j = some t) (hl : look e t = some (.bool b)) (hx : ev e x = some (.func (.func f) ⟨fi⟩ ⟨ca⟩)) (hv : evs e xs = some vs) {as : List Value} (ha : fi ++ vs ++ ca = as) (tr : Fn0 C.P f as h r) (hd : dstOk d C.n = true)
    (H : WL C ops l Q (put d r e) ds h L) : WL C ops (⟨d, .call ⟨.value x, ⟨xs⟩, ts⟩, ty, pos, af, some (j, b)⟩ :: l) Q e ds h L :=
  WL_opg (op1_call (L1 := []) hx hv (TrV.of tr ha)) rfl hj hl hd (by rintro v h' L' ⟨L2, rfl, hle, rfl, rfl⟩; exact WL_weak hle H)

/-! making memory -/
theorem WL_alloc {T : TypeId} {z : Value} {zs : List Value} (hz : Zer C.P T z) (hc : z.cells = ⟨zs⟩) (hd : dstOk d C.n = true)
    (H : ∀ b, WL C ops l Q (put d (.pointer (some ⟨b, 0, none⟩)) e) ds h ((b, .cells ⟨zs⟩ T (0, 0)) :: L)) : WL C ops (⟨d, .alloc T, ty, pos, af, none⟩ :: l) Q e ds h L :=
  WL_new (f := fun b => .pointer (some ⟨b, 0, none⟩)) (o_alloc hz hc) rfl hd H
theorem WL_box {T : TypeId} {v : Value} {zs : List Value} (hx : ev e x = some v) (hc : v.cells = ⟨zs⟩) (hd : dstOk d C.n = true)
    (H : ∀ b, WL C ops l Q (put d (.pointer (some ⟨b, 0, none⟩)) e) ds h ((b, .cells ⟨zs⟩ T (0, 0)) :: L)) : WL C ops (⟨d, .box T x, ty, pos, af, none⟩ :: l) Q e ds h L :=
  WL_new (f := fun b => .pointer (some ⟨b, 0, none⟩)) (o_box hx hc) rfl hd H
theorem WL_buildSlice {t et : TypeId} {len : Nat} {z : Value} {parts : List (Nat × Operand)} {zs r : List Value} {vs : List (Nat × Value)} (hu : Und C.P t (.slice et)) (hz : Zer C.P et z) (hzc : z.cells = ⟨zs⟩) (hs : Siz C.P et zs.length) (h0 : (zs.length != 0) = true) (hb : Nat.ble (len * zs.length) 16777216 = true) (hv : evp e parts = some vs) (hf : fil (fun i => some (i * zs.length, zs.length)) (zbase len zs) vs = some r) (hd : dstOk d C.n = true)
    (H : ∀ b, WL C ops l Q (put d (.slice (some ⟨b, 0, none⟩) len len) e) ds h ((b, .cells ⟨r⟩ et (0, 0)) :: L)) : WL C ops (⟨d, .buildSlice t len ⟨parts⟩, ty, pos, af, none⟩ :: l) Q e ds h L :=
  WL_new (f := fun b => .slice (some ⟨b, 0, none⟩) len len) (o_buildSlice hu hz hzc hs h0 hb hv hf) rfl hd H
theorem WL_makeMap {t : TypeId} (hd : dstOk d C.n = true)
    (H : ∀ b, WL C ops l Q (put d (.map (some b)) e) ds h ((b, .map #[] 0) :: L)) : WL C ops (⟨d, .makeMap t none, ty, pos, af, none⟩ :: l) Q e ds h L :=
  WL_new (f := fun b => .map (some b)) o_makeMap rfl hd H

/-! stores into the call's own blocks, by their places -/
section
variable {t T : TypeId} {y : Operand} {b off : Nat} {v : Value} {us cs cs' : List Value} {p0 p1 p2 p3 p4 p5 p6 p7 : Nat × Obj}
  (hx : ev e x = some (.pointer (some ⟨b, off, none⟩))) (hy : ev e y = some v) (hc : v.cells = ⟨us⟩) (hz : Siz C.P t us.length) (hs : spl off us cs = some cs') (ho : us.all Value.oneCell' = true) (hd : dstOk d C.n = true)
include hx hy hc hz hs ho hd
theorem WL_store0 (H : WL C ops l Q (put d undef e) ds h ((b, .cells ⟨cs'⟩ T (0, 0)) :: L)) : WL C ops (⟨d, .store t x y, ty, pos, af, none⟩ :: l) Q e ds h ((b, .cells ⟨cs⟩ T (0, 0)) :: L) := WL_store (A := []) hx hy hc hz hs ho hd H
theorem WL_store1 (H : WL C ops l Q (put d undef e) ds h (p0 :: (b, .cells ⟨cs'⟩ T (0, 0)) :: L)) : WL C ops (⟨d, .store t x y, ty, pos, af, none⟩ :: l) Q e ds h (p0 :: (b, .cells ⟨cs⟩ T (0, 0)) :: L) := WL_store (A := [p0]) hx hy hc hz hs ho hd H
theorem WL_store2 (H : WL C ops l Q (put d undef e) ds h (p0 :: p1 :: (b, .cells ⟨cs'⟩ T (0, 0)) :: L)) : WL C ops (⟨d, .store t x y, ty, pos, af, none⟩ :: l) Q e ds h (p0 :: p1 :: (b, .cells ⟨cs⟩ T (0, 0)) :: L) := WL_store (A := [p0, p1]) hx hy hc hz hs ho hd H
theorem WL_store3 (H : WL C ops l Q (put d undef e) ds h (p0 :: p1 :: p2 :: (b, .cells ⟨cs'⟩ T (0, 0)) :: L)) : WL C ops (⟨d, .store t x y, ty, pos, af, none⟩ :: l) Q e ds h (p0 :: p1 :: p2 :: (b, .cells ⟨cs⟩ T (0, 0)) :: L) := WL_store (A := [p0, p1, p2]) hx hy hc hz hs ho hd H
theorem WL_store4 (H : WL C ops l Q (put d undef e) ds h (p0 :: p1 :: p2 :: p3 :: (b, .cells ⟨cs'⟩ T (0, 0)) :: L)) : WL C ops (⟨d, .store t x y, ty, pos, af, none⟩ :: l) Q e ds h (p0 :: p1 :: p2 :: p3 :: (b, .cells ⟨cs⟩ T (0, 0)) :: L) := WL_store (A := [p0, p1, p2, p3]) hx hy hc hz hs ho hd H
theorem WL_store5 (H : WL C ops l Q (put d undef e) ds h (p0 :: p1 :: p2 :: p3 :: p4 :: (b, .cells ⟨cs'⟩ T (0, 0)) :: L)) : WL C ops (⟨d, .store t x y, ty, pos, af, none⟩ :: l) Q e ds h (p0 :: p1 :: p2 :: p3 :: p4 :: (b, .cells ⟨cs⟩ T (0, 0)) :: L) := WL_store (A := [p0, p1, p2, p3, p4]) hx hy hc hz hs ho hd H
theorem WL_store6 (H : WL C ops l Q (put d undef e) ds h (p0 :: p1 :: p2 :: p3 :: p4 :: p5 :: (b, .cells ⟨cs'⟩ T (0, 0)) :: L)) : WL C ops (⟨d, .store t x y, ty, pos, af, none⟩ :: l) Q e ds h (p0 :: p1 :: p2 :: p3 :: p4 :: p5 :: (b, .cells ⟨cs⟩ T (0, 0)) :: L) := WL_store (A := [p0, p1, p2, p3, p4, p5]) hx hy hc hz hs ho hd H
theorem WL_store7 (H : WL C ops l Q (put d undef e) ds h (p0 :: p1 :: p2 :: p3 :: p4 :: p5 :: p6 :: (b, .cells ⟨cs'⟩ T (0, 0)) :: L)) : WL C ops (⟨d, .store t x y, ty, pos, af, none⟩ :: l) Q e ds h (p0 :: p1 :: p2 :: p3 :: p4 :: p5 :: p6 :: (b, .cells ⟨cs⟩ T (0, 0)) :: L) := WL_store (A := [p0, p1, p2, p3, p4, p5, p6]) hx hy hc hz hs ho hd H
end
theorem WL_freeze1 {p0 : Nat × Obj} {b : Nat} {o : Obj} (H : ∀ h', Heap.le h h' → h' b = some o → WL C ops l Q e ds h' (p0 :: L)) : WL C ops l Q e ds h (p0 :: (b, o) :: L) :=
  WL_perm (L' := (b, o) :: p0 :: L) (List.Perm.swap _ _ _) (WL_freeze H)
theorem den_freeze1 {c : Code} {p0 : Nat × Obj} {b : Nat} {o : Obj} (H : ∀ h', Heap.le h h' → h' b = some o → den C R (.code c :: k) .normal e ds h' (p0 :: L)) : den C R (.code c :: k) .normal e ds h (p0 :: (b, o) :: L) :=
  den_perm (L' := (b, o) :: p0 :: L) (List.Perm.swap _ _ _) (den_freeze H)
end

/-! loops, told over their variables -/
def Sub (e' e : Env) : Prop := ∀ t v, look e' t = some v → look e t = some v
theorem sub_nil {e : Env} : Sub [] e := fun _ _ h => by simp [look] at h
theorem sub_cons {e e' : Env} {t0 : Nat} {v0 : Value} (h : look e t0 = some v0) (r : Sub e' e) : Sub ((t0, v0) :: e') e := by
  intro t v hl
  simp only [look] at hl
  cases hb : Nat.beq t0 t with
  | true => have := Nat.eq_of_beq_eq_true hb; subst this; simp [hb] at hl; subst hl; exact h
  | false => simp [hb] at hl; exact r t v hl
theorem den_loopI {C : Cx} {R : Pst} {k : List K} {e : Env} {ds : List Deferred} {h : Heap} {L : Owned} {c : Code} {ι : Type} (env : ι → Env) (ok : ι → Heap → Owned → Prop) (μ : ι → Nat) (i0 : ι)
    (hs : Sub (env i0) e) (h0 : ok i0 h L)
    (round : ∀ i h L, ok i h L → den C R (.code c :: .again (fun e ds' h L => ds' = ds ∧ ∃ j, μ j < μ i ∧ Sub (env j) e ∧ ok j h L) :: k) .normal (env i) ds h L) :
    den C R (.code (.loop c) :: k) .normal e ds h L := by
  refine den_loop (fun m e ds' h L => ds' = ds ∧ ∃ i, m = μ i ∧ Sub (env i) e ∧ ok i h L) (μ i0) ⟨rfl, i0, rfl, hs, h0⟩ ?_
  rintro m e ds h L ⟨rfl, i, rfl, hsub, hok⟩
  refine den_env hsub ?_
  intro a w he hs
  refine wpIn_mono (round i h L hok a w he hs) ?_
  rintro x a' w' ⟨e', ds', h', L', he', hs', hq⟩
  refine ⟨e', ds', h', L', he', hs', ?_⟩
  cases x with
  | normal => obtain ⟨rfl, j, hlt, hsj, hj⟩ := hq; exact ⟨μ j, hlt, rfl, j, rfl, hsj, hj⟩
  | _ => exact hq

/-- what holds where ways meet again -/
theorem den_cut {C : Cx} {R : Pst} {k : List K} {e : Env} {ds : List Deferred} {h : Heap} {L : Owned} {c : Code} {ι : Type} (env : ι → Env) (ok : ι → Heap → Owned → Prop)
    (h1 : den C R (.code c :: .again (fun e ds' h L => ds' = ds ∧ ∃ j, Sub (env j) e ∧ ok j h L) :: k) .normal e ds h L)
    (h2 : ∀ j h L, ok j h L → den C R k .normal (env j) ds h L) : den C R (.code c :: k) .normal e ds h L := by
  intro a w he hs
  refine wpIn_mono (h1 a w he hs) ?_
  rintro x a' w' ⟨e', ds', h', L', he', hs', hq⟩
  cases x with
  | normal =>
    obtain ⟨rfl, j, hsub, hok⟩ := hq
    exact ⟨env j, ds', h', L', he'.less hsub, hs', h2 j h' L' hok⟩
  | _ => exact ⟨e', ds', h', L', he', hs', hq⟩

/-! numbers that fit -/
theorem wrap_i64 {n : Int} (h1 : -9223372036854775808 ≤ n) (h2 : n ≤ 9223372036854775807) : IntKind.i64.wrap n = n := by
  simp only [IntKind.wrap, IntKind.bits, IntKind.signed]
  simp
  omega
theorem wrap_u64 {n : Int} (h1 : 0 ≤ n) (h2 : n ≤ 18446744073709551615) : IntKind.u64.wrap n = n := by
  simp only [IntKind.wrap, IntKind.bits, IntKind.signed]
  simp
  omega
theorem wrap_u32 {n : Int} (h1 : 0 ≤ n) (h2 : n ≤ 4294967295) : IntKind.u32.wrap n = n := by
  simp only [IntKind.wrap, IntKind.bits, IntKind.signed]
  simp
  omega
theorem wrap_u8 {n : Int} (h1 : 0 ≤ n) (h2 : n ≤ 255) : IntKind.u8.wrap n = n := by
  simp only [IntKind.wrap, IntKind.bits, IntKind.signed]
  simp
  omega
end Go.Proofs.Ch
