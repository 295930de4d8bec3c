/- The core of the walks: what is known of memory (what never changes any more, and what is the call's own), what is known of a frame's temporaries, and the rules by which code is walked. No program is named here. -/
import Derived.RangeFuncLeaves
namespace Go.Proofs.Ch
open Go

/-- What is known of memory for good. -/
structure Heap where
  f : Nat → Option Obj
  os : Os
  out : Array (Nat × ByteArray)
instance : CoeFun Heap (fun _ => Nat → Option Obj) := ⟨Heap.f⟩
/-- The call's own blocks, and what they hold. -/
abbrev Owned := List (Nat × Obj)

structure Heap.le (h h' : Heap) : Prop where
  sub : ∀ b o, h b = some o → h' b = some o
  os : h'.os = h.os
  out : h'.out = h.out
instance {h h' : Heap} : CoeFun (Heap.le h h') (fun _ => ∀ b o, h b = some o → h' b = some o) := ⟨Heap.le.sub⟩
theorem Heap.le.refl (h : Heap) : Heap.le h h := ⟨fun _ _ x => x, rfl, rfl⟩
theorem Heap.le.trans {a b c : Heap} (x : Heap.le a b) (y : Heap.le b c) : Heap.le a c := ⟨fun i o z => y i o (x i o z), y.os.trans x.os, y.out.trans x.out⟩

structure St (h : Heap) (L : Owned) (w : World) : Prop where
  per : ∀ b o, h b = some o → w.heap[b]? = some o
  own : ∀ p ∈ L, w.heap[p.1]? = some p.2
  sep : ∀ p ∈ L, h p.1 = none
  nd : (L.map Prod.fst).Nodup
  os : w.os = h.os
  out : w.output = h.out

/-- What is known of the temporaries: the newest first. -/
abbrev Env := List (Nat × Value)
def look : Env → Nat → Option Value
  | [], _ => none
  | (k, v) :: e, t => bif Nat.beq k t then some v else look e t
def ev (e : Env) : Operand → Option Value
  | .tmp t => look e t
  | .const v => some v
  | .global g => some (.pointer (some ⟨g, 0, none⟩))
  | .func f => some (.func (.func f) #[] #[])
def evs (e : Env) : List Operand → Option (List Value)
  | [] => some []
  | x :: xs => match ev e x, evs e xs with
    | some v, some vs => some (v :: vs)
    | _, _ => none

structure EnvOk (n : Nat) (e : Env) (ds : List Deferred) (a : Act) : Prop where
  size : a.tmps.size = n
  ok : ∀ t v, look e t = some v → a.tmps[t]? = some v
  df : a.defers = ds

theorem EnvOk.eval {n e ds a} (h : EnvOk n e ds a) {x v} (hx : ev e x = some v) : a.eval x = v := by
  cases x with
  | tmp t => have := h.ok t v hx; simp [Act.eval, this]
  | const v' => simpa [ev, Act.eval] using hx
  | global g => simpa [ev, Act.eval] using hx
  | func f => simpa [ev, Act.eval] using hx

theorem EnvOk.evals {n e ds a} (h : EnvOk n e ds a) : ∀ {xs vs}, evs e xs = some vs → xs.map a.eval = vs := by
  intro xs
  induction xs with
  | nil => intro vs hx; simp [evs] at hx; simp [← hx]
  | cons x xs ih =>
    intro vs hx
    simp only [evs] at hx
    split at hx
    · rename_i v vs' h1 h2
      cases hx
      simp [h.eval h1, ih h2]
    · cases hx

def put (d : Option Tmp) (v : Value) (e : Env) : Env := match d with
  | some t => (t, v) :: e
  | none => e

def dstOk (d : Option Tmp) (n : Nat) : Bool := match d with
  | some t => Nat.blt t n
  | none => true

theorem EnvOk.put {n e ds a} (h : EnvOk n e ds a) {d : Option Tmp} (hd : dstOk d n = true) (v : Value) : EnvOk n (Ch.put d v e) ds (a.put d v) := by
  cases d with
  | none => exact h
  | some t =>
    have ht : t < n := by simpa [dstOk, Nat.blt_eq] using hd
    refine ⟨by simp [Act.put, h.size], ?_, by simp [Act.put, h.df]⟩
    intro t' v' hl
    simp only [Ch.put, look] at hl
    simp only [Act.put]
    cases hb : Nat.beq t t' with
    | true =>
      have : t = t' := Nat.eq_of_beq_eq_true hb
      subst this
      simp [hb] at hl
      subst hl
      simp [h.size, ht]
    | false =>
      have hne : t ≠ t' := Nat.ne_of_beq_eq_false hb
      simp [hb] at hl
      rw [Array.getElem?_setIfInBounds_ne hne]
      exact h.ok _ _ hl

theorem EnvOk.less {n e ds a} (h : EnvOk n e ds a) {e'} (he : ∀ t v, look e' t = some v → look e t = some v) : EnvOk n e' ds a :=
  ⟨h.size, fun t v x => h.ok t v (he t v x), h.df⟩

/-- The fence that lets all in, in a round or not. -/
def fx (r : Option Nat) : Fence := { Fence.wide with round := r }
theorem fx_none : fx none = Fence.wide := rfl
theorem fx_fn (r f) : (fx r).fn f := trivial
theorem fx_depth (r) : (fx r).depth = none := rfl

structure Cx where
  P : Program
  r : Option Nat
  n : Nat

abbrev Pst := Exit → Env → List Deferred → Heap → Owned → Prop

/-- A postcondition on what is known, as one on frames and worlds. -/
def up (C : Cx) (Q : Pst) : Exit → Act → World → Prop := fun x a w => ∃ e ds h L, EnvOk C.n e ds a ∧ St h L w ∧ Q x e ds h L

def W (C : Cx) (c : Code) (Q : Pst) (e : Env) (ds : List Deferred) (h : Heap) (L : Owned) : Prop :=
  ∀ a w, EnvOk C.n e ds a → St h L w → c.wpIn (fx C.r) 0 C.P (up C Q) a w

inductive K where
  | code (c : Code)
  | blk (id : Nat)
  | again (I : Env → List Deferred → Heap → Owned → Prop)

def den (C : Cx) (R : Pst) : List K → Pst
  | [] => R
  | .code c :: k => fun x e ds h L => match x with
    | .normal => W C c (den C R k) e ds h L
    | x => den C R k x e ds h L
  | .blk id :: k => fun x e ds h L => match x with
    | .exit j => bif Nat.beq j id then den C R k .normal e ds h L else den C R k (.exit j) e ds h L
    | x => den C R k x e ds h L
  | .again I :: k => fun x e ds h L => match x with
    | .normal => I e ds h L
    | x => den C R k x e ds h L

section rules
variable {C : Cx} {R : Pst} {k : List K} {e : Env} {ds : List Deferred} {h : Heap} {L : Owned}

theorem den_seq {a b : Code} (H : den C R (.code a :: .code b :: k) .normal e ds h L) : den C R (.code (.seq a b) :: k) .normal e ds h L := by
  intro a' w he hs
  refine wpIn_seq (wpIn_mono (H a' w he hs) ?_)
  rintro x a'' w'' ⟨e', ds', h', L', he', hs', hq⟩
  cases x with
  | normal => exact hq a'' w'' he' hs'
  | _ => exact ⟨e', ds', h', L', he', hs', hq⟩

theorem den_skip (H : den C R k .normal e ds h L) : den C R (.code .skip :: k) .normal e ds h L :=
  fun _ _ he hs => wpIn_skip ⟨_, _, _, _, he, hs, H⟩

theorem den_blk {id : Nat} (H : den C R k .normal e ds h L) : den C R (.blk id :: k) .normal e ds h L := H
theorem den_nil (H : R .normal e ds h L) : den C R [] .normal e ds h L := H

theorem den_scope_not (H : den C R k .normal e ds h L) : den C R (.code (.label 0) :: k) .normal e ds h L :=
  fun _ _ he hs => wpIn_label ⟨_, _, _, _, he, hs, H⟩

def exitK (id : Nat) : List K → Option (List K)
  | [] => none
  | .blk j :: k => bif Nat.beq id j then some k else exitK id k
  | .code _ :: k => exitK id k
  | .again _ :: k => exitK id k

theorem den_of_exitK {id : Nat} {k' : List K} (H : den C R k' .normal e ds h L) : ∀ {k : List K}, exitK id k = some k' → den C R k (.exit id) e ds h L := by
  intro k
  induction k with
  | nil => intro hk; cases hk
  | cons x k ih =>
    intro hk
    cases x with
    | blk j =>
      simp only [exitK] at hk
      simp only [den]
      cases hb : Nat.beq id j with
      | true => simp [hb] at hk; subst hk; exact H
      | false => simp [hb] at hk; simpa using ih hk
    | code c => simp only [exitK] at hk; exact ih hk
    | again I => simp only [exitK] at hk; exact ih hk

theorem den_exit {id : Nat} {k' : List K} (hk : exitK id k = some k') (H : den C R k' .normal e ds h L) : den C R (.code (.exit id) :: k) .normal e ds h L :=
  fun _ _ he hs => wpIn_exit ⟨_, _, _, _, he, hs, den_of_exitK H hk⟩

/-- an exit that no block here catches (a round's way out of its loop) -/
theorem den_exitR {id : Nat} (hk : exitK id k = none) (H : R (.exit id) e ds h L) : den C R (.code (.exit id) :: k) .normal e ds h L := by
  have key : ∀ k : List K, exitK id k = none → den C R k (.exit id) e ds h L := by
    intro k
    induction k with
    | nil => intro _; exact H
    | cons x k ih =>
      intro hk
      cases x with
      | blk j =>
        simp only [exitK] at hk
        simp only [den]
        cases hb : Nat.beq id j with
        | true => simp [hb] at hk
        | false => simp [hb] at hk; simpa using ih hk
      | code c => simp only [exitK] at hk; exact ih hk
      | again I => simp only [exitK] at hk; exact ih hk
  exact fun _ _ he hs => wpIn_exit ⟨_, _, _, _, he, hs, key k hk⟩

theorem den_pass_ret : ∀ {k : List K}, R .ret e ds h L → den C R k .ret e ds h L
  | [], H => H
  | .blk _ :: k, H => den_pass_ret (k := k) H
  | .code _ :: k, H => den_pass_ret (k := k) H
  | .again _ :: k, H => den_pass_ret (k := k) H

theorem den_pass_panic {ch} : ∀ {k : List K}, R (.panic ch) e ds h L → den C R k (.panic ch) e ds h L
  | [], H => H
  | .blk _ :: k, H => den_pass_panic (k := k) H
  | .code _ :: k, H => den_pass_panic (k := k) H
  | .again _ :: k, H => den_pass_panic (k := k) H

theorem den_ret (H : R .ret e ds h L) : den C R (.code .ret :: k) .normal e ds h L :=
  fun _ _ he hs => wpIn_ret ⟨_, _, _, _, he, hs, den_pass_ret H⟩

theorem den_if {c : Operand} {x y : Code} {b : Bool} (hc : ev e c = some (.bool b))
    (ht : b = true → den C R (.code x :: k) .normal e ds h L) (hf : b = false → den C R (.code y :: k) .normal e ds h L) :
    den C R (.code (.cond c x y) :: k) .normal e ds h L :=
  fun a w he hs => wpIn_cond_split (he.eval hc) (fun t => ht t a w he hs) (fun t => hf t a w he hs)

theorem den_ifd {c : Operand} {x y : Code} {p : Prop} [Decidable p] (hc : ev e c = some (.bool (decide p)))
    (ht : p → den C R (.code x :: k) .normal e ds h L) (hf : ¬p → den C R (.code y :: k) .normal e ds h L) :
    den C R (.code (.cond c x y) :: k) .normal e ds h L :=
  den_if hc (fun t => ht (of_decide_eq_true t)) (fun t => hf (of_decide_eq_false t))

theorem den_true {c : Operand} {x y : Code} (hc : ev e c = some (.bool true)) (H : den C R (.code x :: k) .normal e ds h L) :
    den C R (.code (.cond c x y) :: k) .normal e ds h L := den_if hc (fun _ => H) (fun t => by cases t)
theorem den_false {c : Operand} {x y : Code} (hc : ev e c = some (.bool false)) (H : den C R (.code y :: k) .normal e ds h L) :
    den C R (.code (.cond c x y) :: k) .normal e ds h L := den_if hc (fun t => by cases t) (fun _ => H)

theorem den_block {id : Nat} {c : Code} (H : den C R (.code c :: .blk id :: k) .normal e ds h L) : den C R (.code (.block id c) :: k) .normal e ds h L := by
  intro a w he hs
  refine wpIn_block (wpIn_mono (H a w he hs) ?_)
  rintro x a' w' ⟨e', ds', h', L', he', hs', hq⟩
  cases x with
  | exit j =>
    simp only [den] at hq
    simp only [Exit.inBlock]
    cases hb : Nat.beq j id with
    | true => have := Nat.eq_of_beq_eq_true hb; rw [if_pos this]; simp [hb] at hq; exact ⟨e', ds', h', L', he', hs', hq⟩
    | false => have := Nat.ne_of_beq_eq_false hb; rw [if_neg this]; simp [hb] at hq; exact ⟨e', ds', h', L', he', hs', hq⟩
  | _ => exact ⟨e', ds', h', L', he', hs', hq⟩

theorem den_block' {c : Code} (H : den C R (.code c :: k) .normal e ds h L) : den C R (.code c :: k) .normal e ds h L := H

theorem least {p : Nat → Prop} (hx : ∃ n, p n) : ∃ n, p n ∧ ∀ m, p m → n ≤ m := by
  obtain ⟨n, hn⟩ := hx
  induction n using Nat.strongRecOn with
  | _ n ih =>
    by_cases hm : ∃ m, m < n ∧ p m
    · obtain ⟨m, hlt, hp⟩ := hm
      exact ih m hlt hp
    · exact ⟨n, hn, fun m hp => Nat.not_lt.1 fun hlt => hm ⟨m, hlt, hp⟩⟩

/-- a loop: what holds at each round's head, told over a measure -/
theorem den_loop {c : Code} (I : Nat → Env → List Deferred → Heap → Owned → Prop) (m : Nat) (h0 : I m e ds h L)
    (round : ∀ m e ds h L, I m e ds h L → den C R (.code c :: .again (fun e ds h L => ∃ m', m' < m ∧ I m' e ds h L) :: k) .normal e ds h L) :
    den C R (.code (.loop c) :: k) .normal e ds h L := by
  intro a w he hs
  let p : Act → World → Nat → Prop := fun a w m => ∃ e ds h L, I m e ds h L ∧ EnvOk C.n e ds a ∧ St h L w
  have hdec : ∀ a w, ∃ n, (∃ m, p a w m) → p a w n ∧ ∀ m, p a w m → n ≤ m := by
    intro a w
    by_cases hx : ∃ m, p a w m
    · obtain ⟨n, hn⟩ := least hx; exact ⟨n, fun _ => hn⟩
    · exact ⟨0, fun y => absurd y hx⟩
  let μ : Act → World → Nat := fun a w => Classical.choose (hdec a w)
  have hμ : ∀ a w, (∃ m, p a w m) → p a w (μ a w) ∧ ∀ m, p a w m → μ a w ≤ m := fun a w => Classical.choose_spec (hdec a w)
  refine wpIn_loop (fun a w => ∃ m, p a w m) μ ⟨m, e, ds, h, L, h0, he, hs⟩ ?_
  intro a w hI
  obtain ⟨e1, ds1, h1, L1, hi1, he1, hs1⟩ := (hμ a w hI).1
  refine wpIn_mono (round (μ a w) e1 ds1 h1 L1 hi1 a w he1 hs1) ?_
  rintro x a' w' ⟨e', ds', h', L', he', hs', hq⟩
  cases x with
  | normal =>
    obtain ⟨m', hm', hi'⟩ := hq
    have hx' : p a' w' m' := ⟨e', ds', h', L', hi', he', hs'⟩
    exact ⟨⟨m', hx'⟩, Nat.lt_of_le_of_lt ((hμ a' w' ⟨m', hx'⟩).2 m' hx') hm'⟩
  | _ => exact ⟨e', ds', h', L', he', hs', hq⟩

theorem den_again {I : Env → List Deferred → Heap → Owned → Prop} (H : I e ds h L) : den C R (.again I :: k) .normal e ds h L := H

/-- forget -/
theorem den_less {e' : Env} {h' : Heap} {L' : Owned} {c : Code} (he : ∀ t v, look e' t = some v → look e t = some v) (hh : ∀ w, St h L w → St h' L' w)
    (H : den C R (.code c :: k) .normal e' ds h' L') : den C R (.code c :: k) .normal e ds h L :=
  fun a w ho hs => H a w (ho.less he) (hh w hs)

/-! regions -/

def WL (C : Cx) (ops : Array Oper) (l : List Oper) (Q : Pst) (e : Env) (ds : List Deferred) (h : Heap) (L : Owned) : Prop :=
  ∀ i, ops.toList.drop i = l → ∀ a w, EnvOk C.n e ds a → St h L w → wpOpsIn (fx C.r) 0 C.P ops (up C Q) (List.range' i l.length) a w

theorem den_region {id : Nat} {ops : Array Oper} {l : List Oper} (hl : ops.toList = l) (H : WL C ops l (den C R k) e ds h L) :
    den C R (.code (.region id ops false) :: k) .normal e ds h L := by
  intro a w he hs
  refine wpIn_region ?_
  have := H 0 (by simpa using hl) a w he hs
  rw [← hl] at this
  rw [List.range_eq_range']
  simpa using this

variable {ops : Array Oper} {l : List Oper} {Q : Pst}

theorem WL_nil (H : Q .normal e ds h L) : WL C ops [] Q e ds h L :=
  fun _ _ _ _ he hs => ⟨_, _, _, _, he, hs, H⟩

theorem WL_at {o : Oper} {i : Nat} (hi : ops.toList.drop i = o :: l) : ops[i]? = some o ∧ ops.toList.drop (i + 1) = l := by
  have h1 : ops.toList[i]? = some o := by
    have := congrArg List.head? hi
    simpa [List.head?_drop] using this
  refine ⟨by simpa using h1, ?_⟩
  have h2 : (ops.toList.drop i).drop 1 = l := by rw [hi]; rfl
  simpa [List.drop_drop] using h2

/-- One operation: from what is known, it comes to one of the values (and to what is known then) that G says; or it panics. -/
def Op1 (C : Cx) (o : Oper) (e : Env) (h : Heap) (L : Owned) (G : Value → Heap → Owned → Prop) : Prop :=
  ∀ ds a w next Q, EnvOk C.n e ds a → St h L w → (∀ v h' L' w', G v h' L' → St h' L' w' → next (a.put o.dst v) w') → o.wpIn (fx C.r) 0 C.P a w next Q

theorem WL_op {o : Oper} {G : Value → Heap → Owned → Prop} (ho : Op1 C o e h L G) (hg : o.guard = none) (hd : dstOk o.dst C.n = true)
    (H : ∀ v h' L', G v h' L' → WL C ops l Q (put o.dst v e) ds h' L') : WL C ops (o :: l) Q e ds h L := by
  intro i hi a w he hs
  obtain ⟨h1, h2⟩ := WL_at hi
  simp only [List.length_cons, List.range'_succ, wpOpsIn, h1]
  rw [if_pos (by simp [Region.wanted, hg])]
  exact ho ds a w _ _ he hs fun v h' L' w' hG hs' => H v h' L' hG (i + 1) h2 _ _ (he.put hd v) hs'

def guardTmp (ops : Array Oper) (j : Nat) : Option Nat := (ops[j]?).bind (·.dst)

theorem yielded_of {j t : Nat} {b : Bool} {a : Act} (hj : guardTmp ops j = some t) (he : EnvOk C.n e ds a) (hl : look e t = some (.bool b)) : yielded ops a.tmps j = some b := by
  simp only [guardTmp] at hj
  simp [yielded, hj, he.ok _ _ hl]

theorem WL_opg {o : Oper} {G : Value → Heap → Owned → Prop} {j t : Nat} {b : Bool} (ho : Op1 C o e h L G) (hg : o.guard = some (j, b)) (hj : guardTmp ops j = some t) (hl : look e t = some (.bool b)) (hd : dstOk o.dst C.n = true)
    (H : ∀ v h' L', G v h' L' → WL C ops l Q (put o.dst v e) ds h' L') : WL C ops (o :: l) Q e ds h L := by
  intro i hi a w he hs
  obtain ⟨h1, h2⟩ := WL_at hi
  simp only [List.length_cons, List.range'_succ, wpOpsIn, h1]
  rw [if_pos (by simp [Region.wanted, hg, yielded_of hj he hl])]
  exact ho ds a w _ _ he hs fun v h' L' w' hG hs' => H v h' L' hG (i + 1) h2 _ _ (he.put hd v) hs'

theorem WL_skip {o : Oper} {j t : Nat} {b : Bool} (hg : o.guard = some (j, !b)) (hj : guardTmp ops j = some t) (hl : look e t = some (.bool b)) (hd : dstOk o.dst C.n = true)
    (H : WL C ops l Q (put o.dst undef e) ds h L) : WL C ops (o :: l) Q e ds h L := by
  intro i hi a w he hs
  obtain ⟨h1, h2⟩ := WL_at hi
  simp only [List.length_cons, List.range'_succ, wpOpsIn, h1]
  rw [if_neg (by simp [Region.wanted, hg, yielded_of hj he hl])]
  exact ⟨fun _ _ => trivial, H (i + 1) h2 _ _ (he.put hd _) hs⟩

/-- a guard that is not decided: two ways -/
theorem WL_split {t : Nat} {b : Bool} (hl : look e t = some (.bool b)) (ht : b = true → WL C ops l Q ((t, .bool true) :: e) ds h L) (hf : b = false → WL C ops l Q ((t, .bool false) :: e) ds h L) : WL C ops l Q e ds h L := by
  intro i hi a w he hs
  have key : ∀ b', b = b' → EnvOk C.n ((t, .bool b') :: e) ds a := by
    rintro b' rfl
    refine ⟨he.size, ?_, he.df⟩
    intro t' v' hx
    simp only [look] at hx
    cases hb : Nat.beq t t' with
    | true => have := Nat.eq_of_beq_eq_true hb; subst this; simp [hb] at hx; subst hx; exact he.ok _ _ hl
    | false => simp [hb] at hx; exact he.ok _ _ hx
  cases b with
  | true => exact ht rfl i hi a w (key _ rfl) hs
  | false => exact hf rfl i hi a w (key _ rfl) hs

theorem WL_less {e' : Env} {h' : Heap} {L' : Owned} (he : ∀ t v, look e' t = some v → look e t = some v) (hh : ∀ w, St h L w → St h' L' w)
    (H : WL C ops l Q e' ds h' L') : WL C ops l Q e ds h L :=
  fun i hi a w ho hs => H i hi a w (ho.less he) (hh w hs)

end rules
end Go.Proofs.Ch
