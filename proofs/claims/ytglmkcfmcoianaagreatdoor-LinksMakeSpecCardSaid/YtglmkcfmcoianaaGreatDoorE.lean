/- Calls: what a call comes to; functions out of their bodies; ranges over functions. No program is named here. -/
import Derived.Test.YtglmkcfmcoianaaGreatDoorD
namespace Go.Proofs.Ch
open Go

/-- the function has a body, so it is entered -/
def Bod (P : Program) (f : FuncId) : Prop := ∃ fn, P.funcs[f]? = some fn ∧ fn.body.isNone = false ∧ (fn.name == "runtime.NumGoroutine") = false

def TrPost (h : Heap) (Lf : Owned) (Post : Value → Heap → Owned → Prop) : Ending → World → Prop :=
  fun e w' => ∃ v h' L', e = .returned v ∧ Heap.le h h' ∧ St h' (L' ++ Lf) w' ∧ Post v h' L'

/-- What the call of f with these arguments comes to, where h is known and L is handed over. -/
def Tr (P : Program) (f : FuncId) (args : List Value) (h : Heap) (L : Owned) (Post : Value → Heap → Owned → Prop) : Prop :=
  Bod P f ∧ ∀ Lf w, St h (L ++ Lf) w → CallsIn Fence.wide 0 P f ⟨args⟩ w (TrPost h Lf Post)

theorem TrPost.mono {h Lf} {Post Post' : Value → Heap → Owned → Prop} (hp : ∀ v h' L', Heap.le h h' → Post v h' L' → Post' v h' L') : ∀ e w, TrPost h Lf Post e w → TrPost h Lf Post' e w := by
  rintro e w ⟨v, h', L', he, hle, hs, hq⟩
  exact ⟨v, h', L', he, hle, hs, hp _ _ _ hle hq⟩

theorem Tr.mono {P f args h L} {Post Post' : Value → Heap → Owned → Prop} (t : Tr P f args h L Post) (hp : ∀ v h' L', Heap.le h h' → Post v h' L' → Post' v h' L') : Tr P f args h L Post' :=
  ⟨t.1, fun Lf w hs => (t.2 Lf w hs).mono (TrPost.mono hp)⟩

/-- with more of the caller's own blocks -/
theorem Tr.frame {P f args h L} {Post : Value → Heap → Owned → Prop} (t : Tr P f args h L Post) (M : Owned) : Tr P f args h (L ++ M) (fun v h' L' => ∃ L1, L' = L1 ++ M ∧ Post v h' L1) :=
  ⟨t.1, fun Lf w hs => (t.2 (M ++ Lf) w (by rw [← List.append_assoc]; exact hs)).mono (by
    rintro e w' ⟨v, h', L', he, hle, hs', hq⟩
    exact ⟨v, h', L' ++ M, he, hle, by rw [List.append_assoc]; exact hs', L', rfl, hq⟩)⟩

theorem Tr.perm {P f args h L L'} {Post : Value → Heap → Owned → Prop} (hp : L'.Perm L) (t : Tr P f args h L Post) : Tr P f args h L' Post :=
  ⟨t.1, fun Lf w hs => t.2 Lf w (hs.perm (hp.append_right Lf))⟩

/-- A round of the loop l. -/
def TrY (P : Program) (l : Nat) (args : List Value) (h : Heap) (L : Owned) (Post : Value → Heap → Owned → Prop) : Prop :=
  ∀ Lf w, St h (L ++ Lf) w → ∃ r, w.heap[l]? = some (.loop r) ∧ args.length = r.params.size ∧
    RoundIn Fence.wide 0 P l r.fn ((r.params.zip ⟨args⟩).foldl (fun tmps (t, a) => tmps.setIfInBounds t a) r.tmps) r.assign r.body w (TrPost h Lf Post)

/-- The call of a function value. -/
def TrV (P : Program) (fv : Value) (args : List Value) (h : Heap) (L : Owned) (Post : Value → Heap → Owned → Prop) : Prop :=
  match fv with
  | .func (.func f) fi ca => Tr P f (fi.toList ++ args ++ ca.toList) h L Post
  | .func (.yield l) fi _ => TrY P l (fi.toList ++ args) h L Post
  | _ => False

theorem TrV.mono {P fv args h L} {Post Post' : Value → Heap → Owned → Prop} (t : TrV P fv args h L Post) (hp : ∀ v h' L', Heap.le h h' → Post v h' L' → Post' v h' L') : TrV P fv args h L Post' := by
  unfold TrV at t ⊢
  split at t
  · exact t.mono hp
  · intro Lf w hs
    obtain ⟨r, h1, h2, h3⟩ := t Lf w hs
    exact ⟨r, h1, h2, h3.mono (TrPost.mono hp)⟩
  · exact t.elim

theorem TrV.frame {P fv args h L} {Post : Value → Heap → Owned → Prop} (t : TrV P fv args h L Post) (M : Owned) : TrV P fv args h (L ++ M) (fun v h' L' => ∃ L1, L' = L1 ++ M ∧ Post v h' L1) := by
  unfold TrV at t ⊢
  split at t
  · exact t.frame M
  · intro Lf w hs
    obtain ⟨r, h1, h2, h3⟩ := t (M ++ Lf) w (by rw [← List.append_assoc]; exact hs)
    refine ⟨r, h1, h2, h3.mono ?_⟩
    rintro e w' ⟨v, h', L', he, hle, hs', hq⟩
    exact ⟨v, h', L' ++ M, he, hle, by rw [List.append_assoc]; exact hs', L', rfl, hq⟩
  · exact t.elim

theorem TrV.perm {P fv args h L L'} {Post : Value → Heap → Owned → Prop} (hp : L'.Perm L) (t : TrV P fv args h L Post) : TrV P fv args h L' Post := by
  unfold TrV at t ⊢
  split at t
  · exact t.perm hp
  · exact fun Lf w hs => t Lf w (hs.perm (hp.append_right Lf))
  · exact t.elim

section
variable {C : Cx} {R : Pst} {k : List K} {e : Env} {ds : List Deferred} {h : Heap} {L : Owned} {ops : Array Oper} {l : List Oper} {Q : Pst}

theorem run_callFunc {P : Program} {f : FuncId} (hb : Bod P f) (args : Array Value) (w : World) : (callFunc f args).run P w = .ok (.enter f args) w := by
  obtain ⟨fn, h1, h2, h3⟩ := hb
  simp only [callFunc, Sem.run_bind, run_program, Result.andThen_ok, h1, h2, h3]
  rfl

/-- The operation that calls a function value. -/
theorem op1_call {L1 Lf : Owned} {d : Option Tmp} {ty : TypeId} {pos : String} {af : Array Edge} {g : Option (Nat × Bool)} {x : Operand} {xs : List Operand} {ts : Array TypeId} {fv : Value} {vs : List Value} {Post : Value → Heap → Owned → Prop}
    (hx : ev e x = some fv) (hv : evs e xs = some vs) (t : TrV C.P fv vs h L1 Post) :
    Op1 C ⟨d, .call ⟨.value x, ⟨xs⟩, ts⟩, ty, pos, af, g⟩ e h (L1 ++ Lf) (fun v h' L' => ∃ L2, L' = L2 ++ Lf ∧ Heap.le h h' ∧ Post v h' L2) := by
  intro ds a w next Q he hs H
  refine ⟨fun _ _ => trivial, ?_⟩
  rw [Oper.semAt_eq _ _ _ (by simp)]
  unfold execOp
  have hxs : (⟨xs⟩ : Array Operand).map a.eval = ⟨vs⟩ := by rw [← he.evals hv]; simp
  simp only [resolve, hxs, he.eval hx, Sem.run_bind]
  unfold TrV at t
  split at t
  · rename_i f fi ca
    simp only [Deferred.ofValue, Sem.run_pure, Result.andThen_ok, invoke, run_callFunc t.1]
    refine ⟨fun hh => by simp [fx, Fence.wide] at hh, ?_⟩
    have := t.2 Lf w hs
    rw [show (fi ++ (⟨vs⟩ : Array Value) ++ ca) = ⟨fi.toList ++ vs ++ ca.toList⟩ from by simp [← Array.toList_inj]]
    refine CallsIn.mono (F := fx C.r) (n := 0) this ?_
    rintro e' w' ⟨v, h', L', rfl, hle, hs', hq⟩
    exact H v h' _ w' ⟨L', rfl, hle, hq⟩ hs'
  · rename_i lp fi ca
    obtain ⟨r, h1, h2, h3⟩ := t Lf w hs
    have hsz : (fi ++ (⟨vs⟩ : Array Value)).size = r.params.size := by rw [← h2]; simp
    have hy : (Instr.yield lp (fi ++ (⟨vs⟩ : Array Value))).run C.P w = .ok (.round lp r.fn ((r.params.zip (fi ++ (⟨vs⟩ : Array Value))).foldl (fun tmps (t, a) => tmps.setIfInBounds t a) r.tmps) r.assign r.body) w := by
      simp only [Instr.yield, Instr.getLoop, Sem.run_bind]
      have hg : (getObj lp).run C.P w = .ok (.loop r) w := by simp [getObj, Sem.run, h1]
      simp only [hg, Result.andThen_ok, Sem.run_pure, hsz]
      simp
    simp only [Deferred.ofValue, Sem.run_pure, Result.andThen_ok, invoke, hy]
    refine ⟨fun hh => by simp [fx, Fence.wide] at hh, ?_⟩
    rw [show (fi ++ (⟨vs⟩ : Array Value)) = ⟨fi.toList ++ vs⟩ from by simp [← Array.toList_inj]]
    refine RoundIn.mono (F := fx C.r) (n := 0) h3 ?_
    rintro e' w' ⟨v, h', L', rfl, hle, hs', hq⟩
    exact H v h' _ w' ⟨L', rfl, hle, hq⟩ hs'
  · exact t.elim

theorem WL_call {L1 Lf : Owned} {d : Option Tmp} {ty : TypeId} {pos : String} {af : Array Edge} {x : Operand} {xs : List Operand} {ts : Array TypeId} {fv : Value} {vs : List Value} {Post : Value → Heap → Owned → Prop}
    (hx : ev e x = some fv) (hv : evs e xs = some vs) (t : TrV C.P fv vs h L1 Post) (hd : dstOk d C.n = true)
    (H : ∀ v h' L', Heap.le h h' → Post v h' L' → WL C ops l Q (put d v e) ds h' (L' ++ Lf)) : WL C ops (⟨d, .call ⟨.value x, ⟨xs⟩, ts⟩, ty, pos, af, none⟩ :: l) Q e ds h (L1 ++ Lf) :=
  WL_op (op1_call hx hv t) rfl hd (by rintro v h' L' ⟨L2, rfl, hle, hq⟩; exact H v h' L2 hle hq)


/-! a function out of its body -/
def envL : Nat → List Value → Env
  | _, [] => []
  | i, v :: vs => (i, v) :: envL (i + 1) vs

theorem look_envL : ∀ (vs : List Value) (i t : Nat) (v : Value), look (envL i vs) t = some v → i ≤ t ∧ vs[t - i]? = some v
  | [], _, _, _, hl => by simp [envL, look] at hl
  | u :: vs, i, t, v, hl => by
    simp only [envL, look] at hl
    cases hb : Nat.beq i t with
    | true =>
      have := Nat.eq_of_beq_eq_true hb
      subst this
      simp at hl
      simp [hl]
    | false =>
      have hne := Nat.ne_of_beq_eq_false hb
      simp [hb] at hl
      obtain ⟨h1, h2⟩ := look_envL vs (i + 1) t v hl
      refine ⟨by omega, ?_⟩
      rw [show t - i = (t - (i + 1)) + 1 from by omega]
      simpa using h2

/-- what is owed where the function ends: its deferred calls, its results -/
def Ends (P : Program) (fn : Func) (n : Nat) (h0 : Heap) (Lf : Owned) (Post : Value → Heap → Owned → Prop) (e : Env) (ds : List Deferred) (h : Heap) (L : Owned) : Prop :=
  ∀ a w, EnvOk n e ds a → St h L w → LeavesInM Fence.wide 0 P fn a.tmps (TrPost h0 Lf Post) ds .returning w

def fnPost (P : Program) (fn : Func) (n : Nat) (h0 : Heap) (Lf : Owned) (Post : Value → Heap → Owned → Prop) : Pst
  | .normal, e, ds, h, L => Ends P fn n h0 Lf Post e ds h L
  | .ret, e, ds, h, L => Ends P fn n h0 Lf Post e ds h L
  | _, _, _, _, _ => False

theorem Tr_of {P : Program} {f : FuncId} {fn : Func} {c : Code} {args : List Value} {h : Heap} {L : Owned} {Post : Value → Heap → Owned → Prop} {n : Nat}
    (hf : P.funcs[f]? = some fn) (hb : fn.body = some c) (hnm : (fn.name == "runtime.NumGoroutine") = false) (hnt : fn.ntmps = n) (hn : Nat.ble args.length n = true) (e0 : Env) (he0 : envL 0 args = e0)
    (H : ∀ Lf, den ⟨P, none, n⟩ (fnPost P fn n h Lf Post) [.code c] .normal e0 [] h (L ++ Lf)) : Tr P f args h L Post := by
  subst hnt
  refine ⟨⟨fn, hf, by simp [hb], hnm⟩, fun Lf w hs => ?_⟩
  refine callsIn_of_wp_marks hf hb trivial ?_ rfl
  have hle : args.length ≤ fn.ntmps := Nat.le_of_ble_eq_true hn
  have hok : EnvOk fn.ntmps e0 [] { tmps := (⟨args⟩ : Array Value) ++ Array.replicate (fn.ntmps - (⟨args⟩ : Array Value).size) undef, defers := [] } := by
    refine ⟨by simp; omega, ?_, rfl⟩
    intro t v hl
    rw [← he0] at hl
    obtain ⟨_, h2⟩ := look_envL args 0 t v hl
    simp only [Nat.sub_zero] at h2
    have hlt : t < args.length := (List.getElem?_eq_some_iff.1 h2).1
    rw [Array.getElem?_append_left (by simpa using hlt)]
    simpa using h2
  refine wpIn_mono (H Lf _ w hok hs) ?_
  rintro x a w' ⟨e, ds, h', L', he, hs', hq⟩
  cases x with
  | normal => have := hq a w' he hs'; rw [← he.df] at this; exact this
  | ret => have := hq a w' he hs'; rw [← he.df] at this; exact this
  | _ => exact hq.elim

theorem ends_of {P : Program} {fn : Func} {n : Nat} {h0 h' : Heap} {Lf L L' : Owned} {Post : Value → Heap → Owned → Prop} {v : Value} {e : Env}
    (hr : ∀ a w, EnvOk n e [] a → St h' L w → (results fn a.tmps).run P w = .ok v w) (hle : Heap.le h0 h') (hL : (L' ++ Lf).Sublist L) (hp : Post v h' L') : Ends P fn n h0 Lf Post e [] h' L :=
  fun a w he hs => ⟨v, hr a w he hs, v, h', L', rfl, hle, hs.sub hL, hp⟩

theorem getD_of {n : Nat} {e : Env} {ds : List Deferred} {a : Act} (he : EnvOk n e ds a) {t : Nat} {v : Value} (hl : look e t = some v) : a.tmps.getD t undef = v := by
  have := he.ok _ _ hl; simp [this]

theorem ends0 {P : Program} {fn : Func} {n : Nat} {h0 h' : Heap} {Lf L L' : Owned} {Post : Value → Heap → Owned → Prop} {e : Env}
    (hr : fn.results = #[]) (hle : Heap.le h0 h') (hL : (L' ++ Lf).Sublist L) (hp : Post (.tuple ⟨[]⟩) h' L') : Ends P fn n h0 Lf Post e [] h' L :=
  ends_of (fun a w _ _ => by simp [results, hr]) hle hL hp
theorem ends1 {P : Program} {fn : Func} {n t : Nat} {h0 h' : Heap} {Lf L L' : Owned} {Post : Value → Heap → Owned → Prop} {e : Env} {v : Value}
    (hr : fn.results = #[.tmp t]) (h1 : look e t = some v) (hle : Heap.le h0 h') (hL : (L' ++ Lf).Sublist L) (hp : Post v h' L') : Ends P fn n h0 Lf Post e [] h' L :=
  ends_of (fun a w he _ => by simp only [results, hr]; simp [he.ok _ _ h1]) hle hL hp
theorem ends2 {P : Program} {fn : Func} {n t u : Nat} {h0 h' : Heap} {Lf L L' : Owned} {Post : Value → Heap → Owned → Prop} {e : Env} {v v2 : Value}
    (hr : fn.results = #[.tmp t, .tmp u]) (h1 : look e t = some v) (h2 : look e u = some v2) (hle : Heap.le h0 h') (hL : (L' ++ Lf).Sublist L) (hp : Post (.tuple ⟨[v, v2]⟩) h' L') : Ends P fn n h0 Lf Post e [] h' L :=
  ends_of (fun a w he _ => by simp only [results, hr]; simp [he.ok _ _ h1, he.ok _ _ h2]) hle hL hp
theorem ends3 {P : Program} {fn : Func} {n t u x : Nat} {h0 h' : Heap} {Lf L L' : Owned} {Post : Value → Heap → Owned → Prop} {e : Env} {v v2 v3 : Value}
    (hr : fn.results = #[.tmp t, .tmp u, .tmp x]) (h1 : look e t = some v) (h2 : look e u = some v2) (h3 : look e x = some v3) (hle : Heap.le h0 h') (hL : (L' ++ Lf).Sublist L) (hp : Post (.tuple ⟨[v, v2, v3]⟩) h' L') : Ends P fn n h0 Lf Post e [] h' L :=
  ends_of (fun a w he _ => by simp only [results, hr]; simp [he.ok _ _ h1, he.ok _ _ h2, he.ok _ _ h3]) hle hL hp

abbrev markOf (D : Nat) : Deferred := { target := .collected D, args := #[] }
/-- the mark of a range over a function, taken up at the function's end -/
theorem ends_mark {P : Program} {fn : Func} {n D : Nat} {h0 h' : Heap} {Lf A B : Owned} {Post : Value → Heap → Owned → Prop} {e : Env} {ds : List Deferred}
    (H : Ends P fn n h0 Lf Post e ds h' (A ++ (D, .deferred none) :: B)) : Ends P fn n h0 Lf Post e (markOf D :: ds) h' (A ++ (D, .deferred (some [])) :: B) := by
  intro a w he hs
  have hD : w.heap[D]? = some (.deferred (some [])) := hs.own (D, .deferred (some [])) (by simp)
  have hlt : D < w.heap.size := (Array.getElem?_eq_some_iff.1 hD).1
  refine ⟨by simp, .inl ⟨D, { w with heap := w.heap.setIfInBounds D (.deferred none) }, rfl, ?_, ?_⟩⟩
  · simp [Instr.takeDeferred, getObj, setObj, Sem.run, hD]
  · refine H { a with defers := ds } _ ⟨he.size, he.ok, rfl⟩ (hs.set _ (by simp [hlt]) (fun c hc => ?_))
    simp [Array.getElem?_setIfInBounds_ne (Ne.symm hc)]

/-! ranges over functions -/
/-- What is known of the temporaries that a loop's record keeps. -/
def EnvT (n : Nat) (e : Env) (tmps : Array Value) : Prop := tmps.size = n ∧ ∀ t v, look e t = some v → tmps[t]? = some v
theorem EnvT.act {n e tmps} (he : EnvT n e tmps) : EnvOk n e [] { tmps := tmps, defers := [] } := ⟨he.1, he.2, rfl⟩

def putAll : List Nat → List Value → Env → Env
  | p :: ps, v :: vs, e => putAll ps vs ((p, v) :: e)
  | _, _, e => e

theorem envT_put {n : Nat} : ∀ {ps : List Nat} {vs : List Value} {e : Env} {tmps : Array Value}, ps.all (fun p => Nat.blt p n) = true → EnvT n e tmps → EnvT n (putAll ps vs e) (List.foldl (fun tmps (x : Nat × Value) => tmps.setIfInBounds x.1 x.2) tmps (ps.zip vs))
  | [], vs, e, tmps, _, he => by simpa [putAll] using he
  | p :: ps, [], e, tmps, _, he => by simpa [putAll] using he
  | p :: ps, v :: vs, e, tmps, hp, he => by
    simp only [List.all_cons, Bool.and_eq_true] at hp
    simp only [putAll, List.zip_cons_cons, List.foldl_cons]
    refine envT_put hp.2 ?_
    have h1 := he.act.put (d := some p) (by simpa [dstOk] using hp.1) v
    exact ⟨h1.size, h1.ok⟩

/-- what is asked at a round's end -/
def roundR (lp : Nat) (h0 : Heap) (Lf : Owned) (Post : Value → Heap → Owned → Prop) : Pst := fun x _ _ h' L =>
  ∃ r L', L = (lp, .loop r) :: (L' ++ Lf) ∧ Heap.le h0 h' ∧ (match x with
    | .normal => Post (.bool true) h' ((lp, .loop { r with state := .ready, pending := none }) :: L')
    | .ret => Post (.bool false) h' ((lp, .loop { r with state := .done, pending := some .ret }) :: L')
    | .exit id => Post (.bool false) h' ((lp, .loop { r with state := .done, pending := some (.exit id) }) :: L')
    | _ => False)

theorem St.set0 {h : Heap} {b : Nat} {o : Obj} {B : Owned} {w : World} (s : St h ((b, o) :: B) w) (o' : Obj) : St h ((b, o') :: B) { w with heap := w.heap.setIfInBounds b o' } := by
  have hb := s.own (b, o) (by simp)
  have hlt : b < w.heap.size := (Array.getElem?_eq_some_iff.1 hb).1
  exact St.set (A := []) s o' (by simp [hlt]) (fun c hc => by simp [Array.getElem?_setIfInBounds_ne (Ne.symm hc)])

/-- A ROUND, out of the walk of its body: the record stands first among what is handed over. -/
theorem TrY_of {P : Program} {lp n : Nat} {args : List Value} {h : Heap} {L : Owned} {Post : Value → Heap → Owned → Prop} {r : Loop} {e0 : Env} {ps : List Nat}
    (hst : r.state = .ready) (hps : r.params = ⟨ps⟩) (hlen : args.length = ps.length) (hpn : ps.all (fun p => Nat.blt p n) = true) (he : EnvT n e0 r.tmps)
    (H : ∀ Lf, den ⟨P, some lp, n⟩ (fun _ _ _ _ _ => False) [.code r.assign, .again (fun e ds h' L' => ∃ L2, L' = (lp, .loop r) :: (L2 ++ Lf) ∧ Heap.le h h' ∧
      den ⟨P, some lp, n⟩ (roundR lp h Lf Post) [.code r.body] .normal e ds h' ((lp, .loop { r with state := .busy }) :: (L2 ++ Lf)))] .normal (putAll ps args e0) [] h ((lp, .loop r) :: (L ++ Lf))) :
    TrY P lp args h ((lp, .loop r) :: L) Post := by
  intro Lf w hs
  have hr : w.heap[lp]? = some (.loop r) := hs.own (lp, .loop r) (by simp)
  refine ⟨r, hr, by rw [hps]; simpa using hlen, ?_⟩
  refine roundIn_of_wpIn (F := Fence.wide) (n := 0) trivial ?_
  have hT : EnvT n (putAll ps args e0) ((r.params.zip ⟨args⟩).foldl (fun tmps (t, a) => tmps.setIfInBounds t a) r.tmps) := by
    have := envT_put (vs := args) hpn he
    rw [hps]
    rw [← Array.foldl_toList]
    simpa using this
  refine wpIn_mono (F := fx (some lp)) (H Lf _ w hT.act hs) ?_
  rintro x a w1 ⟨e, ds, h1, L1, he1, hs1, hq⟩
  have hno : ∀ x, x ≠ Exit.normal → ¬ den ⟨P, some lp, n⟩ (fun _ _ _ _ _ => False) [.again (fun e ds h' L' => ∃ L2, L' = (lp, .loop r) :: (L2 ++ Lf) ∧ Heap.le h h' ∧
      den ⟨P, some lp, n⟩ (roundR lp h Lf Post) [.code r.body] .normal e ds h' ((lp, .loop { r with state := .busy }) :: (L2 ++ Lf)))] x e ds h1 L1 := by
    intro x hx hq
    cases x <;> first | exact hx rfl | exact hq
  cases x with
  | normal =>
    obtain ⟨L2, rfl, hle, hq⟩ := hq
    have hr1 : w1.heap[lp]? = some (.loop r) := hs1.own (lp, .loop r) (by simp)
    refine ⟨{ w1 with heap := w1.heap.setIfInBounds lp (.loop { r with state := .busy }) }, ?_, ?_⟩
    · simp [Instr.beginRound, Instr.getLoop, getObj, setObj, Sem.run, hr1, hst]
    · refine wpIn_mono (F := fx (some lp)) (hq a _ he1 (hs1.set0 _)) ?_
      rintro x2 a2 w2 ⟨e2, ds2, h2, L3, he2, hs2, hq2⟩
      have hend : ∀ (r' : Loop) (L4 : Owned) (j : Option Code), L3 = (lp, .loop r') :: (L4 ++ Lf) → (Instr.endRound lp j).run P w2 = .ok (.bool j.isNone) { w2 with heap := w2.heap.setIfInBounds lp (.loop { r' with state := if j.isNone then .ready else .done, pending := j }) } := by
        rintro r' L4 j rfl
        have hr2 : w2.heap[lp]? = some (.loop r') := hs2.own (lp, .loop r') (by simp)
        simp [Instr.endRound, Instr.getLoop, getObj, setObj, Sem.run, hr2]
      obtain ⟨r', L4, hL, hle2, hx⟩ := hq2
      cases x2 with
      | normal => exact ⟨_, _, hend r' L4 none hL, _, h2, _, rfl, hle2, by rw [hL] at hs2; exact hs2.set0 _, hx⟩
      | ret => exact ⟨_, _, hend r' L4 (some .ret) hL, _, h2, _, rfl, hle2, by rw [hL] at hs2; exact hs2.set0 _, hx⟩
      | exit id => exact ⟨_, _, hend r' L4 (some (.exit id)) hL, _, h2, _, rfl, hle2, by rw [hL] at hs2; exact hs2.set0 _, hx⟩
      | goto t => exact hx.elim
      | panic c => exact hx.elim
      | outgrown => exact hx.elim
  | exit id => exact (hno _ (by simp) hq).elim
  | goto id => exact (hno _ (by simp) hq).elim
  | ret => exact (hno _ (by simp) hq).elim
  | panic c => exact (hno _ (by simp) hq).elim
  | outgrown => exact (hno _ (by simp) hq).elim

theorem run_endLoop {P : Program} {lp : Nat} {r : Loop} {w : World} (hr : w.heap[lp]? = some (.loop r)) (hb : r.state ≠ .busy) : (Instr.endLoop lp).run P w = .ok r.pending { w with heap := w.heap.setIfInBounds lp (.loop { r with state := .exhausted }) } := by
  have h1 : (r.state == LoopState.busy) = false := by
    cases hs : r.state <;> first | rfl | exact absurd hs hb
  simp only [Instr.endLoop, Instr.getLoop, getObj, setObj, Sem.run_bind, Sem.run, hr, Result.andThen_ok, h1, Sem.run_pure, Bool.false_eq_true, if_false]

/-- THE STATEMENT 'for .. := range g { .. }', outermost. -/
theorem den_range {g : Operand} {ps : Array Tmp} {assign body : Code} {f : FuncId} {fi ca : Array Value} {L1 Lf : Owned} (hr : C.r = none) (hg : ev e g = some (.func (.func f) fi ca))
    (H : ∀ (D lp : Nat) (r : Loop), r.state = .ready → r.pending = none → r.params = ps → r.assign = assign → r.body = body → EnvT C.n e r.tmps →
      ∃ Post, Tr C.P f (fi.toList ++ [.func (.yield lp) #[] #[]] ++ ca.toList) h ((lp, .loop r) :: L1) Post ∧
      ∀ v h' L', Heap.le h h' → Post v h' L' → ∃ r' L2, L' = (lp, .loop r') :: L2 ∧ r'.state ≠ .busy ∧
        (match r'.pending with
         | none => den C R k .normal e (markOf D :: ds) h' (L2 ++ (D, .deferred (some [])) :: Lf)
         | some c => den C R (.code c :: k) .normal e (markOf D :: ds) h' (L2 ++ (D, .deferred (some [])) :: Lf))) :
    den C R (.code (.rangeFunc g ps assign body) :: k) .normal e ds h (L1 ++ Lf) := by
  intro a w he hs
  rw [hr]
  refine wpIn_rangeFunc (F := fx none) (n := 0) fun fn _ => ?_
  let D := w.heap.size
  let lp := w.heap.size + 1
  let r : Loop := { state := .ready, pending := none, fn, tmps := a.tmps, params := ps, assign, body, defers := D }
  let w1 : World := { w with heap := w.heap.push (.deferred (some [])) }
  let w2 : World := { w1 with heap := w1.heap.push (.loop r) }
  have hs1 : St h ((D, .deferred (some [])) :: (L1 ++ Lf)) w1 := hs.alloc _
  have hs2 : St h ((lp, .loop r) :: (D, .deferred (some [])) :: (L1 ++ Lf)) w2 := by
    have := hs1.alloc (.loop r)
    rw [show w1.heap.size = lp from by simp [w1, lp]] at this
    exact this
  have hs3 : St h (((lp, .loop r) :: L1) ++ ((D, .deferred (some [])) :: Lf)) w2 := by
    refine hs2.perm ?_
    rw [List.cons_append]
    exact List.Perm.cons _ List.perm_middle.symm
  obtain ⟨Post, t, hp⟩ := H D lp r rfl rfl rfl rfl rfl ⟨he.size, he.ok⟩
  refine ⟨lp, [markOf D], w2, { target := .fn (.func f) ca, args := fi ++ #[.func (.yield lp) #[] #[]] }, w2, f, (fi ++ #[.func (.yield lp) #[] #[]]) ++ ca, w2, ?_, ?_, fun _ _ => trivial, ?_, fun hh => by simp [fx, Fence.wide] at hh, ?_⟩
  · have h1 : w1.heap.size = lp := by simp [w1, lp]
    simp [fx, Instr.enterLoop, w2, w1, r, D, lp]
  · simp only [resolve]; rw [he.eval hg]; simp [Deferred.ofValue, Act.eval]
  · simp only [invoke]
    exact run_callFunc t.1 _ _
  · have hc := t.2 _ w2 hs3
    rw [show ((fi ++ #[.func (.yield lp) #[] #[]]) ++ ca) = ⟨fi.toList ++ [.func (.yield lp) #[] #[]] ++ ca.toList⟩ from by simp [← Array.toList_inj]]
    refine CallsIn.mono (F := fx none) (n := 0) hc ?_
    rintro e' w3 ⟨v, h', L', rfl, hle, hs4, hq⟩
    obtain ⟨r', L2, rfl, hb, hx⟩ := hp v h' L' hle hq
    have hrec : w3.heap[lp]? = some (.loop r') := hs4.own (lp, .loop r') (by simp)
    refine ⟨_, _, run_endLoop hrec hb, ?_⟩
    have hs5 := St.set0 (B := L2 ++ (D, .deferred (some [])) :: Lf) (by simpa using hs4) (.loop { r' with state := .exhausted })
    have hs6 := hs5.sub (List.sublist_cons_self _ _)
    have he' : EnvOk C.n e (markOf D :: ds) { a with defers := [markOf D] ++ a.defers } := ⟨he.size, he.ok, by simp [he.df]⟩
    cases hpd : r'.pending with
    | none => rw [hpd] at hx hs6; exact ⟨_, _, _, _, he', hs6, hx⟩
    | some c => rw [hpd] at hx hs6; have := hx _ _ he' hs6; rw [hr] at this; exact this

/-- The same in a round of an outer range. -/
theorem den_rangeN {g : Operand} {ps : Array Tmp} {assign body : Code} {f : FuncId} {fi ca : Array Value} {L1 Lf : Owned} {l0 : Nat} {r0 : Loop} (hr : C.r = some l0) (hl0 : (l0, .loop r0) ∈ L1 ++ Lf) (hg : ev e g = some (.func (.func f) fi ca))
    (H : ∀ (lp : Nat) (r : Loop), r.state = .ready → r.pending = none → r.params = ps → r.assign = assign → r.body = body → EnvT C.n e r.tmps →
      ∃ Post, Tr C.P f (fi.toList ++ [.func (.yield lp) #[] #[]] ++ ca.toList) h ((lp, .loop r) :: L1) Post ∧
      ∀ v h' L', Heap.le h h' → Post v h' L' → ∃ r' L2, L' = (lp, .loop r') :: L2 ∧ r'.state ≠ .busy ∧
        (match r'.pending with
         | none => den C R k .normal e ds h' (L2 ++ Lf)
         | some c => den C R (.code c :: k) .normal e ds h' (L2 ++ Lf))) :
    den C R (.code (.rangeFunc g ps assign body) :: k) .normal e ds h (L1 ++ Lf) := by
  intro a w he hs
  rw [hr]
  refine wpIn_rangeFunc (F := fx (some l0)) (n := 0) fun fn _ => ?_
  have hrec0 : w.heap[l0]? = some (.loop r0) := hs.own _ hl0
  let lp := w.heap.size
  let r : Loop := { state := .ready, pending := none, fn, tmps := a.tmps, params := ps, assign, body, defers := r0.defers }
  let w2 : World := { w with heap := w.heap.push (.loop r) }
  have hs3 : St h (((lp, .loop r) :: L1) ++ Lf) w2 := hs.alloc (.loop r)
  obtain ⟨Post, t, hp⟩ := H lp r rfl rfl rfl rfl rfl ⟨he.size, he.ok⟩
  refine ⟨lp, [], w2, { target := .fn (.func f) ca, args := fi ++ #[.func (.yield lp) #[] #[]] }, w2, f, (fi ++ #[.func (.yield lp) #[] #[]]) ++ ca, w2, ?_, ?_, fun _ _ => trivial, ?_, fun hh => by simp [fx, Fence.wide] at hh, ?_⟩
  · simp [fx, Instr.enterLoop, Instr.getLoop, getObj, Sem.run, hrec0, w2, r, lp]
  · simp only [resolve]; rw [he.eval hg]; simp [Deferred.ofValue, Act.eval]
  · simp only [invoke]
    exact run_callFunc t.1 _ _
  · have hc := t.2 _ w2 hs3
    rw [show ((fi ++ #[.func (.yield lp) #[] #[]]) ++ ca) = ⟨fi.toList ++ [.func (.yield lp) #[] #[]] ++ ca.toList⟩ from by simp [← Array.toList_inj]]
    refine CallsIn.mono (F := fx (some l0)) (n := 0) hc ?_
    rintro e' w3 ⟨v, h', L', rfl, hle, hs4, hq⟩
    obtain ⟨r', L2, rfl, hb, hx⟩ := hp v h' L' hle hq
    have hrec : w3.heap[lp]? = some (.loop r') := hs4.own (lp, .loop r') (by simp)
    refine ⟨_, _, run_endLoop hrec hb, ?_⟩
    have hs5 := St.set0 (B := L2 ++ Lf) (by simpa using hs4) (.loop { r' with state := .exhausted })
    have hs6 := hs5.sub (List.sublist_cons_self _ _)
    have he' : EnvOk C.n e ds { a with defers := [] ++ a.defers } := ⟨he.size, he.ok, by simp [he.df]⟩
    cases hpd : r'.pending with
    | none => rw [hpd] at hx hs6; exact ⟨_, _, _, _, he', hs6, hx⟩
    | some c => rw [hpd] at hx hs6; have := hx _ _ he' hs6; rw [hr] at this; exact this

/-- An iterator: it calls yield with the items, one after the other, as long as yield says true. -/
def Iter (P : Program) (f : FuncId) (fi ca : List Value) (Lc : Owned) (n : Nat) (item : Nat → List Value → Heap → Prop) (h : Heap) : Prop :=
  ∀ (y : Value) (S : Nat → Heap → Owned → Prop) (X : Heap → Owned → Prop),
    (∀ i h1 h2 M, Heap.le h1 h2 → S i h1 M → S i h2 M) →
    (∀ i args h1 M, i < n → Heap.le h h1 → item i args h1 → S i h1 M → TrV P y args h1 M (fun v h2 M2 => (v = .bool true ∧ S (i + 1) h2 M2) ∨ (v = .bool false ∧ X h2 M2))) →
    ∀ h0 M0, Heap.le h h0 → S 0 h0 M0 → Tr P f (fi ++ [y] ++ ca) h0 (M0 ++ Lc) (fun _ h2 M2 => S n h2 M2 ∨ X h2 M2)

/-- the loop's record, as it lies between two rounds -/
def Rec (n : Nat) (ps : Array Tmp) (assign body : Code) (e : Env) (r : Loop) : Prop := r.params = ps ∧ r.assign = assign ∧ r.body = body ∧ EnvT n e r.tmps

/-- what is owed where a round of 'for .. := range' ends -/
def eachR (lp : Nat) (h0 : Heap) (Lx : Owned) (J : Heap → Owned → Prop) (Xc : Code → Heap → Owned → Prop) (n : Nat) (ps : Array Tmp) (assign body : Code) (e0 : Env) : Pst := fun x _ _ h' L =>
  ∃ r L', L = (lp, .loop r) :: (L' ++ Lx) ∧ Rec n ps assign body e0 r ∧ Heap.le h0 h' ∧ (match x with
    | .normal => J h' L'
    | .ret => Xc .ret h' L'
    | .exit id => Xc (.exit id) h' L'
    | _ => False)

theorem each_round {P : Program} {n lp : Nat} {psl : List Nat} {assign body : Code} {e : Env} {args : List Value} {h1 : Heap} {L1 : Owned} {r : Loop} {J : Heap → Owned → Prop} {Xc : Code → Heap → Owned → Prop}
    (hst : r.state = .ready) (hrec : Rec n ⟨psl⟩ assign body e r) (hlen : args.length = psl.length) (hpn : psl.all (fun p => Nat.blt p n) = true)
    (H : ∀ r1 Lx, Rec n ⟨psl⟩ assign body e r1 → den ⟨P, some lp, n⟩ (fun _ _ _ _ _ => False) [.code assign, .again (fun e' ds' h' L' => ∃ L2, L' = (lp, .loop r1) :: (L2 ++ Lx) ∧ Heap.le h1 h' ∧
      ∀ r2, Rec n ⟨psl⟩ assign body e r2 → den ⟨P, some lp, n⟩ (eachR lp h1 Lx J Xc n ⟨psl⟩ assign body e) [.code body] .normal e' ds' h' ((lp, .loop r2) :: (L2 ++ Lx)))] .normal (putAll psl args e) [] h1 ((lp, .loop r1) :: (L1 ++ Lx))) :
    TrY P lp args h1 ((lp, .loop r) :: L1) (fun v h2 M2 => ∃ r' L2, M2 = (lp, .loop r') :: L2 ∧ Rec n ⟨psl⟩ assign body e r' ∧
      ((v = .bool true ∧ r'.state = .ready ∧ r'.pending = none ∧ J h2 L2) ∨ (v = .bool false ∧ r'.state = .done ∧ ∃ c, r'.pending = some c ∧ Xc c h2 L2))) := by
  obtain ⟨h1', rfl, rfl, h4'⟩ := hrec
  have h2' : r.assign = r.assign := rfl
  have h3' : r.body = r.body := rfl
  refine TrY_of (ps := psl) hst h1' hlen hpn h4' fun Lf => ?_
  have key := H r Lf ⟨h1', h2', h3', h4'⟩
  intro a w he hs
  refine wpIn_mono (key a w he hs) ?_
  rintro x a' w' ⟨e', ds', h', L', he', hs', hq⟩
  refine ⟨e', ds', h', L', he', hs', ?_⟩
  cases x with
  | normal =>
    obtain ⟨L2, rfl, hle, hq⟩ := hq
    refine ⟨L2, rfl, hle, ?_⟩
    have hb := hq { r with state := .busy } ⟨h1', h2', h3', h4'⟩
    intro a2 w2 he2 hs2
    refine wpIn_mono (hb a2 w2 he2 hs2) ?_
    rintro x3 a3 w3 ⟨e3, ds3, h3, L3, he3, hs3, r3, L4, hL3, hr3, hle3, hx3⟩
    refine ⟨e3, ds3, h3, L3, he3, hs3, r3, L4, hL3, hle3, ?_⟩
    cases x3 with
    | normal => exact ⟨_, L4, rfl, hr3, .inl ⟨rfl, rfl, rfl, hx3⟩⟩
    | ret => exact ⟨_, L4, rfl, hr3, .inr ⟨rfl, rfl, _, rfl, hx3⟩⟩
    | exit id => exact ⟨_, L4, rfl, hr3, .inr ⟨rfl, rfl, _, rfl, hx3⟩⟩
    | goto t => exact hx3.elim
    | panic c => exact hx3.elim
    | outgrown => exact hx3.elim
  | _ => exact hq

/-- 'for .. := range g { .. }' over an iterator, outermost. -/
theorem den_each {g : Operand} {psl : List Nat} {assign body : Code} {f : FuncId} {fi ca : List Value} {Lc Lb Lf : Owned} {n : Nat} {item : Nat → List Value → Heap → Prop}
    (hit : Iter C.P f fi ca Lc n item h) (I : Nat → Heap → Owned → Prop) (Xc : Code → Heap → Owned → Prop) (hr : C.r = none) (hg : ev e g = some (.func (.func f) ⟨fi⟩ ⟨ca⟩)) (hpn : psl.all (fun p => Nat.blt p C.n) = true)
    (hlen : ∀ i args h1, item i args h1 → args.length = psl.length)
    (hI : ∀ i h1 h2 M, Heap.le h1 h2 → I i h1 M → I i h2 M) (h0 : I 0 h Lb)
    (Hb : ∀ lp i args h1 L1 r1 Lx, i < n → Heap.le h h1 → item i args h1 → I i h1 L1 → Rec C.n ⟨psl⟩ assign body e r1 → den ⟨C.P, some lp, C.n⟩ (fun _ _ _ _ _ => False) [.code assign, .again (fun e' ds' h' L' => ∃ L2, L' = (lp, .loop r1) :: (L2 ++ Lx) ∧ Heap.le h1 h' ∧
      ∀ r2, Rec C.n ⟨psl⟩ assign body e r2 → den ⟨C.P, some lp, C.n⟩ (eachR lp h1 Lx (I (i + 1)) Xc C.n ⟨psl⟩ assign body e) [.code body] .normal e' ds' h' ((lp, .loop r2) :: (L2 ++ Lx)))] .normal (putAll psl args e) [] h1 ((lp, .loop r1) :: (L1 ++ Lx)))
    (Hd : ∀ D h' L2, Heap.le h h' → I n h' L2 → den C R k .normal e (markOf D :: ds) h' (L2 ++ (D, .deferred (some [])) :: Lf))
    (Hx : ∀ D c h' L2, Heap.le h h' → Xc c h' L2 → den C R (.code c :: k) .normal e (markOf D :: ds) h' (L2 ++ (D, .deferred (some [])) :: Lf)) :
    den C R (.code (.rangeFunc g ⟨psl⟩ assign body) :: k) .normal e ds h ((Lb ++ Lc) ++ Lf) := by
  refine den_range (L1 := Lb ++ Lc) hr hg fun D lp r hst hpd h1 h2 h3 h4 => ?_
  have hrec : Rec C.n ⟨psl⟩ assign body e r := ⟨h1, h2, h3, h4⟩
  let S : Nat → Heap → Owned → Prop := fun i h1 M => ∃ r' L1, M = (lp, .loop r') :: L1 ∧ Rec C.n ⟨psl⟩ assign body e r' ∧ r'.state = .ready ∧ r'.pending = none ∧ I i h1 L1
  let X : Heap → Owned → Prop := fun h1 M => ∃ r' L1, M = (lp, .loop r') :: L1 ∧ r'.state = .done ∧ ∃ c, r'.pending = some c ∧ Xc c h1 L1
  have ht := hit (.func (.yield lp) #[] #[]) S X (by
    rintro i ha hb M hle ⟨r', L1, rfl, hr', hs1, hp1, hi⟩
    exact ⟨r', L1, rfl, hr', hs1, hp1, hI _ _ _ _ hle hi⟩) (by
    rintro i args ha M hi hle hitem ⟨r', L1, rfl, hr', hs1, hp1, hinv⟩
    have := each_round (P := C.P) (lp := lp) (J := I (i + 1)) (Xc := Xc) hs1 hr' (hlen _ _ _ hitem) hpn (fun r1 Lx hr1 => Hb lp i args ha L1 r1 Lx hi hle hitem hinv hr1)
    refine TrV.mono (fv := .func (.yield lp) #[] #[]) (P := C.P) this ?_
    rintro v hv M2 _ ⟨r2, L2, rfl, hr2, ⟨rfl, hs2, hp2, hj⟩ | ⟨rfl, hs2, c, hc, hx⟩⟩
    · exact .inl ⟨rfl, r2, L2, rfl, hr2, hs2, hp2, hj⟩
    · exact .inr ⟨rfl, r2, L2, rfl, hs2, c, hc, hx⟩) h ((lp, .loop r) :: Lb) (Heap.le.refl h) ⟨r, Lb, rfl, hrec, hst, hpd, h0⟩
  refine ⟨_, ht, ?_⟩
  rintro v h' L' hle (⟨r', L1, rfl, hr', hs1, hp1, hi⟩ | ⟨r', L1, rfl, hs1, c, hc, hx⟩)
  · refine ⟨r', L1, rfl, by rw [hs1]; simp, ?_⟩
    rw [hp1]
    exact Hd D h' L1 hle hi
  · refine ⟨r', L1, rfl, by rw [hs1]; simp, ?_⟩
    rw [hc]
    exact Hx D c h' L1 hle hx
end
end Go.Proofs.Ch
