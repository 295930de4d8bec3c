/- Deferred calls, and recover where nothing panics. No program is named here. -/
import Derived.Test.YtglmkcfmcoianaaGreatDoorI
import Derived.RecoverIn
namespace Go.Proofs.Ch
open Go
section
variable {C : Cx} {R : Pst} {k : List K} {e : Env} {ds : List Deferred} {h : Heap} {L : Owned} {ops : Array Oper} {l : List Oper} {Q : Pst}
theorem EnvOk.push {n : Nat} {d : Deferred} {a : Act} (he : EnvOk n e ds a) : EnvOk n e (d :: ds) { a with defers := d :: a.defers } := ⟨he.size, he.ok, by rw [show ({ a with defers := d :: a.defers } : Act).defers = d :: a.defers from rfl, he.df]⟩
/-- an operation whose guard was skipped itself -/
theorem WL_skipu {o : Oper} {j t : Nat} {b : Bool} (hg : o.guard = some (j, b)) (hj : guardTmp ops j = some t) (hl : look e t = some undef) (hd : dstOk o.dst C.n = true)
    (H : WL C ops l Q (put o.dst undef e) ds h L) : WL C ops (o :: l) Q e ds h L := by
  intro i hi a w he hs
  obtain ⟨h1, h2⟩ := WL_at hi
  simp only [List.length_cons, List.range'_succ, wpOpsIn, h1]
  have hy : yielded ops a.tmps j = none := by
    simp only [guardTmp] at hj
    simp [yielded, hj, he.ok _ _ hl, undef]
  rw [if_neg (by simp [Region.wanted, hg, hy])]
  exact ⟨fun _ _ => trivial, H (i + 1) h2 _ _ (he.put hd _) hs⟩
/-- the statement that defers a call -/
theorem WL_defer {d : Option Tmp} {ty : TypeId} {pos : String} {af : Array Edge} {x : Operand} {xs : List Operand} {ts : Array TypeId} {fv : Fn} {fi ca vs : List Value}
    (hr : C.r = none) (hx : ev e x = some (.func fv ⟨fi⟩ ⟨ca⟩)) (hv : evs e xs = some vs) (hd : dstOk d C.n = true)
    (H : WL C ops l Q (put d undef e) ({ target := .fn fv ⟨ca⟩, args := ⟨fi ++ vs⟩ } :: ds) h L) : WL C ops (⟨d, .defer ⟨.value x, ⟨xs⟩, ts⟩, ty, pos, af, none⟩ :: l) Q e ds h L := by
  intro i hi a w he hs
  obtain ⟨h1, h2⟩ := WL_at hi
  simp only [List.length_cons, List.range'_succ, wpOpsIn, h1]
  rw [if_pos (by simp [Region.wanted])]
  refine ⟨fun _ _ => trivial, ?_⟩
  have hxs : (⟨xs⟩ : Array Operand).map a.eval = ⟨vs⟩ := by rw [← he.evals hv]; simp
  have hrun : ((Oper.semAt (fx C.r).round a.eval ⟨d, .defer ⟨.value x, ⟨xs⟩, ts⟩, ty, pos, af, none⟩).run C.P w) = .ok (.defer { target := .fn fv ⟨ca⟩, args := ⟨fi ++ vs⟩ }) w := by
    have : (fx C.r).round = none := by rw [hr]; rfl
    rw [this, Oper.semAt_none]
    unfold execOp
    simp only [resolve, hxs, he.eval hx, Sem.run_bind, Deferred.ofValue, Sem.run_pure, Result.andThen_ok]
    congr 3
    simp
  rw [hrun, Oper.uponIn_defer]
  exact H (i + 1) h2 _ _ (he.push.put hd _) hs
end
/-- What the deferred call of f comes to, where nothing panics. -/
def TrD (P : Program) (f : FuncId) (args : List Value) (h : Heap) (L : Owned) (Post : Value → Heap → Owned → Prop) : Prop :=
  Bod P f ∧ ∀ Lf w, St h (L ++ Lf) w → CallsDIn Fence.wide 0 P f ⟨args⟩ .returning w (fun e u w' => u = .returning ∧ TrPost h Lf Post e w')
theorem Ends.le {P : Program} {fn : Func} {n : Nat} {h0 h1 : Heap} {Lf : Owned} {Post : Value → Heap → Owned → Prop} {e : Env} {ds : List Deferred} {h : Heap} {L : Owned} (H : Ends P fn n h1 Lf Post e ds h L) (hl : Heap.le h0 h1) : Ends P fn n h0 Lf Post e ds h L := by
  have key : ∀ (ds : List Deferred) (u : FrameMode) (tmps : Array Value) (w : World) {R R' : Ending → World → Prop}, (∀ e w, R e w → R' e w) → LeavesInM Fence.wide 0 P fn tmps R ds u w → LeavesInM Fence.wide 0 P fn tmps R' ds u w := by
    intro ds
    induction ds with
    | nil =>
      intro u tmps w R R' hR
      cases u with
      | returning => rintro ⟨v, h1, h2⟩; exact ⟨v, h1, hR _ _ h2⟩
      | panicking c => exact fun x => hR _ _ x
      | run => exact fun x => x
    | cons d ds ih =>
      intro u tmps w R R' hR hx
      obtain ⟨h1, h2⟩ := hx
      refine ⟨h1, ?_⟩
      rcases h2 with ⟨r, w', a1, a2, a3⟩ | ⟨a0, fv, cap, f, args, a1, a2, a3, a4⟩
      · exact .inl ⟨r, w', a1, a2, ih _ _ _ hR a3⟩
      · refine .inr ⟨a0, fv, cap, f, args, a1, a2, a3, a4.mono ?_⟩
        rintro e u' w' x
        cases e with
        | returned v => exact ih _ _ _ hR x
        | panicked c => exact ih _ _ _ hR x
        | outgrown => exact hR _ _ x
  intro a w he hs
  refine key _ _ _ _ ?_ (H a w he hs)
  rintro e w ⟨v, h', L', a1, a2, a3⟩
  exact ⟨v, h', L', a1, hl.trans a2, a3⟩
/-- the deferred call, made at the function's end -/
theorem ends_defer {P : Program} {fn : Func} {n : Nat} {h0 h : Heap} {Lf L1 M : Owned} {Post Post1 : Value → Heap → Owned → Prop} {e : Env} {ds : List Deferred} {f : FuncId} {ca vs : List Value}
    (t : TrD P f (vs ++ ca) h L1 Post1) (H : ∀ v h' L', Heap.le h h' → Post1 v h' L' → Ends P fn n h0 Lf Post e ds h' (L' ++ M)) :
    Ends P fn n h0 Lf Post e ({ target := .fn (.func f) ⟨ca⟩, args := ⟨vs⟩ } :: ds) h (L1 ++ M) := by
  intro a w he hs
  refine ⟨by simp, .inr ⟨fun hh => by simp [Fence.wide] at hh, .func f, ⟨ca⟩, f, ⟨vs ++ ca⟩, rfl, ?_, fun _ _ => trivial, ?_⟩⟩
  · simp only [invoke, run_callFunc t.1]
    congr 2
    simp
  · refine CallsDIn.mono (t.2 M w hs) ?_
    rintro e' u' w' ⟨rfl, v, h', L', rfl, hle, hs', hq⟩
    exact H v h' L' hle hq { a with defers := ds } w' ⟨he.size, he.ok, rfl⟩ hs'
def fnPostD (P : Program) (fn : Func) (n : Nat) (h0 : Heap) (Lf : Owned) (Post : Value → Heap → Owned → Prop) : Pst
  | .normal, e, ds, h, L => ds = [] ∧ Ends P fn n h0 Lf Post e [] h L
  | .ret, e, ds, h, L => ds = [] ∧ Ends P fn n h0 Lf Post e [] h L
  | _, _, _, _, _ => False
/-- a function that begins with recover, entered as a deferred call where nothing panics -/
theorem TrD_of {P : Program} {f : FuncId} {fn : Func} {args : List Value} {h : Heap} {L : Owned} {Post : Value → Heap → Owned → Prop} {n id t : Nat} {ops : Array Oper} {l : List Oper} {ts : Array TypeId} {ty : TypeId} {pos : String} {af : Array Edge}
    (hf : P.funcs[f]? = some fn) (hb : fn.body = some (.region id ops false)) (hnm : (fn.name == "runtime.NumGoroutine") = false) (hnt : fn.ntmps = n) (hn : Nat.ble args.length n = true) (e0 : Env) (he0 : envL 0 args = e0)
    (hl : ops.toList = ⟨some t, .call ⟨.builtin .recover, #[], ts⟩, ty, pos, af, none⟩ :: l) (ht : Nat.blt t n = true)
    (H : ∀ Lf, WL ⟨P, none, n⟩ ops l (fnPostD P fn n h Lf Post) ((t, .nilIface) :: e0) [] h (L ++ Lf)) : TrD P f args h L Post := by
  subst hnt
  refine ⟨⟨fn, hf, by simp [hb], hnm⟩, fun Lf w hs => ?_⟩
  refine callsDIn_of_wpSIn hf hb trivial fun c₀ cs hmode => ?_
  have hle : args.length ≤ fn.ntmps := Nat.le_of_ble_eq_true hn
  have hok : EnvOk fn.ntmps e0 [] { tmps := (⟨args⟩ : Array Value) ++ Array.replicate (fn.ntmps - (⟨args⟩ : Array Value).size) undef, defers := [] } := by
    refine ⟨by simp; omega, ?_, rfl⟩
    intro t v hl
    rw [← he0] at hl
    obtain ⟨_, h2⟩ := look_envL args 0 t v hl
    simp only [Nat.sub_zero] at h2
    have hlt : t < args.length := (List.getElem?_eq_some_iff.1 h2).1
    rw [Array.getElem?_append_left (by simpa using hlt)]
    simpa using h2
  generalize ({ tmps := (⟨args⟩ : Array Value) ++ Array.replicate (fn.ntmps - (⟨args⟩ : Array Value).size) undef, defers := [] } : Act) = a at hok
  have h1 : ops[0]? = some ⟨some t, .call ⟨.builtin .recover, #[], ts⟩, ty, pos, af, none⟩ := by
    have := congrArg (fun l : List Oper => l[0]?) hl
    simpa using this
  have h2 : ops.toList.drop 1 = l := by rw [hl]; rfl
  have hw : wpOpsIn Fence.wide 0 P ops (up ⟨P, none, fn.ntmps⟩ (fnPostD P fn fn.ntmps h Lf Post)) (List.range' 1 l.length) (a.put (some t) .nilIface) w :=
    H Lf 1 h2 _ _ (hok.put (d := some t) (by simpa [dstOk] using ht) .nilIface) hs
  have hrec : (execOp a.eval ⟨some t, .call ⟨.builtin .recover, #[], ts⟩, ty, pos, af, none⟩).run P w = .ok .recover w := by
    unfold execOp
    simp [resolve, invoke, builtin]
  have hnone : recoverD (c₀ :: cs) = none := by simp [recoverD, hmode]
  intro b kk hb' hro hF hroom
  have hwant : Region.wanted (⟨some t, .call ⟨.builtin .recover, #[], ts⟩, ty, pos, af, none⟩ : Oper) (yielded ops a.tmps) = true := by simp [Region.wanted]
  have hsz : List.range ops.size = 0 :: List.range' 1 l.length := by
    have : ops.size = l.length + 1 := by have := congrArg List.length hl; simpa using this
    rw [this, List.range_eq_range', List.range'_succ]
  obtain ⟨e, a', w', hq, harr⟩ := wp_opsIn (F := Fence.wide) (n := 0) _ _ _ hw b kk (c₀ :: cs) hro trivial hroom
  have hg := stepGR_op (P := P) (b := b) (a := a) (k := kk) (cs := c₀ :: cs) (w := w) (rest := List.range' 1 l.length) h1 hwant
  rw [hro, Oper.semAt_none] at hg
  have hfin : (b.atR a (.inRegion ops (0 :: List.range' 1 l.length) :: kk)).finish .nilIface = b.atR (a.put (some t) .nilIface) (.inRegion ops (List.range' 1 l.length) :: kk) := by
    rw [Frame.finish_atR, h1]; rfl
  have hk : (b.atR a (.inRegion ops (0 :: List.range' 1 l.length) :: kk)).kind = .deferred := hb'
  have htr := tryRecover_deferred hk (c₀ :: cs)
  have hstep : step P (lone (b.atR a (.inRegion ops (0 :: List.range' 1 l.length) :: kk)) (c₀ :: cs) w) = .next (lone (b.atR (a.put (some t) .nilIface) (.inRegion ops (List.range' 1 l.length) :: kk)) (c₀ :: cs) w) := by
    refine step_lone_go ?_
    rw [hg, ← hfin]
    simp only [Frame.atR, hro] at htr ⊢
    simp [stepG.apply, hrec, htr, hnone]
  have harr2 : ArrivesIn (Machine.fenced P Fence.wide) P (lone (b.atR a (.code (.region id ops false) :: kk)) (c₀ :: cs) w) b kk (c₀ :: cs) e a' w' := by
    refine .of_steps (.head (fenced_wide _ _) stepR_region (.one (fenced_wide _ _) ?_)) harr
    rw [hsz]; exact hstep
  have hc : ({ c₀ with mode := .returning } : Frame) = c₀ := by rw [← hmode]
  refine ⟨e, a', c₀ :: cs, w', rfl, ?_, harr2⟩
  obtain ⟨e', ds', h', L', he', hs', hq⟩ := hq
  cases e with
  | normal =>
    obtain ⟨rfl, hE⟩ := hq
    obtain ⟨v, hv, hT⟩ := hE a' w' he' hs'
    exact ⟨he'.df, .returning, by rw [hc], v, hv, rfl, hT⟩
  | ret =>
    obtain ⟨rfl, hE⟩ := hq
    obtain ⟨v, hv, hT⟩ := hE a' w' he' hs'
    exact ⟨he'.df, .returning, by rw [hc], v, hv, rfl, hT⟩
  | _ => exact hq.elim
end Go.Proofs.Ch
