/- Texts of my own, of no program: Eq, Df, Sl, Ap, Sh, Hx, Hy, Rf, Co, Gb, Si, Li, Bu, Mp, Vf, Md, Gu, Mf, Cd, Op. -/
import Derived.Test.YtmeakefbepbapaaGreatDoorS2
import Derived.ChangeKeysEq
import Derived.RecoverIn
import Derived.Test.YtmeakefbepbapaaGreatDoorS1
import Derived.Laws.Append
import Derived.Lib.ConvBytes
import Derived.ProofKit
import Derived.LaidMore
import Derived.OpenShut
import Derived.Stop.Joined
import Derived.ReadAgain
import Derived.ChangeStays
import Derived.MakeChecks
import Derived.LaidHandle
import Derived.Deep.Slices
import GoSem.ClaimGoes
/- Equality of numbers, digests, arrays of numbers and structs of such. No program is named here. -/
namespace Go.Proofs.Ch
open Go
/-- what the comparison of two values comes to -/
def EqV (P : Program) (d : Nat) (t : TypeId) (a b : Value) (r : Bool) : Prop := ∀ w, (Op.equalIn d t a b).run P w = .ok r w
/-- what the comparison of two parts comes to -/
def EqP (P : Program) (d : Nat) (t : TypeId) (xs ys : List Value) (off : Nat) (r : Bool) : Prop :=
  ∃ a b, (∀ w, (part t ⟨xs⟩ off).run P w = .ok a w) ∧ (∀ w, (part t ⟨ys⟩ off).run P w = .ok b w) ∧ EqV P d t a b r
inductive EqF (P : Program) (d : Nat) (xs ys : List Value) : List Field → Bool → Prop
  | nil : EqF P d xs ys [] true
  | cons {f : Field} {fs : List Field} {r r' : Bool} (hn : f.name ≠ "_") (hp : EqP P d f.type xs ys f.offset r) (hf : EqF P d xs ys fs r') : EqF P d xs ys (f :: fs) (r && r')
section
variable {P : Program} {d : Nat} {t : TypeId} {xs ys : List Value} {off : Nat} {r : Bool}
theorem EqV.to {a b : Value} {r r' : Bool} (h : EqV P d t a b r) (e : r = r') : EqV P d t a b r' := e ▸ h
theorem EqV.int {k k' : IntKind} {a b : Int} (hu : Und P t (.int k')) : EqV P (d + 1) t (.int k a) (.int k b) (decide (a = b)) := fun w => by
  rw [run_equalIn_int w d t k k' a b hu]; congr 1
theorem EqV.bool {a b : Bool} (hu : Und P t .bool) : EqV P (d + 1) t (.bool a) (.bool b) (a == b) := fun w => run_equalIn_bool' w d t a b hu
theorem EqP.one {a b : Value} (h1 : One P t) (hx : xs[off]? = some a) (hy : ys[off]? = some b) (he : EqV P d t a b r) : EqP P d t xs ys off r :=
  ⟨a, b, fun w => part_one h1 hx w, fun w => part_one h1 hy w, he⟩
theorem EqP.many {n : Nat} {as bs : List Value} (h1 : Many P t n) (hx : cut off n xs = some as) (hy : cut off n ys = some bs) (he : EqV P d t (.agg ⟨as⟩) (.agg ⟨bs⟩) r) : EqP P d t xs ys off r :=
  ⟨_, _, fun w => part_many h1 hx w, fun w => part_many h1 hy w, he⟩
theorem EqV.struct {fs : Array Field} (hu : Und P t (.struct fs)) (hp : P.stoodInHeld t = false) (hf : EqF P d xs ys fs.toList r) : EqV P (d + 1) t (.agg ⟨xs⟩) (.agg ⟨ys⟩) r := fun w => by
  have hfs : P.fieldsOf t = fs := by unfold Program.fieldsOf; rw [show P.underlying t = _ from hu]
  rw [run_equalIn_struct w d t _ _ (by rw [hfs]; exact hu) hp, hfs]
  generalize fs.toList = l at hf
  clear hfs hu
  induction hf with
  | nil => simp [Op.eqFields]
  | @cons f fs r r' hn hp hf ih =>
    obtain ⟨a, b, h1, h2, h3⟩ := hp
    simp only [Op.eqFields, hn, ne_eq, not_false_eq_true, if_true, Sem.run_bind, h1 w, h2 w, h3 w, Result.andThen_ok]
    cases r
    · simp
    · simpa using ih
theorem run_eqItems_of {el : TypeId} {c : Nat} {q : Nat → Bool} (w : World) : ∀ (is : List Nat), (∀ i ∈ is, EqP P d el xs ys (i * c) (q i)) → (Op.eqItems d el c ⟨xs⟩ ⟨ys⟩ is).run P w = .ok (is.all q) w
  | [], _ => by simp [Op.eqItems]
  | i :: is, h => by
    obtain ⟨a, b, h1, h2, h3⟩ := h i (by simp)
    have ih := run_eqItems_of (q := q) w is (fun j hj => h j (by simp [hj]))
    simp only [Op.eqItems, Sem.run_bind, h1 w, h2 w, h3 w, Result.andThen_ok, List.all_cons]
    cases q i
    · simp
    · simpa using ih
theorem EqV.array {el : TypeId} {n c : Nat} {q : Nat → Bool} (hu : Und P t (.array n el)) (hz : Siz P el c) (h : ∀ i, i < n → EqP P d el xs ys (i * c) (q i)) : EqV P (d + 1) t (.agg ⟨xs⟩) (.agg ⟨ys⟩) ((List.range n).all q) := fun w => by
  obtain ⟨i, hi, hs⟩ : ∃ i, P.info? el = some i ∧ i.size = c := by
    unfold Siz at hz
    cases hi : P.info? el with
    | none => rw [hi] at hz; cases hz
    | some i => rw [hi] at hz; exact ⟨i, rfl, by simpa using hz⟩
  have hc : P.cellsOf el = c := by
    unfold Program.cellsOf; rw [hi]; simpa using hs
  rw [run_equalIn_array w d _ _ hu hi, hc]
  exact run_eqItems_of w _ fun i hi => h i (List.mem_range.1 hi)
theorem dig_all {p q : Dig} : ((List.range 32).all fun i => decide ((dn p i : Int) = (dn q i : Int))) = decide (p = q) := by
  rw [Bool.eq_iff_iff, List.all_eq_true]
  simp only [List.mem_range, decide_eq_true_eq]
  constructor
  · intro h
    apply Vector.ext
    intro i hi
    have := h i hi
    have h2 : dn p i = dn q i := by omega
    unfold dn at h2
    have e1 : p.toList.getD i 0 = p[i] := by simp [hi]
    have e2 : q.toList.getD i 0 = q[i] := by simp [hi]
    rw [e1, e2] at h2
    exact UInt8.toNat_inj.1 h2
  · rintro rfl i _; rfl
theorem EqV.dig {el : TypeId} {p q : Dig} (hu : Und P t (.array 32 el)) (hz : Siz P el 1) (h1 : One P el) (hk : Und P el (.int .u8)) : EqV P (d + 2) t (.agg ⟨dcells p⟩) (.agg ⟨dcells q⟩) (decide (p = q)) := by
  rw [← dig_all]
  refine EqV.array (d := d + 1) hu hz fun i hi => ?_
  rw [Nat.mul_one]
  exact EqP.one h1 (dcells_get p hi) (dcells_get q hi) (EqV.int hk)
variable {e : Env} {h : Heap} {L : Owned} {x y : Operand} {yt : TypeId}
theorem v_aeql (he : EqV P 10000 t (.agg ⟨xs⟩) (.agg ⟨ys⟩) r) (hm : P.eqGuardType P.depth t = false) (hx : ev e x = some (.agg ⟨xs⟩)) (hy : ev e y = some (.agg ⟨ys⟩)) : OpV P (.binOp .eql t x y yt) e h L (.bool r) := by
  intro ρ w o hρ _ ho; unfold execOp; rw [ho]
  have h1 := run_eqGuard_agg w .eql t x y ⟨xs⟩ ⟨ys⟩ hm
  have h2 := run_eql_struct (P := P) w t ⟨xs⟩ ⟨ys⟩
  rw [he w] at h2
  simp [hρ _ _ hx, hρ _ _ hy, h1, h2]
theorem v_aneq (he : EqV P 10000 t (.agg ⟨xs⟩) (.agg ⟨ys⟩) r) (hm : P.eqGuardType P.depth t = false) (hx : ev e x = some (.agg ⟨xs⟩)) (hy : ev e y = some (.agg ⟨ys⟩)) : OpV P (.binOp .neq t x y yt) e h L (.bool (!r)) := by
  intro ρ w o hρ _ ho; unfold execOp; rw [ho]
  have h1 := run_eqGuard_agg w .neq t x y ⟨xs⟩ ⟨ys⟩ hm
  have h2 := run_neq_struct (P := P) w t ⟨xs⟩ ⟨ys⟩
  rw [he w] at h2
  simp [hρ _ _ hx, hρ _ _ hy, h1, h2]
end
end Go.Proofs.Ch

/- Deferred calls, and recover where nothing panics. No program is named here. -/
namespace Go.Proofs.Ch
open Go
section
variable {C : Cx} {R : Pst} {k : List K} {e : Env} {ds : List Deferred} {h : Heap} {L : Owned} {ops : Array Oper} {l : List Oper} {Q : Pst}
theorem EnvOk.push {n : Nat} {d : Deferred} {a : Act} (he : EnvOk n e ds a) : EnvOk n e (d :: ds) { a with defers := d :: a.defers } := ⟨he.size, he.ok, by rw [show ({ a with defers := d :: a.defers } : Act).defers = d :: a.defers from rfl, he.df]⟩
/-- an operation whose guard was skipped itself -/
theorem WL_skipu {o : Oper} {j t : Nat} {b : Bool} (hg : o.guard = some (j, b)) (hj : guardTmp ops j = some t) (hl : look e t = some undef) (hd : dstOk o.dst C.n = true)
    (H : WL C ops l Q (put o.dst undef e) ds h L) : WL C ops (o :: l) Q e ds h L := by
  intro i hi a w he hs
  obtain ⟨h1, h2⟩ := WL_at hi
  simp only [List.length_cons, List.range'_succ, wpOpsIn, h1]
  have hy : yielded ops a.tmps j = none := by
    simp only [guardTmp] at hj
    simp [yielded, hj, he.ok _ _ hl, undef]
  rw [if_neg (by simp [Region.wanted, hg, hy])]
  exact ⟨fun _ _ => trivial, H (i + 1) h2 _ _ (he.put hd _) hs⟩
/-- the statement that defers a call -/
theorem WL_defer {d : Option Tmp} {ty : TypeId} {pos : String} {af : Array Edge} {x : Operand} {xs : List Operand} {ts : Array TypeId} {fv : Fn} {fi ca vs : List Value}
    (hr : C.r = none) (hx : ev e x = some (.func fv ⟨fi⟩ ⟨ca⟩)) (hv : evs e xs = some vs) (hd : dstOk d C.n = true)
    (H : WL C ops l Q (put d undef e) ({ target := .fn fv ⟨ca⟩, args := ⟨fi ++ vs⟩ } :: ds) h L) : WL C ops (⟨d, .defer ⟨.value x, ⟨xs⟩, ts⟩, ty, pos, af, none⟩ :: l) Q e ds h L := by
  intro i hi a w he hs
  obtain ⟨h1, h2⟩ := WL_at hi
  simp only [List.length_cons, List.range'_succ, wpOpsIn, h1]
  rw [if_pos (by simp [Region.wanted])]
  refine ⟨fun _ _ => trivial, ?_⟩
  have hxs : (⟨xs⟩ : Array Operand).map a.eval = ⟨vs⟩ := by rw [← he.evals hv]; simp
  have hrun : ((Oper.semAt (fx C.r).round a.eval ⟨d, .defer ⟨.value x, ⟨xs⟩, ts⟩, ty, pos, af, none⟩).run C.P w) = .ok (.defer { target := .fn fv ⟨ca⟩, args := ⟨fi ++ vs⟩ }) w := by
    have : (fx C.r).round = none := by rw [hr]; rfl
    rw [this, Oper.semAt_none]
    unfold execOp
    simp only [resolve, hxs, he.eval hx, Sem.run_bind, Deferred.ofValue, Sem.run_pure, Result.andThen_ok]
    congr 3
    simp
  rw [hrun, Oper.uponIn_defer]
  exact H (i + 1) h2 _ _ (he.push.put hd _) hs
end
/-- What the deferred call of f comes to, where nothing panics. -/
def TrD (P : Program) (f : FuncId) (args : List Value) (h : Heap) (L : Owned) (Post : Value → Heap → Owned → Prop) : Prop :=
  Bod P f ∧ ∀ Lf w, St h (L ++ Lf) w → CallsDIn Fence.wide 0 P f ⟨args⟩ .returning w (fun e u w' => u = .returning ∧ TrPost h Lf Post e w')
theorem Ends.le {P : Program} {fn : Func} {n : Nat} {h0 h1 : Heap} {Lf : Owned} {Post : Value → Heap → Owned → Prop} {e : Env} {ds : List Deferred} {h : Heap} {L : Owned} (H : Ends P fn n h1 Lf Post e ds h L) (hl : Heap.le h0 h1) : Ends P fn n h0 Lf Post e ds h L := by
  have key : ∀ (ds : List Deferred) (u : FrameMode) (tmps : Array Value) (w : World) {R R' : Ending → World → Prop}, (∀ e w, R e w → R' e w) → LeavesInM Fence.wide 0 P fn tmps R ds u w → LeavesInM Fence.wide 0 P fn tmps R' ds u w := by
    intro ds
    induction ds with
    | nil =>
      intro u tmps w R R' hR
      cases u with
      | returning => rintro ⟨v, h1, h2⟩; exact ⟨v, h1, hR _ _ h2⟩
      | panicking c => exact fun x => hR _ _ x
      | run => exact fun x => x
    | cons d ds ih =>
      intro u tmps w R R' hR hx
      obtain ⟨h1, h2⟩ := hx
      refine ⟨h1, ?_⟩
      rcases h2 with ⟨r, w', a1, a2, a3⟩ | ⟨a0, fv, cap, f, args, a1, a2, a3, a4⟩
      · exact .inl ⟨r, w', a1, a2, ih _ _ _ hR a3⟩
      · refine .inr ⟨a0, fv, cap, f, args, a1, a2, a3, a4.mono ?_⟩
        rintro e u' w' x
        cases e with
        | returned v => exact ih _ _ _ hR x
        | panicked c => exact ih _ _ _ hR x
        | outgrown => exact hR _ _ x
  intro a w he hs
  refine key _ _ _ _ ?_ (H a w he hs)
  rintro e w ⟨v, h', L', a1, a2, a3⟩
  exact ⟨v, h', L', a1, hl.trans a2, a3⟩
/-- the deferred call, made at the function's end -/
theorem ends_defer {P : Program} {fn : Func} {n : Nat} {h0 h : Heap} {Lf L1 M : Owned} {Post Post1 : Value → Heap → Owned → Prop} {e : Env} {ds : List Deferred} {f : FuncId} {ca vs : List Value}
    (t : TrD P f (vs ++ ca) h L1 Post1) (H : ∀ v h' L', Heap.le h h' → Post1 v h' L' → Ends P fn n h0 Lf Post e ds h' (L' ++ M)) :
    Ends P fn n h0 Lf Post e ({ target := .fn (.func f) ⟨ca⟩, args := ⟨vs⟩ } :: ds) h (L1 ++ M) := by
  intro a w he hs
  refine ⟨by simp, .inr ⟨fun hh => by simp [Fence.wide] at hh, .func f, ⟨ca⟩, f, ⟨vs ++ ca⟩, rfl, ?_, fun _ _ => trivial, ?_⟩⟩
  · simp only [invoke, run_callFunc t.1]
    congr 2
    simp
  · refine CallsDIn.mono (t.2 M w hs) ?_
    rintro e' u' w' ⟨rfl, v, h', L', rfl, hle, hs', hq⟩
    exact H v h' L' hle hq { a with defers := ds } w' ⟨he.size, he.ok, rfl⟩ hs'
def fnPostD (P : Program) (fn : Func) (n : Nat) (h0 : Heap) (Lf : Owned) (Post : Value → Heap → Owned → Prop) : Pst
  | .normal, e, ds, h, L => ds = [] ∧ Ends P fn n h0 Lf Post e [] h L
  | .ret, e, ds, h, L => ds = [] ∧ Ends P fn n h0 Lf Post e [] h L
  | _, _, _, _, _ => False
/-- a function that begins with recover, entered as a deferred call where nothing panics -/
theorem TrD_of {P : Program} {f : FuncId} {fn : Func} {args : List Value} {h : Heap} {L : Owned} {Post : Value → Heap → Owned → Prop} {n id t : Nat} {ops : Array Oper} {l : List Oper} {ts : Array TypeId} {ty : TypeId} {pos : String} {af : Array Edge}
    (hf : P.funcs[f]? = some fn) (hb : fn.body = some (.region id ops false)) (hnm : (fn.name == "runtime.NumGoroutine") = false) (hnt : fn.ntmps = n) (hn : Nat.ble args.length n = true) (e0 : Env) (he0 : envL 0 args = e0)
    (hl : ops.toList = ⟨some t, .call ⟨.builtin .recover, #[], ts⟩, ty, pos, af, none⟩ :: l) (ht : Nat.blt t n = true)
    (H : ∀ Lf, WL ⟨P, none, n⟩ ops l (fnPostD P fn n h Lf Post) ((t, .nilIface) :: e0) [] h (L ++ Lf)) : TrD P f args h L Post := by
  subst hnt
  refine ⟨⟨fn, hf, by simp [hb], hnm⟩, fun Lf w hs => ?_⟩
  refine callsDIn_of_wpSIn hf hb trivial fun c₀ cs hmode => ?_
  have hle : args.length ≤ fn.ntmps := Nat.le_of_ble_eq_true hn
  have hok : EnvOk fn.ntmps e0 [] { tmps := (⟨args⟩ : Array Value) ++ Array.replicate (fn.ntmps - (⟨args⟩ : Array Value).size) undef, defers := [] } := by
    refine ⟨by simp; omega, ?_, rfl⟩
    intro t v hl
    rw [← he0] at hl
    obtain ⟨_, h2⟩ := look_envL args 0 t v hl
    simp only [Nat.sub_zero] at h2
    have hlt : t < args.length := (List.getElem?_eq_some_iff.1 h2).1
    rw [Array.getElem?_append_left (by simpa using hlt)]
    simpa using h2
  generalize ({ tmps := (⟨args⟩ : Array Value) ++ Array.replicate (fn.ntmps - (⟨args⟩ : Array Value).size) undef, defers := [] } : Act) = a at hok
  have h1 : ops[0]? = some ⟨some t, .call ⟨.builtin .recover, #[], ts⟩, ty, pos, af, none⟩ := by
    have := congrArg (fun l : List Oper => l[0]?) hl
    simpa using this
  have h2 : ops.toList.drop 1 = l := by rw [hl]; rfl
  have hw : wpOpsIn Fence.wide 0 P ops (up ⟨P, none, fn.ntmps⟩ (fnPostD P fn fn.ntmps h Lf Post)) (List.range' 1 l.length) (a.put (some t) .nilIface) w :=
    H Lf 1 h2 _ _ (hok.put (d := some t) (by simpa [dstOk] using ht) .nilIface) hs
  have hrec : (execOp a.eval ⟨some t, .call ⟨.builtin .recover, #[], ts⟩, ty, pos, af, none⟩).run P w = .ok .recover w := by
    unfold execOp
    simp [resolve, invoke, builtin]
  have hnone : recoverD (c₀ :: cs) = none := by simp [recoverD, hmode]
  intro b kk hb' hro hF hroom
  have hwant : Region.wanted (⟨some t, .call ⟨.builtin .recover, #[], ts⟩, ty, pos, af, none⟩ : Oper) (yielded ops a.tmps) = true := by simp [Region.wanted]
  have hsz : List.range ops.size = 0 :: List.range' 1 l.length := by
    have : ops.size = l.length + 1 := by have := congrArg List.length hl; simpa using this
    rw [this, List.range_eq_range', List.range'_succ]
  obtain ⟨e, a', w', hq, harr⟩ := wp_opsIn (F := Fence.wide) (n := 0) _ _ _ hw b kk (c₀ :: cs) hro trivial hroom
  have hg := stepGR_op (P := P) (b := b) (a := a) (k := kk) (cs := c₀ :: cs) (w := w) (rest := List.range' 1 l.length) h1 hwant
  rw [hro, Oper.semAt_none] at hg
  have hfin : (b.atR a (.inRegion ops (0 :: List.range' 1 l.length) :: kk)).finish .nilIface = b.atR (a.put (some t) .nilIface) (.inRegion ops (List.range' 1 l.length) :: kk) := by
    rw [Frame.finish_atR, h1]; rfl
  have hk : (b.atR a (.inRegion ops (0 :: List.range' 1 l.length) :: kk)).kind = .deferred := hb'
  have htr := tryRecover_deferred hk (c₀ :: cs)
  have hstep : step P (lone (b.atR a (.inRegion ops (0 :: List.range' 1 l.length) :: kk)) (c₀ :: cs) w) = .next (lone (b.atR (a.put (some t) .nilIface) (.inRegion ops (List.range' 1 l.length) :: kk)) (c₀ :: cs) w) := by
    refine step_lone_go ?_
    rw [hg, ← hfin]
    simp only [Frame.atR, hro] at htr ⊢
    simp [stepG.apply, hrec, htr, hnone]
  have harr2 : ArrivesIn (Machine.fenced P Fence.wide) P (lone (b.atR a (.code (.region id ops false) :: kk)) (c₀ :: cs) w) b kk (c₀ :: cs) e a' w' := by
    refine .of_steps (.head (fenced_wide _ _) stepR_region (.one (fenced_wide _ _) ?_)) harr
    rw [hsz]; exact hstep
  have hc : ({ c₀ with mode := .returning } : Frame) = c₀ := by rw [← hmode]
  refine ⟨e, a', c₀ :: cs, w', rfl, ?_, harr2⟩
  obtain ⟨e', ds', h', L', he', hs', hq⟩ := hq
  cases e with
  | normal =>
    obtain ⟨rfl, hE⟩ := hq
    obtain ⟨v, hv, hT⟩ := hE a' w' he' hs'
    exact ⟨he'.df, .returning, by rw [hc], v, hv, rfl, hT⟩
  | ret =>
    obtain ⟨rfl, hE⟩ := hq
    obtain ⟨v, hv, hT⟩ := hE a' w' he' hs'
    exact ⟨he'.df, .returning, by rw [hc], v, hv, rfl, hT⟩
  | _ => exact hq.elim
end Go.Proofs.Ch

/- Slices whose elements are known for good; the first place at which something holds. -/
namespace Go.Proofs.Ch
open Go
/-- the elements of a slice, each one value -/
def Sl1 (h : Heap) (a : Option Addr) (n : Nat) (x : Nat → Value) : Prop := ∀ i, i < n → ∃ b off all T fr, a = some ⟨b, off, none⟩ ∧ h b = some (.cells ⟨all⟩ T fr) ∧ all[off + i * 1]? = some (x i)
/-- the elements of a slice, each so many cells -/
def Sln (h : Heap) (a : Option Addr) (n size : Nat) (x : Nat → List Value) : Prop := ∀ i, i < n → ∃ b off all T fr, a = some ⟨b, off, none⟩ ∧ h b = some (.cells ⟨all⟩ T fr) ∧ cut (off + i * size) size all = some (x i)
theorem Sl1.le {h h' : Heap} {a : Option Addr} {n : Nat} {x : Nat → Value} (s : Sl1 h a n x) (hl : Heap.le h h') : Sl1 h' a n x := fun i hi => by
  obtain ⟨b, off, all, T, fr, h1, h2, h3⟩ := s i hi
  exact ⟨b, off, all, T, fr, h1, hl _ _ h2, h3⟩
theorem Sln.le {h h' : Heap} {a : Option Addr} {n size : Nat} {x : Nat → List Value} (s : Sln h a n size x) (hl : Heap.le h h') : Sln h' a n size x := fun i hi => by
  obtain ⟨b, off, all, T, fr, h1, h2, h3⟩ := s i hi
  exact ⟨b, off, all, T, fr, h1, hl _ _ h2, h3⟩
theorem Sl1.of {h : Heap} {b : Nat} {T : TypeId} {fr : Nat × Nat} {l : List Value} {n : Nat} {d : Value} (hb : h b = some (.cells ⟨l⟩ T fr)) (hn : n = l.length) : Sl1 h (some ⟨b, 0, none⟩) n (fun i => l.getD i d) := fun i hi => by
  refine ⟨b, 0, l, T, fr, rfl, hb, ?_⟩
  have : i < l.length := by omega
  simp [List.getElem?_eq_getElem this]

def findI (p : Nat → Bool) (n : Nat) : Int := match (List.range n).find? p with
  | some i => (i : Int)
  | none => -1
theorem findI_none {p : Nat → Bool} {n : Nat} (h : ∀ j, j < n → p j = false) : findI p n = -1 := by
  have : (List.range n).find? p = none := by
    rw [List.find?_eq_none]
    intro x hx
    rw [List.mem_range] at hx
    simp [h x hx]
  simp [findI, this]
theorem findI_some {p : Nat → Bool} {n i : Nat} (hi : i < n) (hp : p i = true) (h : ∀ j, j < i → p j = false) : findI p n = (i : Int) := by
  have : (List.range n).find? p = some i := by
    rw [List.find?_range_eq_some]
    refine ⟨hp, by simpa using hi, ?_⟩
    intro j hj
    simp [h j hj]
  simp [findI, this]
theorem findI_any {p : Nat → Bool} {n : Nat} : decide (0 ≤ findI p n) = (List.range n).any p := by
  unfold findI
  cases hf : (List.range n).find? p with
  | none =>
    simp only [List.find?_eq_none] at hf
    have : (List.range n).any p = false := by
      rw [List.any_eq_false]; intro x hx; simpa using hf x hx
    rw [this]; rfl
  | some i =>
    have h1 := List.find?_some hf
    have h2 := List.mem_of_find?_eq_some hf
    have : (List.range n).any p = true := List.any_eq_true.2 ⟨i, h2, h1⟩
    rw [this]
    simp
theorem any_range_getD {α : Type} {l : List α} {d : α} {q : α → Bool} : (List.range l.length).any (fun i => q (l.getD i d)) = l.any q := by
  have : l = (List.range l.length).map (fun i => l.getD i d) := by
    apply List.ext_getElem
    · simp
    · intro i h1 h2; simp [List.getElem?_eq_getElem h1]
  conv => rhs; rw [this]
  rw [List.any_map]; rfl
theorem findI_le {p : Nat → Bool} {n : Nat} : -1 ≤ findI p n ∧ findI p n < n ∨ findI p n = -1 := by
  unfold findI
  cases hf : (List.range n).find? p with
  | none => exact .inr rfl
  | some i =>
    have h2 := List.mem_of_find?_eq_some hf
    rw [List.mem_range] at h2
    exact .inl ⟨by simp only; omega, by simp only; omega⟩
/-- outside of the scalars -/
def outI (a : Int) : Bool := decide (a < 0 ∨ 2305843009213688669 ≤ a)
theorem map_getD {xs : List Int} {i : Nat} : (xs.map (Value.int .i64)).getD i (.int .i64 0) = .int .i64 (xs.getD i 0) := by
  rw [List.getD_eq_getElem?_getD, List.getElem?_map, List.getD_eq_getElem?_getD]
  cases xs[i]? <;> rfl
theorem outI2 {a b : Int} : [a, b].any outI = true ↔ ((a < 0 ∨ 2305843009213688669 ≤ a) ∨ (b < 0 ∨ 2305843009213688669 ≤ b)) := by
  simp [outI]
theorem outI2f {a b : Int} : [a, b].any outI = false ↔ ((0 ≤ a ∧ a < 2305843009213688669) ∧ (0 ≤ b ∧ b < 2305843009213688669)) := by
  simp [outI]
theorem outI1 {a : Int} : [a].any outI = true ↔ (a < 0 ∨ 2305843009213688669 ≤ a) := by
  simp [outI]
theorem out1 {a : Int} : [a].any outI = outI a := by simp
def fmulV (a b : Int) : Int := if (0 ≤ a ∧ a < 2305843009213688669) ∧ (0 ≤ b ∧ b < 2305843009213688669) then ((a.toNat * b.toNat % 2305843009213688669 : Nat) : Int) else 0
def faddV (a b : Int) : Int := if (0 ≤ a ∧ a < 2305843009213688669) ∧ (0 ≤ b ∧ b < 2305843009213688669) then (((a.toNat + b.toNat) % 2305843009213688669 : Nat) : Int) else 0
def fokE (a b : Int) : Int := if (0 ≤ a ∧ a < 2305843009213688669) ∧ (0 ≤ b ∧ b < 2305843009213688669) then 0 else 1
theorem v_lowj {P : Program} {e : Env} {h : Heap} {L : Owned} {x y : Operand} {xt yt : TypeId} {m n : Nat} (j : Nat) (hx : ev e x = some (.int .i64 (m : Int))) (hy : ev e y = some (.int .i64 (n : Int))) (hm : m < 9223372036854775808) (hj : j ≤ 62) (hn : n = 2 ^ j - 1) : OpV P (.binOp .and xt x y yt) e h L (.int .i64 ((m % 2 ^ j : Nat) : Int)) := by
  subst hn
  have h2 : (2 : Nat) ^ j ≤ 2 ^ 62 := Nat.pow_le_pow_right (by omega) hj
  have h3 : 0 < (2 : Nat) ^ j := Nat.pow_pos (by omega)
  refine v_and hx hy ?_
  have e1 : (BitVec.ofInt IntKind.i64.bits (m : Int) &&& BitVec.ofInt IntKind.i64.bits ((2 ^ j - 1 : Nat) : Int)).toNat = m % 2 ^ j := by
    have t1 : (BitVec.ofInt IntKind.i64.bits (m : Int)).toNat = m := by
      simp [BitVec.toNat_ofInt, IntKind.bits]; omega
    have t2 : (BitVec.ofInt IntKind.i64.bits ((2 ^ j - 1 : Nat) : Int)).toNat = 2 ^ j - 1 := by
      rw [BitVec.toNat_ofInt]
      show (((2 ^ j - 1 : Nat) : Int) % ((2 ^ 64 : Nat) : Int)).toNat = 2 ^ j - 1
      omega
    rw [BitVec.toNat_and, t1, t2, Nat.and_two_pow_sub_one_eq_mod]
  rw [e1]
  have : m % 2 ^ j ≤ m := Nat.mod_le _ _
  exact wrap_i64 (by omega) (by omega)
theorem nn_t {p : Bool} (h : (!!p) = true) : p = true := by simpa using h
theorem nn_f {p : Bool} (h : (!!p) = false) : p = false := by simpa using h
theorem outI_f {a : Int} (h : outI a = false) : 0 ≤ a ∧ a < 2305843009213688669 := by
  simp only [outI, decide_eq_false_iff_not] at h; omega
theorem outI_t {a : Int} (h : outI a = true) : a < 0 ∨ 2305843009213688669 ≤ a := by
  simpa [outI] using h
theorem fmul_e {a b : Int} (h : outI a = true ∨ outI b = true) : Value.tuple ⟨[.int .i64 0, .int .i64 1]⟩ = .tuple ⟨[.int .i64 (fmulV a b), .int .i64 (fokE a b)]⟩ := by
  unfold fmulV fokE
  have : (a < 0 ∨ 2305843009213688669 ≤ a) ∨ (b < 0 ∨ 2305843009213688669 ≤ b) := h.imp outI_t outI_t
  rw [if_neg (by omega), if_neg (by omega)]
theorem fadd_e {a b : Int} (h : outI a = true ∨ outI b = true) : Value.tuple ⟨[.int .i64 0, .int .i64 1]⟩ = .tuple ⟨[.int .i64 (faddV a b), .int .i64 (fokE a b)]⟩ := by
  unfold faddV fokE
  have : (a < 0 ∨ 2305843009213688669 ≤ a) ∨ (b < 0 ∨ 2305843009213688669 ≤ b) := h.imp outI_t outI_t
  rw [if_neg (by omega), if_neg (by omega)]
theorem fmul_k {a b : Nat} (ha : (a : Int) < 2305843009213688669) (hb : (b : Int) < 2305843009213688669) : Value.tuple ⟨[.int .i64 ((a * b % 2305843009213688669 : Nat) : Int), .int .i64 0]⟩ = .tuple ⟨[.int .i64 (fmulV a b), .int .i64 (fokE a b)]⟩ := by
  unfold fmulV fokE
  rw [if_pos (by omega), if_pos (by omega)]; rfl
theorem fadd_k {a b : Nat} (ha : (a : Int) < 2305843009213688669) (hb : (b : Int) < 2305843009213688669) : Value.tuple ⟨[.int .i64 (((a + b) % 2305843009213688669 : Nat) : Int), .int .i64 0]⟩ = .tuple ⟨[.int .i64 (faddV a b), .int .i64 (fokE a b)]⟩ := by
  unfold faddV fokE
  rw [if_pos (by omega), if_pos (by omega)]; rfl
theorem not_dec {a : Int} : (!outI a) = (decide (0 ≤ a) && decide (a < 2305843009213688669)) := by
  unfold outI
  rw [← decide_not, ← Bool.decide_and]
  congr 1
  exact propext ⟨fun h => by omega, fun h => by omega⟩
end Go.Proofs.Ch

/- copy, append, make, and bytes out of strings. No program is named here. -/
namespace Go.Proofs.Ch
open Go
/-- what is copied or appended: so many elements, these cells -/
def Src (h : Heap) (L : Owned) (size : Nat) (v : Value) (n : Nat) (us : List Value) : Prop :=
  (∃ b off cap cs T fr, v = .slice (some ⟨b, off, none⟩) n cap ∧ Kn h L b (.cells ⟨cs⟩ T fr) ∧ cut off (n * size) cs = some us) ∨ (∃ a cap, v = .slice a n cap ∧ n = 0 ∧ us = []) ∨ (∃ s : ByteArray, v = .string s ∧ n = s.size ∧ us = s.data.toList.map byteV ∧ size = 1)
section
variable {P : Program} {h : Heap} {L : Owned} {w : World} {size n : Nat} {v : Value} {us : List Value}
theorem Src.len (s : Src h L size v n us) : us.length = n * size := by
  rcases s with ⟨b, off, cap, cs, T, fr, rfl, _, hc⟩ | ⟨a, cap, rfl, rfl, rfl⟩ | ⟨s, rfl, rfl, rfl, rfl⟩
  · exact (cut_spec hc).2
  · simp
  · simp
theorem Src.lenOf (s : Src h L size v n us) : Builtin.lenOf v = pure n := by
  rcases s with ⟨b, off, cap, cs, T, fr, rfl, _, hc⟩ | ⟨a, cap, rfl, rfl, rfl⟩ | ⟨s, rfl, rfl, rfl, rfl⟩ <;> rfl
theorem cut_take {i n m : Nat} {l r : List Value} (hc : cut i n l = some r) (hm : m ≤ n) : cut i m l = some (r.take m) := by
  have hs := cut_spec hc
  have key : ∀ (i m : Nat) (l : List Value), i + m ≤ l.length → cut i m l = some ((l.drop i).take m) := by
    intro i
    induction i with
    | zero =>
      intro m
      induction m with
      | zero => intro l _; cases l <;> simp [cut]
      | succ m ih =>
        intro l hl
        cases l with
        | nil => simp at hl
        | cons a l => simp only [cut]; rw [ih l (by simp at hl; omega)]; simp
    | succ i ih =>
      intro m l hl
      cases l with
      | nil => simp at hl
      | cons a l => simp only [cut]; rw [ih m l (by simp at hl; omega)]; simp
  have hlen : m = 0 ∨ i + m ≤ l.length := by
    rcases Nat.eq_zero_or_pos m with h0 | h0
    · exact .inl h0
    · right
      have h1 := congrArg List.length hs.1
      rw [List.length_take, List.length_drop, hs.2] at h1
      omega
  rcases hlen with rfl | hl
  · have : cut i 0 l = some [] := by
      have : ∀ (i n : Nat) (l r : List Value), cut i n l = some r → cut i 0 l = some [] := by
        intro i
        induction i with
        | zero => intro n l r _; cases l <;> simp [cut]
        | succ i ih => intro n l r hc; cases l with
          | nil => cases n <;> simp [cut] at hc ⊢
          | cons a l => simp only [cut] at hc ⊢; exact ih n l r hc
      exact this i n l r hc
    rw [this]; simp
  · rw [key i m l hl, ← hs.1, List.take_take, Nat.min_eq_left hm]
theorem Src.cells (s : Src h L size v n us) (hs : St h L w) {m : Nat} (hm : m ≤ n) : (Builtin.firstCells size m v).run P w = .ok ⟨us.take (m * size)⟩ w := by
  rcases s with ⟨b, off, cap, cs, T, fr, rfl, hk, hc⟩ | ⟨a, cap, rfl, rfl, rfl⟩ | ⟨s, rfl, rfl, rfl, rfl⟩
  · simp only [Builtin.firstCells]
    exact run_loadCells (hs.kn hk) (cut_take hc (Nat.mul_le_mul_right _ hm))
  · have : m = 0 := by omega
    subst this
    cases a with
    | none => simp [Builtin.firstCells]
    | some a => simp [Builtin.firstCells, loadCells, loadCellsFrom]
  · simp only [Builtin.firstCells, Sem.run_pure]
    congr 1
    rw [← Array.toList_inj]
    simp [ByteArray.data_extract]
    rfl
theorem Src.le {h' : Heap} (s : Src h L size v n us) (hl : Heap.le h h') : Src h' L size v n us := by
  rcases s with ⟨b, off, cap, cs, T, fr, rfl, hk, hc⟩ | s | s
  · exact .inl ⟨b, off, cap, cs, T, fr, rfl, hk.elim (fun x => .inl (hl _ _ x)) .inr, hc⟩
  · exact .inr (.inl s)
  · exact .inr (.inr s)
theorem Src.per {b off cap : Nat} {cs : List Value} {T : TypeId} {fr : Nat × Nat} (hb : h b = some (.cells ⟨cs⟩ T fr)) (hc : cut off (n * size) cs = some us) : Src h L size (.slice (some ⟨b, off, none⟩) n cap) n us := .inl ⟨b, off, cap, cs, T, fr, rfl, .inl hb, hc⟩
theorem Src.own {b off cap : Nat} {cs : List Value} {T : TypeId} {fr : Nat × Nat} (hb : (b, Obj.cells ⟨cs⟩ T fr) ∈ L) (hc : cut off (n * size) cs = some us) : Src h L size (.slice (some ⟨b, off, none⟩) n cap) n us := .inl ⟨b, off, cap, cs, T, fr, rfl, .inr hb, hc⟩
theorem Src.nil {cap : Nat} : Src h L size (.slice none 0 cap) 0 [] := .inr (.inl ⟨none, cap, rfl, rfl, rfl⟩)
theorem Src.str {s : ByteArray} : Src h L 1 (.string s) s.size (s.data.toList.map byteV) := .inr (.inr ⟨s, rfl, rfl, rfl, rfl⟩)
end

section
variable {C : Cx} {R : Pst} {k : List K} {e : Env} {ds : List Deferred} {h : Heap} {L : Owned} {ops : Array Oper} {l : List Oper} {Q : Pst}
variable {d : Option Tmp} {ty : TypeId} {pos : String} {af : Array Edge} {g : Option (Nat × Bool)} {x y : Operand}

/-- copy into a block of one's own -/
theorem op1_copy {A B : Owned} {t t2 et T : TypeId} {size b off dl dc n : Nat} {v : Value} {us cs cs' : List Value} (hu : Und C.P t (.slice et)) (hz : Siz C.P et size) (hx : ev e x = some (.slice (some ⟨b, off, none⟩) dl dc)) (hy : ev e y = some v) (hsrc : Src h (A ++ (b, .cells ⟨cs⟩ T (0, 0)) :: B) size v n us)
    (hs : spl off (us.take (min n dl * size)) cs = some cs') (ho : (us.take (min n dl * size)).all Value.oneCell' = true) :
    Op1 C ⟨d, .call ⟨.builtin .copy, #[x, y], #[t, t2]⟩, ty, pos, af, g⟩ e h (A ++ (b, .cells ⟨cs⟩ T (0, 0)) :: B) (fun v' h' L' => v' = .int .i64 ((min n dl : Nat) : Int) ∧ h' = h ∧ L' = A ++ (b, .cells ⟨cs'⟩ T (0, 0)) :: B) := by
  intro ds a w next Q he hst H
  refine ⟨fun _ _ => trivial, ?_⟩
  obtain ⟨w', hr, hw, hoth, ho1, ho2⟩ := run_storeCells (P := C.P) (us.take (min n dl * size)) off 0 cs cs' w (hst.own (b, .cells ⟨cs⟩ T (0, 0)) (by simp)) (by simpa using hs) ho
  have hfc := hsrc.cells (P := C.P) hst (Nat.min_le_left n dl)
  have hcp : (Builtin.copy_ #[t, t2] ty #[.slice (some ⟨b, off, none⟩) dl dc, v]).run C.P w = .ok (.int .i64 ((min n dl : Nat) : Int)) w' := by
    have e1 : Nat.min n dl = min n dl := rfl
    simp only [Builtin.copy_, List.getElem?_toArray, List.getElem?_cons_zero, List.getElem?_cons_succ, Sem.run_bind, hu.run, hz.run, hsrc.lenOf, Result.andThen_ok, Sem.run_pure, e1, hfc, hr]
    rfl
  have hrun : (execOp a.eval ⟨d, .call ⟨.builtin .copy, #[x, y], #[t, t2]⟩, ty, pos, af, g⟩).run C.P w = .ok (.value (.int .i64 ((min n dl : Nat) : Int))) w' := by
    unfold execOp
    simp [he.eval hx, he.eval hy, resolve, invoke, builtin, hcp]
  rw [Oper.semAt_eq _ _ _ (by simp), hrun]
  exact H _ h _ w' ⟨rfl, rfl, rfl⟩ (hst.set _ hw hoth ho1 ho2)
theorem WL_copy {A B : Owned} {t t2 et T : TypeId} {size b off dl dc n : Nat} {v : Value} {us cs cs' : List Value} (hu : Und C.P t (.slice et)) (hz : Siz C.P et size) (hx : ev e x = some (.slice (some ⟨b, off, none⟩) dl dc)) (hy : ev e y = some v) (hsrc : Src h (A ++ (b, .cells ⟨cs⟩ T (0, 0)) :: B) size v n us)
    (hs : spl off (us.take (min n dl * size)) cs = some cs') (ho : (us.take (min n dl * size)).all Value.oneCell' = true) (hd : dstOk d C.n = true)
    (H : WL C ops l Q (put d (.int .i64 ((min n dl : Nat) : Int)) e) ds h (A ++ (b, .cells ⟨cs'⟩ T (0, 0)) :: B)) : WL C ops (⟨d, .call ⟨.builtin .copy, #[x, y], #[t, t2]⟩, ty, pos, af, none⟩ :: l) Q e ds h (A ++ (b, .cells ⟨cs⟩ T (0, 0)) :: B) :=
  WL_op (op1_copy hu hz hx hy hsrc hs ho) rfl hd (by rintro v' h' L' ⟨rfl, rfl, rfl⟩; exact H)
end

/-! append -/
def zlist (zs : List Value) (n : Nat) : List Value := (List.range (n * zs.length)).map fun i => zs[i % zs.length]!
theorem zlist_len {zs : List Value} {n : Nat} : (zlist zs n).length = n * zs.length := by simp [zlist]
theorem zlist_one {zs : List Value} {n : Nat} (h : zs.all Value.oneCell' = true) : (zlist zs n).all Value.oneCell' = true := by
  rw [List.all_eq_true] at h ⊢
  intro x hx
  simp only [zlist, List.mem_map, List.mem_range] at hx
  obtain ⟨i, hi, rfl⟩ := hx
  have h0 : 0 < zs.length := by
    rcases Nat.eq_zero_or_pos zs.length with h0 | h0
    · rw [h0] at hi; simp at hi
    · exact h0
  have h1 : i % zs.length < zs.length := Nat.mod_lt _ h0
  rw [getElem!_pos zs _ h1]
  exact h _ (List.getElem_mem h1)
theorem zeroCells_list (zs : List Value) (n : Nat) : Builtin.zeroCells ⟨zs⟩ n = ⟨zlist zs n⟩ := by
  simp [Builtin.zeroCells, zlist, ← Array.toList_inj, List.range_eq_range']

section
variable {P : Program} {h : Heap} {L : Owned} {w : World} {size bytes n : Nat} {t tx ty et : TypeId} {dx : TypeDesc}
theorem run_append_grow2 {z : Value} {zs olds us : List Value} {base : Option Addr} {slen scap : Nat} {x : Value} (hu : Und P t (.slice et)) (htx : Und P tx dx) (hdx : dx = .string ∨ ∃ e', dx = .slice e') (hz : Siz P et size) (hby : Byt P et bytes) (hb0 : bytes ≠ 0) (hzer : Zer P et z) (hzc : z.cells = ⟨zs⟩)
    (hsrc : Src h L size (.slice base slen scap) slen olds) (hx : Src h L size x n us) (hst : ∀ d, St h L { w with drawn := d }) (hg : scap < slen + n) (hfit : (slen + n) * bytes ≤ 140737488355328) :
    ∃ cap d, slen + n ≤ cap ∧ cap < 9223372036854775808 ∧ (Builtin.append_ #[t, tx] ty #[.slice base slen scap, x]).run P w = .ok (.slice (some ⟨w.heap.size, 0, none⟩) (slen + n) cap) { w with heap := w.heap.push (.cells ⟨olds ++ us ++ zlist zs (cap - (slen + n))⟩ et (0, 0)), drawn := d } := by
  have hn : ¬ (slen + n ≤ scap) := by omega
  have hneed : slen + n ≤ (slen + n) * bytes := Nat.le_mul_of_pos_right _ (by omega)
  have hfit2 := growslice_fits (need := slen + n) (old := scap) (bytes := bytes) hg hfit
  obtain ⟨i, hi, hib, his, hiz⟩ : ∃ i, P.info? et = some i ∧ i.bytes = bytes ∧ i.size = size ∧ i.zero = some z := by
    unfold Byt at hby; unfold Siz at hz; unfold Zer at hzer
    cases hi : P.info? et with
    | none => rw [hi] at hby; cases hby
    | some i =>
      rw [hi] at hby hz hzer
      simp at hby hz hzer
      exact ⟨i, rfl, hby, hz, hzer⟩
  subst hib his
  refine ⟨(Question.appendCap (slen + n) scap et).cut (w.tape w.drawn (.appendCap (slen + n) scap et)), w.drawn + 1, ?_, ?_, ?_⟩
  · simp only [Question.cut]; omega
  · simp only [Question.cut]
    have := Nat.mod_lt (w.tape w.drawn (.appendCap (slen + n) scap et)) (show 0 < 2 ^ 63 - (slen + n) by omega)
    omega
  · have f1 := hsrc.cells (P := P) (w := w.drew) (hst (w.drawn + 1)) (Nat.le_refl slen)
    have f2 := hx.cells (P := P) (w := w.drew) (hst (w.drawn + 1)) (Nat.le_refl n)
    rw [List.take_of_length_le (by rw [hsrc.len]; exact Nat.le_refl _)] at f1
    rw [List.take_of_length_le (by rw [hx.len]; exact Nat.le_refl _)] at f2
    have h63 : ¬ (9223372036854775807 < ((slen : Int) + (n : Int))) := by omega
    have h48 : ¬ (281474976710656 < Builtin.nextslicecap (slen + n) scap * i.bytes) := by omega
    have hl := hx.lenOf
    rcases hdx with rfl | ⟨e', rfl⟩
    all_goals
      simp [Builtin.append_, hu.run, htx.run, sizeOf, typeInfo, zeroValue, hi, hiz, hl, hn, h63, h48, Question.forced, f1, f2, newRow, hzc, zeroCells_list]
      rfl
theorem infos {z : Value} (hz : Siz P et size) (hby : Byt P et bytes) (hzer : Zer P et z) : ∃ i, P.info? et = some i ∧ i.bytes = bytes ∧ i.size = size ∧ i.zero = some z := by
  unfold Byt at hby; unfold Siz at hz; unfold Zer at hzer
  cases hi : P.info? et with
  | none => rw [hi] at hby; cases hby
  | some i =>
    rw [hi] at hby hz hzer
    simp at hby hz hzer
    exact ⟨i, rfl, hby, hz, hzer⟩
theorem run_append_room2 {us : List Value} {b off slen scap : Nat} {x : Value} {w' : World} (hu : Und P t (.slice et)) (htx : Und P tx dx) (hdx : dx = .string ∨ ∃ e', dx = .slice e') (hz : Siz P et size)
    (hx : Src h L size x n us) (hst : St h L w) (hg : slen + n ≤ scap) (hw : (storeCells ⟨b, off + slen * size, none⟩ us 0).run P w = .ok () w') :
    (Builtin.append_ #[t, tx] ty #[.slice (some ⟨b, off, none⟩) slen scap, x]).run P w = .ok (.slice (some ⟨b, off, none⟩) (slen + n) scap) w' := by
  have f2 := hx.cells (P := P) (w := w) hst (Nat.le_refl n)
  rw [List.take_of_length_le (by rw [hx.len]; exact Nat.le_refl _)] at f2
  have hl := hx.lenOf
  have hs : (sizeOf et).run P w = .ok size w := hz.run w
  rcases hdx with rfl | ⟨e', rfl⟩
  all_goals
    simp only [Builtin.append_, List.getElem?_toArray, List.getElem?_cons_zero, List.getElem?_cons_succ, Sem.run_bind, hu.run, htx.run, hs, hl, Result.andThen_ok, Sem.run_pure, Bool.false_eq_true, if_false, hg, if_true, Bool.not_false, f2]
    rw [show (⟨b, off, none⟩ : Addr).add (slen * size) = ⟨b, off + slen * size, none⟩ from add_none _ _ _]
    simp only [hw, Result.andThen_ok]
theorem run_append_none0 {us : List Value} {x : Value} (hu : Und P t (.slice et)) (htx : Und P tx dx) (hdx : dx = .string ∨ ∃ e', dx = .slice e') (hz : Siz P et size)
    (hx : Src h L size x 0 us) (hst : St h L w) :
    (Builtin.append_ #[t, tx] ty #[.slice none 0 0, x]).run P w = .ok (.slice none 0 0) w := by
  have f2 := hx.cells (P := P) (w := w) hst (Nat.le_refl 0)
  have hl := hx.lenOf
  have hs : (sizeOf et).run P w = .ok size w := hz.run w
  rcases hdx with rfl | ⟨e', rfl⟩
  all_goals
    simp only [Builtin.append_, List.getElem?_toArray, List.getElem?_cons_zero, List.getElem?_cons_succ, Sem.run_bind, hu.run, htx.run, hs, hl, Result.andThen_ok, Sem.run_pure, Bool.false_eq_true, if_false, Nat.add_zero, Nat.le_refl, if_true, Bool.not_false, f2]
end

/-- a slice of one's own that grows: so many elements, these cells, in a block of its own (or none yet) -/
def OwnS (et : TypeId) (size : Nat) (v : Value) (n : Nat) (xs : List Value) (L1 : Owned) : Prop :=
  (v = .slice none 0 0 ∧ n = 0 ∧ xs = [] ∧ L1 = []) ∨
  ∃ b cap pad, v = .slice (some ⟨b, 0, none⟩) n cap ∧ xs.length = n * size ∧ xs.length + pad.length = cap * size ∧ n ≤ cap ∧ cap < 9223372036854775808 ∧ L1 = [(b, .cells ⟨xs ++ pad⟩ et (0, 0))]
theorem OwnS.nil {et : TypeId} {size : Nat} : OwnS et size (.slice none 0 0) 0 [] [] := .inl ⟨rfl, rfl, rfl, rfl⟩
theorem OwnS.full {et : TypeId} {size b n : Nat} {xs : List Value} (hl : xs.length = n * size) (hn : n < 9223372036854775808) : OwnS et size (.slice (some ⟨b, 0, none⟩) n n) n xs [(b, .cells ⟨xs⟩ et (0, 0))] :=
  .inr ⟨b, n, [], rfl, hl, by simpa using hl, Nat.le_refl _, hn, by simp⟩
section
variable {C : Cx} {R : Pst} {k : List K} {e : Env} {ds : List Deferred} {h : Heap} {L : Owned} {ops : Array Oper} {l : List Oper} {Q : Pst}
variable {d : Option Tmp} {ty : TypeId} {pos : String} {af : Array Edge} {g : Option (Nat × Bool)} {x y : Operand}
theorem op1_append {L1 Lf : Owned} {t tx et : TypeId} {dx : TypeDesc} {size bytes n m : Nat} {sv xv z : Value} {xs us zs : List Value} (hu : Und C.P t (.slice et)) (htx : Und C.P tx dx) (hdx : dx = .string ∨ ∃ e', dx = .slice e') (hz : Siz C.P et size) (hby : Byt C.P et bytes) (hb0 : bytes ≠ 0) (hzer : Zer C.P et z) (hzc : z.cells = ⟨zs⟩) (hzl : zs.length = size)
    (hx : ev e x = some sv) (hy : ev e y = some xv) (hs : OwnS et size sv n xs L1) (hsrc : Src h (L1 ++ Lf) size xv m us) (ho : us.all Value.oneCell' = true) (hfit : (n + m) * bytes ≤ 140737488355328) :
    Op1 C ⟨d, .call ⟨.builtin .append, #[x, y], #[t, tx]⟩, ty, pos, af, g⟩ e h (L1 ++ Lf) (fun v' h' L' => ∃ L2, h' = h ∧ L' = L2 ++ Lf ∧ OwnS et size v' (n + m) (xs ++ us) L2) := by
  intro ds a w next Q he hst H
  refine ⟨fun _ _ => trivial, ?_⟩
  have key : ∃ v' w' L2, (Builtin.append_ #[t, tx] ty #[sv, xv]).run C.P w = .ok v' w' ∧ St h (L2 ++ Lf) w' ∧ OwnS et size v' (n + m) (xs ++ us) L2 := by
    have hm63 : n + m ≤ (n + m) * bytes := Nat.le_mul_of_pos_right _ (by omega)
    have grow : ∀ {base : Option Addr} {scap : Nat}, sv = .slice base n scap → Src h (L1 ++ Lf) size (.slice base n scap) n xs → scap < n + m → ∃ v' w' L2, (Builtin.append_ #[t, tx] ty #[sv, xv]).run C.P w = .ok v' w' ∧ St h (L2 ++ Lf) w' ∧ OwnS et size v' (n + m) (xs ++ us) L2 := by
      rintro base scap rfl hold hg
      obtain ⟨cap, dd, h1, h2, hr⟩ := run_append_grow2 (P := C.P) (w := w) (ty := ty) hu htx hdx hz hby hb0 hzer hzc hold hsrc (fun dd => hst.drew dd) hg hfit
      refine ⟨_, _, [(w.heap.size, .cells ⟨xs ++ us ++ zlist zs (cap - (n + m))⟩ et (0, 0))], hr, ?_, ?_⟩
      · refine St.drew (w := { w with heap := w.heap.push (.cells ⟨xs ++ us ++ zlist zs (cap - (n + m))⟩ et (0, 0)) }) ?_ dd
        refine (hst.alloc _).sub ?_
        exact List.Sublist.cons_cons _ (List.sublist_append_right L1 Lf)
      · refine .inr ⟨_, cap, _, rfl, ?_, ?_, h1, h2, rfl⟩
        · rw [List.length_append, hold.len, hsrc.len, Nat.add_mul]
        · rw [List.length_append, hold.len, hsrc.len, zlist_len, hzl, ← Nat.add_mul, ← Nat.add_mul]
          congr 1; omega
    rcases hs with ⟨rfl, rfl, rfl, rfl⟩ | ⟨b, cap, pad, rfl, hxl, hpl, hnc, hc63, rfl⟩
    · rcases Nat.eq_zero_or_pos m with rfl | hm
      · have hus : us = [] := List.length_eq_zero_iff.1 (by rw [hsrc.len]; simp)
        subst hus
        exact ⟨_, _, [], run_append_none0 hu htx hdx hz hsrc hst, hst, OwnS.nil⟩
      · exact grow rfl Src.nil (by omega)
    · rcases Nat.lt_or_ge cap (n + m) with hg | hg
      · refine grow rfl (Src.own (b := b) (cs := xs ++ pad) (T := et) (fr := (0, 0)) (by simp) ?_) hg
        have hcut : cut 0 (n * size) (xs ++ pad) = some ((xs ++ pad).take (n * size)) := by
          have hfull : cut 0 (xs ++ pad).length (xs ++ pad) = some (xs ++ pad) := by
            have : ∀ l : List Value, cut 0 l.length l = some l := by
              intro l; induction l with
              | nil => rfl
              | cons a l ih => simp only [List.length_cons, cut, ih]
            exact this _
          exact cut_take hfull (by rw [List.length_append, hxl]; omega)
        rw [hcut, ← hxl, List.take_left]
      · have hpm : m * size ≤ pad.length := by
          have h1 : (n + m) * size ≤ cap * size := Nat.mul_le_mul_right _ hg
          rw [Nat.add_mul] at h1
          omega
        have hspl : spl (n * size) us (xs ++ pad) = some (xs ++ us ++ pad.drop (m * size)) := by
          have := spl_app xs (pad.take (m * size)) (pad.drop (m * size)) us (by rw [hsrc.len, List.length_take]; omega)
          rw [hxl] at this
          rw [List.append_assoc, List.take_append_drop] at this
          exact this
        obtain ⟨w', hr, hw, hoth, ho1, ho2⟩ := run_storeCells (P := C.P) us (0 + n * size) 0 (xs ++ pad) _ w (hst.own (b, .cells ⟨xs ++ pad⟩ et (0, 0)) (by simp)) (by simpa using hspl) ho
        refine ⟨_, w', [(b, .cells ⟨xs ++ us ++ pad.drop (m * size)⟩ et (0, 0))], run_append_room2 hu htx hdx hz hsrc hst hg hr, ?_, ?_⟩
        · rw [List.append_assoc]; exact St.set (A := []) (B := Lf) hst _ hw hoth ho1 ho2
        · refine .inr ⟨b, cap, _, rfl, ?_, ?_, hg, hc63, rfl⟩
          · rw [List.length_append, hxl, hsrc.len, Nat.add_mul]
          · rw [List.length_append, List.length_drop, hsrc.len]; omega
  obtain ⟨v', w', L2, hr, hs', hown⟩ := key
  have hrun : (execOp a.eval ⟨d, .call ⟨.builtin .append, #[x, y], #[t, tx]⟩, ty, pos, af, g⟩).run C.P w = .ok (.value v') w' := by
    unfold execOp
    simp [he.eval hx, he.eval hy, resolve, invoke, builtin, hr]
  rw [Oper.semAt_eq _ _ _ (by simp), hrun]
  exact H _ h _ w' ⟨L2, rfl, rfl, hown⟩ hs'
theorem WL_append {L1 Lf : Owned} {t tx et : TypeId} {dx : TypeDesc} {size bytes n m : Nat} {sv xv z : Value} {xs us zs : List Value} (hu : Und C.P t (.slice et)) (htx : Und C.P tx dx) (hdx : dx = .string ∨ ∃ e', dx = .slice e') (hz : Siz C.P et size) (hby : Byt C.P et bytes) (hb0 : bytes ≠ 0) (hzer : Zer C.P et z) (hzc : z.cells = ⟨zs⟩) (hzl : zs.length = size)
    (hx : ev e x = some sv) (hy : ev e y = some xv) (hs : OwnS et size sv n xs L1) (hsrc : Src h (L1 ++ Lf) size xv m us) (ho : us.all Value.oneCell' = true) (hfit : (n + m) * bytes ≤ 140737488355328) (hd : dstOk d C.n = true)
    (H : ∀ v' L2, OwnS et size v' (n + m) (xs ++ us) L2 → WL C ops l Q (put d v' e) ds h (L2 ++ Lf)) : WL C ops (⟨d, .call ⟨.builtin .append, #[x, y], #[t, tx]⟩, ty, pos, af, none⟩ :: l) Q e ds h (L1 ++ Lf) :=
  WL_op (op1_append hu htx hdx hz hby hb0 hzer hzc hzl hx hy hs hsrc ho hfit) rfl hd (by rintro v' h' L' ⟨L2, rfl, rfl, ho⟩; exact H v' L2 ho)
/-- make -/
theorem WL_makeSlice {t et : TypeId} {z : Value} {zs : List Value} {bytes n c : Nat} {ly cy : IntKind} (hu : Und C.P t (.slice et)) (hby : Byt C.P et bytes) (hz : Siz C.P et zs.length) (hzer : Zer C.P et z) (hzc : z.cells = ⟨zs⟩) (hx : ev e x = some (.int ly (n : Int))) (hy : ev e y = some (.int cy (c : Int))) (hnc : n ≤ c) (hb : c * bytes ≤ 140737488355328) (hc : c < 9223372036854775808) (hd : dstOk d C.n = true)
    (H : ∀ b, WL C ops l Q (put d (.slice (some ⟨b, 0, none⟩) n c) e) ds h ((b, .cells ⟨zlist zs c⟩ et (0, 0)) :: L)) : WL C ops (⟨d, .makeSlice t x y, ty, pos, af, none⟩ :: l) Q e ds h L := by
  refine WL_new (f := fun b => .slice (some ⟨b, 0, none⟩) n c) (ob := .cells ⟨zlist zs c⟩ et (0, 0)) (op1_new fun ρ w hρ _ => ⟨w.drawn, ?_⟩) rfl hd H
  obtain ⟨i, hi, hib, his, hiz⟩ := infos hz hby hzer
  have w1 : IntKind.i64.wrap (n : Int) = (n : Int) := wrap_i64 (by omega) (by omega)
  have w2 : IntKind.i64.wrap (c : Int) = (c : Int) := wrap_i64 (by omega) (by omega)
  have h3 : ¬ ((bytes : Int) * (c : Int) > 2 ^ 48) := by
    have : (bytes : Int) * (c : Int) = ((c * bytes : Nat) : Int) := by simp [Int.mul_comm]
    rw [this]; omega
  have h3' : ¬ (281474976710656 < (bytes : Int) * (c : Int)) := by simpa using h3
  have h4 : ¬ ((c : Int) < 0) := by omega
  have h5 : ¬ ((n : Int) < 0) := by omega
  have h6 : ¬ ((c : Int) < (n : Int)) := by omega
  have h7 : ¬ (c < n) := by omega
  have hzl : zlist zs c = (List.range (c * zs.length)).map (fun x => zs[x % zs.length]?.getD default) := by
    unfold zlist
    refine List.map_congr_left fun j hj => ?_
    rw [List.getElem!_eq_getElem?_getD]
  unfold execOp
  simp [hρ _ _ hx, hρ _ _ hy, Instr.makeSlice, hu.run, asInt, asIntOf, w1, w2, typeInfo, hi, hib, h3', h4, h5, h6, h7, his, sizeOf, zeroValue, hiz, hzc, newRow]
  by_cases h00 : c * zs.length = 0
  · have hz1 : ∀ f : Nat → Value, Array.map f (Array.range 0) = ⟨[]⟩ := fun f => by simp [← Array.toList_inj, Array.toList_range]
    simp [hzl, h00, hz1]
  · have hz2 : (Array.map (fun x => zs[x % zs.length]?.getD default) (Array.range (c * zs.length))) = ⟨zlist zs c⟩ := by
      rw [hzl]; simp [← Array.toList_inj, List.range_eq_range']
    rw [if_neg h00]
    simp [hz2]
theorem St.congr {w w' : World} (s : St h L w) (hw : ∀ b : Nat, w'.heap[b]? = w.heap[b]?) (ho : w'.os = w.os) (hu : w'.output = w.output) : St h L w' :=
  ⟨fun b o hb => by rw [hw]; exact s.per b o hb, fun p hp => by rw [hw]; exact s.own p hp, s.sep, s.nd, ho.trans s.os, hu.trans s.out⟩
/-- bytes out of a string -/
theorem op1_tobytes {s t et : TypeId} {du : TypeDesc} {bs : ByteArray} (hs : Und C.P s du) (hu : Und C.P t (.slice et)) (hue : Und C.P et (.int .u8)) (hx : ev e x = some (.string bs)) :
    Op1 C ⟨d, .convert s t x, ty, pos, af, g⟩ e h L (fun v h' L' => ∃ b cap pad fr, bs.size ≤ cap ∧ v = .slice (some ⟨b, 0, none⟩) bs.size cap ∧ h' = h ∧ L' = (b, .cells ⟨bs.data.toList.map byteV ++ pad⟩ et fr) :: L) := by
  intro ds a w next Q he hst H
  refine ⟨fun _ _ => trivial, ?_⟩
  have hr := Lib.run_convert_string_bytes w s t et bs hs hu hue
  have hrun : (execOp a.eval ⟨d, .convert s t x, ty, pos, af, g⟩).run C.P w = .ok (.value (.slice (some ⟨w.heap.size, 0, none⟩) bs.size (grownCap w bs.size 0 et))) (Lib.bytesWorld w et bs) := by
    unfold execOp
    simp only [he.eval hx, Sem.run_bind, hr, Result.andThen_ok, Sem.run_pure]
  rw [Oper.semAt_eq _ _ _ (by simp), hrun]
  have hob : ∃ pad, Lib.bytesCells w et bs = ⟨bs.data.toList.map byteV ++ pad⟩ := by
    refine ⟨List.replicate (grownCap w bs.size 0 et - bs.size) (.int .u8 0), ?_⟩
    rw [← Array.toList_inj]
    unfold Lib.bytesCells
    rw [Array.toList_append, Array.toList_map, Array.toList_replicate]
    rfl
  obtain ⟨pad, hpad⟩ := hob
  refine H _ h ((w.heap.size, .cells ⟨bs.data.toList.map byteV ++ pad⟩ et ((Lib.bytesCells w et bs).size, (Lib.bytesCells w et bs).size + 1)) :: L) _ ⟨w.heap.size, _, pad, _, by simp only [grownCap, Question.cut]; omega, rfl, rfl, rfl⟩ ?_
  refine (hst.alloc _).congr (fun b => ?_) (by first | rfl | simp [Lib.bytesWorld]) (by first | rfl | simp [Lib.bytesWorld])
  rcases Nat.lt_trichotomy b w.heap.size with hb | rfl | hb
  · rw [Lib.bytesWorld_at_old w et bs b hb, Array.getElem?_push, if_neg (Nat.ne_of_lt hb)]
  · rw [Lib.bytesWorld_at_new w et bs, Array.getElem?_push, if_pos rfl, hpad]
  · have h1 : (Lib.bytesWorld w et bs).heap[b]? = none := Array.getElem?_eq_none (by rw [Lib.bytesWorld_size]; omega)
    rw [h1, Array.getElem?_push, if_neg (by omega), Array.getElem?_eq_none (by omega)]
theorem WL_tobytes {s t et : TypeId} {du : TypeDesc} {bs : ByteArray} (hs : Und C.P s du) (hu : Und C.P t (.slice et)) (hue : Und C.P et (.int .u8)) (hx : ev e x = some (.string bs)) (hd : dstOk d C.n = true)
    (H : ∀ b cap pad fr h', bs.size ≤ cap → Heap.le h h' → h' b = some (.cells ⟨bs.data.toList.map byteV ++ pad⟩ et fr) → WL C ops l Q (put d (.slice (some ⟨b, 0, none⟩) bs.size cap) e) ds h' L) : WL C ops (⟨d, .convert s t x, ty, pos, af, none⟩ :: l) Q e ds h L :=
  WL_op (op1_tobytes hs hu hue hx) rfl hd (by rintro v h' L' ⟨b, cap, pad, fr, hc, rfl, rfl, rfl⟩; exact WL_freeze fun h2 hl hb => H b cap pad fr h2 hc hl hb)
/-- append(s, make(..)...) upon nothing -/
theorem WL_appendz {t tx et : TypeId} {kx : IntKind} {size bytes m : Nat} {z : Value} {zs : List Value} (hu : Und C.P t (.slice et)) (htx : Und C.P tx (.int kx)) (hz : Siz C.P et size) (hby : Byt C.P et bytes) (hb0 : bytes ≠ 0) (hzer : Zer C.P et z) (hzc : z.cells = ⟨zs⟩) (hzl : zs.length = size) (hs0 : size ≠ 0)
    (hx : ev e x = some (.slice none 0 0)) (hy : ev e y = some (.int kx (m : Int))) (hm : m ≠ 0) (hfit : m * bytes ≤ 140737488355328) (hd : dstOk d C.n = true)
    (H : ∀ v' L2, OwnS et size v' m (zlist zs m) L2 → WL C ops l Q (put d v' e) ds h (L2 ++ L)) : WL C ops (⟨d, .call ⟨.builtin .append, #[x, y], #[t, tx]⟩, ty, pos, af, none⟩ :: l) Q e ds h L := by
  refine WL_op (G := fun v' h' L' => ∃ L2, h' = h ∧ L' = L2 ++ L ∧ OwnS et size v' m (zlist zs m) L2) ?_ rfl hd (by rintro v' h' L' ⟨L2, rfl, rfl, ho⟩; exact H v' L2 ho)
  intro ds a w next Q he hst H
  refine ⟨fun _ _ => trivial, ?_⟩
  obtain ⟨i, hi, hib, his, hiz⟩ := infos hz hby hzer
  have hm1 : m ≤ m * bytes := Nat.le_mul_of_pos_right _ (by omega)
  have w1 : IntKind.i64.wrap (m : Int) = (m : Int) := wrap_i64 (by omega) (by omega)
  have h3 : ¬ (281474976710656 < (m : Int) * (bytes : Int)) := by
    have : (m : Int) * (bytes : Int) = ((m * bytes : Nat) : Int) := by simp
    rw [this]; omega
  have h4 : ¬ ((m : Int) < 0) := by omega
  have h5 : ¬ (9223372036854775807 < (m : Int)) := by omega
  have h6 : ¬ (281474976710656 < Builtin.nextslicecap m 0 * bytes) := by rw [nextslicecap_zero (by omega)]; omega
  have hcap : ∃ cap, cap = (Question.appendCap m 0 et).cut (w.tape w.drawn (.appendCap m 0 et)) ∧ m ≤ cap ∧ cap < 9223372036854775808 := by
    refine ⟨_, rfl, ?_, ?_⟩
    · simp only [Question.cut]; omega
    · simp only [Question.cut]
      have := Nat.mod_lt (w.tape w.drawn (.appendCap m 0 et)) (show 0 < 2 ^ 63 - m by omega)
      omega
  obtain ⟨cap, hcap, hc1, hc2⟩ := hcap
  have hr : (Builtin.append_ #[t, tx] ty #[.slice none 0 0, .int kx (m : Int)]).run C.P w = .ok (.slice (some ⟨w.heap.size, 0, none⟩) m cap) { w with heap := w.heap.push (.cells ⟨zlist zs m ++ zlist zs (cap - m)⟩ et (0, 0)), drawn := w.drawn + 1 } := by
    rw [hcap]
    simp [Builtin.append_, hu.run, htx.run, sizeOf, typeInfo, zeroValue, hi, hib, his, hiz, hm, hs0, w1, h3, h4, h5, h6, asInt, asIntOf, Question.forced, newRow, hzc, zeroCells_list, Builtin.firstCells]
    rw [if_neg (Nat.mul_ne_zero hm hs0)]
    rfl
  have hrun : (execOp a.eval ⟨d, .call ⟨.builtin .append, #[x, y], #[t, tx]⟩, ty, pos, af, none⟩).run C.P w = .ok (.value (.slice (some ⟨w.heap.size, 0, none⟩) m cap)) { w with heap := w.heap.push (.cells ⟨zlist zs m ++ zlist zs (cap - m)⟩ et (0, 0)), drawn := w.drawn + 1 } := by
    unfold execOp
    simp [he.eval hx, he.eval hy, resolve, invoke, builtin, hr]
  rw [Oper.semAt_eq _ _ _ (by simp), hrun]
  refine H _ h _ _ ⟨[(w.heap.size, .cells ⟨zlist zs m ++ zlist zs (cap - m)⟩ et (0, 0))], rfl, rfl, .inr ⟨_, cap, _, rfl, ?_, ?_, hc1, hc2, rfl⟩⟩ ((hst.alloc _).drew _)
  · rw [zlist_len, hzl]
  · rw [zlist_len, zlist_len, hzl, ← Nat.add_mul]; congr 1; omega
end
end Go.Proofs.Ch

/- The hash, as the program and its reference reckon it, on words; tables of cells. No program is named here. -/
namespace Go.Proofs.Ch
open Go
/-- a row of cells, by its places -/
def tab (n : Nat) (f : Nat → Value) : List Value := (List.range n).map f
theorem tab_len {n : Nat} {f : Nat → Value} : (tab n f).length = n := by simp [tab]
theorem tab_get {n k : Nat} {f : Nat → Value} (h : k < n) : (tab n f)[k]? = some (f k) := by
  simp [tab, h]
theorem tab_get_none {n k : Nat} {f : Nat → Value} (h : n ≤ k) : (tab n f)[k]? = none := List.getElem?_eq_none (by rw [tab_len]; exact h)
theorem tab_ext {n : Nat} {f g : Nat → Value} (h : ∀ k, k < n → f k = g k) : tab n f = tab n g :=
  List.map_congr_left fun k hk => h k (List.mem_range.1 hk)
theorem tab_of {n : Nat} {l : List Value} {f : Nat → Value} (hl : l.length = n) (h : ∀ k, k < n → l[k]? = some (f k)) : l = tab n f := by
  refine List.ext_getElem? fun k => ?_
  rcases Nat.lt_or_ge k n with hk | hk
  · rw [tab_get hk, h k hk]
  · rw [tab_get_none hk, List.getElem?_eq_none (by omega)]
theorem tab_spl {n p : Nat} {f : Nat → Value} {v : Value} (h : p < n) : spl p [v] (tab n f) = some (tab n (fun k => if k = p then v else f k)) := by
  obtain ⟨r, hr⟩ := spl_total (i := p) (vs := [v]) (l := tab n f) (by rw [tab_len]; simp; omega)
  rw [hr]
  congr 1
  obtain ⟨h1, _, h3⟩ := spl_spec hr
  refine tab_of (by rw [h1, tab_len]) fun k hk => ?_
  rw [h3 k]
  by_cases hkp : k = p
  · subst hkp; simp
  · rw [if_neg (by simp; omega), tab_get hk, if_neg hkp]
theorem cut_len {i n : Nat} {l : List Value} (h : i + n ≤ l.length) : ∃ r, cut i n l = some r := by
  induction i generalizing l with
  | zero =>
    induction n generalizing l with
    | zero => exact ⟨[], by cases l <;> simp [cut]⟩
    | succ n ih =>
      cases l with
      | nil => simp at h
      | cons a l =>
        obtain ⟨r, hr⟩ := ih (l := l) (by simp at h; omega)
        exact ⟨a :: r, by simp [cut, hr]⟩
  | succ i ih =>
    cases l with
    | nil => simp at h
    | cons a l => simp only [cut]; exact ih (by simp at h; omega)
theorem cut_get {i n : Nat} {l r : List Value} (hc : cut i n l = some r) {k : Nat} (hk : k < n) : l[i + k]? = r[k]? := by
  have hs := cut_spec hc
  rw [← hs.1, List.getElem?_take, if_pos hk, List.getElem?_drop]
theorem cut_tab {i n N : Nat} {f : Nat → Value} (h : i + n ≤ N) : cut i n (tab N f) = some (tab n (fun k => f (i + k))) := by
  obtain ⟨r, hr⟩ := cut_len (i := i) (n := n) (l := tab N f) (by rw [tab_len]; exact h)
  rw [hr]
  congr 1
  refine tab_of (cut_spec hr).2 fun k hk => ?_
  rw [← cut_get hr hk, tab_get (by omega)]

/-! the words -/
structure S8 where
  a : UInt32
  b : UInt32
  c : UInt32
  d : UInt32
  e : UInt32
  f : UInt32
  g : UInt32
  h : UInt32
def S8.cells (s : S8) : List Value := [w32 s.a, w32 s.b, w32 s.c, w32 s.d, w32 s.e, w32 s.f, w32 s.g, w32 s.h]
def rot3 (v : UInt32) (x y z : Nat) : UInt32 := ror32 v x ^^^ ror32 v y ^^^ ror32 v z
def ws0 (x : UInt32) : UInt32 := ror32 x 7 ^^^ ror32 x 18 ^^^ shr32 x 3
def ws1 (x : UInt32) : UInt32 := ror32 x 17 ^^^ ror32 x 19 ^^^ shr32 x 10
def wt (m : Nat → UInt32) (t : Nat) : UInt32 :=
  if h : t < 16 then m t else wt m (t - 16) + ws0 (wt m (t - 15)) + wt m (t - 7) + ws1 (wt m (t - 2))
termination_by t
theorem wt_lo {m : Nat → UInt32} {t : Nat} (h : t < 16) : wt m t = m t := by rw [wt, dif_pos h]
theorem wt_hi {m : Nat → UInt32} {t : Nat} (h : 16 ≤ t) : wt m t = wt m (t - 16) + ws0 (wt m (t - 15)) + wt m (t - 7) + ws1 (wt m (t - 2)) := by rw [wt, dif_neg (by omega)]
def chF (e f g : UInt32) : UInt32 := g ^^^ (e &&& (f ^^^ g))
def majF (a b c : UInt32) : UInt32 := (a &&& b) ||| (c &&& (a ||| b))
def pF (s : S8) (k w : UInt32) : UInt32 := s.h + rot3 s.e 6 11 25 + chF s.e s.f s.g + k + w
def qF (s : S8) : UInt32 := rot3 s.a 2 13 22 + majF s.a s.b s.c
def rnd (s : S8) (k w : UInt32) : S8 := ⟨pF s k w + qF s, s.a, s.b, s.c, s.d + pF s k w, s.e, s.f, s.g⟩
def Ks : List UInt32 := [0x428a2f98, 0x71374491, 0xb5c0fbcf, 0xe9b5dba5, 0x3956c25b, 0x59f111f1, 0x923f82a4, 0xab1c5ed5, 0xd807aa98, 0x12835b01, 0x243185be, 0x550c7dc3, 0x72be5d74, 0x80deb1fe, 0x9bdc06a7, 0xc19bf174, 0xe49b69c1, 0xefbe4786, 0x0fc19dc6, 0x240ca1cc, 0x2de92c6f, 0x4a7484aa, 0x5cb0a9dc, 0x76f988da, 0x983e5152, 0xa831c66d, 0xb00327c8, 0xbf597fc7, 0xc6e00bf3, 0xd5a79147, 0x06ca6351, 0x14292967, 0x27b70a85, 0x2e1b2138, 0x4d2c6dfc, 0x53380d13, 0x650a7354, 0x766a0abb, 0x81c2c92e, 0x92722c85, 0xa2bfe8a1, 0xa81a664b, 0xc24b8b70, 0xc76c51a3, 0xd192e819, 0xd6990624, 0xf40e3585, 0x106aa070, 0x19a4c116, 0x1e376c08, 0x2748774c, 0x34b0bcb5, 0x391c0cb3, 0x4ed8aa4a, 0x5b9cca4f, 0x682e6ff3, 0x748f82ee, 0x78a5636f, 0x84c87814, 0x8cc70208, 0x90befffa, 0xa4506ceb, 0xbef9a3f7, 0xc67178f2]
def kt (t : Nat) : UInt32 := Ks.getD t 0
def kcells : List Value := Ks.map w32
theorem kcells_get {t : Nat} (h : t < 64) : kcells[t]? = some (w32 (kt t)) := by
  have h1 : t < Ks.length := by simpa [Ks] using h
  simp [kcells, kt, List.getElem?_eq_getElem h1]
def start8 : S8 := ⟨0x6a09e667, 0xbb67ae85, 0x3c6ef372, 0xa54ff53a, 0x510e527f, 0x9b05688c, 0x1f83d9ab, 0x5be0cd19⟩
def rnds (s : S8) (m : Nat → UInt32) : Nat → S8
  | 0 => s
  | t + 1 => rnd (rnds s m t) (kt t) (wt m t)
def S8.add (s v : S8) : S8 := ⟨s.a + v.a, s.b + v.b, s.c + v.c, s.d + v.d, s.e + v.e, s.f + v.f, s.g + v.g, s.h + v.h⟩
def absorb (s : S8) (m : Nat → UInt32) : S8 := s.add (rnds s m 64)
def S8.get (s : S8) : Nat → UInt32
  | 0 => s.a | 1 => s.b | 2 => s.c | 3 => s.d | 4 => s.e | 5 => s.f | 6 => s.g | _ => s.h
theorem S8.cells_tab (s : S8) : s.cells = tab 8 (fun k => w32 (s.get k)) := rfl
theorem S8.add_get (s v : S8) (k : Nat) : (s.add v).get k = s.get k + v.get k := by
  match k with
  | 0 => rfl | 1 => rfl | 2 => rfl | 3 => rfl | 4 => rfl | 5 => rfl | 6 => rfl | _ + 7 => rfl
/-- four bytes, the most significant one first -/
def be4 (a b c d : UInt8) : UInt32 := shl32 (shl32 (shl32 (shl32 0 8 ||| a.toUInt32) 8 ||| b.toUInt32) 8 ||| c.toUInt32) 8 ||| d.toUInt32
def words (x : Nat → UInt8) (t : Nat) : UInt32 := be4 (x (4 * t)) (x (4 * t + 1)) (x (4 * t + 2)) (x (4 * t + 3))

/-! bytes of a message, with its end -/
def padL (n : Nat) : Nat := 64 * (n / 64) + (if n % 64 ≤ 55 then 64 else 128)
def byteAt (n i : Nat) : UInt8 := UInt8.ofNat (n / 2 ^ (8 * i))
def padf (xs : List UInt8) (j : Nat) : UInt8 :=
  if j < xs.length then xs.getD j 0 else if j = xs.length then 128 else if j < padL xs.length - 8 then 0 else byteAt (xs.length * 8) (padL xs.length - 1 - j)
def stt (f : Nat → UInt8) : Nat → S8
  | 0 => start8
  | i + 1 => absorb (stt f i) (words fun j => f (64 * i + j))
def shaS (xs : List UInt8) : S8 := stt (padf xs) (padL xs.length / 64)
def digAt (s : S8) (i : Nat) : UInt8 := byteAt (s.get (i / 4)).toNat (3 - i % 4)
def digOf (s : S8) : Dig := Vector.ofFn fun i : Fin 32 => digAt s i.val
theorem sha_ex : ∃ f : List UInt8 → Dig, ∀ xs, f xs = digOf (shaS xs) := ⟨_, fun _ => rfl⟩
/-- the hash; it never needs to be reckoned out -/
noncomputable def sha (xs : List UInt8) : Dig := Classical.choose sha_ex xs
theorem sha_eq (xs : List UInt8) : sha xs = digOf (shaS xs) := Classical.choose_spec sha_ex xs
theorem dcells_tab (d : Dig) : dcells d = tab 32 (fun k => byteV (d.toList.getD k 0)) := by
  refine tab_of (by simp [dcells]) fun k hk => ?_
  rw [dcells_eq, List.getElem?_map]
  have h1 : k < d.toList.length := by simpa using hk
  rw [List.getElem?_eq_getElem h1]
  simp [List.getElem?_eq_getElem h1]
theorem dig_get (s : S8) {k : Nat} (hk : k < 32) : (digOf s).toList.getD k 0 = digAt s k := by
  have : (digOf s).toList[k]? = some (digAt s k) := by
    simp [digOf, hk]
  rw [List.getD_eq_getElem?_getD, this, Option.getD_some]
theorem dig_cells (s : S8) : dcells (digOf s) = tab 32 (fun k => byteV (digAt s k)) := by
  rw [dcells_tab]
  exact tab_ext fun k hk => by rw [dig_get s hk]
noncomputable def tagged (tag b : List UInt8) : Dig := sha ((sha tag).toList ++ b)
end Go.Proofs.Ch

/- Small rules for the walks of the hash. No program is named here. -/
namespace Go.Proofs.Ch
open Go
section
variable {C : Cx} {R : Pst} {k : List K} {e : Env} {ds : List Deferred} {h : Heap} {L : Owned} {ops : Array Oper} {Q : Pst} {fin rem rem' : List Nat}
theorem qs_fin {i : Nat} {o : Oper} {G : Value → Heap → Owned → Prop} (hi : ops[i]? = some o) (hg : o.guard = none) (ho : Op1 C o e h L G) (hd : dstOk o.dst C.n = true) (hf : fin.contains i = true) (he' : rem.erase i = rem')
    (H : ∀ v h' L', G v h' L' → QS C ops fin rem' Q (put o.dst v e) ds h' L') : QStep C ops fin rem Q e ds h L i :=
  qstep hi hg ho hd fun v h' L' hG => ⟨h', L', fun _ s => s, by rw [he']; exact H v h' L' hG, fun hx => by rw [hf] at hx; cases hx⟩
end
section
variable {P : Program} {e : Env} {h : Heap} {L : Owned} {x y : Operand} {xt yt : TypeId}
theorem v_conv8_32 {s d : TypeId} {b : UInt8} {du : TypeDesc} (hu : Und P s du) (hu' : Und P d (.int .u32)) (hx : ev e x = some (byteV b)) : OpV P (.convert s d x) e h L (w32 b.toUInt32) := by
  have := v_conv (P := P) (e := e) (h := h) (L := L) (k' := .u32) (z := (b.toUInt32.toNat : Int)) hu hu' (show ev e x = some (.int .u8 (b.toNat : Int)) from hx) (by
    have h1 := UInt8.toNat_lt b
    rw [UInt8.toNat_toUInt32]
    exact wrap_u32 (by omega) (by omega))
  exact this
theorem v_conv64_8 {s d : TypeId} {n i : Nat} {du : TypeDesc} (hu : Und P s du) (hu' : Und P d (.int .u8)) (hx : ev e x = some (.int .u64 ((n / 2 ^ (8 * i) : Nat) : Int))) : OpV P (.convert s d x) e h L (byteV (byteAt n i)) := by
  have := v_convn (P := P) (h := h) (L := L) (k' := .u8) hu hu' hx rfl
  have h2 : byteV (byteAt n i) = .int .u8 ((n / 2 ^ (8 * i) % 2 ^ IntKind.u8.bits : Nat) : Int) := by
    show Value.int .u8 (((UInt8.ofNat (n / 2 ^ (8 * i))).toNat : Nat) : Int) = _
    rw [UInt8.toNat_ofNat']
    rfl
  rw [h2]; exact this
theorem v_conv32_64 {s d : TypeId} {a : UInt32} {du : TypeDesc} (hu : Und P s du) (hu' : Und P d (.int .u64)) (hx : ev e x = some (w32 a)) : OpV P (.convert s d x) e h L (.int .u64 ((a.toNat : Nat) : Int)) :=
  v_conv hu hu' hx (by have := a.toNat_lt; exact wrap_u64 (by omega) (by omega))
end
/-- the word's bytes, one after the other -/
def wp (x : Nat → UInt8) : Nat → UInt32
  | 0 => 0
  | i + 1 => shl32 (wp x i) 8 ||| (x i).toUInt32
theorem wp4 (x : Nat → UInt8) : wp x 4 = be4 (x 0) (x 1) (x 2) (x 3) := rfl
/-- the schedule, as far as it is laid -/
def wtab (m : Nat → UInt32) (t : Nat) : List Value := tab 64 (fun j => w32 (if j < t then wt m j else 0))
theorem wtab_get {m : Nat → UInt32} {t k p : Nat} (hk : k < t) (h64 : k < 64) (hp : p = k) : (wtab m t)[p]? = some (w32 (wt m k)) := by
  subst hp
  rw [wtab, tab_get h64, if_pos hk]
theorem wtab_0 (m : Nat → UInt32) : tab 64 (fun _ => w32 0) = wtab m 0 := tab_ext fun k _ => by rw [if_neg (Nat.not_lt_zero k)]
theorem wtab_next {m : Nat → UInt32} {t p : Nat} (ht : t < 64) (hp : p = t) : spl p [w32 (wt m t)] (wtab m t) = some (wtab m (t + 1)) := by
  subst hp
  rw [wtab, tab_spl ht]
  congr 1
  refine tab_ext fun k _ => ?_
  by_cases hk : k = p
  · subst hk; rw [if_pos rfl, if_pos (by omega)]
  · rw [if_neg hk]
    by_cases h2 : k < p
    · rw [if_pos h2, if_pos (by omega)]
    · rw [if_neg h2, if_neg (by omega)]
/-- the sums of the states, as far as they are laid -/
def atab (s v : S8) (t : Nat) : List Value := tab 8 (fun k => w32 (if k < t then s.get k + v.get k else s.get k))
theorem atab_0 (s v : S8) : s.cells = atab s v 0 := by
  rw [S8.cells_tab]; exact tab_ext fun k _ => by rw [if_neg (Nat.not_lt_zero k)]
theorem atab_8 (s v : S8) : atab s v 8 = (s.add v).cells := by
  rw [S8.cells_tab]; exact tab_ext fun k hk => by rw [if_pos hk, S8.add_get]
theorem atab_get {s v : S8} {t p : Nat} (ht : t < 8) (hp : p = t) : (atab s v t)[p]? = some (w32 (s.get t)) := by
  subst hp
  rw [atab, tab_get ht, if_neg (Nat.lt_irrefl _)]
theorem atab_next {s v : S8} {t p : Nat} (ht : t < 8) (hp : p = t) : spl p [w32 (s.get t + v.get t)] (atab s v t) = some (atab s v (t + 1)) := by
  subst hp
  rw [atab, tab_spl ht]
  congr 1
  refine tab_ext fun k _ => ?_
  by_cases hk : k = p
  · subst hk; rw [if_pos rfl, if_pos (by omega)]
  · rw [if_neg hk]
    by_cases h2 : k < p
    · rw [if_pos h2, if_pos (by omega)]
    · rw [if_neg h2, if_neg (by omega)]
theorem cells_get {s : S8} {t p : Nat} (ht : t < 8) (hp : p = t) : s.cells[p]? = some (w32 (s.get t)) := by
  subst hp; rw [S8.cells_tab, tab_get ht]
/-- bytes, written from the last one on -/
def ptab (N : Nat) (f : Nat → Value) (n off len i : Nat) : List Value := tab N (fun k => if off + (len - i) ≤ k ∧ k < off + len then byteV (byteAt n (off + len - 1 - k)) else f k)
theorem ptab_0 {N : Nat} {f : Nat → Value} {n off len : Nat} : tab N f = ptab N f n off len 0 := tab_ext fun k _ => by rw [if_neg (by omega)]
theorem ptab_next {N : Nat} {f : Nat → Value} {n off len i p : Nat} (hi : i < len) (hN : off + len ≤ N) (hp : p = off + (len - 1 - i)) : spl p [byteV (byteAt n i)] (ptab N f n off len i) = some (ptab N f n off len (i + 1)) := by
  subst hp
  rw [ptab, tab_spl (by omega)]
  congr 1
  refine tab_ext fun k _ => ?_
  by_cases hk : k = off + (len - 1 - i)
  · subst hk; rw [if_pos rfl, if_pos (by omega), show off + len - 1 - (off + (len - 1 - i)) = i from by omega]
  · rw [if_neg hk]
    by_cases h2 : off + (len - i) ≤ k ∧ k < off + len
    · rw [if_pos h2, if_pos (by omega)]
    · rw [if_neg h2, if_neg (by omega)]
end Go.Proofs.Ch

/- Bytes that are known for good; the end of a message, as the program lays it. No program is named here. -/
namespace Go.Proofs.Ch
open Go
/-- a slice of bytes that is known for good -/
def Bs (h : Heap) (v : Value) (xs : List UInt8) : Prop :=
  ∃ a cap, v = .slice a xs.length cap ∧ xs.length ≤ cap ∧ (0 < xs.length → ∃ b off cs T fr, a = some ⟨b, off, none⟩ ∧ h b = some (.cells ⟨cs⟩ T fr) ∧ ∀ j, j < xs.length → cs[off + j]? = some (byteV (xs.getD j 0)))
theorem Bs.le {h h' : Heap} {v : Value} {xs : List UInt8} (s : Bs h v xs) (hl : Heap.le h h') : Bs h' v xs := by
  obtain ⟨a, cap, rfl, hc, hx⟩ := s
  refine ⟨a, cap, rfl, hc, fun h0 => ?_⟩
  obtain ⟨b, off, cs, T, fr, h1, h2, h3⟩ := hx h0
  exact ⟨b, off, cs, T, fr, h1, hl _ _ h2, h3⟩
theorem Bs.nil {h : Heap} {cap : Nat} : Bs h (.slice none 0 cap) [] := ⟨none, cap, rfl, Nat.zero_le _, fun h0 => absurd h0 (by simp)⟩
theorem cut_of_get {i n : Nat} {l : List Value} {f : Nat → Value} (h : ∀ j, j < n → l[i + j]? = some (f j)) (h0 : 0 < n) : cut i n l = some (tab n f) := by
  have hlen : i + n ≤ l.length := by
    have := h (n - 1) (by omega)
    have := (List.getElem?_eq_some_iff.1 this).1
    omega
  obtain ⟨r, hr⟩ := cut_len hlen
  rw [hr]
  congr 1
  exact tab_of (cut_spec hr).2 fun k hk => by rw [← cut_get hr hk, h k hk]
theorem bytes_tab {xs : List UInt8} : xs.map byteV = tab xs.length (fun j => byteV (xs.getD j 0)) :=
  tab_of (by simp) fun k hk => by rw [List.getElem?_map, List.getElem?_eq_getElem hk]; simp [List.getElem?_eq_getElem hk]
theorem Bs.src {h : Heap} {L : Owned} {v : Value} {xs : List UInt8} (s : Bs h v xs) : Src h L 1 v xs.length (xs.map byteV) := by
  obtain ⟨a, cap, rfl, hc, hx⟩ := s
  rcases Nat.eq_zero_or_pos xs.length with h0 | h0
  · have : xs = [] := List.length_eq_zero_iff.1 h0
    subst this
    exact .inr (.inl ⟨a, cap, rfl, rfl, rfl⟩)
  · obtain ⟨b, off, cs, T, fr, rfl, h2, h3⟩ := hx h0
    refine Src.per h2 ?_
    rw [Nat.mul_one, cut_of_get h3 h0, bytes_tab]
theorem Bs.part {h : Heap} {b off n cap : Nat} {cs : List Value} {T : TypeId} {fr : Nat × Nat} {xs : List UInt8} (hb : h b = some (.cells ⟨cs⟩ T fr)) (hn : xs.length = n) (hc : n ≤ cap) (hx : ∀ j, j < n → cs[off + j]? = some (byteV (xs.getD j 0))) : Bs h (.slice (some ⟨b, off, none⟩) n cap) xs := by
  subst hn
  exact ⟨_, cap, rfl, hc, fun _ => ⟨b, off, cs, T, fr, rfl, hb, hx⟩⟩
theorem Bs.row {h : Heap} {b cap : Nat} {pad : List Value} {T : TypeId} {fr : Nat × Nat} {xs : List UInt8} {n : Nat} (hb : h b = some (.cells ⟨xs.map byteV ++ pad⟩ T fr)) (hn : xs.length = n) (hc : n ≤ cap) : Bs h (.slice (some ⟨b, 0, none⟩) n cap) xs :=
  Bs.part hb hn hc fun j hj => by
    have h1 : j < xs.length := by omega
    rw [Nat.zero_add, List.getElem?_append_left (by simpa using h1), List.getElem?_map, List.getElem?_eq_getElem h1]
    simp [List.getElem?_eq_getElem h1]
theorem OwnS.bs {h : Heap} {et : TypeId} {v : Value} {n : Nat} {xs : List UInt8} {L1 : Owned} (s : OwnS et 1 v n (xs.map byteV) L1) (hL : ∀ p ∈ L1, h p.1 = some p.2) : Bs h v xs := by
  rcases s with ⟨rfl, rfl, h1, rfl⟩ | ⟨b, cap, pad, rfl, hl, hp, hnc, _, rfl⟩
  · have : xs = [] := by simpa using h1
    subst this; exact Bs.nil
  · exact Bs.row (hL (b, .cells ⟨xs.map byteV ++ pad⟩ et (0, 0)) (by simp)) (by simpa using hl) hnc
theorem zlist_tab {z : Value} {n : Nat} : zlist [z] n = tab n (fun _ => z) := by
  unfold zlist tab
  simp only [List.length_singleton, Nat.mul_one]
  refine List.map_congr_left fun i _ => ?_
  rw [Nat.mod_one]; rfl
theorem spl_all {l l' : List Value} (h : l.length = l'.length) : spl 0 l l' = some l := by
  have := spl_app [] l' [] l h
  simpa using this
theorem tab_spl_list {N m off : Nat} {f : Nat → Value} {g : Nat → Value} (h : off + m ≤ N) : spl off (tab m g) (tab N f) = some (tab N (fun k => if off ≤ k ∧ k < off + m then g (k - off) else f k)) := by
  obtain ⟨r, hr⟩ := spl_total (i := off) (vs := tab m g) (l := tab N f) (by rw [tab_len, tab_len]; exact h)
  rw [hr]
  congr 1
  obtain ⟨h1, _, h3⟩ := spl_spec hr
  refine tab_of (by rw [h1, tab_len]) fun k hk => ?_
  rw [h3 k, tab_len]
  by_cases hc : off ≤ k ∧ k < off + m
  · rw [if_pos hc, if_pos hc, tab_get (by omega)]
  · rw [if_neg hc, if_neg hc, tab_get hk]

/-! the end of a message -/
def e0 (xs : List UInt8) (q r : Nat) (k : Nat) : Value := if k < r then byteV (xs.getD (64 * q + k) 0) else byteV 0
def e1 (xs : List UInt8) (q r : Nat) (k : Nat) : Value := if k = r then byteV 128 else e0 xs q r k
theorem padf_lo {xs : List UInt8} {j : Nat} (h : j < xs.length) : padf xs j = xs.getD j 0 := by rw [padf, if_pos h]
theorem padL_ge (n : Nat) : n + 9 ≤ padL n := by unfold padL; split <;> omega
theorem end_val {xs : List UInt8} {E k : Nat} (hE : E = if xs.length % 64 ≤ 55 then 64 else 128) (hk : k < E) :
    (if E - 8 + (8 - 8) ≤ k ∧ k < E - 8 + 8 then byteV (byteAt (xs.length * 8) (E - 8 + 8 - 1 - k)) else e1 xs (xs.length / 64) (xs.length % 64) k) = byteV (padf xs (64 * (xs.length / 64) + k)) := by
  have hP : padL xs.length = 64 * (xs.length / 64) + E := by rw [padL, hE]
  have hE8 : 64 ≤ E := by rw [hE]; split <;> omega
  have hr : xs.length % 64 + 9 ≤ E := by rw [hE]; split <;> omega
  have hn : xs.length = 64 * (xs.length / 64) + xs.length % 64 := by omega
  unfold padf
  rw [hP]
  generalize hq : xs.length / 64 = q at *
  generalize hr' : xs.length % 64 = r at *
  by_cases h1 : E - 8 ≤ k
  · rw [if_pos (by omega), if_neg (by omega), if_neg (by omega), if_neg (by omega)]
    congr 2; omega
  · rw [if_neg (by omega)]
    unfold e1 e0
    by_cases h2 : k = r
    · rw [if_pos h2, if_neg (by omega), if_pos (by omega)]
    · rw [if_neg h2]
      by_cases h3 : k < r
      · rw [if_pos h3, if_pos (by omega)]
      · rw [if_neg h3, if_neg (by omega), if_neg (by omega), if_pos (by omega)]
theorem padL_div (n : Nat) : padL n / 64 = n / 64 + (if n % 64 ≤ 55 then 1 else 2) := by unfold padL; split <;> omega
/-- the digest's bytes, as far as they are laid -/
def dtab (s : S8) (i : Nat) : List Value := tab 32 (fun k => if k < 4 * i then byteV (digAt s k) else byteV 0)
theorem dtab_0 (s : S8) : tab 32 (fun _ => byteV 0) = dtab s 0 := tab_ext fun k _ => by rw [if_neg (by omega)]
theorem dtab_8 (s : S8) : dtab s 8 = dcells (digOf s) := by
  rw [dig_cells]; exact tab_ext fun k hk => by rw [if_pos (by omega)]
theorem dtab_next {s : S8} {i : Nat} (hi : i < 8) : ptab 32 (fun k => if k < 4 * i then byteV (digAt s k) else byteV 0) (s.get i).toNat (4 * i) 4 4 = dtab s (i + 1) := by
  refine tab_ext fun k hk => ?_
  by_cases h1 : 4 * i + (4 - 4) ≤ k ∧ k < 4 * i + 4
  · rw [if_pos h1, if_pos (by omega), digAt, show k / 4 = i from by omega]
    congr 2; omega
  · rw [if_neg h1]
    show (if k < 4 * i then byteV (digAt s k) else byteV 0) = _
    by_cases h2 : k < 4 * i
    · rw [if_pos h2, if_pos (by omega)]
    · rw [if_neg h2, if_neg (by omega)]
theorem tab_bytes_one {n m : Nat} (x : Nat → UInt8) : ((tab n (fun j => byteV (x j))).take m).all Value.oneCell' = true := by
  rw [List.all_eq_true]
  intro v hv
  have := List.mem_of_mem_take hv
  simp only [tab, List.mem_map] at this
  obtain ⟨j, _, rfl⟩ := this
  rfl
theorem copy_e0 {xs : List UInt8} {i q r : Nat} (hq : i = q) (hr : xs.length - 64 * i = r) : tab 128 (fun k => if 0 ≤ k ∧ k < 0 + (xs.length - 64 * i) then (fun j => byteV (xs.getD (64 * i + j) 0)) (k - 0) else (fun _ => byteV 0) k) = tab 128 (e0 xs q r) := by
  subst hq hr
  refine tab_ext fun k _ => ?_
  unfold e0
  by_cases hk : k < xs.length - 64 * i
  · rw [if_pos ⟨Nat.zero_le _, by omega⟩, if_pos hk]; rfl
  · rw [if_neg (fun hh => hk (by omega)), if_neg hk]
theorem set_e1 {xs : List UInt8} {i q r : Nat} (hr : xs.length - 64 * i = r) : tab 128 (fun k => if k = 0 + (xs.length - 64 * i) * 1 then Value.int .u8 128 else e0 xs q r k) = tab 128 (e1 xs q r) := by
  refine tab_ext fun k _ => ?_
  rw [Nat.zero_add, Nat.mul_one, hr]; rfl
theorem rest_src {h h' : Heap} {L : Owned} {xs : List UInt8} {a a2 : Option Addr} {i cap : Nat} (hkn : 0 < xs.length → ∃ b off cs T fr, a = some ⟨b, off, none⟩ ∧ h b = some (.cells ⟨cs⟩ T fr) ∧ ∀ j, j < xs.length → cs[off + j]? = some (byteV (xs.getD j 0)))
    (i1 : 64 * i ≤ xs.length) (i2 : 64 * i < xs.length → ∀ b off, a = some ⟨b, off, none⟩ → a2 = some ⟨b, off + 64 * i, none⟩) (hle : Heap.le h h') :
    Src h' L 1 (.slice a2 (xs.length - 64 * i) cap) (xs.length - 64 * i) (tab (xs.length - 64 * i) (fun j => byteV (xs.getD (64 * i + j) 0))) := by
  rcases Nat.eq_or_lt_of_le i1 with he | hlt
  · rw [show xs.length - 64 * i = 0 from by omega]
    exact .inr (.inl ⟨a2, cap, rfl, rfl, rfl⟩)
  · obtain ⟨b, off, cs, T, fr, rfl, hb, hx⟩ := hkn (by omega)
    obtain rfl := i2 hlt _ _ rfl
    refine Src.per (hle _ _ hb) ?_
    rw [Nat.mul_one]
    exact cut_of_get (fun j hj => by rw [Nat.add_assoc, hx _ (by omega)]) (by omega)
theorem dcells_src (d : Dig) {j : Nat} (hj : j < 32) : (dcells d)[j]? = some (byteV (d.toList.getD j 0)) := by
  rw [dcells_eq, List.getElem?_map]
  have h1 : j < d.toList.length := by simpa using hj
  rw [List.getElem?_eq_getElem h1]
  simp [List.getElem?_eq_getElem h1]
/-- a digest in memory, as bytes -/
theorem Bs.dig {h : Heap} {b cap : Nat} {d : Dig} {T : TypeId} {fr : Nat × Nat} (hb : h b = some (.cells ⟨dcells d⟩ T fr)) (hc : 32 ≤ cap) : Bs h (.slice (some ⟨b, 0, none⟩) 32 cap) d.toList :=
  Bs.part hb (by simp) hc fun j hj => by rw [Nat.zero_add, dcells_src d hj]
section
variable {C : Cx} {e : Env} {ds : List Deferred} {h : Heap} {L : Owned} {ops : Array Oper} {l : List Oper} {Q : Pst}
/-- what was one's own stays as it is from now on -/
theorem WL_freezeS {et : TypeId} {v : Value} {n : Nat} {xs : List UInt8} {L1 : Owned} (s : OwnS et 1 v n (xs.map byteV) L1) (H : ∀ h', Heap.le h h' → Bs h' v xs → WL C ops l Q e ds h' L) : WL C ops l Q e ds h (L1 ++ L) := by
  rcases s with ⟨rfl, rfl, h1, rfl⟩ | ⟨b, cap, pad, rfl, hl, hp, hnc, _, rfl⟩
  · have : xs = [] := by simpa using h1
    subst this; exact H h (Heap.le.refl _) Bs.nil
  · exact WL_freeze fun h2 hl2 hb => H h2 hl2 (Bs.row hb (by simpa using hl) hnc)
end
theorem take_flat {xss : List (List UInt8)} {i : Nat} (hi : i < xss.length) : (xss.take (i + 1)).flatten = (xss.take i).flatten ++ xss.getD i [] := by
  rw [List.take_add_one, List.flatten_append, List.getElem?_eq_getElem hi]
  simp [List.getElem?_eq_getElem hi]
theorem take_flat_le {xss : List (List UInt8)} {i : Nat} : (xss.take i).flatten.length ≤ xss.flatten.length := by
  conv => rhs; rw [← List.take_append_drop i xss, List.flatten_append, List.length_append]
  omega
theorem bytes_one (xs : List UInt8) : (xs.map byteV).all Value.oneCell' = true := by
  rw [List.all_eq_true]
  intro v hv
  obtain ⟨b, _, rfl⟩ := List.mem_map.1 hv
  rfl
theorem sz_list {b : ByteArray} : b.data.toList.length = b.size := by simp
end Go.Proofs.Ch

/- The reference's words are the program's. No program is named here. -/
namespace Go.Proofs.Ch
open Go
theorem shl32_bv (a : UInt32) {s : Nat} (hs : s < 32) : (shl32 a s).toBitVec = a.toBitVec <<< s := by
  apply BitVec.eq_of_toNat_eq
  have := shl32_nat a hs
  rw [BitVec.toNat_shiftLeft]
  show (shl32 a s).toNat = _
  rw [this, Nat.shiftLeft_eq]
  rfl
theorem be4_ref (a b c d : UInt8) : shl32 a.toUInt32 24 ||| shl32 b.toUInt32 16 ||| shl32 c.toUInt32 8 ||| d.toUInt32 = be4 a b c d := by
  apply UInt32.toBitVec_inj.1
  unfold be4
  simp only [UInt32.toBitVec_or, shl32_bv _ (show 24 < 32 by decide), shl32_bv _ (show 16 < 32 by decide), shl32_bv _ (show 8 < 32 by decide), BitVec.shiftLeft_or_distrib, ← BitVec.shiftLeft_add]
  have h0 : (0 : UInt32).toBitVec = 0#32 := rfl
  simp [h0, BitVec.or_assoc]
theorem ch_ref (e f g : UInt32) : (e &&& f) ^^^ (~~~e &&& g) = chF e f g := by
  apply UInt32.toBitVec_inj.1
  unfold chF
  simp only [UInt32.toBitVec_and, UInt32.toBitVec_xor, UInt32.toBitVec_not]
  apply BitVec.eq_of_getLsbD_eq
  intro i hi
  simp only [BitVec.getLsbD_and, BitVec.getLsbD_xor, BitVec.getLsbD_not, hi, decide_true, Bool.true_and]
  cases e.toBitVec.getLsbD i <;> cases f.toBitVec.getLsbD i <;> cases g.toBitVec.getLsbD i <;> rfl
theorem maj_ref (a b c : UInt32) : (a &&& b) ^^^ (a &&& c) ^^^ (b &&& c) = majF a b c := by
  apply UInt32.toBitVec_inj.1
  unfold majF
  simp only [UInt32.toBitVec_and, UInt32.toBitVec_xor, UInt32.toBitVec_or]
  apply BitVec.eq_of_getLsbD_eq
  intro i hi
  simp only [BitVec.getLsbD_and, BitVec.getLsbD_xor, BitVec.getLsbD_or]
  cases a.toBitVec.getLsbD i <;> cases b.toBitVec.getLsbD i <;> cases c.toBitVec.getLsbD i <;> rfl
theorem ror_ref (v : UInt32) (n : Nat) : shr32 v n ||| shl32 v (32 - n) = ror32 v n := UInt32.or_comm _ _
/-- a byte of a word -/
theorem shr_byte (a : UInt32) {i : Nat} : UInt8.ofNat (shr32 a (24 - 8 * (i % 4))).toNat = byteAt a.toNat (3 - i % 4) := by
  unfold byteAt
  rw [shr32_nat a (by omega), show 24 - 8 * (i % 4) = 8 * (3 - i % 4) from by omega]
theorem padL_end (n : Nat) : padL n % 64 = 0 ∧ (padL n - 8) % 64 = 56 := by unfold padL; split <;> omega
/-- the message with its end, as a list -/
def padB (xs : List UInt8) : List UInt8 := (List.range (padL xs.length)).map (padf xs)
theorem padB_len (xs : List UInt8) : (padB xs).length = padL xs.length := by simp [padB]
theorem padB_get (xs : List UInt8) {j : Nat} (hj : j < padL xs.length) : (padB xs).getD j 0 = padf xs j := by
  simp [padB, hj]
def padP (xs : List UInt8) (z : Nat) : List UInt8 := xs ++ [128] ++ List.replicate z 0
def padE (n j : Nat) : List UInt8 := (List.range j).map (fun k => byteAt (n * 8) (7 - k))
theorem padP_next (xs : List UInt8) (z : Nat) : padP xs z ++ [0] = padP xs (z + 1) := by
  unfold padP; rw [List.replicate_succ', List.append_assoc]
theorem padE_next (n j : Nat) : padE n j ++ [byteAt (n * 8) (7 - j)] = padE n (j + 1) := by
  unfold padE; rw [List.range_succ, List.map_append]; rfl
theorem padP_len (xs : List UInt8) (z : Nat) : (padP xs z).length = xs.length + 1 + z := by
  simp [padP]; omega
theorem padE_len (n j : Nat) : (padE n j).length = j := by simp [padE]
theorem padB_eq {xs : List UInt8} {z : Nat} (hz : xs.length + 1 + z = padL xs.length - 8) : padP xs z ++ padE xs.length 8 = padB xs := by
  have hg := padL_ge xs.length
  apply List.ext_getElem?
  intro k
  rcases Nat.lt_or_ge k (padL xs.length) with hk | hk
  · have e2 : (padB xs)[k]? = some (padf xs k) := by simp [padB, hk]
    rw [e2]
    unfold padf
    rcases Nat.lt_or_ge k (padL xs.length - 8) with h8 | h8
    · rw [List.getElem?_append_left (by rw [padP_len]; omega)]
      unfold padP
      rcases Nat.lt_trichotomy k xs.length with h1 | h1 | h1
      · rw [if_pos h1, List.append_assoc, List.getElem?_append_left h1, List.getElem?_eq_getElem h1]
        simp [List.getElem?_eq_getElem h1]
      · subst h1
        rw [if_neg (Nat.lt_irrefl _), if_pos rfl, List.append_assoc, List.getElem?_append_right (Nat.le_refl _)]
        simp
      · rw [if_neg (by omega), if_neg (by omega), if_pos h8, List.getElem?_append_right (by simp; omega)]
        rw [List.getElem?_replicate, if_pos (by simp; omega)]
    · rw [if_neg (by omega), if_neg (by omega), if_neg (by omega), List.getElem?_append_right (by rw [padP_len]; omega), padP_len]
      unfold padE
      rw [List.getElem?_map, List.getElem?_range (by omega)]
      simp only [Option.map_some]
      congr 2; omega
  · rw [List.getElem?_eq_none (by rw [List.length_append, padP_len, padE_len]; omega), List.getElem?_eq_none (by rw [padB_len]; exact hk)]
theorem pad_more {n z : Nat} (h : n + 1 + z ≤ padL n - 8) (h2 : (n + 1 + z) % 64 ≠ 56) : n + 1 + (z + 1) ≤ padL n - 8 := by
  have := padL_end n
  have := padL_ge n
  rcases Nat.eq_or_lt_of_le h with he | hl
  · rw [he] at h2; omega
  · omega
theorem pad_full {n z : Nat} (h : n + 1 + z ≤ padL n - 8) (h2 : (n + 1 + z) % 64 = 56) : n + 1 + z = padL n - 8 := by
  unfold padL at *
  by_cases hh : n % 64 ≤ 55
  · rw [if_pos hh] at *; omega
  · rw [if_neg hh] at *; omega
/-- the digest's bytes, one after the other -/
def dti (s : S8) (i : Nat) : List Value := tab 32 (fun k => if k < i then byteV (digAt s k) else byteV 0)
theorem dti_0 (s : S8) : tab 32 (fun _ => byteV 0) = dti s 0 := tab_ext fun k _ => by rw [if_neg (by omega)]
theorem dti_32 (s : S8) : dti s 32 = dcells (digOf s) := by
  rw [dig_cells]; exact tab_ext fun k hk => by rw [if_pos hk]
theorem dti_next {s : S8} {i p : Nat} (hi : i < 32) (hp : p = i) : spl p [byteV (UInt8.ofNat (shr32 (s.get (i / 4)) (24 - 8 * (i % 4))).toNat)] (dti s i) = some (dti s (i + 1)) := by
  subst hp
  rw [dti, tab_spl hi]
  congr 1
  refine tab_ext fun k _ => ?_
  by_cases hk : k = p
  · subst hk; rw [if_pos rfl, if_pos (by omega), shr_byte]; rfl
  · rw [if_neg hk]
    by_cases h2 : k < p
    · rw [if_pos h2, if_pos (by omega)]
    · rw [if_neg h2, if_neg (by omega)]
theorem v_conv32_8 {P : Program} {e : Env} {h : Heap} {L : Owned} {x : Operand} {s d : TypeId} {a : UInt32} {du : TypeDesc} (hu : Und P s du) (hu' : Und P d (.int .u8)) (hx : ev e x = some (w32 a)) : OpV P (.convert s d x) e h L (byteV (UInt8.ofNat a.toNat)) := by
  have := v_convn (P := P) (h := h) (L := L) (k' := .u8) hu hu' hx rfl
  have h2 : byteV (UInt8.ofNat a.toNat) = .int .u8 ((a.toNat % 2 ^ IntKind.u8.bits : Nat) : Int) := by
    show Value.int .u8 (((UInt8.ofNat a.toNat).toNat : Nat) : Int) = _
    rw [UInt8.toNat_ofNat']
    rfl
  rw [h2]; exact this
theorem OwnS.slc {et : TypeId} {size n : Nat} {v : Value} {xs : List Value} {L1 : Owned} (s : OwnS et size v n xs L1) : ∃ a c, v = .slice a n c := by
  rcases s with ⟨rfl, rfl, _, _⟩ | ⟨b, cap, pad, rfl, _⟩
  · exact ⟨_, _, rfl⟩
  · exact ⟨_, _, rfl⟩
theorem pad_step {xs P : List UInt8} {j n : Nat} {v : Value} {L1 : Owned} (hj : j ≤ 7) (ho : OwnS 5 1 v (n + (7 - (j : Int)).toNat + 1) ((P ++ padE xs.length (7 - (j : Int)).toNat).map byteV ++ [byteV (byteAt (xs.length * 8) j)]) L1) :
    OwnS 5 1 v (n + (7 - ((j : Int) - 1)).toNat) ((P ++ padE xs.length (7 - ((j : Int) - 1)).toNat).map byteV) L1 := by
  rw [show (7 - ((j : Int) - 1)).toNat = (7 - (j : Int)).toNat + 1 from by omega]
  have e := padE_next xs.length (7 - (j : Int)).toNat
  rw [show 7 - (7 - (j : Int)).toNat = j from by omega] at e
  rw [← e, ← List.append_assoc, List.map_append]
  exact ho
end Go.Proofs.Ch

/- Numbers and values, as the codec writes them. No program is named here. -/
namespace Go.Proofs.Ch
open Go
/-- the unsigned form of an integer -/
def zig (n : Int) : Nat := if 0 ≤ n then 2 * n.toNat else 2 * (-(n + 1)).toNat + 1
theorem zig_pos (m : Nat) : zig (m : Int) = 2 * m := by unfold zig; rw [if_pos (by omega)]; omega
theorem zig_neg (m : Nat) : zig (-(m : Int) - 1) = 2 * m + 1 := by unfold zig; rw [if_neg (by omega)]; omega
theorem zig_lt {n : Int} (h1 : -9223372036854775808 ≤ n) (h2 : n < 9223372036854775808) : zig n < 18446744073709551616 := by unfold zig; split <;> omega
theorem xor_ones {a : Nat} (h : a < 18446744073709551616) : a ^^^ 18446744073709551615 = 18446744073709551615 - a := by
  have := congrArg BitVec.toNat (BitVec.xor_allOnes (x := BitVec.ofNat 64 a))
  rw [BitVec.toNat_xor, BitVec.toNat_not, BitVec.toNat_allOnes, BitVec.toNat_ofNat, Nat.mod_eq_of_lt h] at this
  exact this
theorem shr63_neg {m : Nat} (h : m < 9223372036854775808) : (-(m : Int) - 1).fdiv (2 ^ (min (63 : Nat) 64)) = -1 := by
  have : (2 : Int) ^ (min (63 : Nat) 64) = 9223372036854775808 := by decide
  rw [this, Int.fdiv_eq_ediv_of_nonneg _ (by decide)]
  omega
theorem or128 : ∀ x : Fin 256, x.val ||| 128 = x.val % 128 + 128 := by decide +kernel
/-- the digits of a number -/
def num (u : Nat) : List UInt8 := if h : u < 128 then [UInt8.ofNat u] else UInt8.ofNat (u % 128 + 128) :: num (u / 128)
termination_by u
decreasing_by omega
theorem num_lo {u : Nat} (h : u < 128) : num u = [UInt8.ofNat u] := by rw [num, dif_pos h]
theorem num_hi {u : Nat} (h : ¬ u < 128) : num u = UInt8.ofNat (u % 128 + 128) :: num (u / 128) := by rw [num, dif_neg h]
theorem num_len {u : Nat} : ∀ k, u < 128 ^ (k + 1) → (num u).length ≤ k + 1 := by
  intro k
  induction k generalizing u with
  | zero => intro h; rw [num_lo (by simpa using h)]; simp
  | succ k ih =>
    intro h
    by_cases hu : u < 128
    · rw [num_lo hu]; simp
    · rw [num_hi hu]
      have := ih (u := u / 128) (by rw [Nat.pow_succ] at h; omega)
      simp only [List.length_cons]; omega
theorem num_len10 {u : Nat} (h : u < 18446744073709551616) : (num u).length ≤ 10 := num_len 9 (by omega)
theorem byteV_nat {n : Nat} (h : n < 256) : byteV (UInt8.ofNat n) = .int .u8 (n : Int) := by
  show Value.int .u8 (((UInt8.ofNat n).toNat : Nat) : Int) = _
  rw [UInt8.toNat_ofNat', Nat.mod_eq_of_lt h]
theorem shr63_pos {m : Nat} (h : m < 9223372036854775808) : (m : Int).fdiv (2 ^ (min (63 : Nat) 64)) = 0 := by
  have : (2 : Int) ^ (min (63 : Nat) 64) = 9223372036854775808 := by decide
  rw [this, Int.fdiv_eq_ediv_of_nonneg _ (by decide)]
  omega
theorem wrap_negu {m : Nat} (h : m < 9223372036854775808) : IntKind.u64.wrap (-(m : Int) - 1) = ((18446744073709551615 - m : Nat) : Int) := by
  simp only [IntKind.wrap, IntKind.bits, IntKind.signed]
  simp
  omega
theorem or128n (u : Nat) : (u % 2 ^ IntKind.u8.bits ||| 128) = u % 128 + 128 := by
  have h := or128 ⟨u % 256, Nat.mod_lt _ (by decide)⟩
  have e : u % 2 ^ IntKind.u8.bits = u % 256 := rfl
  rw [e, h]
  simp only
  omega
end Go.Proofs.Ch
namespace Go.Proofs.Ch
open Go
/-- a value of the codec -/
inductive V where
  | int (n : Int)
  | text (s : ByteArray)
  | list (l : List V)
mutual
def V.depth : V → Nat
  | .int _ => 0
  | .text _ => 0
  | .list l => dmax l + 1
def dmax : List V → Nat
  | [] => 0
  | m :: l => max m.depth (dmax l)
end
mutual
def V.enc : V → List UInt8
  | .int n => 1 :: num (zig n)
  | .text s => 2 :: (num s.size ++ s.data.toList)
  | .list l => 3 :: (num l.length ++ encs l)
def encs : List V → List UInt8
  | [] => []
  | m :: l => m.enc ++ encs l
end
theorem dmax_app : ∀ (l l2 : List V), dmax (l ++ l2) = max (dmax l) (dmax l2)
  | [], l2 => by simp [dmax]
  | m :: l, l2 => by rw [List.cons_append, dmax, dmax_app l l2, dmax]; omega
theorem encs_app : ∀ (l l2 : List V), encs (l ++ l2) = encs l ++ encs l2
  | [], l2 => by simp [encs]
  | m :: l, l2 => by rw [List.cons_append, encs, encs_app l l2, encs, List.append_assoc]
theorem take_next {α : Type} {l : List α} {i : Nat} {m : α} (h : l[i]? = some m) : l.take (i + 1) = l.take i ++ [m] := by
  rw [List.take_add_one, h]; rfl
theorem dmax_next {l : List V} {i : Nat} {m : V} (h : l[i]? = some m) : dmax (l.take (i + 1)) = max (dmax (l.take i)) m.depth := by
  rw [take_next h, dmax_app]; simp [dmax]
theorem encs_next {l : List V} {i : Nat} {m : V} (h : l[i]? = some m) : encs (l.take (i + 1)) = encs (l.take i) ++ m.enc := by
  rw [take_next h, encs_app]; simp [encs]
abbrev noStr : Value := .string ⟨⟨[]⟩⟩
/-- the cells of a value in memory -/
inductive VR (h : Heap) : List Value → V → Prop
  | int (n : Int) (h1 : -9223372036854775808 ≤ n) (h2 : n < 9223372036854775808) : VR h [.int .i64 1, .int .i64 n, noStr, .slice none 0 0] (.int n)
  | text (s : ByteArray) : VR h [.int .i64 2, .int .i64 0, .string s, .slice none 0 0] (.text s)
  | list (l : List V) (a : Option Addr) (cap : Nat) (x : Nat → List Value) (hn : l.length < 9223372036854775808) (hs : Sln h a l.length 4 x) (hx : ∀ i m, l[i]? = some m → VR h (x i) m) : VR h [.int .i64 3, .int .i64 0, noStr, .slice a l.length cap] (.list l)
theorem VR.le {h h' : Heap} (hl : Heap.le h h') {cs : List Value} {m : V} (v : VR h cs m) : VR h' cs m := by
  induction v with
  | int n h1 h2 => exact .int n h1 h2
  | text s => exact .text s
  | list l a cap x hn hs hx ih => exact .list l a cap x hn (hs.le hl) ih
section
variable {P : Program} {e : Env} {h : Heap} {L : Owned} {x y : Operand} {xt yt : TypeId} {op : Op} {v v' : Value}
theorem OpV.to (hv : OpV P op e h L v) (hh : v = v') : OpV P op e h L v' := hh ▸ hv
theorem v_sself {a : ByteArray} (hx : ev e x = some (.string a)) (hy : ev e y = some (.string a)) : OpV P (.binOp .eql xt x y yt) e h L (.bool true) :=
  OpV.to (v_seql hx hy) (by rw [beq_self_eq_true])
end
theorem VR.four {h : Heap} {cs : List Value} {m : V} (v : VR h cs m) : cs.length = 4 ∧ cs.all Value.oneCell' = true := by
  cases v <;> exact ⟨rfl, rfl⟩
theorem cut_self {l : List Value} {n : Nat} (h : l.length = n) : cut 0 n l = some l := by
  subst h
  induction l with
  | nil => rfl
  | cons a l ih => simp only [List.length_cons, cut, ih]
theorem v_maxj {P : Program} {e : Env} {h : Heap} {L : Owned} {ts : Array TypeId} {x y : Operand} {m n : Nat} (hx : ev e x = some (.int .i64 (m : Int))) (hy : ev e y = some (.int .i64 (n : Int))) : OpV P (.call ⟨.builtin .max, #[x, y], ts⟩) e h L (.int .i64 ((max m n : Nat) : Int)) :=
  OpV.to (v_max2 hx hy) (by
    congr 1
    split <;> omega)
theorem dmax_mem : ∀ {l : List V} {i : Nat} {m : V}, l[i]? = some m → m.depth ≤ dmax l
  | [], i, m, h => by simp at h
  | a :: l, 0, m, h => by simp at h; subst h; rw [dmax]; omega
  | a :: l, i + 1, m, h => by rw [dmax]; have := dmax_mem (l := l) (i := i) (m := m) (by simpa using h); omega
def V.kind : V → Nat
  | .int _ => 1
  | .text _ => 2
  | .list _ => 3
theorem VR.kind {h : Heap} {cs : List Value} {m : V} (v : VR h cs m) : cs[0]? = some (.int .i64 ((m.kind : Nat) : Int)) := by
  cases v <;> rfl
theorem kind_lt (m : V) : m.kind < 4 := by cases m <;> simp [V.kind]
theorem encs_len_le {l : List V} {i : Nat} : (encs (l.take i)).length ≤ (encs l).length := by
  conv => rhs; rw [← List.take_append_drop i l, encs_app, List.length_append]
  omega
theorem OwnS.src {h : Heap} {et : TypeId} {size n : Nat} {v : Value} {xs : List Value} {L1 L : Owned} (s : OwnS et size v n xs L1) (hL : ∀ p ∈ L1, p ∈ L) : Src h L size v n xs := by
  rcases s with ⟨rfl, rfl, rfl, _⟩ | ⟨b, cap, pad, rfl, hl, _, _, _, rfl⟩
  · exact Src.nil
  · refine Src.own (hL (b, .cells ⟨xs ++ pad⟩ et (0, 0)) (List.mem_singleton.2 rfl)) ?_
    have := cut_take (cut_self (l := xs ++ pad) rfl) (m := n * size) (by rw [List.length_append]; omega)
    rw [this, ← hl, List.take_left]
theorem sub2 (A B C : Owned) : (A ++ C).Sublist (A ++ (B ++ C)) := (List.Sublist.refl A).append (List.sublist_append_right B C)
end Go.Proofs.Ch

/- Regions that draw their order, where part of what is owned changes on the way: what is read is read from a base that stays. No program is named here. -/
namespace Go.Proofs.Ch
open Go
section
variable {C : Cx} {R : Pst} {k : List K} {e : Env} {ds : List Deferred} {h hb hb2 : Heap} {L Lb Lb2 : Owned} {ops : Array Oper} {Q : Pst} {fin rem rem' : List Nat}
/-- What is left of a region, in whatever order; the base (hb, Lb) stays as it is. -/
def QB (C : Cx) (ops : Array Oper) (fin rem : List Nat) (Q : Pst) (hb : Heap) (Lb : Owned) (e : Env) (ds : List Deferred) (h : Heap) (L : Owned) : Prop :=
  (∀ w, St h L w → St hb Lb w) → okR ops fin = true → NoP Q → (∀ y ∈ rem, y < ops.size) → Clo ops rem → ∀ σ, Topo ops rem σ → ∀ a w, EnvOk C.n e ds a → St h L w → wpJ C ops (fun w => St hb Lb w) fin (up C Q) σ a w
theorem den_drawB {id : Nat} (fin : List Nat) (hb : Heap) (Lb : Owned) (hsub : ∀ w, St h L w → St hb Lb w) (hm : C.P.follows .mixedOrders = true) (hok : okR ops fin = true) (hr : NoP R) (hrem : List.range ops.size = rem) (H : QB C ops fin rem (den C R k) hb Lb e ds h L) : den C R (.code (.region id ops true) :: k) .normal e ds h L := by
  intro a w he hs
  refine wpIn_region_draw fun t => ?_
  simp only [Region.schedule, hm, Bool.true_or, if_true]
  have hbb : backB ops = true := by simp only [okR, Bool.and_eq_true] at hok; exact hok.1.1
  have ht := topo_all hbb t
  rw [hrem] at ht
  have hclo : Clo ops rem := by
    intro k hk j hj
    rw [← hrem] at hk
    have : ops.size ≤ k := by simpa using hk
    simp [aftAt, Array.getElem?_eq_none this] at hj
  exact (H hsub hok (hr.den k) (fun y hy => by rw [← hrem] at hy; exact List.mem_range.1 hy) hclo _ ht a _ he (hs.drew _)).toOps
theorem QB_nil (H : Q .normal e ds h L) : QB C ops fin [] Q hb Lb e ds h L := by
  intro hsub _ _ _ _ σ ht a w he hs
  cases ht with
  | nil => exact ⟨hsub _ hs, _, _, _, _, he, hs, H⟩
  | cons hi _ _ => cases hi
theorem QB_settled {i : Nat} {o : Oper} {v : Value} (hi : ops[i]? = some o) (hrem : rem.contains i = true) (hr : rdy ops rem i = true) (hf : fin.contains i = false) (he' : rem.erase i = rem') (hd : dstOk o.dst C.n = true)
    (hv : ∀ a, EnvOk C.n e ds a → Settled C ops (fun w => St hb Lb w) o v a) (H : QB C ops fin rem' Q hb Lb (put o.dst v e) ds h L) : QB C ops fin rem Q hb Lb e ds h L := by
  intro hsub hok hq hlt hclo σ ht a w he hs
  obtain ⟨α, β, rfl, hα, ht'⟩ := topo_split ht hclo (by simpa using hrem) hr
  rw [he'] at ht'
  have := H hsub hok hq (fun y hy => hlt y (by rw [← he'] at hy; exact List.mem_of_mem_erase hy)) (by rw [← he']; exact hclo.erase hr) _ ht' _ w (he.put hd v) hs
  refine delay hi (noSel_spec hok hi) hf (up_nop hq) β α a w ?_ (hv a he) this
  intro x hx
  obtain ⟨h1, h2, h3, h4⟩ := hα x hx
  have hxl := hlt x h1
  cases hxo : ops[x]? with
  | none => simp at hxo; omega
  | some ox =>
    have hA := finOk_spec hok hi hxo (Ne.symm h2)
    have hB := finOk_spec hok hxo hi h2
    have hnx : pre2 ops ox i = false := by
      have e1 : aftAt ops x = aft ox := by simp [aftAt, hxo]
      rw [e1] at h3 h4
      simp only [pre2, Bool.or_eq_false_iff, List.any_eq_false]
      exact ⟨by simpa using h3, fun m hm => by simpa using h4 m hm⟩
    have hni : pre2 ops o x = false := by
      have e1 : aftAt ops i = aft o := by simp [aftAt, hi]
      simp only [pre2, Bool.or_eq_false_iff, List.any_eq_false]
      refine ⟨?_, fun m hm => ?_⟩
      · have : x ∉ aft o := fun hc => rdy_out hr (by rw [e1]; exact hc) h1
        simpa using this
      · have : x ∉ aftAt ops m := fun hc => hclo m (rdy_out hr (by rw [e1]; exact hm)) x hc h1
        simpa using this
    simp only [finOk, hnx, hni, hf, Bool.or_false, Bool.and_eq_true] at hA hB
    refine ⟨ox, rfl, noSel_spec hok hxo, by simpa using hA.2, ?_, ?_, ?_⟩
    · intro t ht
      rw [ht] at hA
      simp only [Bool.and_eq_true] at hA
      simpa using hA.1.2
    · intro t ht
      rw [ht] at hA
      simp only [Bool.and_eq_true] at hA
      simpa using hA.1.1
    · intro t ht
      rw [ht] at hB
      simp only [Bool.and_eq_true] at hB
      simpa using hB.1.2
theorem QB_v {i : Nat} {d : Option Tmp} {op : Op} {ty : TypeId} {pos : String} {af : Array Edge} {v : Value} (hi : ops[i]? = some ⟨d, op, ty, pos, af, none⟩) (hv : OpV C.P op e hb Lb v) (hrem : rem.contains i = true) (hr : rdy ops rem i = true) (hf : fin.contains i = false) (he' : rem.erase i = rem') (hd : dstOk d C.n = true)
    (H : QB C ops fin rem' Q hb Lb (put d v e) ds h L) : QB C ops fin rem Q hb Lb e ds h L :=
  QB_settled hi hrem hr hf he' hd (fun _ he => settled_v hv rfl he) H
/-- The next operation in the schedule is i. -/
def QStepB (C : Cx) (ops : Array Oper) (fin rem : List Nat) (Q : Pst) (hb : Heap) (Lb : Owned) (e : Env) (ds : List Deferred) (h : Heap) (L : Owned) (i : Nat) : Prop :=
  ∃ o G, ops[i]? = some o ∧ o.guard = none ∧ Op1 C o e h L G ∧ dstOk o.dst C.n = true ∧
    ∀ v h' L', G v h' L' → ∃ h2 L2 hb2 Lb2, (∀ w, St h' L' w → St h2 L2 w) ∧ QB C ops fin (rem.erase i) Q hb2 Lb2 (put o.dst v e) ds h2 L2 ∧ (∀ w, St h2 L2 w → St hb2 Lb2 w) ∧ (fin.contains i = false → ∀ w, St hb2 Lb2 w → St hb Lb w)
theorem QB_step {is : List Nat} (hne : (rem.isEmpty) = false) (hl : rdyL ops rem = is) (H : ∀ i ∈ is, QStepB C ops fin rem Q hb Lb e ds h L i) : QB C ops fin rem Q hb Lb e ds h L := by
  intro hsub hok hq hlt hclo σ ht a w he hs
  cases ht with
  | nil => simp at hne
  | cons hi hr ht' =>
    rename_i σ i
    have him : i ∈ is := by rw [← hl]; exact List.mem_filter.2 ⟨hi, hr⟩
    obtain ⟨o, G, ho, hg, hop, hd, hnext⟩ := H i him
    refine ⟨hsub _ hs, ?_⟩
    unfold wpOpIn
    simp only [ho]
    rw [if_pos (by simp [Region.wanted, hg])]
    refine hop ds a w _ _ he hs fun v h' L' w' hG hs' => ?_
    obtain ⟨h2, L2, hb2, Lb2, h12, hqs, hsub2, hkeep⟩ := hnext v h' L' hG
    have := hqs hsub2 hok hq (fun y hy => hlt y (List.mem_of_mem_erase hy)) (hclo.erase hr) σ ht' _ w' (he.put hd v) (h12 _ hs')
    cases hfc : fin.contains i with
    | true => simp only [if_true]; exact this.toOps
    | false => simp only [Bool.false_eq_true, if_false]; exact this.mono (hkeep hfc)
/-- an event that keeps the base -/
theorem qb_ev {i : Nat} {o : Oper} {G : Value → Heap → Owned → Prop} (hi : ops[i]? = some o) (hg : o.guard = none) (hop : Op1 C o e h L G) (hd : dstOk o.dst C.n = true) (he' : rem.erase i = rem')
    (H : ∀ v h' L', G v h' L' → (∀ w, St h' L' w → St hb Lb w) ∧ QB C ops fin rem' Q hb Lb (put o.dst v e) ds h' L') : QStepB C ops fin rem Q hb Lb e ds h L i :=
  ⟨o, G, hi, hg, hop, hd, fun v h' L' hG => ⟨h', L', hb, Lb, fun _ s => s, by rw [he']; exact (H v h' L' hG).2, (H v h' L' hG).1, fun _ _ s => s⟩⟩
/-- an event behind which more stays for good -/
theorem qb_evp {i : Nat} {o : Oper} {G : Value → Heap → Owned → Prop} (hi : ops[i]? = some o) (hg : o.guard = none) (hop : Op1 C o e h L G) (hd : dstOk o.dst C.n = true) (he' : rem.erase i = rem')
    (H : ∀ v h' L', G v h' L' → ∃ h2 L2 hb2 Lb2, (∀ w, St h' L' w → St h2 L2 w) ∧ (∀ w, St h2 L2 w → St hb2 Lb2 w) ∧ (∀ w, St hb2 Lb2 w → St hb Lb w) ∧ QB C ops fin rem' Q hb2 Lb2 (put o.dst v e) ds h2 L2) : QStepB C ops fin rem Q hb Lb e ds h L i :=
  ⟨o, G, hi, hg, hop, hd, fun v h' L' hG => by
    obtain ⟨h2, L2, hb2, Lb2, a1, a2, a3, a4⟩ := H v h' L' hG
    exact ⟨h2, L2, hb2, Lb2, a1, by rw [he']; exact a4, a2, fun _ => a3⟩⟩
theorem stb (hl : Heap.le hb h) : ∀ w, St h L w → St hb [] w := fun _ s => (s.weak hl).sub (List.nil_sublist _)
/-- the base: all that is known for good, and nothing of one's own -/
theorem den_draw0 {id : Nat} (fin : List Nat) (hm : C.P.follows .mixedOrders = true) (hok : okR ops fin = true) (hr : NoP R) (hrem : List.range ops.size = rem) (H : QB C ops fin rem (den C R k) h [] e ds h L) : den C R (.code (.region id ops true) :: k) .normal e ds h L :=
  den_drawB fin h [] (stb (Heap.le.refl _)) hm hok hr hrem H
theorem qb_e {i : Nat} {o : Oper} {G : Value → Heap → Owned → Prop} (hi : ops[i]? = some o) (hg : o.guard = none) (hop : Op1 C o e h L G) (hd : dstOk o.dst C.n = true) (he' : rem.erase i = rem')
    (H : ∀ v h' L', G v h' L' → Heap.le h h' ∧ QB C ops fin rem' Q h' [] (put o.dst v e) ds h' L') : QStepB C ops fin rem Q h [] e ds h L i :=
  qb_evp hi hg hop hd he' fun v h' L' hG => by
    obtain ⟨hl, hq⟩ := H v h' L' hG
    exact ⟨h', L', h', [], fun _ s => s, stb (Heap.le.refl _), fun _ s => s.weak hl, hq⟩
/-- a new block that stays as it is -/
theorem qb_newp {i : Nat} {d : Option Tmp} {op : Op} {ty : TypeId} {pos : String} {af : Array Edge} {ob : Obj} {g : Nat → Value} (hi : ops[i]? = some ⟨d, op, ty, pos, af, none⟩) (ho : Op1 C ⟨d, op, ty, pos, af, none⟩ e h L (fun v h' L' => ∃ b, v = g b ∧ h' = h ∧ L' = (b, ob) :: L)) (hd : dstOk d C.n = true) (he' : rem.erase i = rem')
    (H : ∀ b h', Heap.le h h' → h' b = some ob → QB C ops fin rem' Q h' [] (put d (g b) e) ds h' L) : QStepB C ops fin rem Q h [] e ds h L i := by
  refine ⟨⟨d, op, ty, pos, af, none⟩, (fun v h' L' => ∃ b, v = g b ∧ L' = L ∧ Heap.le h h' ∧ h' b = some ob), hi, rfl, ?_, hd, ?_⟩
  · intro ds a w next Q he hs K
    refine ho ds a w next Q he hs ?_
    rintro v h1 L1 w' ⟨b, rfl, rfl, rfl⟩ hs'
    obtain ⟨s1, s2, s3⟩ := hs'.freeze
    exact K _ _ _ _ ⟨b, rfl, rfl, s2, s3⟩ s1
  · rintro v h' L' ⟨b, rfl, rfl, hle, hbb⟩
    exact ⟨h', _, h', [], fun _ s => s, by rw [he']; exact H b h' hle hbb, stb (Heap.le.refl _), fun _ _ s => s.weak hle⟩
theorem QB_perm {L' : Owned} (hp : L.Perm L') (H : QB C ops fin rem Q hb Lb e ds h L') : QB C ops fin rem Q hb Lb e ds h L := by
  intro hsub hok hq hlt hclo σ hσ a w he hs
  exact H (fun w s => hsub w (s.perm hp.symm)) hok hq hlt hclo σ hσ a w he (hs.perm hp)
end
end Go.Proofs.Ch

/- Numbers as eight bytes; what is signed. No program is named here. -/
namespace Go.Proofs.Ch
open Go
def uu (n : Int) : Nat := (n % 18446744073709551616).toNat
theorem uu_lt (n : Int) : uu n < 18446744073709551616 := by unfold uu; omega
theorem wrap_uu (n : Int) : IntKind.u64.wrap n = ((uu n : Nat) : Int) := by
  unfold uu
  simp only [IntKind.wrap, IntKind.bits, IntKind.signed]
  simp
  omega
def u8p (u j : Nat) : List UInt8 := (List.range j).map (fun k => byteAt u (7 - k))
theorem u8p_next (u j : Nat) : u8p u j ++ [byteAt u (7 - j)] = u8p u (j + 1) := by
  unfold u8p; rw [List.range_succ, List.map_append]; rfl
theorem u8p_len (u j : Nat) : (u8p u j).length = j := by simp [u8p]
def u8s (n : Int) : List UInt8 := u8p (uu n) 8
theorem u8s_len (n : Int) : (u8s n).length = 8 := u8p_len _ _
def u8ss : List Int → List UInt8
  | [] => []
  | n :: l => u8s n ++ u8ss l
theorem u8ss_app : ∀ a b : List Int, u8ss (a ++ b) = u8ss a ++ u8ss b
  | [], b => rfl
  | n :: a, b => by rw [List.cons_append, u8ss, u8ss_app a b, u8ss, List.append_assoc]
theorem u8ss_len : ∀ l : List Int, (u8ss l).length = 8 * l.length
  | [] => rfl
  | n :: l => by rw [u8ss, List.length_append, u8s_len, u8ss_len l, List.length_cons]; omega
theorem u8ss_take {ns : List Int} {i : Nat} (hi : i < ns.length) : u8ss (ns.take (i + 1)) = u8ss (ns.take i) ++ u8s (ns.getD i 0) := by
  rw [List.take_add_one, List.getElem?_eq_getElem hi, u8ss_app]
  simp [u8ss, List.getElem?_eq_getElem hi]
theorem u8_step {et : TypeId} {v : Value} {k u m : Nat} {pre : List UInt8} {L : Owned} (hm : m < 8) (ho : OwnS et 1 v (k + (8 - (m + 1)) + 1) ((pre ++ u8p u (8 - (m + 1))).map byteV ++ [byteV (byteAt u m)]) L) : OwnS et 1 v (k + (8 - m)) ((pre ++ u8p u (8 - m)).map byteV) L := by
  rw [show 8 - m = 8 - (m + 1) + 1 from by omega, ← u8p_next, show 7 - (8 - (m + 1)) = m from by omega, ← List.append_assoc, List.map_append]
  exact ho
theorem Sl1.ints {h : Heap} {b : Nat} {T : TypeId} {fr : Nat × Nat} {ns : List Int} (hb : h b = some (.cells ⟨ns.map (Value.int .i64)⟩ T fr)) : Sl1 h (some ⟨b, 0, none⟩) ns.length (fun i => .int .i64 (ns.getD i 0)) := by
  have := Sl1.of (d := .int .i64 0) hb (by simp : ns.length = _)
  intro i hi
  obtain ⟨b, off, all, T, fr, h1, h2, h3⟩ := this i hi
  exact ⟨b, off, all, T, fr, h1, h2, by rw [h3]; exact congrArg some map_getD⟩
section
variable {P : Program} {e : Env} {h : Heap} {L : Owned} {x : Operand} {s d : TypeId}
theorem v_convuu {n : Int} {du : TypeDesc} (hu : Und P s du) (hu' : Und P d (.int .u64)) (hx : ev e x = some (.int .i64 n)) : OpV P (.convert s d x) e h L (.int .u64 ((uu n : Nat) : Int)) :=
  v_conv hu hu' hx (wrap_uu n)
end
/-- a private key -/
def isPr (x : Int) : Prop := 1 ≤ x ∧ x < 2305843009213688669
instance (x : Int) : Decidable (isPr x) := inferInstanceAs (Decidable (_ ∧ _))
theorem gexpE4 {x : Int} (h0 : 0 ≤ x) (h : x < 2305843009213688669) : gexpE 4 x = 0 := by
  unfold gexpE; rw [if_neg (fun g => g GC4), if_pos ⟨h0, h⟩]
theorem fmulV_rng (a b : Int) : 0 ≤ fmulV a b ∧ fmulV a b < 2305843009213688669 := by
  unfold fmulV
  split
  · have := Nat.mod_lt (a.toNat * b.toNat) (show 2305843009213688669 > 0 by decide)
    omega
  · omega
theorem faddV_rng (a b : Int) : 0 ≤ faddV a b ∧ faddV a b < 2305843009213688669 := by
  unfold faddV
  split
  · have := Nat.mod_lt (a.toNat + b.toNat) (show 2305843009213688669 > 0 by decide)
    omega
  · omega
theorem fokE0 {a b : Int} (ha : 0 ≤ a ∧ a < 2305843009213688669) (hb : 0 ≤ b ∧ b < 2305843009213688669) : fokE a b = 0 := by
  unfold fokE; rw [if_pos ⟨ha, hb⟩]
end Go.Proofs.Ch

/- Lists of values in memory; links, factors; what is derived. No program is named here. -/
namespace Go.Proofs.Ch
open Go
theorem cut_skip : ∀ (r l : List Value) (k n : Nat), cut (r.length + k) n (r ++ l) = cut k n l
  | [], l, k, n => by simp
  | a :: r, l, k, n => by
    rw [List.cons_append, List.length_cons, show r.length + 1 + k = (r.length + k) + 1 from by omega]
    show cut (r.length + k) n (r ++ l) = _
    exact cut_skip r l k n
theorem cut_left : ∀ (r l : List Value), cut 0 r.length (r ++ l) = some r
  | [], l => by cases l <;> rfl
  | a :: r, l => by
    rw [List.length_cons, List.cons_append]
    simp only [cut, cut_left r l]
/-- the cells of values, one value after the other -/
inductive VRs (h : Heap) : List (List Value) → List V → Prop
  | nil : VRs h [] []
  | cons {cs : List Value} {m : V} {rows : List (List Value)} {ms : List V} : VR h cs m → VRs h rows ms → VRs h (cs :: rows) (m :: ms)
theorem VRs.le {h h' : Heap} (hl : Heap.le h h') {rows : List (List Value)} {ms : List V} (v : VRs h rows ms) : VRs h' rows ms := by
  induction v with
  | nil => exact .nil
  | cons a _ ih => exact .cons (a.le hl) ih
theorem VRs.app {h : Heap} {rows rows2 : List (List Value)} {ms ms2 : List V} (v : VRs h rows ms) (v2 : VRs h rows2 ms2) : VRs h (rows ++ rows2) (ms ++ ms2) := by
  induction v with
  | nil => exact v2
  | cons a _ ih => exact .cons a ih
theorem VRs.get {h : Heap} {rows : List (List Value)} {ms : List V} (v : VRs h rows ms) (pad : List Value) : ∀ {i : Nat} {m : V}, ms[i]? = some m → VR h (rows.getD i []) m ∧ cut (i * 4) 4 (rows.flatten ++ pad) = some (rows.getD i []) := by
  induction v with
  | nil => intro i m h; simp at h
  | @cons cs m rows ms a _ ih =>
    intro i m' hi
    have h4 := a.four.1
    cases i with
    | zero =>
      simp at hi; subst hi
      refine ⟨a, ?_⟩
      have := cut_left cs (rows.flatten ++ pad)
      rw [h4] at this
      simpa [List.append_assoc] using this
    | succ i =>
      obtain ⟨h1, h2⟩ := ih (by simpa using hi)
      refine ⟨by simpa using h1, ?_⟩
      have := cut_skip cs (rows.flatten ++ pad) (i * 4) 4
      rw [h4] at this
      rw [List.flatten_cons, List.append_assoc, show (i + 1) * 4 = 4 + i * 4 from by omega, this, h2]
      rfl
theorem VR.rows {h : Heap} {b cap n : Nat} {rows : List (List Value)} {ms : List V} {pad : List Value} {T : TypeId} {fr : Nat × Nat} (hb : h b = some (.cells ⟨rows.flatten ++ pad⟩ T fr)) (hr : VRs h rows ms) (hn : ms.length = n) (hlt : n < 9223372036854775808) : VR h [.int .i64 3, .int .i64 0, noStr, .slice (some ⟨b, 0, none⟩) n cap] (.list ms) := by
  subst hn
  refine .list ms _ cap (fun i => rows.getD i []) hlt (fun i hi => ⟨b, 0, _, T, fr, rfl, hb, ?_⟩) (fun i m hm => (hr.get pad hm).1)
  rw [Nat.zero_add]
  exact (hr.get pad (List.getElem?_eq_getElem hi)).2
/-- a slice that is known for good, with its elements' cells -/
def FrS (et : TypeId) (size : Nat) (v : Value) (n : Nat) (xs : List Value) (h : Heap) : Prop :=
  (v = .slice none 0 0 ∧ n = 0 ∧ xs = []) ∨ ∃ b cap pad, v = .slice (some ⟨b, 0, none⟩) n cap ∧ xs.length = n * size ∧ n ≤ cap ∧ h b = some (.cells ⟨xs ++ pad⟩ et (0, 0))
theorem FrS.le {et : TypeId} {size n : Nat} {v : Value} {xs : List Value} {h h' : Heap} (s : FrS et size v n xs h) (hl : Heap.le h h') : FrS et size v n xs h' := by
  rcases s with s | ⟨b, cap, pad, h1, h2, h3, h4⟩
  · exact .inl s
  · exact .inr ⟨b, cap, pad, h1, h2, h3, hl _ _ h4⟩
theorem FrS.vr {et : TypeId} {v : Value} {h : Heap} {rows : List (List Value)} {ms : List V} {n : Nat} (s : FrS et 4 v n rows.flatten h) (hr : VRs h rows ms) (hn : ms.length = n) (hlt : n < 9223372036854775808) : ∃ a cap, v = .slice a n cap ∧ VR h [.int .i64 3, .int .i64 0, noStr, .slice a n cap] (.list ms) := by
  rcases s with ⟨rfl, rfl, _⟩ | ⟨b, cap, pad, rfl, _, _, hb⟩
  · refine ⟨none, 0, rfl, ?_⟩
    have : ms = [] := List.length_eq_zero_iff.1 hn
    subst this
    exact .list [] none 0 (fun _ => []) (by decide) (fun i hi => absurd hi (Nat.not_lt_zero i)) (fun i m hm => by simp at hm)
  · exact ⟨_, cap, rfl, VR.rows hb hr hn hlt⟩
section
variable {C : Cx} {R : Pst} {k : List K} {e : Env} {ds : List Deferred} {h : Heap} {L : Owned} {ops : Array Oper} {l : List Oper} {Q : Pst}
theorem WL_freezeF {et : TypeId} {size : Nat} {v : Value} {n : Nat} {xs : List Value} {L1 : Owned} (s : OwnS et size v n xs L1) (H : ∀ h', Heap.le h h' → FrS et size v n xs h' → WL C ops l Q e ds h' L) : WL C ops l Q e ds h (L1 ++ L) := by
  rcases s with ⟨rfl, rfl, rfl, rfl⟩ | ⟨b, cap, pad, rfl, hl, hp, hnc, _, rfl⟩
  · exact H h (Heap.le.refl _) (.inl ⟨rfl, rfl, rfl⟩)
  · exact WL_freeze fun h2 hl2 hb => H h2 hl2 (.inr ⟨b, cap, pad, rfl, hl, hnc, hb⟩)
theorem op1_freezeF {R1 : Owned} {o : Oper} {et : TypeId} {size : Nat} {n : Nat} {xs : List Value} (ho : Op1 C o e h L (fun v h' L' => ∃ L1, Heap.le h h' ∧ L' = L1 ++ R1 ∧ OwnS et size v n xs L1)) : Op1 C o e h L (fun v h' L' => Heap.le h h' ∧ L' = R1 ∧ FrS et size v n xs h') := by
  intro ds a w next Q he hs H
  refine ho ds a w next Q he hs ?_
  rintro v h' L' w' ⟨L1, hle, rfl, s⟩ hs'
  rcases s with ⟨rfl, rfl, rfl, rfl⟩ | ⟨b, cap, pad, rfl, hl, hp, hnc, _, rfl⟩
  · exact H _ h' R1 w' ⟨hle, rfl, .inl ⟨rfl, rfl, rfl⟩⟩ hs'
  · obtain ⟨s1, s2, s3⟩ := St.freeze hs'
    exact H _ _ _ w' ⟨hle.trans s2, rfl, .inr ⟨b, cap, pad, rfl, hl, hnc, s3⟩⟩ s1
theorem op1_appendF {L1 Lf : Owned} {d : Option Tmp} {ty : TypeId} {pos : String} {af : Array Edge} {g : Option (Nat × Bool)} {x y : Operand} {t tx et : TypeId} {dx : TypeDesc} {size bytes n m : Nat} {sv xv z : Value} {xs us zs : List Value} (hu : Und C.P t (.slice et)) (htx : Und C.P tx dx) (hdx : dx = .string ∨ ∃ e', dx = .slice e') (hz : Siz C.P et size) (hby : Byt C.P et bytes) (hb0 : bytes ≠ 0) (hzer : Zer C.P et z) (hzc : z.cells = ⟨zs⟩) (hzl : zs.length = size)
    (hx : ev e x = some sv) (hy : ev e y = some xv) (hs : OwnS et size sv n xs L1) (hsrc : Src h (L1 ++ Lf) size xv m us) (ho : us.all Value.oneCell' = true) (hfit : (n + m) * bytes ≤ 140737488355328) :
    Op1 C ⟨d, .call ⟨.builtin .append, #[x, y], #[t, tx]⟩, ty, pos, af, g⟩ e h (L1 ++ Lf) (fun v' h' L' => Heap.le h h' ∧ L' = Lf ∧ FrS et size v' (n + m) (xs ++ us) h') := by
  refine op1_freezeF (R1 := Lf) ?_
  intro ds a w next Q he hst H
  refine op1_append hu htx hdx hz hby hb0 hzer hzc hzl hx hy hs hsrc ho hfit ds a w next Q he hst ?_
  rintro v h' L' w' ⟨L2, rfl, rfl, ho2⟩ hs'
  exact H v _ _ w' ⟨L2, Heap.le.refl _, rfl, ho2⟩ hs'
theorem Op1.mono {o : Oper} {G G' : Value → Heap → Owned → Prop} (ho : Op1 C o e h L G) (hg : ∀ v h' L', G v h' L' → G' v h' L') : Op1 C o e h L G' :=
  fun ds a w next Q he hs H => ho ds a w next Q he hs fun v h' L' w' hG hs' => H v h' L' w' (hg _ _ _ hG) hs'
end
/-- a digest as a text -/
def dstr (d : Dig) : ByteArray := ⟨⟨d.toList⟩⟩
theorem dstr_size (d : Dig) : (dstr d).size = 32 := by
  show d.toList.length = 32
  simp
def Ri (n : Int) : Prop := -9223372036854775808 ≤ n ∧ n < 9223372036854775808
theorem enc_int {n : Int} (h : Ri n) : (V.enc (.int n)).length ≤ 11 := by
  have := num_len10 (zig_lt h.1 h.2)
  rw [V.enc, List.length_cons]; omega
theorem enc_dig (d : Dig) : (V.enc (.text (dstr d))).length ≤ 43 := by
  have := num_len10 (u := (dstr d).size) (by rw [dstr_size]; decide)
  rw [V.enc, List.length_cons, List.length_append]
  have h2 : (dstr d).data.toList.length = 32 := by show d.toList.length = 32; simp
  omega
theorem enc_list {l : List V} (h : l.length < 18446744073709551616) : (V.enc (.list l)).length ≤ 11 + (encs l).length := by
  have := num_len10 h
  rw [V.enc, List.length_cons, List.length_append]; omega
theorem encs_cons (m : V) (l : List V) : (encs (m :: l)).length = m.enc.length + (encs l).length := by rw [encs, List.length_append]
theorem encs_nil : (encs ([] : List V)).length = 0 := rfl
abbrev iC (n : Int) : List Value := [.int .i64 1, .int .i64 n, noStr, .slice none 0 0]
abbrev tC (d : Dig) : List Value := [.int .i64 2, .int .i64 0, .string (dstr d), .slice none 0 0]
/-- a link -/
structure Lk where
  f : Int
  b : Int
  p : Int
  v : Int
  x : Int
  re : Bool
  pa : Dig
  r : Int
  s : Int
def Lk.cells (l : Lk) : List Value := [.int .i64 l.f, .int .i64 l.b, .int .i64 l.p, .int .i64 l.v, .int .i64 l.x, .bool l.re] ++ (dcells l.pa ++ [.int .i64 l.r, .int .i64 l.s])
def Lk.ok (l : Lk) : Prop := Ri l.f ∧ Ri l.b ∧ Ri l.p ∧ Ri l.v ∧ Ri l.x ∧ Ri l.r ∧ Ri l.s
def flagN (b : Bool) : Int := if b then 1 else 0
theorem flagN_ri (b : Bool) : Ri (flagN b) := by cases b <;> exact ⟨by decide, by decide⟩
def Lk.vs (l : Lk) : List V := [.int l.f, .int l.b, .int l.p, .int l.v, .int l.x, .int (flagN l.re), .text (dstr l.pa)]
def Lk.rows (l : Lk) : List (List Value) := [iC l.f, iC l.b, iC l.p, iC l.v, iC l.x, iC (flagN l.re), tC l.pa]
theorem Lk.vrs {l : Lk} (h : l.ok) (hp : Heap) : VRs hp l.rows l.vs := by
  obtain ⟨h1, h2, h3, h4, h5, _, _⟩ := h
  exact .cons (.int _ h1.1 h1.2) (.cons (.int _ h2.1 h2.2) (.cons (.int _ h3.1 h3.2) (.cons (.int _ h4.1 h4.2) (.cons (.int _ h5.1 h5.2) (.cons (.int _ (flagN_ri _).1 (flagN_ri _).2) (.cons (.text _) .nil))))))
theorem Lk.len {l : Lk} (h : l.ok) : (encs l.vs).length ≤ 200 := by
  obtain ⟨h1, h2, h3, h4, h5, _, _⟩ := h
  have e1 := enc_int h1
  have e2 := enc_int h2
  have e3 := enc_int h3
  have e4 := enc_int h4
  have e5 := enc_int h5
  have e6 := enc_int (flagN_ri l.re)
  have e7 := enc_dig l.pa
  unfold Lk.vs
  rw [encs_cons, encs_cons, encs_cons, encs_cons, encs_cons, encs_cons, encs_cons, encs_nil]
  omega
theorem Lk.dep (l : Lk) : (V.list l.vs).depth ≤ 16 := by simp [V.depth, dmax, Lk.vs]
def Lk.vs2 (l : Lk) : List V := l.vs ++ [.int l.r, .int l.s]
def Lk.rows2 (l : Lk) : List (List Value) := l.rows ++ [iC l.r, iC l.s]
theorem Lk.vrs2 {l : Lk} (h : l.ok) (hp : Heap) : VRs hp l.rows2 l.vs2 :=
  (Lk.vrs h hp).app (.cons (.int _ h.2.2.2.2.2.1.1 h.2.2.2.2.2.1.2) (.cons (.int _ h.2.2.2.2.2.2.1 h.2.2.2.2.2.2.2) .nil))
theorem Lk.len2 {l : Lk} (h : l.ok) : (encs l.vs2).length ≤ 230 := by
  have e0 := Lk.len h
  have e1 := enc_int h.2.2.2.2.2.1
  have e2 := enc_int h.2.2.2.2.2.2
  unfold Lk.vs2
  rw [encs_app, List.length_append, encs_cons, encs_cons, encs_nil]
  omega
theorem Lk.dep2 (l : Lk) : (V.list l.vs2).depth ≤ 16 := by simp [V.depth, dmax, Lk.vs2, Lk.vs]
def dz : Dig := Vector.replicate 32 0
/-- a link of a valid form -/
def Lk.formed (l : Lk) : Prop := 0 ≤ l.f ∧ l.f < 16 ∧ -1 ≤ l.b ∧ l.b < 512 ∧ GC l.p ∧ GC l.v ∧ 1 ≤ l.x ∧ l.x ≤ 1099511627776 ∧ (l.b = -1 ∨ l.pa = dz)
instance (l : Lk) : Decidable l.formed := inferInstanceAs (Decidable (_ ∧ _ ∧ _ ∧ _ ∧ _ ∧ _ ∧ _ ∧ _ ∧ _))
/-- a factor -/
structure Fa where
  l : Dig
  c : Dig
  b : Int
  n : Int
  r : Int
  s : Int
def Fa.cells (f : Fa) : List Value := dcells f.l ++ (dcells f.c ++ [.int .i64 f.b, .int .i64 f.n, .int .i64 f.r, .int .i64 f.s])
def Fa.vs (f : Fa) : List V := [.text (dstr f.l), .text (dstr f.c), .int f.b, .int f.n]
def Fa.rows (f : Fa) : List (List Value) := [tC f.l, tC f.c, iC f.b, iC f.n]
theorem Fa.vrs {f : Fa} (hb : Ri f.b) (hn : Ri f.n) (hp : Heap) : VRs hp f.rows f.vs :=
  .cons (.text _) (.cons (.text _) (.cons (.int _ hb.1 hb.2) (.cons (.int _ hn.1 hn.2) .nil)))
theorem Fa.dep (f : Fa) : (V.list f.vs).depth ≤ 16 := by simp [V.depth, dmax, Fa.vs]
theorem Fa.len {f : Fa} (hb : Ri f.b) (hn : Ri f.n) : (encs f.vs).length ≤ 110 := by
  have e1 := enc_dig f.l
  have e2 := enc_dig f.c
  have e3 := enc_int hb
  have e4 := enc_int hn
  unfold Fa.vs
  rw [encs_cons, encs_cons, encs_cons, encs_cons, encs_nil]
  omega
theorem Lk.len40 (l : Lk) : l.cells.length = 40 := rfl
theorem Lk.one (l : Lk) : l.cells.all Value.oneCell' = true := rfl
theorem Lk.cutS (l : Lk) : cut 0 40 l.cells = some l.cells := cut_self rfl
theorem Fa.len68 (f : Fa) : f.cells.length = 68 := rfl
theorem Fa.one (f : Fa) : f.cells.all Value.oneCell' = true := rfl
theorem Fa.cutS (f : Fa) : cut 0 68 f.cells = some f.cells := cut_self rfl
theorem Lk.cutP (l : Lk) : cut 6 32 l.cells = some (dcells l.pa) := rfl
theorem Lk.cutG (l : Lk) : cut 38 2 l.cells = some [.int .i64 l.r, .int .i64 l.s] := rfl
theorem Lk.getx (l : Lk) : l.cells[4]? = some (.int .i64 l.x) := rfl
theorem cut_at (pre mid post : List Value) : cut pre.length mid.length (pre ++ mid ++ post) = some mid := by
  have := cut_skip pre (mid ++ post) 0 mid.length
  rw [Nat.add_zero] at this
  rw [List.append_assoc, this, cut_left]
theorem Fa.cutL (f : Fa) : cut 0 32 f.cells = some (dcells f.l) := by
  have h := cut_left (dcells f.l) (dcells f.c ++ [Value.int .i64 f.b, Value.int .i64 f.n, Value.int .i64 f.r, Value.int .i64 f.s])
  rw [show (dcells f.l).length = 32 from rfl] at h
  exact h
theorem Fa.cutC (f : Fa) : cut 32 32 f.cells = some (dcells f.c) := by
  have h := cut_at (dcells f.l) (dcells f.c) [.int .i64 f.b, .int .i64 f.n, .int .i64 f.r, .int .i64 f.s]
  rw [List.append_assoc] at h
  exact h
theorem Fa.cutG (f : Fa) : cut 66 2 f.cells = some [.int .i64 f.r, .int .i64 f.s] := by
  have h := cut_at (dcells f.l ++ (dcells f.c ++ [.int .i64 f.b, .int .i64 f.n])) [.int .i64 f.r, .int .i64 f.s] []
  simp only [List.append_assoc, List.cons_append, List.nil_append, List.append_nil] at h
  exact h
theorem Lk.spl_sig (f b p v x : Int) (re : Bool) (pa : Dig) (r s r' s' : Int) : spl 38 [.int .i64 r', .int .i64 s'] (Lk.mk f b p v x re pa r s).cells = some (Lk.mk f b p v x re pa r' s').cells := rfl
theorem Fa.spl_n (l c : Dig) (b n r s n' : Int) : spl 65 [.int .i64 n'] (Fa.mk l c b n r s).cells = some (Fa.mk l c b n' r s).cells := by
  have h := spl_app (dcells l ++ (dcells c ++ [.int .i64 b])) [.int .i64 n] [.int .i64 r, .int .i64 s] [.int .i64 n'] rfl
  rw [show (dcells l ++ (dcells c ++ [Value.int .i64 b])).length = 65 from rfl] at h
  simp only [List.append_assoc, List.cons_append, List.nil_append] at h
  exact h
theorem Fa.spl_sig (l c : Dig) (b n r s r' s' : Int) : spl 66 [.int .i64 r', .int .i64 s'] (Fa.mk l c b n r s).cells = some (Fa.mk l c b n r' s').cells := by
  have h := spl_app (dcells l ++ (dcells c ++ [.int .i64 b, .int .i64 n])) [.int .i64 r, .int .i64 s] [] [.int .i64 r', .int .i64 s'] rfl
  rw [show (dcells l ++ (dcells c ++ [Value.int .i64 b, .int .i64 n])).length = 66 from rfl] at h
  simp only [List.append_assoc, List.cons_append, List.nil_append, List.append_nil] at h
  exact h
theorem gcE (a : Int) : decide ((if GC a then (0 : Int) else 40) = 0) = decide (GC a) := by
  by_cases g : GC a
  · rw [if_pos g]; simp [g]
  · rw [if_neg g]; simp [g]
theorem gexpV_ri (a k : Int) : Ri (gexpV a k) := by
  unfold gexpV Ri
  split
  · have := mpow_lt (m := 4611686018427377339) (a := a.toNat) (k := k.toNat) (by decide)
    omega
  · omega
theorem ri_of {n : Int} (h : 0 ≤ n ∧ n < 2305843009213688669) : Ri n := by unfold Ri; omega
theorem gexp41 : gexpV 4 1 = 4 := by
  unfold gexpV
  rw [if_pos ⟨GC4, by decide, by decide⟩, mpow_pw 2 (by decide)]
  decide +kernel
theorem gexp42 : gexpV 4 2 = 16 := by
  unfold gexpV
  rw [if_pos ⟨GC4, by decide, by decide⟩, mpow_pw 3 (by decide)]
  decide +kernel
def dz1 : Dig := #v[1, 0, 0, 0, 0, 0, 0, 0, 0, 0, 0, 0, 0, 0, 0, 0, 0, 0, 0, 0, 0, 0, 0, 0, 0, 0, 0, 0, 0, 0, 0, 0]
theorem dz1_ne : dz1 ≠ dz := fun h => by
  have := congrArg (fun d : Dig => d[0]) h
  revert this
  decide
def recz : List Value := [.slice none 0 0, .slice none 0 0, .slice none 0 0, .slice none 0 0, .slice none 0 0, .slice none 0 0, .slice none 0 0, .slice none 0 0]
def scz : List Value := [.slice none 0 0, .slice none 0 0, .slice none 0 0, .slice none 0 0, .slice none 0 0, .slice none 0 0, .slice none 0 0, .slice none 0 0, .slice none 0 0]
theorem Fa.getb (f : Fa) : f.cells[64]? = some (.int .i64 f.b) := rfl
theorem Fa.getn (f : Fa) : f.cells[65]? = some (.int .i64 f.n) := rfl
def capz : List Value := [Value.int .i64 0, Value.int .i64 0] ++ dcells dz
def lk4 (x : Int) (pa : Dig) : Lk := ⟨0, 0, 4, 4, x, false, pa, 0, 0⟩
theorem ri0 : Ri 0 := ⟨by decide, by decide⟩
theorem ri1 : Ri 1 := ⟨by decide, by decide⟩
theorem ri4 : Ri 4 := ⟨by decide, by decide⟩
theorem lk4_ok {x : Int} (h : Ri x) (pa : Dig) : (lk4 x pa).ok := ⟨ri0, ri0, ri4, ri4, h, ri0, ri0⟩
theorem lk4_f {pa : Dig} {r s : Int} (h : pa = dz) : (Lk.mk 0 0 4 4 1 false pa r s).formed := ⟨(by decide : (0 : Int) ≤ 0), (by decide : (0 : Int) < 16), (by decide : (-1 : Int) ≤ 0), (by decide : (0 : Int) < 512), GC4, GC4, (by decide : (1 : Int) ≤ 1), (by decide : (1 : Int) ≤ 1099511627776), .inr h⟩
theorem lk4_n0 {pa : Dig} : ¬ (lk4 0 pa).formed := fun g => absurd (show (1 : Int) ≤ 0 from g.2.2.2.2.2.2.1) (by decide)
theorem lk4_n1 : ¬ (lk4 1 dz1).formed := fun g => g.2.2.2.2.2.2.2.2.elim (fun h => absurd (show (0 : Int) = -1 from h) (by decide)) (fun h => dz1_ne h)
end Go.Proofs.Ch

/- Small rules for buffers; nil slices and nil interfaces compared. No program is named here. -/
namespace Go.Proofs.Ch
open Go
theorem spl_pad {pre us pad : List Value} {k : Nat} (hk : pre.length = k) (h : us.length ≤ pad.length) : spl k us (pre ++ pad) = some (pre ++ us ++ pad.drop us.length) := by
  subst hk
  have := spl_app pre (pad.take us.length) (pad.drop us.length) us (by rw [List.length_take]; omega)
  rw [List.append_assoc, List.take_append_drop] at this
  exact this
theorem copy_pad (xs ys : List UInt8) (pad : List Value) (hp : xs.length + pad.length = 64) (hn : xs.length + ys.length ≤ 64) : spl (if 64 = xs.length then 0 else xs.length) ((ys.map byteV).take (min ys.length ys.length * 1)) (xs.map byteV ++ pad) = some (xs.map byteV ++ ys.map byteV ++ pad.drop (ys.map byteV).length) := by
  rw [Nat.min_self, Nat.mul_one, List.take_of_length_le (by simp)]
  by_cases h64 : 64 = xs.length
  · have hy : ys = [] := List.length_eq_zero_iff.1 (by omega)
    subst hy
    rw [if_pos h64]
    cases xs <;> simp [spl]
  · rw [if_neg h64]
    exact spl_pad (by simp) (by simp; omega)
section
variable {P : Program} {e : Env} {h : Heap} {L : Owned} {x y : Operand} {yt t : TypeId}
theorem run_binEq {x' y' : Value} {b : Bool} (hx : ∀ k a, x' ≠ .int k a) (hs : ∀ a, x' ≠ .string a) (hf : ∀ k a, x' ≠ .float k a) (hc : ∀ k a b, x' ≠ .complex k a b) (h : ∀ d w, (Op.equalIn (d + 1) t x' y').run P w = .ok b w) (w : World) : (binOp .eql t x' y').run P w = .ok (.bool b) w := by
  have e : binOp .eql t x' y' = (do pure (.bool (← Op.equal t x' y'))) := by
    cases x' with
    | int k a => exact absurd rfl (hx k a)
    | string a => exact absurd rfl (hs a)
    | float k a => exact absurd rfl (hf k a)
    | complex k a b => exact absurd rfl (hc k a b)
    | _ => cases y' <;> rfl
  rw [e]
  have h2 := h 9999 w
  simp only [Sem.run_bind, Op.equal, Op.maxDepth]
  rw [h2]
  simp
theorem v_slnil {et : TypeId} {n c n2 c2 : Nat} (hu : Und P t (.slice et)) (hx : ev e x = some (.slice none n c)) (hy : ev e y = some (.slice none n2 c2)) : OpV P (.binOp .eql t x y yt) e h L (.bool true) := by
  intro ρ w o hρ _ ho; unfold execOp; rw [ho]
  have := run_binEq (P := P) (t := t) (x' := .slice none n c) (y' := .slice none n2 c2) (b := true) (by simp) (by simp) (by simp) (by simp) (fun d w => by simp [Op.equalIn, hu.run]) w
  simp [hρ _ _ hx, hρ _ _ hy, eqGuard, this]
theorem v_slnn {et : TypeId} {a : Addr} {n c n2 c2 : Nat} (hu : Und P t (.slice et)) (hx : ev e x = some (.slice (some a) n c)) (hy : ev e y = some (.slice none n2 c2)) : OpV P (.binOp .eql t x y yt) e h L (.bool false) := by
  intro ρ w o hρ _ ho; unfold execOp; rw [ho]
  have := run_binEq (P := P) (t := t) (x' := .slice (some a) n c) (y' := .slice none n2 c2) (b := false) (by simp) (by simp) (by simp) (by simp) (fun d w => by simp [Op.equalIn, hu.run]) w
  simp [hρ _ _ hx, hρ _ _ hy, eqGuard, this]
theorem v_ifnil {ms : Array (String × TypeId)} (hu : Und P t (.interface ms)) (hx : ev e x = some .nilIface) : OpV P (.binOp .eql t x (.const .nilIface) yt) e h L (.bool true) := by
  intro ρ w o hρ _ ho; unfold execOp; rw [ho]
  have hy : ρ (.const .nilIface) = .nilIface := hρ _ _ rfl
  have := run_binEq (P := P) (t := t) (x' := .nilIface) (y' := .nilIface) (b := true) (by simp) (by simp) (by simp) (by simp) (fun d w => by simp [Op.equalIn, hu.run]) w
  simp [hρ _ _ hx, hy, eqGuard, this]
end
theorem zl_split {n : Nat} (h : n ≤ 64) : zlist [Value.int .u8 0] 64 = zlist [Value.int .u8 0] n ++ zlist [Value.int .u8 0] (64 - n) := by
  apply List.ext_getElem
  · simp [zlist_len]; omega
  · intro i h1 h2
    have key : ∀ m j (hj : j < (zlist [Value.int .u8 0] m).length), (zlist [Value.int .u8 0] m)[j] = Value.int .u8 0 := by
      intro m j hj
      unfold zlist
      simp [Nat.mod_one]
    rw [key]
    rcases Nat.lt_or_ge i (zlist [Value.int .u8 0] n).length with hi | hi
    · rw [List.getElem_append_left hi, key]
    · rw [List.getElem_append_right hi, key]
/-- a derived key's input behind the key -/
def purp (label : ByteArray) : List UInt8 := V.enc (.list [.text label])
theorem purp_len {label : ByteArray} (h : label.size ≤ 20) : (purp label).length ≤ 32 := by
  have e : purp label = 3 :: (num 1 ++ ((2 :: (num label.size ++ label.data.toList)) ++ [])) := by
    unfold purp; rw [V.enc, encs, encs, V.enc]; rfl
  rw [e, num_lo (by decide), num_lo (by omega)]
  have : label.data.toList.length = label.size := by simp
  simp
  omega
theorem txt_vr {h : Heap} {b cap : Nat} {s : ByteArray} {T : TypeId} {fr : Nat × Nat} (hb : h b = some (.cells ⟨[.int .i64 2, .int .i64 0, .string s, .slice none 0 0]⟩ T fr)) : VR h [.int .i64 3, .int .i64 0, noStr, .slice (some ⟨b, 0, none⟩) 1 cap] (.list [.text s]) :=
  VR.rows (rows := [[.int .i64 2, .int .i64 0, .string s, .slice none 0 0]]) (pad := []) hb (.cons (.text s) .nil) rfl (by decide)
end Go.Proofs.Ch

/- Sets of numbers, as maps whose values are all the same. No program is named here. -/
namespace Go.Proofs.Ch
open Go
def ents (vv : Value) : Nat → List Int → List MapEntry
  | _, [] => []
  | k, z :: l => { key := .int .i64 z, val := vv, born := k } :: ents vv (k + 1) l
/-- a set of numbers in memory -/
def Mo (vv : Value) (l : List Int) : Obj := .map ⟨ents vv 0 l⟩ l.length
def addI (l : List Int) (z : Int) : List Int := if z ∈ l then l else l ++ [z]
theorem ents_len {vv : Value} : ∀ (l : List Int) (k : Nat), (ents vv k l).length = l.length
  | [], _ => rfl
  | _ :: l, k => by simp [ents, ents_len l]
theorem ents_app {vv : Value} : ∀ (l m : List Int) (k : Nat), ents vv k (l ++ m) = ents vv k l ++ ents vv (k + l.length) m
  | [], m, k => by simp [ents]
  | z :: l, m, k => by rw [List.cons_append, ents, ents_app l m, ents, List.cons_append, List.length_cons, show k + 1 + l.length = k + (l.length + 1) from by omega]
theorem find_no {vv : Value} {z : Int} {kk : IntKind} : ∀ (l : List Int) (k i : Nat), z ∉ l → Instr.findNow (.int kk) (.int .i64 z) (ents vv k l) i = some none
  | [], _, _, _ => rfl
  | y :: l, k, i, h => by
    simp only [List.mem_cons, not_or] at h
    simp only [ents, Instr.findNow, Instr.sameNow, if_true, beq_eq_false_iff_ne.2 h.1]
    exact find_no l _ _ h.2
theorem find_yes {vv : Value} {z : Int} {kk : IntKind} : ∀ (l : List Int) (k i : Nat), z ∈ l → ∃ j, Instr.findNow (.int kk) (.int .i64 z) (ents vv k l) i = some (some (i + j, vv)) ∧ (ents vv k l)[j]? = some { key := .int .i64 z, val := vv, born := k + j }
  | [], _, _, h => by simp at h
  | y :: l, k, i, h => by
    by_cases hy : z = y
    · subst hy
      exact ⟨0, by simp [ents, Instr.findNow, Instr.sameNow], by simp [ents]⟩
    · have hl : z ∈ l := by
        rcases List.mem_cons.1 h with h | h
        · exact absurd h hy
        · exact h
      obtain ⟨j, h1, h2⟩ := find_yes (vv := vv) (kk := kk) l (k + 1) (i + 1) hl
      refine ⟨j + 1, ?_, ?_⟩
      · simp only [ents, Instr.findNow, Instr.sameNow, if_true, beq_eq_false_iff_ne.2 hy]
        rw [h1, show i + 1 + j = i + (j + 1) from by omega]
      · simp only [ents, List.getElem?_cons_succ]
        rw [h2, show k + 1 + j = k + (j + 1) from by omega]
section
variable {P : Program} {w : World} {t kt et : TypeId} {b : Nat} {l : List Int} {vv : Value}
theorem run_checkInt {kk : IntKind} {em : Bool} {z : Int} (hk : P.underlying kt = some (.int kk)) : (Instr.checkKey em 10000 kt (.int .i64 z)).run P w = .ok () w := by
  have : ∀ d, (Instr.checkKey em (d + 1) kt (.int .i64 z)).run P w = .ok () w := by
    intro d
    simp [Instr.checkKey, run_underlying hk]
  exact this 9999
theorem run_lookI {kk : IntKind} {z : Int} {zv : Value} (hu : P.underlying t = some (.map kt et)) (hk : P.underlying kt = some (.int kk)) (hz : (zeroValue et).run P w = .ok zv w) (hzv : zv = vv) (hb : w.heap[b]? = some (Mo vv l)) :
    (Instr.lookup t (.map (some b)) (.int .i64 z) true).run P w = .ok (.tuple #[vv, .bool (decide (z ∈ l))]) w := by
  rw [hzv] at hz
  have hb' : w.heap[b]? = some (.map ⟨ents vv 0 l⟩ l.length) := hb
  have hg : (getObj b).run P w = .ok (.map ⟨ents vv 0 l⟩ l.length) w := by simp [getObj, Sem.run, hb']
  simp only [Instr.lookup, Sem.run_bind, run_underlying hu, Result.andThen_ok, hg, Sem.run_pure, run_checkInt hk, Instr.findKey, run_underlying hk]
  by_cases h : z ∈ l
  · obtain ⟨j, h1, _⟩ := find_yes (vv := vv) (kk := kk) l 0 0 h
    rw [h1]
    simp [h]
  · rw [find_no l 0 0 h]
    simp [h, hz]
theorem run_addI {kk : IntKind} {z : Int} (hu : P.underlying t = some (.map kt et)) (hk : P.underlying kt = some (.int kk)) (hb : w.heap[b]? = some (Mo vv l)) :
    (Instr.mapUpdate t (.map (some b)) (.int .i64 z) vv).run P w = .ok () { w with heap := w.heap.setIfInBounds b (Mo vv (addI l z)) } := by
  have hb' : w.heap[b]? = some (.map ⟨ents vv 0 l⟩ l.length) := hb
  have hg : (getObj b).run P w = .ok (.map ⟨ents vv 0 l⟩ l.length) w := by simp [getObj, Sem.run, hb']
  simp only [Instr.mapUpdate, Sem.run_bind, run_underlying hu, Result.andThen_ok, hg, run_checkInt hk, Instr.findKey, run_underlying hk]
  have hlt : b < w.heap.size := (Array.getElem?_eq_some_iff.1 hb).1
  by_cases h : z ∈ l
  · obtain ⟨j, h1, h2⟩ := find_yes (vv := vv) (kk := kk) l 0 0 h
    rw [h1]
    have hj : ((⟨ents vv 0 l⟩ : Array MapEntry)[0 + j]?) = some { key := .int .i64 z, val := vv, born := 0 + j } := by
      rw [Nat.zero_add]; simpa using h2
    have hm : ((⟨ents vv 0 l⟩ : Array MapEntry).modify (0 + j) fun e => { e with key := .int .i64 z, val := vv }) = ⟨ents vv 0 l⟩ := by
      apply Array.ext_getElem?
      intro i
      rw [Array.getElem?_modify]
      split
      · rename_i he; subst he
        rw [hj]; rfl
      · rfl
    simp only [hj, Option.map_some, Option.getD_some, Instr.keyThatStays, Instr.sameBits, beq_self_eq_true, Bool.and_self, if_true, Sem.run_pure, Result.andThen_ok]
    have ha : addI l z = l := by unfold addI; rw [if_pos h]
    have hm' : (ents vv 0 l).modify j (fun e => { key := Value.int .i64 z, val := vv, born := e.born }) = ents vv 0 l := by
      have := congrArg Array.toList hm
      simpa using this
    rw [ha]
    simp [setObj, Sem.run, Mo, hb', hm']
  · rw [find_no l 0 0 h]
    have ha : addI l z = l ++ [z] := by unfold addI; rw [if_neg h]
    rw [ha]
    simp [setObj, Sem.run, Mo, ents_app, ents, hb']
end
section
variable {C : Cx} {R : Pst} {k : List K} {e : Env} {ds : List Deferred} {h : Heap} {L : Owned} {ops : Array Oper} {lo : List Oper} {Q : Pst} {x y v : Operand} {l : List Int} {kt et t : TypeId} {vv : Value}
theorem op1_addI {A B : Owned} {d : Option Tmp} {ty : TypeId} {pos : String} {af : Array Edge} {g : Option (Nat × Bool)} {b : Nat} {z : Int} {kk : IntKind} (hu : Und C.P t (.map kt et)) (hk : Und C.P kt (.int kk)) (hx : ev e x = some (.map (some b))) (hy : ev e y = some (.int .i64 z)) (hv : ev e v = some vv) :
    Op1 C ⟨d, .mapUpdate t x y v, ty, pos, af, g⟩ e h (A ++ (b, Mo vv l) :: B) (fun v' h' L' => v' = undef ∧ h' = h ∧ L' = A ++ (b, Mo vv (addI l z)) :: B) := by
  intro ds a w next Q he hst H
  refine ⟨fun _ _ => trivial, ?_⟩
  have hb := hst.own (b, Mo vv l) (by simp)
  have hlt : b < w.heap.size := (Array.getElem?_eq_some_iff.1 hb).1
  have hrun : (execOp a.eval ⟨d, .mapUpdate t x y v, ty, pos, af, g⟩).run C.P w = .ok .skip { w with heap := w.heap.setIfInBounds b (Mo vv (addI l z)) } := by
    unfold execOp
    simp [he.eval hx, he.eval hy, he.eval hv, run_addI hu hk hb]
  rw [Oper.semAt_eq _ _ _ (by simp), hrun]
  exact H undef h _ _ ⟨rfl, rfl, rfl⟩ (hst.set _ (by simp [hlt]) (fun c hc => by simp [Array.getElem?_setIfInBounds_ne (Ne.symm hc)]))
theorem WL_addI {A B : Owned} {d : Option Tmp} {ty : TypeId} {pos : String} {af : Array Edge} {b : Nat} {z : Int} {kk : IntKind} (hu : Und C.P t (.map kt et)) (hk : Und C.P kt (.int kk)) (hx : ev e x = some (.map (some b))) (hy : ev e y = some (.int .i64 z)) (hv : ev e v = some vv) (hd : dstOk d C.n = true)
    (H : WL C ops lo Q (put d undef e) ds h (A ++ (b, Mo vv (addI l z)) :: B)) : WL C ops (⟨d, .mapUpdate t x y v, ty, pos, af, none⟩ :: lo) Q e ds h (A ++ (b, Mo vv l) :: B) :=
  WL_op (op1_addI hu hk hx hy hv) rfl hd (by rintro v' h' L' ⟨rfl, rfl, rfl⟩; exact H)
theorem v_lookI {b : Nat} {z : Int} {kk : IntKind} {P : Program} (hu : Und P t (.map kt et)) (hk : Und P kt (.int kk)) (hz : Zer P et vv) (hx : ev e x = some (.map (some b))) (hy : ev e y = some (.int .i64 z)) (hb : Kn h L b (Mo vv l)) : OpV P (.lookup t x y true) e h L (.tuple ⟨[vv, .bool (decide (z ∈ l))]⟩) := by
  intro ρ w o hρ hs ho; unfold execOp; rw [ho]
  have := run_lookI (P := P) (w := w) (z := z) hu hk (hz.run w) rfl (hs.kn hb)
  simp [hρ _ _ hx, hρ _ _ hy, this]
end
theorem v_lenMo {P : Program} {e : Env} {h : Heap} {L : Owned} {x : Operand} {l : List Int} {kt et t : TypeId} {vv : Value} {b : Nat} (hu : Und P t (.map kt et)) (hx : ev e x = some (.map (some b))) (hb : Kn h L b (Mo vv l)) : OpV P (.call ⟨.builtin .len, #[x], #[t]⟩) e h L (.int .i64 ((l.length : Nat) : Int)) :=
  OpV.to (v_lenmap hu hx hb) (by congr 2; exact ents_len l 0)
theorem addI_mem {l : List Int} {z y : Int} : y ∈ addI l z ↔ y ∈ l ∨ y = z := by
  unfold addI
  split
  · rename_i h
    constructor
    · exact .inl
    · rintro (h1 | rfl)
      · exact h1
      · exact h
  · simp
/-- the set of some numbers -/
def setI (l : List Int) : List Int := l.foldl addI []
theorem setI_take {l : List Int} {i : Nat} (hi : i < l.length) : setI (l.take (i + 1)) = addI (setI (l.take i)) (l.getD i 0) := by
  unfold setI
  rw [List.take_add_one, List.getElem?_eq_getElem hi, List.foldl_append]
  simp [List.getElem?_eq_getElem hi]
theorem fold_mem {y : Int} : ∀ (l m : List Int), y ∈ l.foldl addI m ↔ y ∈ m ∨ y ∈ l
  | [], m => by simp
  | z :: l, m => by
    rw [List.foldl_cons, fold_mem l, addI_mem, List.mem_cons]
    constructor
    · rintro ((h | h) | h)
      · exact .inl h
      · exact .inr (.inl h)
      · exact .inr (.inr h)
    · rintro (h | h | h)
      · exact .inl (.inl h)
      · exact .inl (.inr h)
      · exact .inr h
theorem setI_mem {l : List Int} {y : Int} : y ∈ setI l ↔ y ∈ l := by
  unfold setI; rw [fold_mem]; simp
end Go.Proofs.Ch

/- What is signed verifies. No program is named here. -/
namespace Go.Proofs.Ch
open Go
theorem mpow_add {m a i j : Nat} : mpow m a i * mpow m a j % m = mpow m a (i + j) := by
  unfold mpow; rw [← Nat.mul_mod, ← Nat.pow_add]
theorem mpow_mpow {m a i j : Nat} : mpow m (mpow m a i) j = mpow m a (i * j) := by
  unfold mpow; rw [← Nat.pow_mod, ← Nat.pow_mul]
theorem mpow_one {m n : Nat} (h : 1 < m) : mpow m 1 n = 1 := by unfold mpow; rw [Nat.one_pow, Nat.mod_eq_of_lt h]
theorem mpow_modq {m a q n : Nat} (hm : 1 < m) (h : mpow m a q = 1) : mpow m a (n % q) = mpow m a n := by
  conv => rhs; rw [← Nat.div_add_mod n q, ← mpow_add, ← mpow_mpow, h, mpow_one hm, Nat.one_mul]
  unfold mpow; rw [Nat.mod_mod]
theorem gexpV_eq {a k : Int} (ha : GC a) (h0 : 0 ≤ k) (h1 : k < 2305843009213688669) : gexpV a k = ((mpow 4611686018427377339 a.toNat k.toNat : Nat) : Int) := if_pos ⟨ha, h0, h1⟩
theorem gc_pow {a k : Int} (ha : GC a) (h0 : 0 ≤ k) (h1 : k < 2305843009213688669) : GC (gexpV a k) := by
  rw [gexpV_eq ha h0 h1]
  have hq : mpow 4611686018427377339 (mpow 4611686018427377339 a.toNat k.toNat) 2305843009213688669 = 1 := by
    rw [mpow_mpow, Nat.mul_comm, ← mpow_mpow, ha.2.2, mpow_one (by decide)]
  have hlt := mpow_lt (m := 4611686018427377339) (a := a.toNat) (k := k.toNat) (by decide)
  have hne : mpow 4611686018427377339 a.toNat k.toNat ≠ 0 := by
    intro h0
    rw [h0] at hq
    have hz : mpow 4611686018427377339 0 2305843009213688669 = 0 := by
      rw [mpow_pw 61 (by decide)]; decide +kernel
    rw [hz] at hq
    cases hq
  refine ⟨by omega, by omega, ?_⟩
  rw [Int.toNat_natCast]; exact hq
def gmulV (a b : Int) : Int := if GC a ∧ GC b then ((a.toNat * b.toNat % 4611686018427377339 : Nat) : Int) else 0
def gmulE (a b : Int) : Int := if GC a ∧ GC b then 0 else 40
/-- the exponents of a signature -/
theorem sig_law {x : Int} {k c : Nat} (hx : 1 ≤ x ∧ x < 2305843009213688669) (hk : k < 2305843009213688669) (hc : c < 2305843009213688669) :
    gexpV 4 (faddV k (fmulV c x)) = gmulV (gexpV 4 k) (gexpV (gexpV 4 x) c) := by
  obtain ⟨n, rfl⟩ : ∃ n : Nat, x = (n : Int) := ⟨x.toNat, by omega⟩
  have hm : fmulV c n = ((c * n % 2305843009213688669 : Nat) : Int) := by unfold fmulV; rw [if_pos (by omega)]; rfl
  have hmr := fmulV_rng c n
  have hs : faddV k (fmulV c n) = (((k + c * n % 2305843009213688669) % 2305843009213688669 : Nat) : Int) := by
    unfold faddV; rw [if_pos ⟨by omega, by omega⟩, hm]; simp only [Int.toNat_natCast]
  have g1 := gc_pow GC4 (k := (k : Int)) (by omega) (by omega)
  have g2 := gc_pow GC4 (k := (n : Int)) (by omega) (by omega)
  have g3 := gc_pow g2 (k := (c : Int)) (by omega) (by omega)
  have hlt : (k + c * n % 2305843009213688669) % 2305843009213688669 < 2305843009213688669 := Nat.mod_lt _ (by decide)
  rw [hs, gexpV_eq GC4 (by omega) (by omega)]
  unfold gmulV
  rw [if_pos ⟨g1, g3⟩, gexpV_eq GC4 (by omega) (by omega), gexpV_eq g2 (by omega) (by omega), gexpV_eq GC4 (k := (n : Int)) (by omega) (by omega)]
  simp only [Int.toNat_natCast]
  rw [mpow_modq (by decide) GC4.2.2, ← mpow_add, mpow_modq (by decide) GC4.2.2, mpow_mpow, Nat.mul_comm c n]
theorem EqV.ints {P : Program} {d n : Nat} {t el : TypeId} {kk : IntKind} {us vs : List Int} (hu : Und P t (.array n el)) (hz : Siz P el 1) (h1 : One P el) (hk : Und P el (.int kk)) (ha : us.length = n) (hb : vs.length = n) :
    EqV P (d + 2) t (.agg ⟨us.map (Value.int .i64)⟩) (.agg ⟨vs.map (Value.int .i64)⟩) (decide (us = vs)) := by
  have e : decide (us = vs) = ((List.range n).all fun i => decide (us.getD i 0 = vs.getD i 0)) := by
    rw [Bool.eq_iff_iff, List.all_eq_true]
    simp only [List.mem_range, decide_eq_true_eq]
    constructor
    · rintro rfl i _; rfl
    · intro h
      apply List.ext_getElem (by omega)
      intro i h1 h2
      have := h i (by omega)
      simpa [h1, h2] using this
  rw [e]
  refine EqV.array (d := d + 1) hu hz fun i hi => ?_
  rw [Nat.mul_one]
  have h2 : i < us.length := by omega
  have h3 : i < vs.length := by omega
  exact EqP.one (a := .int .i64 (us.getD i 0)) (b := .int .i64 (vs.getD i 0)) h1 (by simp [h2]) (by simp [h3]) (EqV.int hk)
end Go.Proofs.Ch

/- Maps whose keys are digests; a block of one's own that is lent to a call. No program is named here. -/
namespace Go.Proofs.Ch
open Go
section
variable {P : Program} {w : World} {kt el et t : TypeId}
theorem run_checkDig {em : Bool} {d : Dig} (hu : Und P kt (.array 32 el)) (hz : Siz P el 1) (h1 : One P el) (hk : Und P el (.int .u8)) (n : Nat) : (Instr.checkKey em (n + 2) kt (.agg ⟨dcells d⟩)).run P w = .ok () w := by
  rw [show n + 2 = (n + 1) + 1 from rfl, Instr.checkKey]
  simp only [Sem.run_bind, hu.run, Result.andThen_ok]
  simp only [Std.Legacy.Range.forIn_eq_forIn_range', Std.Legacy.Range.size, Nat.sub_zero, Nat.add_one_sub_one, Nat.div_one]
  have each : ∀ i ∈ List.range' 0 32, i < 32 := by
    intro i hi
    rw [List.mem_range'] at hi
    obtain ⟨j, hj, rfl⟩ := hi
    omega
  generalize List.range' 0 32 = is at each
  induction is with
  | nil => simp
  | cons j is ih =>
    have hj := each j (by simp)
    have hp := part_one (w := w) h1 (show (dcells d)[j * 1]? = some _ from by rw [Nat.mul_one]; exact dcells_get d hj)
    have hc : (Instr.checkKey em (n + 1) el (.int .u8 ((dn d j : Nat) : Int))).run P w = .ok () w := by
      rw [Instr.checkKey]
      simp [hk.run]
    simp only [List.forIn_cons, Sem.run_bind, hz.run, Result.andThen_ok, hp, hc, Sem.run_pure]
    exact ih (fun y hy => each y (by simp [hy]))
variable {e : Env} {h : Heap} {L : Owned} {x y : Operand}
theorem v_lookE {b : Nat} {d : Dig} {z : Value} (hu : Und P t (.map kt et)) (hk : Und P kt (.array 32 el)) (hz : Siz P el 1) (h1 : One P el) (hk8 : Und P el (.int .u8)) (hze : Zer P et z) (hx : ev e x = some (.map (some b))) (hy : ev e y = some (.agg ⟨dcells d⟩)) (hb : Kn h L b (.map #[] 0)) : OpV P (.lookup t x y true) e h L (.tuple ⟨[z, .bool false]⟩) := by
  intro ρ w o hρ hs ho; unfold execOp; rw [ho]
  have hb' := hs.kn hb
  have hg : (getObj b).run P w = .ok (.map #[] 0) w := by simp [getObj, Sem.run, hb']
  have hc := run_checkDig (P := P) (w := w) (em := true) (d := d) hk hz h1 hk8 9998
  have : (Instr.lookup t (.map (some b)) (.agg ⟨dcells d⟩) true).run P w = .ok (.tuple #[z, .bool false]) w := by
    simp [Instr.lookup, hu.run, hg, hc, Instr.findKey, hk.run, Instr.findNow, hze.run w]
  simp [hρ _ _ hx, hρ _ _ hy, this]
end
section
variable {C : Cx} {R : Pst} {k : List K} {e : Env} {ds : List Deferred} {h : Heap} {L : Owned} {ops : Array Oper} {l : List Oper} {Q : Pst}
theorem op1_borrow {A B : Owned} {b : Nat} {o : Obj} {op : Oper} {r : Value} (ho : ∀ hb, Heap.le h hb → hb b = some o → Op1 C op e hb (A ++ B) (fun v h' L' => v = r ∧ Heap.le hb h' ∧ L' = A ++ B)) :
    Op1 C op e h (A ++ (b, o) :: B) (fun v h' L' => v = r ∧ h' = h ∧ L' = A ++ (b, o) :: B) := by
  intro ds a w next Q he hs H
  have hs' : St h ((b, o) :: (A ++ B)) w := hs.perm List.perm_middle
  obtain ⟨s1, s2, s3⟩ := St.freeze hs'
  refine ho _ s2 s3 ds a w next Q he s1 ?_
  rintro v h' L' w' ⟨rfl, hle, rfl⟩ hs2
  refine H _ _ _ w' ⟨rfl, rfl, rfl⟩ ⟨fun c o' hc => hs2.per _ _ (hle _ _ (s2 _ _ hc)), ?_, hs.sep, hs.nd, hs2.os.trans (hle.os.trans s2.os), hs2.out.trans (hle.out.trans s2.out)⟩
  intro p hp
  rw [List.mem_append, List.mem_cons] at hp
  rcases hp with hp | rfl | hp
  · exact hs2.own p (by simp [hp])
  · exact hs2.per _ _ (hle _ _ s3)
  · exact hs2.own p (by simp [hp])
/-- a call that reads a block of the caller's own -/
theorem WL_callqb {A B : Owned} {b : Nat} {o : Obj} {d : Option Tmp} {ty : TypeId} {pos : String} {af : Array Edge} {f : FuncId} {xs : List Operand} {ts : Array TypeId} {vs : List Value} {r : Value} (hv : evs e xs = some vs) (t : ∀ hb, Heap.le h hb → hb b = some o → Fn0 C.P f vs hb r) (hd : dstOk d C.n = true)
    (H : WL C ops l Q (put d r e) ds h (A ++ (b, o) :: B)) : WL C ops (⟨d, .call ⟨.value (.func f), ⟨xs⟩, ts⟩, ty, pos, af, none⟩ :: l) Q e ds h (A ++ (b, o) :: B) :=
  WL_op (op1_borrow (r := r) fun hb hl hbo => (op1_call (L1 := []) (Lf := A ++ B) rfl hv (TrV.of0 (t hb hl hbo))).mono (by
    rintro v h' L' ⟨L2, rfl, hle, rfl, rfl⟩
    exact ⟨rfl, hle, rfl⟩)) rfl hd (by rintro v h' L' ⟨rfl, rfl, rfl⟩; exact H)
end
end Go.Proofs.Ch

/- Guarded operations: more rules. No program is named here. -/
namespace Go.Proofs.Ch
open Go
theorem qs_callpg {C : Cx} {ops : Array Oper} {fin rem rem' : List Nat} {Q : Pst} {e : Env} {ds : List Deferred} {h : Heap} {L : Owned} {i : Nat} {d : Option Tmp} {ty : TypeId} {pos : String} {af : Array Edge} {f : FuncId} {xs : List Operand} {ts : Array TypeId} {vs : List Value} {j t : Nat} {b : Bool} {G : Value → Heap → Prop}
    (hi : ops[i]? = some ⟨d, .call ⟨.value (.func f), ⟨xs⟩, ts⟩, ty, pos, af, some (j, b)⟩) (hj : guardTmp ops j = some t) (hl : look e t = some (.bool b)) (hv : evs e xs = some vs) (tr : Fnp C.P f vs h G) (hd : dstOk d C.n = true) (he' : rem.erase i = rem')
    (H : ∀ v h', Heap.le h h' → G v h' → QS C ops fin rem' Q (put d v e) ds h' L) : QStep C ops fin rem Q e ds h L i :=
  qstepg hi rfl hj hl (op1_call (L1 := []) rfl hv (TrV.of0 tr)) hd (by
    rintro v h' L' ⟨L2, rfl, hle, hg, rfl⟩
    rw [he']
    exact ⟨h', L, fun _ s => s, H v h' hle hg, fun _ => st_le hle⟩)
section
variable {C : Cx} {ops : Array Oper} {fin rem rem' : List Nat} {Q : Pst} {e : Env} {ds : List Deferred} {h : Heap} {L : Owned}
theorem QS_skipu {i j t : Nat} {b : Bool} {d : Option Tmp} {op : Op} {ty : TypeId} {pos : String} {af : Array Edge} (hi : ops[i]? = some ⟨d, op, ty, pos, af, some (j, b)⟩) (hj : guardTmp ops j = some t) (hl : look e t = some undef) (hrem : rem.contains i = true) (hr : rdy ops rem i = true) (hf : fin.contains i = false) (he' : rem.erase i = rem') (hd : dstOk d C.n = true)
    (H : QS C ops fin rem' Q (put d undef e) ds h L) : QS C ops fin rem Q e ds h L :=
  QS_settled hi hrem hr hf he' hd (fun a he => by
    have hy : yielded ops a.tmps j = none := by
      simp only [guardTmp] at hj
      simp [yielded, hj, he.ok _ _ hl, undef]
    exact .inr ⟨by simp [Region.wanted, hy], rfl⟩) H
theorem WL_buildSliceg {l : List Oper} {d : Option Tmp} {ty : TypeId} {pos : String} {af : Array Edge} {j tt : Nat} {gb : Bool} {t et : TypeId} {len : Nat} {z : Value} {parts : List (Nat × Operand)} {zs r : List Value} {vs : List (Nat × Value)} (hj : guardTmp ops j = some tt) (hl : look e tt = some (.bool gb)) (hu : Und C.P t (.slice et)) (hz : Zer C.P et z) (hzc : z.cells = ⟨zs⟩) (hs : Siz C.P et zs.length) (h0 : (zs.length != 0) = true) (hb : Nat.ble (len * zs.length) 16777216 = true) (hv : evp e parts = some vs) (hf : fil (fun i => some (i * zs.length, zs.length)) (zbase len zs) vs = some r) (hd : dstOk d C.n = true)
    (H : ∀ b, WL C ops l Q (put d (.slice (some ⟨b, 0, none⟩) len len) e) ds h ((b, .cells ⟨r⟩ et (0, 0)) :: L)) : WL C ops (⟨d, .buildSlice t len ⟨parts⟩, ty, pos, af, some (j, gb)⟩ :: l) Q e ds h L :=
  WL_opg (o_buildSlice hu hz hzc hs h0 hb hv hf) rfl hj hl hd (by rintro v h' L' ⟨b, rfl, rfl, rfl⟩; exact H b)
end
end Go.Proofs.Ch

/- What a call hands back for good; the masks of a number; a set that is read. No program is named here. -/
namespace Go.Proofs.Ch
open Go
theorem Tr.frzS {P : Program} {f : FuncId} {args : List Value} {h : Heap} {et : TypeId} {n : Nat} {xs : List UInt8} {g : Value → Value} (t : Tr P f args h [] (fun v _ L' => ∃ u, v = g u ∧ OwnS et 1 u n (xs.map byteV) L')) :
    Fnp P f args h (fun v h' => ∃ u, v = g u ∧ Bs h' u xs) := by
  refine ⟨t.1, fun Lf w hs => (t.2 Lf w hs).mono ?_⟩
  rintro e w' ⟨v, h', L', rfl, hle, hs', u, rfl, s⟩
  rcases s with ⟨rfl, rfl, h1, rfl⟩ | ⟨b, cap, pad, rfl, hl, hp, hnc, _, rfl⟩
  · have : xs = [] := by simpa using h1
    subst this
    exact ⟨_, h', [], rfl, hle, hs', ⟨_, rfl, Bs.nil⟩, rfl⟩
  · obtain ⟨s1, s2, s3⟩ := St.freeze hs'
    exact ⟨_, _, [], rfl, hle.trans s2, s1, ⟨_, rfl, Bs.row s3 (by simpa using hl) hnc⟩, rfl⟩
theorem and511 (d : Int) : IntKind.i64.wrap ((BitVec.ofInt IntKind.i64.bits d &&& BitVec.ofInt IntKind.i64.bits 511).toNat : Int) = d % 512 := by
  have e1 : (BitVec.ofInt IntKind.i64.bits d &&& BitVec.ofInt IntKind.i64.bits 511).toNat = (d % 18446744073709551616).toNat % 512 := by
    rw [BitVec.toNat_and, BitVec.toNat_ofInt, BitVec.toNat_ofInt]
    have : (511 % ((2 ^ IntKind.i64.bits : Nat) : Int)).toNat = 2 ^ 9 - 1 := by decide
    rw [this, Nat.and_two_pow_sub_one_eq_mod]
    rfl
  rw [e1]
  have e2 : (((d % 18446744073709551616).toNat % 512 : Nat) : Int) = d % 512 := by omega
  rw [e2]
  exact wrap_i64 (by omega) (by omega)
theorem v_beql {P : Program} {e : Env} {h : Heap} {L : Owned} {xt yt : TypeId} {x y : Operand} {a b : Bool} (hu : Und P xt .bool) (hx : ev e x = some (.bool a)) (hy : ev e y = some (.bool b)) : OpV P (.binOp .eql xt x y yt) e h L (.bool (a == b)) := by
  intro ρ w o hρ _ ho; unfold execOp; rw [ho]
  have he : (Op.equalIn Op.maxDepth xt (.bool a) (.bool b)).run P w = .ok (a == b) w := EqV.bool (P := P) (d := 9999) (t := xt) hu w
  simp [hρ _ _ hx, hρ _ _ hy, eqGuard, binOp, Op.equal, he]
end Go.Proofs.Ch

/- From a walk to the row: a call that keeps all memory that was there reads its arguments behind the call as before. No program is named here. -/
namespace Go.Proofs.Ch
open Go Go.ChangeShapes Go.WideShapes Go.ChangeAt Go.RowKit
/-- all that was there stays as it was -/
def Kept (W W' : World) : Prop := W'.os = W.os ∧ W'.output = W.output ∧ ∀ b : Nat, b < W.heap.size → W'.heap[b]? = W.heap[b]?
/-- all of memory -/
def whole (W : World) : Heap := ⟨fun b => W.heap[b]?, W.os, W.output⟩
theorem calls_of {P : Program} {f : FuncId} {args : List Value} {W : World} {r : Value} (t : Fn0 P f args (whole W) r) : Calls P f ⟨args⟩ W (fun e W' => e = .returned r ∧ Kept W W') := by
  have hs : St (whole W) ([] ++ []) W := ⟨fun _ _ x => x, fun p hp => by simp at hp, fun p hp => by simp at hp, by simp, rfl, rfl⟩
  refine (callsIn_wide.1 (t.2 [] W hs)).mono ?_
  rintro e W' ⟨v, h', L', rfl, hle, hs', rfl, rfl⟩
  refine ⟨rfl, hs'.os.trans hle.os, hs'.out.trans hle.out, fun b hb => ?_⟩
  have h1 : W.heap[b]? = some W.heap[b] := Array.getElem?_eq_getElem hb
  rw [h1]
  exact hs'.per _ _ (hle _ _ h1)
theorem Kept.sameAt {W W' : World} (k : Kept W W') {p : MemPlace} (hp : p.block < W.heap.size) : W.sameAt W' p := by
  cases p with
  | cell b off =>
    have := k.2.2 b hp
    show W'.cell? _ = W.cell? _
    unfold World.cell?
    simp only [this]
  | map b => exact k.2.2 b hp
section
variable {H : Type} {enc : TypeId × Value → H} {P : Program} {T : TypeId → Prop}
theorem trodAll_kept {W W' : World} (k : Kept W W') : ∀ {ts : List TypeId} {vs : List Value} {ds : List (DataW H)} {ps : List MemPlace}, DataW.TrodAll enc P W 0 (fun _ => true) true ts vs ds ps → (∀ p ∈ ps, p.block < W.heap.size) → DataW.TrodAll enc P W' 0 (fun _ => true) true ts vs ds ps
  | [], [], [], _, h, _ => h
  | _ :: _, _ :: _, _ :: _, _, ⟨p, q, ⟨n, h1⟩, h2, e⟩, hs => ⟨p, q, ⟨n, DataW.trod_carry n _ _ _ h1 (fun x hx => k.sameAt (hs x (by rw [e]; exact List.mem_append_left _ hx)))⟩, trodAll_kept k h2 (fun x hx => hs x (by rw [e]; exact List.mem_append_right _ hx)), e⟩
theorem Kept.frozen {W W' : World} (k : Kept W W') {a : Addr} (hp : a.block < W.heap.size) : W'.frozen? a = W.frozen? a := by
  unfold World.frozen?
  rw [k.2.2 a.block hp]
theorem Kept.but {W W' : World} (k : Kept W W') (may : MemPlace → Prop) : W.keptBut W' may := by
  refine ⟨k.1, k.2.1, fun i hi => ?_⟩
  rw [k.2.2 i hi]
  cases hx : W.heap[i]? with
  | none => rfl
  | some o =>
    cases o <;> simp
/-- The law answers true, and nothing that was there has turned. -/
theorem post_kept (K : Kids P T) (hz : ∀ t e, T t → P.underlying t = some (.slice e) → 0 < P.cellsOf e) {f : Func} {s : ChangeSpec} {apart fresh handsOn again : Bool} {W W' : World} {args : Array Value} {ds gs : List (DataW H)} {before : List MemPlace} {tb : TypeId}
    (hv : s.vars = []) (hT : ∀ t ∈ f.params.toList, T t) (hr : f.resultTypes = #[tb]) (hb : P.underlying tb = some .bool)
    (hW : DataW.Whole enc P f.params.toList s.vars apart W args.toList ds gs before) (k : Kept W W')
    (hres : (s.fn H (ds ++ gs)).results = [.lit (.bool true)]) (hargs : (s.fn H (ds ++ gs)).args = ds) (hvars : (s.fn H (ds ++ gs)).vars = []) :
    s.post enc P f apart fresh handsOn again W args (.bool true) W' := by
  have hlt : ∀ p ∈ before, p.block < W.heap.size := fun p hp => hW.lt p hp
  have hWc := hW
  obtain ⟨p, q, hA, hV, rfl, hfz, hnd⟩ := hW
  rw [hv] at hV
  obtain ⟨rfl, rfl⟩ := trodVars_none hV
  have hA' := trodAll_kept k hA (fun x hx => hlt x (by simp [hx]))
  have hold : ∀ x ∈ p ++ [], (fun b => decide (b < W.heap.size)) x.block = true := fun x hx => by simpa using hlt x hx
  have hag : ∀ sp : Nat → Bool, (∀ x ∈ p ++ [], sp x.block = true) → DataW.TrodAll enc P W' 0 sp true f.params.toList args.toList (s.fn H (ds ++ [])).args p := fun sp hsp => by
    rw [hargs]
    exact DataW.TrodAll.respare K hz hT hA' (fun x hx => hsp x (by simp [hx]))
  have hvg : ∀ sp : Nat → Bool, DataW.TrodVars enc P W' sp s.vars (s.fn H (ds ++ [])).vars [] := fun sp => by
    rw [hvars, hv]; exact rfl
  have hrg : ∀ (b : Nat) (sp : Nat → Bool) (hd : Bool), DataW.TrodAll enc P W' b sp hd f.resultTypes.toList ((Value.bool true).resultList f.resultTypes.size) (s.fn H (ds ++ [])).results [] := fun b sp hd => by
    rw [hr, hres]
    exact trodAll_mk1 (shut_bool hb _)
  refine ⟨ds, [], p ++ [], [], p, [], hWc, hrg _ _ _, hag _ hold, hvg _, World.keptBut_mono (fun x hx => ⟨hx, ?_⟩) (k.but (· ∈ p ++ [])), fun _ => ?_⟩
  · rw [List.mem_append] at hx
    exact Or.inr hx
  · refine ⟨ok_one hr rfl (okWide_bool_mk hb _), _, _, ([] ++ p) ++ [], ⟨[] ++ p, [], trodAll_append (hag _ (fun _ _ => rfl)) (hrg _ _ _), hvg _, rfl, ?_, ?_⟩, ?_⟩
    · intro b off hp
      have hin : MemPlace.cell b off ∈ p ++ [] := by simpa using hp
      rw [k.frozen (hlt _ hin)]
      exact hfz b off hin
    · intro ha
      have := hnd ha
      simpa using this
    · intro x hx _
      simpa using hx
end
section
variable {P : Program} {w : World} {r : Reach} {base : Nat} {t : TypeId} {v : Value}
theorem cell_int {k : IntKind} (ht : P.underlying t = some (.int k)) (h : Cell.okWide P w r base t v) : ∃ n, v = .int k n ∧ k.has n := by
  unfold Cell.okWide at h
  rw [ht] at h
  cases v <;> simp_all [Cell.ok]
theorem cell_bool (ht : P.underlying t = some .bool) (h : Cell.okWide P w r base t v) : ∃ b, v = .bool b := by
  unfold Cell.okWide at h
  rw [ht] at h
  cases v <;> simp_all [Cell.ok]
theorem okw_int {k : IntKind} (ht : P.underlying t = some (.int k)) (h : Value.okWide P w r base t v) : ∃ n, v = .int k n ∧ k.has n := by
  unfold Value.okWide at h
  rw [ht] at h
  exact cell_int ht h
theorem okw_agg {ts : List TypeId} {N : Nat} (hm : (match P.underlying t with | some (.struct _) | some (.array _ _) => true | _ => false) = true) (hsz : P.cellsOf t = N) (hts : P.cellTypes P.depth t = some ts) (hl : ts.length = N)
    (h : Value.okWide P w r base t v) : ∃ cs : List Value, v = .agg ⟨cs⟩ ∧ cs.length = N ∧ ∀ (i : Nat) (c : Value), cs[i]? = some c → ∃ u, ts[i]? = some u ∧ Cell.okWide P w r base u c := by
  have h2 : ∃ cs, v = .agg cs ∧ cs.size = P.cellsOf t ∧ Row.okWide P w r base t cs := by
    unfold Value.okWide at h
    split at h
    · exact h
    · exact h
    · rename_i h1 h2
      cases hu : P.underlying t with
      | none => rw [hu] at hm; cases hm
      | some d =>
        rw [hu] at hm
        cases d <;> simp at hm
        · exact absurd hu (by intro e; exact absurd e (by first | exact h1 _ | exact h2 _ _))
        · exact absurd hu (by intro e; exact absurd e (by first | exact h1 _ | exact h2 _ _))
  obtain ⟨⟨cs⟩, rfl, hs, ts', hts', _, hc⟩ := h2
  have he : ts' = ts := Option.some.inj (hts'.symm.trans hts)
  subst he
  refine ⟨cs, rfl, by simpa [hsz] using hs, fun i c hi => ?_⟩
  obtain ⟨u, hu, ho⟩ := hc i c (by simpa using hi)
  have hlt : i < cs.length := (List.getElem?_eq_some_iff.1 hi).1
  have : cs.length = N := by simpa [hsz] using hs
  rw [hl, Nat.mod_eq_of_lt (by omega)] at hu
  exact ⟨u, hu, ho⟩
end
theorem trodAll_len {H : Type} {enc : TypeId × Value → H} {P : Program} {w : World} {base : Nat} {sp : Nat → Bool} {held : Bool} : ∀ {ts : List TypeId} {vs : List Value} {ds : List (DataW H)} {ps : List MemPlace}, DataW.TrodAll enc P w base sp held ts vs ds ps → vs.length = ts.length ∧ ds.length = ts.length
  | [], [], [], _, _ => ⟨rfl, rfl⟩
  | _ :: _, _ :: _, _ :: _, _, ⟨_, _, _, h, _⟩ => by
    have := trodAll_len h
    simp [this.1, this.2]
def toB : Value → UInt8
  | .int _ n => UInt8.ofNat n.toNat
  | _ => 0
theorem dig_of {bs : List Value} (hl : bs.length = 32) (h : ∀ (i : Nat) (c : Value), bs[i]? = some c → ∃ n, c = .int .u8 n ∧ IntKind.u8.has n) : ∃ d : Dig, bs = dcells d := by
  refine ⟨⟨(bs.map toB).toArray, by simp [hl]⟩, ?_⟩
  rw [dcells_eq]
  apply List.ext_getElem?
  intro i
  have e : (Vector.toList (⟨(bs.map toB).toArray, by simp [hl]⟩ : Dig)) = bs.map toB := by simp [Vector.toList]
  rw [e, List.getElem?_map, List.getElem?_map]
  cases hb : bs[i]? with
  | none => rfl
  | some c =>
    obtain ⟨n, rfl, hn⟩ := h i c hb
    have h8 : 0 ≤ n ∧ n < 256 := by
      simp [IntKind.has, IntKind.min, IntKind.max, IntKind.signed, IntKind.bits] at hn
      omega
    obtain ⟨m, rfl⟩ : ∃ m : Nat, n = (m : Int) := ⟨n.toNat, by omega⟩
    simp only [Option.map_some, toB, Int.toNat_natCast]
    rw [byteV_nat (by omega)]
theorem ri_has {n : Int} (h : IntKind.i64.has n) : Ri n := by
  simp [IntKind.has, IntKind.min, IntKind.max, IntKind.signed, IntKind.bits] at h
  unfold Ri; omega
theorem dig_sub {P : Program} {w : World} {r : Reach} {base u8 o : Nat} {cs : List Value} {ts : List TypeId} (hu : P.underlying u8 = some (.int .u8)) (hl : o + 32 ≤ cs.length) (ht : ∀ i : Nat, i < 32 → ts[o + i]? = some u8)
    (h : ∀ (i : Nat) (c : Value), cs[i]? = some c → ∃ u, ts[i]? = some u ∧ Cell.okWide P w r base u c) : ∃ d : Dig, (cs.drop o).take 32 = dcells d := by
  refine dig_of (by simp; omega) fun i c hi => ?_
  have hi32 : i < 32 := by
    have := (List.getElem?_eq_some_iff.1 hi).1
    simp at this; omega
  rw [List.getElem?_take_of_lt hi32, List.getElem?_drop] at hi
  obtain ⟨u, hu', ho⟩ := h _ _ hi
  rw [ht i hi32] at hu'
  cases hu'
  exact cell_int hu ho
theorem lk_of {P : Program} {w : World} {r : Reach} {base i3 b4 u8 : Nat} {cs : List Value} (h3 : P.underlying i3 = some (.int .i64)) (h4 : P.underlying b4 = some .bool) (h8 : P.underlying u8 = some (.int .u8)) (hl : cs.length = 40)
    (h : ∀ (i : Nat) (c : Value), cs[i]? = some c → ∃ u, ([i3, i3, i3, i3, i3, b4] ++ List.replicate 32 u8 ++ [i3, i3])[i]? = some u ∧ Cell.okWide P w r base u c) : ∃ l : Lk, cs = l.cells ∧ l.ok := by
  obtain ⟨d, hd⟩ := dig_sub (o := 6) h8 (by omega) (fun i hi => by
    rw [List.getElem?_append_left (by simp only [List.length_append, List.length_replicate, List.length_cons, List.length_nil]; omega), List.getElem?_append_right (by simp only [List.length_cons, List.length_nil]; omega), List.getElem?_replicate, if_pos (by simp only [List.length_cons, List.length_nil]; omega)]) h
  have int : ∀ i : Nat, i < 40 → ([i3, i3, i3, i3, i3, b4] ++ List.replicate 32 u8 ++ [i3, i3])[i]? = some i3 → ∃ n, cs[i]? = some (.int .i64 n) ∧ Ri n := by
    intro i hi ht
    obtain ⟨u, hu, ho⟩ := h i cs[i] (List.getElem?_eq_getElem (by omega))
    rw [ht] at hu; cases hu
    obtain ⟨n, hn, hr⟩ := cell_int h3 ho
    exact ⟨n, by rw [← hn]; exact List.getElem?_eq_getElem (by omega), ri_has hr⟩
  obtain ⟨f, hf, rf⟩ := int 0 (by omega) rfl
  obtain ⟨b, hb, rb⟩ := int 1 (by omega) rfl
  obtain ⟨p, hp, rp⟩ := int 2 (by omega) rfl
  obtain ⟨v, hv, rv⟩ := int 3 (by omega) rfl
  obtain ⟨x, hx, rx⟩ := int 4 (by omega) rfl
  obtain ⟨re, hre⟩ : ∃ re, cs[5]? = some (.bool re) := by
    obtain ⟨u, hu, ho⟩ := h 5 cs[5] (List.getElem?_eq_getElem (by omega))
    have : u = b4 := by simpa using hu.symm
    subst this
    obtain ⟨q, hq⟩ := cell_bool h4 ho
    exact ⟨q, by rw [← hq]; exact List.getElem?_eq_getElem (by omega)⟩
  obtain ⟨r1, hr1, rr1⟩ := int 38 (by omega) rfl
  obtain ⟨s1, hs1, rs1⟩ := int 39 (by omega) rfl
  refine ⟨⟨f, b, p, v, x, re, d, r1, s1⟩, ?_, rf, rb, rp, rv, rx, rr1, rs1⟩
  show cs = [.int .i64 f, .int .i64 b, .int .i64 p, .int .i64 v, .int .i64 x, .bool re] ++ (dcells d ++ [.int .i64 r1, .int .i64 s1])
  rw [← hd]
  apply List.ext_getElem?
  intro i
  have cases6 : i < 6 ∨ (6 ≤ i ∧ i < 38) ∨ 38 ≤ i := by omega
  rcases cases6 with hi | ⟨h6, h38⟩ | hi
  · rw [List.getElem?_append_left (by simpa using hi)]
    match i, hi with
    | 0, _ => exact hf
    | 1, _ => exact hb
    | 2, _ => exact hp
    | 3, _ => exact hv
    | 4, _ => exact hx
    | 5, _ => exact hre
  · rw [List.getElem?_append_right (by simpa using h6), List.getElem?_append_left (by simp; omega), List.getElem?_take_of_lt (by simp; omega), List.getElem?_drop]
    congr 1
    simp; omega
  · rw [List.getElem?_append_right (by simp; omega), List.getElem?_append_right (by simp; omega)]
    rcases Nat.lt_trichotomy i 39 with hq | rfl | hq
    · have : i = 38 := by omega
      subst this
      rw [hr1]; simp [hl]
    · rw [hs1]; simp [hl]
    · rw [List.getElem?_eq_none (by omega), List.getElem?_eq_none (by simp [hl]; omega)]
theorem keys_of {P : Program} {w : World} {r : Reach} {base u8 : Nat} {cs : List Value} (h8 : P.underlying u8 = some (.int .u8)) (hl : cs.length = 64)
    (h : ∀ (i : Nat) (c : Value), cs[i]? = some c → ∃ u, (List.replicate 64 u8)[i]? = some u ∧ Cell.okWide P w r base u c) : ∃ a b : Dig, cs = dcells a ++ dcells b := by
  obtain ⟨a, ha⟩ := dig_sub (o := 0) h8 (by omega) (fun i hi => by rw [List.getElem?_replicate, if_pos (by omega)]) h
  obtain ⟨b, hb⟩ := dig_sub (o := 32) h8 (by omega) (fun i hi => by rw [List.getElem?_replicate, if_pos (by omega)]) h
  refine ⟨a, b, ?_⟩
  rw [← ha, ← hb, List.drop_zero, List.take_of_length_le (l := cs.drop 32) (by simp [hl]), List.take_append_drop]
/-- an array of numbers, as the program lays it -/
theorem cells_ints {H : Type} {enc : TypeId × Value → H} {P : Program} {w : World} {base : Nat} {sp : Nat → Bool} {held : Bool} {fuel n : Nat} {t e : TypeId} {k : IntKind} {cs : List Value} {zs : List Int} {p : List MemPlace} (ht : P.underlying t = some (.array n e)) (he : P.underlying e = some (.int k)) (hc : P.cellsOf e = 1) (hct : P.cellsOf t = n)
    (h : DataW.trod enc P w base sp held fuel t cs = some (.agg (zs.map fun z => .lit (.int k z)), p)) : cs = zs.map (Value.int k) := by
  obtain ⟨xs, m, _, hx, hlen, hn, hel⟩ := DataW.trod_array ht h
  simp only [Prod.mk.injEq, DataW.agg.injEq] at hx
  rw [hct] at hlen
  have hz : zs.length = n := by
    have := congrArg List.length hx.1
    simpa [hn] using this
  apply List.ext_getElem?
  intro i
  rcases Nat.lt_or_ge i n with hi | hi
  · have h1 := hel i hi
    rw [hc, Nat.mul_one, List.getElem?_eq_getElem (by omega : i < xs.length)] at h1
    obtain ⟨z, e1, e2, _⟩ := DataW.trod_int he h1
    have h2 : (zs.map fun z => (DataW.lit (.int k z) : DataW H))[i]? = (xs.map (·.1))[i]? := by rw [hx.1]
    rw [List.getElem?_map, List.getElem?_map, List.getElem?_eq_getElem (by omega : i < zs.length), List.getElem?_eq_getElem (by omega : i < xs.length), e2] at h2
    simp at h2
    have h3 : ((cs.drop i).take 1)[0]? = some (.int k z) := by rw [e1]; rfl
    rw [List.getElem?_take_of_lt (by omega), List.getElem?_drop, Nat.add_zero] at h3
    rw [h3, List.getElem?_map, List.getElem?_eq_getElem (by omega : i < zs.length)]
    simp [h2]
  · rw [List.getElem?_eq_none (by omega), List.getElem?_eq_none (by simp; omega)]
theorem var_block {P : Program} {w : World} {n : String} {g : Nat} {cs : Array Value} (hg : P.globalNamed n = some g) (h : w.var? P n = some cs) : ∃ T fr, w.heap[g]? = some (.cells cs T fr) := by
  unfold World.var? at h
  rw [hg] at h
  simp only [Option.bind_some] at h
  split at h
  · cases h; exact ⟨_, _, ‹_›⟩
  · cases h
end Go.Proofs.Ch

/- The arguments that a row hands over, opened: numbers, texts, digests, structs, slices. No program is named here. -/
namespace Go.Proofs.Ch
open Go Go.Deep Go.ChangeShapes Go.WideShapes Go.ChangeAt Go.RowKit
/-- cells that read as a value of a type -/
def Rd (P : Program) (w : World) (t : TypeId) (cs : List Value) : Prop := ∃ (H : Type) (enc : TypeId × Value → H) (n : Nat) (x : DataW H × List MemPlace), DataW.trod enc P w 0 (fun _ => true) true n t cs = some x
section
variable {P : Program} {w : World} {t e : TypeId} {cs : List Value}
theorem Rd.int {k : IntKind} (ht : P.underlying t = some (.int k)) (h : Rd P w t cs) : ∃ n, cs = [.int k n] ∧ k.has n := by
  obtain ⟨H, enc, n, x, h⟩ := h
  obtain ⟨z, rfl, _, hw⟩ := DataW.trod_int ht h
  refine ⟨z, rfl, ?_⟩
  simpa [Lit.wf, IntKind.has] using hw
theorem Rd.i64 (ht : P.underlying t = some (.int .i64)) (h : Rd P w t cs) : ∃ n, cs = [.int .i64 n] ∧ Ri n := by
  obtain ⟨n, e, hn⟩ := h.int ht
  exact ⟨n, e, ri_has hn⟩
theorem Rd.bool (ht : P.underlying t = some .bool) (h : Rd P w t cs) : ∃ b, cs = [.bool b] := by
  obtain ⟨H, enc, n, x, h⟩ := h
  obtain ⟨b, rfl, _⟩ := DataW.trod_bool ht h
  exact ⟨b, rfl⟩
theorem Rd.struct {fs : Array Field} {N : Nat} (ht : P.underlying t = some (.struct fs)) (hN : P.cellsOf t = N) (h : Rd P w t cs) : cs.length = N ∧ ∀ (i : Nat) (f : Field), fs[i]? = some f → Rd P w f.type ((cs.drop f.offset).take (P.cellsOf f.type)) := by
  obtain ⟨H, enc, n, x, h⟩ := h
  obtain ⟨xs, m, _, _, hl, hlen, hf⟩ := DataW.trod_struct ht h
  refine ⟨hN ▸ hl, fun i f hi => ?_⟩
  have h1 := hf i f hi
  have hlt : i < xs.length := by rw [hlen]; exact (Array.getElem?_eq_some_iff.1 hi).1
  rw [List.getElem?_eq_getElem hlt] at h1
  exact ⟨H, enc, m, _, h1⟩
theorem Rd.array {m k : Nat} (ht : P.underlying t = some (.array m e)) (hk : P.cellsOf e = k) (h : Rd P w t cs) : cs.length = P.cellsOf t ∧ ∀ i, i < m → Rd P w e ((cs.drop (i * k)).take k) := by
  obtain ⟨H, enc, n, x, h⟩ := h
  obtain ⟨xs, q, _, _, hl, hlen, hf⟩ := DataW.trod_array ht h
  refine ⟨hl, fun i hi => ?_⟩
  have h1 := hf i hi
  rw [hk, List.getElem?_eq_getElem (by omega : i < xs.length)] at h1
  exact ⟨H, enc, q, _, h1⟩
theorem Rd.dig (ht : P.underlying t = some (.array 32 e)) (he : P.underlying e = some (.int .u8)) (hc : P.cellsOf t = 32) (hk : P.cellsOf e = 1) (h : Rd P w t cs) : ∃ d : Dig, cs = dcells d := by
  obtain ⟨hl, hf⟩ := h.array ht hk
  refine dig_of (by omega) fun i c hi => ?_
  have hlt : i < cs.length := (List.getElem?_eq_some_iff.1 hi).1
  obtain ⟨n, e1, hn⟩ := (hf i (by omega)).int he
  have h3 : ((cs.drop (i * 1)).take 1)[0]? = some (.int .u8 n) := by rw [e1]; rfl
  rw [List.getElem?_take_of_lt (by omega), List.getElem?_drop, Nat.mul_one, Nat.add_zero, hi] at h3
  cases h3
  exact ⟨n, rfl, hn⟩
/-- a block that holds what is read -/
theorem cells_block {a : Addr} {n : Nat} (hn : 0 < n) (h : w.cells? 0 a n = some cs) : a.spot = none ∧ ∃ all T fr, whole w a.block = some (.cells ⟨all⟩ T fr) ∧ cut a.off n all = some cs := by
  obtain ⟨_, hl, hc⟩ := World.cells?_some h
  have c0 := hc 0 hn
  rw [List.getElem?_eq_getElem (by omega), show a.add 0 = a from rfl] at c0
  unfold World.cell? at c0
  split at c0
  · rename_i all T fr hb
    split at c0
    · cases c0
    · rename_i hs
      refine ⟨by simpa using hs, all.toList, T, fr, hb, ?_⟩
      have each : ∀ i, i < n → all[a.off + i]? = cs[i]? := by
        intro i hi
        have ci := hc i hi
        unfold World.cell? Addr.add at ci
        by_cases h0 : i = 0
        · subst h0; simpa [hb, hs] using ci
        · simpa [h0, hb] using ci
      have key : ∀ (cs : List Value) (n off : Nat), 0 < n → cs.length = n → (∀ i, i < n → all.toList[off + i]? = cs[i]?) → cut off n all.toList = some cs := by
        intro cs n off hn0 hl hx
        have hsz : 0 < n → off + n ≤ all.toList.length := by
          intro h0
          have := hx (n - 1) (by omega)
          rw [List.getElem?_eq_getElem (by omega : n - 1 < cs.length)] at this
          have := (List.getElem?_eq_some_iff.1 this).1
          omega
        have e1 : cs = (all.toList.drop off).take n := by
          apply List.ext_getElem?
          intro i
          rcases Nat.lt_or_ge i n with h1 | h1
          · rw [List.getElem?_take_of_lt h1, List.getElem?_drop, hx i h1]
          · rw [List.getElem?_eq_none (by omega), List.getElem?_eq_none (by simp; omega)]
        have h2 := hsz hn0
        have := cut_at (all.toList.take off) cs (all.toList.drop (off + n))
        rw [List.length_take, Nat.min_eq_left (by omega), hl] at this
        have e2 : all.toList = all.toList.take off ++ cs ++ all.toList.drop (off + n) := by
          rw [e1, List.append_assoc, show all.toList.drop (off + n) = (all.toList.drop off).drop n from by rw [List.drop_drop], List.take_append_drop, List.take_append_drop]
        rw [← e2] at this
        exact this
      exact key cs n a.off hn hl (fun i hi => by rw [Array.getElem?_toList]; exact each i hi)
  · cases c0
/-- a slice, its elements one by one -/
theorem Rd.rows {M : Type} (z : M) (c : M → List Value) (ok : M → Prop) {k : Nat} (ht : P.underlying t = some (.slice e)) (hk : P.cellsOf e = k) (hk0 : 0 < k) (hr : ∀ cs, Rd P w e cs → ∃ m, cs = c m ∧ ok m) (h : Rd P w t cs) :
    ∃ (a : Option Addr) (cap : Nat) (l : List M), cs = [.slice a l.length cap] ∧ (∀ m ∈ l, ok m) ∧ Sln (whole w) a l.length k (fun i => c (l.getD i z)) ∧ l.length ≤ maxLen := by
  obtain ⟨H, enc, n, x, h⟩ := h
  rcases open_slice ht h with ⟨rfl, _⟩ | ⟨a, len, cap, m, q, D, Pl, rfl, _, hle, hm, hmm, _, hx⟩
  · exact ⟨none, 0, [], rfl, by simp, fun i hi => absurd hi (Nat.not_lt_zero i), by simp⟩
  · have hlm : len ≤ m := by rw [hmm]; split <;> omega
    have each : ∀ i, i < len → ∃ y : M, (∃ cs', w.cells? 0 (a.add (i * k)) k = some cs' ∧ cs' = c y) ∧ ok y := by
      intro i hi
      obtain ⟨cs', h1, h2⟩ := hx i (by omega)
      rw [hk] at h1
      obtain ⟨y, e1, e2⟩ := hr cs' ⟨H, enc, q, _, h2⟩
      exact ⟨y, ⟨cs', h1, e1⟩, e2⟩
    haveI : Inhabited M := ⟨z⟩
    obtain ⟨f, hf⟩ := choose_lt each
    refine ⟨some a, cap, (List.range len).map f, by simp, ?_, ?_, by simp; omega⟩
    · intro y hy
      obtain ⟨i, hi, rfl⟩ := List.mem_map.1 hy
      exact (hf i (List.mem_range.1 hi)).2
    · intro i hi
      have hi : i < len := by simpa using hi
      obtain ⟨⟨cs0, g1, _⟩, _⟩ := hf 0 (by omega)
      obtain ⟨s0, _⟩ := cells_block hk0 g1
      have hs : a.spot = none := by simpa [Addr.add] using s0
      obtain ⟨⟨cs', h1, rfl⟩, _⟩ := hf i hi
      obtain ⟨_, all, T, fr, hb, hc⟩ := cells_block hk0 h1
      refine ⟨a.block, a.off, all, T, fr, ?_, ?_, ?_⟩
      · obtain ⟨b, o, s⟩ := a
        simp only at hs; subst hs; rfl
      · have : (a.add (i * k)).block = a.block := by unfold Addr.add; split <;> rfl
        rw [← this]; exact hb
      · have : (a.add (i * k)).off = a.off + i * k := by unfold Addr.add; split <;> simp_all
        rw [this] at hc
        rw [hc]
        simp [hi]
theorem Rd.ints (ht : P.underlying t = some (.slice e)) (he : P.underlying e = some (.int .i64)) (hk : P.cellsOf e = 1) (h : Rd P w t cs) :
    ∃ (a : Option Addr) (cap : Nat) (l : List Int), cs = [.slice a l.length cap] ∧ (∀ m ∈ l, Ri m) ∧ Sl1 (whole w) a l.length (fun i => .int .i64 (l.getD i 0)) ∧ l.length ≤ maxLen := by
  obtain ⟨a, cap, l, h1, h2, h3, h4⟩ := h.rows (0 : Int) (fun m => [.int .i64 m]) Ri ht hk (by decide) (fun cs hc => by
    obtain ⟨n, e1, e2⟩ := hc.i64 he
    exact ⟨n, e1, e2⟩)
  refine ⟨a, cap, l, h1, h2, fun i hi => ?_, h4⟩
  obtain ⟨b, off, all, T, fr, e1, e2, e3⟩ := h3 i hi
  refine ⟨b, off, all, T, fr, e1, e2, ?_⟩
  have := cut_get e3 (k := 0) (by decide)
  rw [Nat.add_zero] at this
  rw [this]; rfl
end
theorem okw_bool {P : Program} {w : World} {r : Reach} {base : Nat} {t : TypeId} {v : Value} (ht : P.underlying t = some .bool) (h : Value.okWide P w r base t v) : ∃ b, v = .bool b := by
  unfold Value.okWide at h
  rw [ht] at h
  exact cell_bool ht h
theorem okw_slice {P : Program} {w : World} {r : Reach} {base : Nat} {t e : TypeId} {v : Value} (ht : P.underlying t = some (.slice e)) (h : Value.okWide P w r base t v) : ∃ a n m, v = .slice a n m := by
  unfold Value.okWide at h
  rw [ht] at h
  simp only at h
  unfold Cell.okWide at h
  rw [ht] at h
  cases v <;> simp_all [Cell.ok]
theorem okw_cells {P : Program} {w : World} {r : Reach} {base : Nat} {t : TypeId} {v : Value} (hm : (match P.underlying t with | some (.struct _) | some (.array _ _) => true | _ => false) = true) (h : Value.okWide P w r base t v) : ∃ cs : List Value, v = .agg ⟨cs⟩ := by
  unfold Value.okWide at h
  split at h
  · obtain ⟨⟨cs⟩, rfl, _⟩ := h; exact ⟨cs, rfl⟩
  · obtain ⟨⟨cs⟩, rfl, _⟩ := h; exact ⟨cs, rfl⟩
  · rename_i h1 h2
    split at hm
    · exact absurd ‹_› (h1 _)
    · exact absurd ‹_› (h2 _ _)
    · cases hm
/-- the arguments of a row, each as it reads -/
def RdAll (P : Program) (w : World) : List TypeId → List Value → Prop
  | t :: ts, v :: vs => Rd P w t v.cells.toList ∧ RdAll P w ts vs
  | _, _ => True
theorem rdAll_of {H : Type} {enc : TypeId × Value → H} {P : Program} {w : World} : ∀ {ts : List TypeId} {vs : List Value} {ds : List (DataW H)} {ps : List MemPlace}, DataW.TrodAll enc P w 0 (fun _ => true) true ts vs ds ps → RdAll P w ts vs
  | [], [], [], _, _ => trivial
  | _ :: _, _ :: _, _ :: _, _, ⟨_, _, ⟨n, h1⟩, h2, _⟩ => ⟨⟨H, enc, n, _, h1⟩, rdAll_of h2⟩
/-- no function of the program goes off the road, so no call does -/
theorem goes_none {P : Program} (h : P.funcs.any Func.goes = false) (f : FuncId) : P.goes f = false := by
  have hz : ∀ g : Nat, (P.funcs[g]?).any Func.goes = false := by
    intro g
    cases hg : P.funcs[g]? with
    | none => rfl
    | some fn =>
      have hm : fn ∈ P.funcs := Array.mem_of_getElem? hg
      rw [Array.any_eq_false'] at h
      simpa using h fn hm
  unfold Program.goes
  rw [h, Bool.and_false, Bool.or_false, List.any_eq_false]
  intro g _
  rw [hz g]
  decide
theorem goesBy_none {P : Program} (h : P.funcs.any Func.goes = false) {c : OpenClaim} (hs : c.start = .entering) : false = c.goesBy P := by
  unfold OpenClaim.goesBy Program.goesAt Program.goesFrom
  rw [hs]
  cases P.funcNamed c.func with
  | none => rfl
  | some f => simp [goes_none h f]
end Go.Proofs.Ch
