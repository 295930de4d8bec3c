/- The operations that only compute and read: what each comes to. No program is named here. -/
import Derived.Test.YtglmkcfmcoianaaGreatDoorA
import Derived.Laws.Sem
namespace Go.Proofs.Ch
open Go

/-- The operation comes to v, whatever else is so, and leaves the world as it was. -/
def OpV (P : Program) (op : Op) (e : Env) (h : Heap) (L : Owned) (v : Value) : Prop :=
  ∀ (ρ : Operand → Value) (w : World) (o : Oper), (∀ x u, ev e x = some u → ρ x = u) → St h L w → o.op = op → (execOp ρ o).run P w = .ok (.value v) w

section
variable {C : Cx} {e : Env} {ds : List Deferred} {h : Heap} {L : Owned} {ops : Array Oper} {l : List Oper} {Q : Pst}

theorem not_defer {P : Program} {ρ : Operand → Value} {o : Oper} {w : World} {v : Value} {w' : World} (hr : (execOp ρ o).run P w = .ok (.value v) w') : ∀ c, o.op ≠ .defer c := by
  intro c hc
  unfold execOp at hr
  rw [hc] at hr
  simp only [Sem.run_bind] at hr
  cases hx : (resolve ρ c o.type).run P w with
  | ok d w1 => rw [hx] at hr; simp at hr
  | halt x w1 => rw [hx] at hr; simp at hr

theorem op1_v {o : Oper} {v : Value} (hv : OpV C.P o.op e h L v) : Op1 C o e h L (fun v' h' L' => v' = v ∧ h' = h ∧ L' = L) := by
  intro ds a w next Q he hs H
  refine ⟨fun _ _ => trivial, ?_⟩
  have hr := hv a.eval w o (fun x u hx => he.eval hx) hs rfl
  rw [Oper.semAt_eq _ _ _ (not_defer hr), hr]
  exact H v h L w ⟨rfl, rfl, rfl⟩ hs

theorem WL_v {d : Option Tmp} {op : Op} {ty : TypeId} {pos : String} {af : Array Edge} {v : Value} (hv : OpV C.P op e h L v) (hd : dstOk d C.n = true)
    (H : WL C ops l Q (put d v e) ds h L) : WL C ops (⟨d, op, ty, pos, af, none⟩ :: l) Q e ds h L :=
  WL_op (op1_v hv) rfl hd (by rintro v' h' L' ⟨rfl, rfl, rfl⟩; exact H)

theorem WL_vg {d : Option Tmp} {op : Op} {ty : TypeId} {pos : String} {af : Array Edge} {v : Value} {j t : Nat} {b : Bool} (hj : guardTmp ops j = some t) (hl : look e t = some (.bool b)) (hv : OpV C.P op e h L v) (hd : dstOk d C.n = true)
    (H : WL C ops l Q (put d v e) ds h L) : WL C ops (⟨d, op, ty, pos, af, some (j, b)⟩ :: l) Q e ds h L :=
  WL_opg (op1_v hv) rfl hj hl hd (by rintro v' h' L' ⟨rfl, rfl, rfl⟩; exact H)
end

/-! facts on types, told once for a program -/
def One (P : Program) (t : TypeId) : Prop := ∀ w, (isAgg t).run P w = .ok false w
def Many (P : Program) (t : TypeId) (n : Nat) : Prop := ∀ w, (isAgg t).run P w = .ok true w ∧ (sizeOf t).run P w = .ok n w
def Und (P : Program) (t : TypeId) (d : TypeDesc) : Prop := P.underlying t = some d
def Siz (P : Program) (t : TypeId) (n : Nat) : Prop := (P.info? t).map (·.size) = some n
def Byt (P : Program) (t : TypeId) (n : Nat) : Prop := (P.info? t).map (·.bytes) = some n
def Zer (P : Program) (t : TypeId) (v : Value) : Prop := (P.info? t).map (·.zero) = some (some v)

theorem Und.run {P t d} (hu : Und P t d) (w : World) : (underlying t).run P w = .ok d w := by
  simp [underlying, show P.underlying t = some d from hu]
theorem Siz.run {P t n} (hs : Siz P t n) (w : World) : (sizeOf t).run P w = .ok n w := by
  unfold Siz at hs
  cases hi : P.info? t with
  | none => simp [hi] at hs
  | some i => simp [hi] at hs; simp [sizeOf, typeInfo, hi, hs]
theorem Byt.run {P t n} (hs : Byt P t n) (w : World) : ∃ i, (typeInfo t).run P w = .ok i w ∧ i.bytes = n := by
  unfold Byt at hs
  cases hi : P.info? t with
  | none => simp [hi] at hs
  | some i => simp [hi] at hs; exact ⟨i, by simp [typeInfo, hi], hs⟩
theorem Zer.run {P t v} (hs : Zer P t v) (w : World) : (zeroValue t).run P w = .ok v w := by
  unfold Zer at hs
  cases hi : P.info? t with
  | none => simp [hi] at hs
  | some i => simp [hi] at hs; simp [zeroValue, typeInfo, hi, hs]
theorem One.of {P t d} (hu : Und P t d) (h1 : (match d with | .struct _ | .array .. => true | _ => false) = false) : One P t := by
  intro w
  cases d <;> simp_all [isAgg, hu.run]
theorem Many.of {P t d n} (hu : Und P t d) (h1 : (match d with | .struct _ | .array .. => true | _ => false) = true) (hs : Siz P t n) : Many P t n := by
  intro w
  cases d <;> simp_all [isAgg, hu.run, hs.run]

section
variable {P : Program} {e : Env} {h : Heap} {L : Owned}

theorem v_move {x : Operand} {v : Value} (hx : ev e x = some v) : OpV P (.move x) e h L v := by
  intro ρ w o hρ _ ho; unfold execOp; rw [ho]; simp [hρ _ _ hx]
theorem v_assign {x : Operand} {v : Value} (hx : ev e x = some v) : OpV P (.assign x) e h L v := by
  intro ρ w o hρ _ ho; unfold execOp; rw [ho]; simp [hρ _ _ hx]
theorem v_pickt {c a b : Operand} {v : Value} (hc : ev e c = some (.bool true)) (ha : ev e a = some v) : OpV P (.pick c a b) e h L v := by
  intro ρ w o hρ _ ho; unfold execOp; rw [ho]; simp [hρ _ _ hc, hρ _ _ ha, asBool]
theorem v_pickf {c a b : Operand} {v : Value} (hc : ev e c = some (.bool false)) (hb : ev e b = some v) : OpV P (.pick c a b) e h L v := by
  intro ρ w o hρ _ ho; unfold execOp; rw [ho]; simp [hρ _ _ hc, hρ _ _ hb, asBool]
theorem v_pick {c a b : Operand} {t : Bool} {u v : Value} (hc : ev e c = some (.bool t)) (ha : ev e a = some u) (hb : ev e b = some v) : OpV P (.pick c a b) e h L (bif t then u else v) := by
  intro ρ w o hρ _ ho; unfold execOp; rw [ho]; cases t <;> simp [hρ _ _ hc, hρ _ _ hb, hρ _ _ ha, asBool]

/-! integers -/
theorem v_add {k : IntKind} {xt yt : TypeId} {x y : Operand} {m n z : Int} (hx : ev e x = some (.int k m)) (hy : ev e y = some (.int k n)) (hz : k.wrap (m + n) = z) : OpV P (.binOp .add xt x y yt) e h L (.int k z) := by
  intro ρ w o hρ _ ho; unfold execOp; rw [ho]; simp [hρ _ _ hx, hρ _ _ hy, eqGuard, binOp, Op.intArith, hz]
theorem v_sub {k : IntKind} {xt yt : TypeId} {x y : Operand} {m n z : Int} (hx : ev e x = some (.int k m)) (hy : ev e y = some (.int k n)) (hz : k.wrap (m - n) = z) : OpV P (.binOp .sub xt x y yt) e h L (.int k z) := by
  intro ρ w o hρ _ ho; unfold execOp; rw [ho]; simp [hρ _ _ hx, hρ _ _ hy, eqGuard, binOp, Op.intArith, hz]
theorem v_mul {k : IntKind} {xt yt : TypeId} {x y : Operand} {m n z : Int} (hx : ev e x = some (.int k m)) (hy : ev e y = some (.int k n)) (hz : k.wrap (m * n) = z) : OpV P (.binOp .mul xt x y yt) e h L (.int k z) := by
  intro ρ w o hρ _ ho; unfold execOp; rw [ho]; simp [hρ _ _ hx, hρ _ _ hy, eqGuard, binOp, Op.intArith, hz]
theorem v_quo {k : IntKind} {xt yt : TypeId} {x y : Operand} {m n z : Int} (hx : ev e x = some (.int k m)) (hy : ev e y = some (.int k n)) (h0 : n ≠ 0) (hz : k.wrap (m.tdiv n) = z) : OpV P (.binOp .quo xt x y yt) e h L (.int k z) := by
  intro ρ w o hρ _ ho; unfold execOp; rw [ho]; simp [hρ _ _ hx, hρ _ _ hy, eqGuard, binOp, Op.intDiv, h0, hz]
theorem v_rem {k : IntKind} {xt yt : TypeId} {x y : Operand} {m n z : Int} (hx : ev e x = some (.int k m)) (hy : ev e y = some (.int k n)) (h0 : n ≠ 0) (hz : m.tmod n = z) : OpV P (.binOp .rem xt x y yt) e h L (.int k z) := by
  intro ρ w o hρ _ ho; unfold execOp; rw [ho]; simp [hρ _ _ hx, hρ _ _ hy, eqGuard, binOp, Op.intDiv, h0, hz]
theorem v_and {k : IntKind} {xt yt : TypeId} {x y : Operand} {m n z : Int} (hx : ev e x = some (.int k m)) (hy : ev e y = some (.int k n)) (hz : k.wrap (BitVec.ofInt k.bits m &&& BitVec.ofInt k.bits n).toNat = z) : OpV P (.binOp .and xt x y yt) e h L (.int k z) := by
  intro ρ w o hρ _ ho; unfold execOp; rw [ho]; simp only [hρ _ _ hx, hρ _ _ hy, eqGuard, binOp, Op.intBits]; simp [← hz]
theorem v_or {k : IntKind} {xt yt : TypeId} {x y : Operand} {m n z : Int} (hx : ev e x = some (.int k m)) (hy : ev e y = some (.int k n)) (hz : k.wrap (BitVec.ofInt k.bits m ||| BitVec.ofInt k.bits n).toNat = z) : OpV P (.binOp .or xt x y yt) e h L (.int k z) := by
  intro ρ w o hρ _ ho; unfold execOp; rw [ho]; simp only [hρ _ _ hx, hρ _ _ hy, eqGuard, binOp, Op.intBits]; simp [← hz]
theorem v_xor {k : IntKind} {xt yt : TypeId} {x y : Operand} {m n z : Int} (hx : ev e x = some (.int k m)) (hy : ev e y = some (.int k n)) (hz : k.wrap (BitVec.ofInt k.bits m ^^^ BitVec.ofInt k.bits n).toNat = z) : OpV P (.binOp .xor xt x y yt) e h L (.int k z) := by
  intro ρ w o hρ _ ho; unfold execOp; rw [ho]; simp only [hρ _ _ hx, hρ _ _ hy, eqGuard, binOp, Op.intBits]; simp [← hz]
theorem v_shl {k yk : IntKind} {xt yt : TypeId} {x y : Operand} {m n z : Int} (hx : ev e x = some (.int k m)) (hy : ev e y = some (.int yk n)) (h0 : 0 ≤ n) (hz : k.wrap (m * 2 ^ (min n.toNat k.bits)) = z) : OpV P (.binOp .shl xt x y yt) e h L (.int k z) := by
  intro ρ w o hρ _ ho; unfold execOp; rw [ho]; simp [hρ _ _ hx, hρ _ _ hy, eqGuard, binOp, Op.shift, Int.not_lt.2 h0, hz]
theorem v_shr {k yk : IntKind} {xt yt : TypeId} {x y : Operand} {m n z : Int} (hx : ev e x = some (.int k m)) (hy : ev e y = some (.int yk n)) (h0 : 0 ≤ n) (hz : m.fdiv (2 ^ (min n.toNat k.bits)) = z) : OpV P (.binOp .shr xt x y yt) e h L (.int k z) := by
  intro ρ w o hρ _ ho; unfold execOp; rw [ho]; simp [hρ _ _ hx, hρ _ _ hy, eqGuard, binOp, Op.shift, Int.not_lt.2 h0, hz]
theorem v_lss {k : IntKind} {xt yt : TypeId} {x y : Operand} {m n : Int} (hx : ev e x = some (.int k m)) (hy : ev e y = some (.int k n)) : OpV P (.binOp .lss xt x y yt) e h L (.bool (decide (m < n))) := by
  intro ρ w o hρ _ ho; unfold execOp; rw [ho]; simp [hρ _ _ hx, hρ _ _ hy, eqGuard, binOp, Op.intCmp]
theorem v_leq {k : IntKind} {xt yt : TypeId} {x y : Operand} {m n : Int} (hx : ev e x = some (.int k m)) (hy : ev e y = some (.int k n)) : OpV P (.binOp .leq xt x y yt) e h L (.bool (decide (m ≤ n))) := by
  intro ρ w o hρ _ ho; unfold execOp; rw [ho]; simp [hρ _ _ hx, hρ _ _ hy, eqGuard, binOp, Op.intCmp]
theorem v_gtr {k : IntKind} {xt yt : TypeId} {x y : Operand} {m n : Int} (hx : ev e x = some (.int k m)) (hy : ev e y = some (.int k n)) : OpV P (.binOp .gtr xt x y yt) e h L (.bool (decide (n < m))) := by
  intro ρ w o hρ _ ho; unfold execOp; rw [ho]; simp [hρ _ _ hx, hρ _ _ hy, eqGuard, binOp, Op.intCmp]
theorem v_geq {k : IntKind} {xt yt : TypeId} {x y : Operand} {m n : Int} (hx : ev e x = some (.int k m)) (hy : ev e y = some (.int k n)) : OpV P (.binOp .geq xt x y yt) e h L (.bool (decide (n ≤ m))) := by
  intro ρ w o hρ _ ho; unfold execOp; rw [ho]; simp [hρ _ _ hx, hρ _ _ hy, eqGuard, binOp, Op.intCmp]
theorem v_eql {k : IntKind} {xt yt : TypeId} {x y : Operand} {m n : Int} (hx : ev e x = some (.int k m)) (hy : ev e y = some (.int k n)) : OpV P (.binOp .eql xt x y yt) e h L (.bool (decide (m = n))) := by
  intro ρ w o hρ _ ho; unfold execOp; rw [ho]; simp [hρ _ _ hx, hρ _ _ hy, eqGuard, binOp, Op.intCmp]; rfl
theorem v_neq {k : IntKind} {xt yt : TypeId} {x y : Operand} {m n : Int} (hx : ev e x = some (.int k m)) (hy : ev e y = some (.int k n)) : OpV P (.binOp .neq xt x y yt) e h L (.bool (decide (m ≠ n))) := by
  intro ρ w o hρ _ ho; unfold execOp; rw [ho]; simp [hρ _ _ hx, hρ _ _ hy, eqGuard, binOp, Op.intCmp]; rfl
theorem v_not {t : TypeId} {x : Operand} {b : Bool} (hx : ev e x = some (.bool b)) : OpV P (.unOp .not t x) e h L (.bool (!b)) := by
  intro ρ w o hρ _ ho; unfold execOp; rw [ho]; simp [hρ _ _ hx, Op.unary]
theorem v_notd {t : TypeId} {x : Operand} {p : Prop} [Decidable p] (hx : ev e x = some (.bool (decide p))) : OpV P (.unOp .not t x) e h L (.bool (decide (¬p))) := by
  have := v_not (P := P) (h := h) (L := L) (t := t) hx; simpa using this
theorem v_neg {k : IntKind} {t : TypeId} {x : Operand} {m z : Int} (hx : ev e x = some (.int k m)) (hz : k.wrap (0 - m) = z) : OpV P (.unOp .neg t x) e h L (.int k z) := by
  intro ρ w o hρ _ ho; unfold execOp; rw [ho]; simp only [hρ _ _ hx, Op.unary, Op.intArith]; simp [← hz]
theorem v_conv {s d : TypeId} {k k' : IntKind} {x : Operand} {m z : Int} {du : TypeDesc} (hu : Und P s du) (hu' : Und P d (.int k')) (hx : ev e x = some (.int k m)) (hz : k'.wrap m = z) : OpV P (.convert s d x) e h L (.int k' z) := by
  intro ρ w o hρ _ ho; unfold execOp; rw [ho]; cases du <;> simp [hρ _ _ hx, convert, hu.run, hu'.run, Conv.intToInt, hz]

/-! strings -/
theorem v_seql {xt yt : TypeId} {x y : Operand} {a b : ByteArray} (hx : ev e x = some (.string a)) (hy : ev e y = some (.string b)) : OpV P (.binOp .eql xt x y yt) e h L (.bool (a.toList == b.toList)) := by
  intro ρ w o hρ _ ho; unfold execOp; rw [ho]; simp [hρ _ _ hx, hρ _ _ hy, eqGuard, binOp, Op.stringOp]
theorem v_sneq {xt yt : TypeId} {x y : Operand} {a b : ByteArray} (hx : ev e x = some (.string a)) (hy : ev e y = some (.string b)) : OpV P (.binOp .neq xt x y yt) e h L (.bool (!(a.toList == b.toList))) := by
  intro ρ w o hρ _ ho; unfold execOp; rw [ho]; simp [hρ _ _ hx, hρ _ _ hy, eqGuard, binOp, Op.stringOp]

/-! parts -/
theorem v_extract {x : Operand} {i : Nat} {vs : List Value} {v : Value} (hx : ev e x = some (.tuple ⟨vs⟩)) (hi : vs[i]? = some v) : OpV P (.extract x i) e h L v := by
  intro ρ w o hρ _ ho; unfold execOp; rw [ho]; simp [hρ _ _ hx, Instr.extract, hi]

theorem v_func {fn : Fn} {first cap : Array Operand} {f' c' : List Value} (hf : evs e first.toList = some f') (hc : evs e cap.toList = some c') : OpV P (.makeFunc fn first cap) e h L (.func fn ⟨f'⟩ ⟨c'⟩) := by
  intro ρ w o hρ _ ho
  have key : ∀ (xs : List Operand) vs, evs e xs = some vs → xs.map ρ = vs := by
    intro xs
    induction xs with
    | nil => intro vs hx; simp [evs] at hx; simp [hx]
    | cons x xs ih =>
      intro vs hx
      simp only [evs] at hx
      split at hx
      · rename_i v vs' h1 h2; cases hx; simp [hρ _ _ h1, ih _ h2]
      · cases hx
  have h1 : first.map ρ = ⟨f'⟩ := by rw [← key _ _ hf]; simp [← Array.toList_inj]
  have h2 : cap.map ρ = ⟨c'⟩ := by rw [← key _ _ hc]; simp [← Array.toList_inj]
  unfold execOp; rw [ho]; simp [h1, h2, Instr.makeFunc]

theorem v_iface {t : TypeId} {x : Operand} {v : Value} {d : TypeDesc} (hu : Und P t d) (hd : (match d with | .interface _ => true | _ => false) = false) (hx : ev e x = some v) : OpV P (.makeInterface t x) e h L (.iface t v) := by
  intro ρ w o hρ _ ho; unfold execOp; rw [ho]; cases d <;> simp_all [hρ _ _ hx, Instr.makeInterface, hu.run]

theorem v_nilfunc {x : Operand} {f : FuncId} {a b : Array Value} (hx : ev e x = some (.func (.func f) a b)) : OpV P (.nilCheck x) e h L (.func (.func f) a b) := by
  intro ρ w o hρ _ ho; unfold execOp; rw [ho]; simp [hρ _ _ hx]
theorem v_nilyield {x : Operand} {f : Nat} {a b : Array Value} (hx : ev e x = some (.func (.yield f) a b)) : OpV P (.nilCheck x) e h L (.func (.yield f) a b) := by
  intro ρ w o hρ _ ho; unfold execOp; rw [ho]; simp [hρ _ _ hx]
theorem v_nilptr {x : Operand} {p : Addr} (hx : ev e x = some (.pointer (some p))) : OpV P (.nilCheck x) e h L (.pointer (some p)) := by
  intro ρ w o hρ _ ho; unfold execOp; rw [ho]; simp [hρ _ _ hx]

/-- a part of a row of cells: all of it is laid bare where this reads 'some' -/
def cut : Nat → Nat → List Value → Option (List Value)
  | 0, 0, _ => some []
  | 0, n + 1, v :: l => match cut 0 n l with
    | some r => some (v :: r)
    | none => none
  | 0, _ + 1, [] => none
  | i + 1, n, _ :: l => cut i n l
  | _ + 1, 0, [] => some []
  | _ + 1, _ + 1, [] => none

theorem cut_spec : ∀ {i n : Nat} {l r : List Value}, cut i n l = some r → (l.drop i).take n = r ∧ r.length = n
  | 0, 0, l, r, hr => by cases l <;> simp [cut] at hr <;> simp [← hr]
  | 0, n + 1, v :: l, r, hr => by
    simp only [cut] at hr
    split at hr
    · rename_i r' h1
      cases hr
      have := cut_spec h1
      simp at this
      simp [this.1, this.2]
    · cases hr
  | 0, n + 1, [], r, hr => by simp [cut] at hr
  | i + 1, n, v :: l, r, hr => by simp only [cut] at hr; simpa using cut_spec hr
  | i + 1, 0, [], r, hr => by simp [cut] at hr; simp [← hr]
  | i + 1, n + 1, [], r, hr => by simp [cut] at hr

theorem part_one {t : TypeId} (h1 : One P t) {cs : List Value} {off : Nat} {v : Value} (hv : cs[off]? = some v) (w : World) : (part t ⟨cs⟩ off).run P w = .ok v w := by
  simp [part, h1 w, hv]
theorem part_many {t : TypeId} {n : Nat} (h1 : Many P t n) {cs r : List Value} {off : Nat} (hv : cut off n cs = some r) (w : World) : (part t ⟨cs⟩ off).run P w = .ok (.agg ⟨r⟩) w := by
  simp [part, (h1 w).1, (h1 w).2, ← (cut_spec hv).1]

theorem v_field1 {t : TypeId} {fs : Array Field} {f : Field} {x : Operand} {i : Nat} {cs : List Value} {v : Value} (hu : Und P t (.struct fs)) (hf : fs[i]? = some f) (h1 : One P f.type) (hx : ev e x = some (.agg ⟨cs⟩)) (hv : cs[f.offset]? = some v) : OpV P (.field t x i) e h L v := by
  intro ρ w o hρ _ ho; unfold execOp; rw [ho]; simp [hρ _ _ hx, Instr.field, hu.run, hf, asAgg, part_one h1 hv]
theorem v_fieldn {t : TypeId} {fs : Array Field} {f : Field} {x : Operand} {i n : Nat} {cs r : List Value} (hu : Und P t (.struct fs)) (hf : fs[i]? = some f) (h1 : Many P f.type n) (hx : ev e x = some (.agg ⟨cs⟩)) (hv : cut f.offset n cs = some r) : OpV P (.field t x i) e h L (.agg ⟨r⟩) := by
  intro ρ w o hρ _ ho; unfold execOp; rw [ho]; simp [hρ _ _ hx, Instr.field, hu.run, hf, asAgg, part_many h1 hv]

theorem v_index1 {t et : TypeId} {len size : Nat} {x y : Operand} {k : IntKind} {i : Int} {cs : List Value} {v : Value} (hu : Und P t (.array len et)) (hs : Siz P et size) (h1 : One P et) (hx : ev e x = some (.agg ⟨cs⟩)) (hy : ev e y = some (.int k i)) (h0 : 0 ≤ i) (hl : i < len) (hv : cs[i.toNat * size]? = some v) : OpV P (.index t x y) e h L v := by
  intro ρ w o hρ _ ho; unfold execOp; rw [ho]; simp [hρ _ _ hx, hρ _ _ hy, Instr.index, asIntOf, hu.run, hs.run, h0, hl, part_one h1 hv]

theorem add_none (b off n : Nat) : (⟨b, off, none⟩ : Addr).add n = ⟨b, off + n, none⟩ := by
  unfold Addr.add; split <;> simp_all

/-- where a field of a struct in memory lies -/
theorem v_faddr {t : TypeId} {fs : Array Field} {f : Field} {x : Operand} {i b off sz : Nat} (hu : Und P t (.struct fs)) (hf : fs[i]? = some f) (hz : Siz P f.type (sz + 1)) (hx : ev e x = some (.pointer (some ⟨b, off, none⟩))) : OpV P (.fieldAddr t x i) e h L (.pointer (some ⟨b, off + f.offset, none⟩)) := by
  intro ρ w o hρ _ ho; unfold execOp; rw [ho]
  simp [hρ _ _ hx, Instr.fieldAt, hu.run, hf, Instr.sureAddr, fieldPlace, hz.run, add_none]

/-- where an element of a slice lies -/
theorem v_iaddrs {t et : TypeId} {x y : Operand} {k : IntKind} {i : Int} {b off len cap size n : Nat} (hu : Und P t (.slice et)) (hs : Siz P et size) (hx : ev e x = some (.slice (some ⟨b, off, none⟩) len cap)) (hy : ev e y = some (.int k i)) (hn : i = (n : Int)) (hl : n < len) : OpV P (.indexAddr t x y) e h L (.pointer (some ⟨b, off + n * size, none⟩)) := by
  subst hn
  intro ρ w o hρ _ ho; unfold execOp; rw [ho]
  simp [hρ _ _ hx, hρ _ _ hy, Instr.indexAt, asIntOf, hu.run, hs.run, hl, add_none]
/-- where an element of an array in memory lies -/
theorem v_iaddra {t et : TypeId} {x y : Operand} {k : IntKind} {i : Int} {b off len size n : Nat} (hu : Und P t (.array len et)) (hs : Siz P et size) (hx : ev e x = some (.pointer (some ⟨b, off, none⟩))) (hy : ev e y = some (.int k i)) (hn : i = (n : Int)) (hl : n < len) : OpV P (.indexAddr t x y) e h L (.pointer (some ⟨b, off + n * size, none⟩)) := by
  subst hn
  intro ρ w o hρ _ ho; unfold execOp; rw [ho]
  simp [hρ _ _ hx, hρ _ _ hy, Instr.indexAt, asIntOf, hu.run, hs.run, hl, add_none, Instr.sureAddr]

/-- what is known of a block -/
def Kn (h : Heap) (L : Owned) (b : Nat) (o : Obj) : Prop := h b = some o ∨ (b, o) ∈ L
theorem Kn.own {L : Owned} {b : Nat} {o : Obj} (i : Nat) (hi : L[i]? = some (b, o)) : Kn h L b o := .inr (List.mem_of_getElem? hi)
theorem Kn.per {b : Nat} {o : Obj} (hb : h b = some o) : Kn h L b o := .inl hb
theorem St.kn {h : Heap} {L : Owned} {w : World} (s : St h L w) {b : Nat} {o : Obj} (hk : Kn h L b o) : w.heap[b]? = some o := by
  rcases hk with hk | hk
  · exact s.per b o hk
  · exact s.own _ hk

theorem run_load_at {w : World} {b off : Nat} {cs : List Value} {T : TypeId} {fr : Nat × Nat} {v : Value} (hb : w.heap[b]? = some (.cells ⟨cs⟩ T fr)) (hv : cs[off]? = some v) : (load ⟨b, off, none⟩).run P w = .ok v w := by
  simp [World.cell?, hb, hv]

theorem run_loadCellsFrom {w : World} {b : Nat} {cs : List Value} {T : TypeId} {fr : Nat × Nat} (hb : w.heap[b]? = some (.cells ⟨cs⟩ T fr)) : ∀ (n i off : Nat) (acc : Array Value) (r : List Value), cut (off + i) n cs = some r → (loadCellsFrom ⟨b, off, none⟩ i n acc).run P w = .ok (acc ++ ⟨r⟩) w := by
  intro n
  induction n with
  | zero =>
    intro i off acc r hr
    have := (cut_spec hr).1
    simp at this
    subst this
    simp [loadCellsFrom]
  | succ n ih =>
    intro i off acc r hr
    have hs := cut_spec hr
    obtain ⟨v, r', rfl⟩ : ∃ v r', r = v :: r' := by
      cases r with
      | nil => simp at hs
      | cons v r' => exact ⟨v, r', rfl⟩
    have h1 : cs[off + i]? = some v := by
      have := congrArg List.head? hs.1
      simp [List.head?_take, List.head?_drop] at this
      exact this
    have h2 : cut (off + (i + 1)) n cs = some r' := by
      have hc : ∀ (i n : Nat) (l : List Value) (v : Value) (r : List Value), cut i (n + 1) l = some (v :: r) → cut (i + 1) n l = some r := by
        intro i
        induction i with
        | zero =>
          intro n l v r hh
          cases l with
          | nil => simp [cut] at hh
          | cons a l =>
            simp only [cut] at hh ⊢
            split at hh
            · rename_i r1 h3; cases hh; exact h3
            · cases hh
        | succ i ihh =>
          intro n l v r hh
          cases l with
          | nil => simp [cut] at hh
          | cons a l => simp only [cut] at hh ⊢; exact ihh n l v r hh
      exact hc _ _ _ _ _ hr
    simp only [loadCellsFrom, Sem.run_bind, add_none]
    rw [run_load_at hb h1]
    simp only [Result.andThen_ok]
    rw [ih (i + 1) off _ r' h2]
    simp

theorem run_loadCells {w : World} {b off n : Nat} {cs r : List Value} {T : TypeId} {fr : Nat × Nat} (hb : w.heap[b]? = some (.cells ⟨cs⟩ T fr)) (hv : cut off n cs = some r) : (loadCells ⟨b, off, none⟩ n).run P w = .ok ⟨r⟩ w := by
  have := run_loadCellsFrom (P := P) hb n 0 off #[] r hv
  simpa [loadCells] using this

theorem v_load1 {t T : TypeId} {x : Operand} {b off : Nat} {cs : List Value} {fr : Nat × Nat} {v : Value} (h1 : One P t) (hx : ev e x = some (.pointer (some ⟨b, off, none⟩))) (hk : Kn h L b (.cells ⟨cs⟩ T fr)) (hv : cs[off]? = some v) : OpV P (.load t x) e h L v := by
  intro ρ w o hρ hs ho; unfold execOp; rw [ho]
  have := run_load_at (P := P) (hs.kn hk) hv
  simp only [hρ _ _ hx, Instr.loadAt, Instr.sureAddr, loadVar, Sem.run_bind, Sem.run_pure, Result.andThen_ok, h1 w, Bool.false_eq_true, if_false, this]
theorem v_loadn {t T : TypeId} {x : Operand} {b off n : Nat} {cs r : List Value} {fr : Nat × Nat} (h1 : Many P t n) (hx : ev e x = some (.pointer (some ⟨b, off, none⟩))) (hk : Kn h L b (.cells ⟨cs⟩ T fr)) (hv : cut off n cs = some r) : OpV P (.load t x) e h L (.agg ⟨r⟩) := by
  intro ρ w o hρ hs ho; unfold execOp; rw [ho]
  have := run_loadCells (P := P) (hs.kn hk) hv
  simp only [hρ _ _ hx, Instr.loadAt, Instr.sureAddr, loadVar, Sem.run_bind, Sem.run_pure, Result.andThen_ok, (h1 w).1, (h1 w).2, if_true, this]

/-! built-in functions that only read -/
theorem v_lens {t : TypeId} {x : Operand} {a : Option Addr} {n cap : Nat} {et : TypeId} (hu : Und P t (.slice et)) (hx : ev e x = some (.slice a n cap)) : OpV P (.call ⟨.builtin .len, #[x], #[t]⟩) e h L (.int .i64 n) := by
  intro ρ w o hρ _ ho; unfold execOp; rw [ho]
  simp [hρ _ _ hx, resolve, invoke, builtin, Builtin.len_, hu.run, goInt]
theorem v_lenstr {t : TypeId} {x : Operand} {s : ByteArray} (hu : Und P t .string) (hx : ev e x = some (.string s)) : OpV P (.call ⟨.builtin .len, #[x], #[t]⟩) e h L (.int .i64 s.size) := by
  intro ρ w o hρ _ ho; unfold execOp; rw [ho]
  simp [hρ _ _ hx, resolve, invoke, builtin, Builtin.len_, hu.run, goInt]
theorem v_lenarr {t et : TypeId} {n : Nat} {x : Operand} {v : Value} (hu : Und P t (.array n et)) (hx : ev e x = some v) : OpV P (.call ⟨.builtin .len, #[x], #[t]⟩) e h L (.int .i64 n) := by
  intro ρ w o hρ _ ho; unfold execOp; rw [ho]
  simp [hρ _ _ hx, resolve, invoke, builtin, Builtin.len_, hu.run, goInt]
theorem v_lenmap {t kt et : TypeId} {x : Operand} {b : Nat} {es : Array MapEntry} {ck : Nat} (hu : Und P t (.map kt et)) (hx : ev e x = some (.map (some b))) (hk : Kn h L b (.map es ck)) : OpV P (.call ⟨.builtin .len, #[x], #[t]⟩) e h L (.int .i64 es.size) := by
  intro ρ w o hρ hs ho; unfold execOp; rw [ho]
  have := hs.kn hk
  simp [hρ _ _ hx, resolve, invoke, builtin, Builtin.len_, hu.run, goInt, getObj, Sem.run, this]
theorem v_lenmapn {t kt et : TypeId} {x : Operand} (hu : Und P t (.map kt et)) (hx : ev e x = some (.map none)) : OpV P (.call ⟨.builtin .len, #[x], #[t]⟩) e h L (.int .i64 0) := by
  intro ρ w o hρ _ ho; unfold execOp; rw [ho]
  simp [hρ _ _ hx, resolve, invoke, builtin, Builtin.len_, hu.run, goInt]
theorem v_cap {t : TypeId} {x : Operand} {a : Option Addr} {n cap : Nat} {et : TypeId} (hu : Und P t (.slice et)) (hx : ev e x = some (.slice a n cap)) : OpV P (.call ⟨.builtin .cap, #[x], #[t]⟩) e h L (.int .i64 cap) := by
  intro ρ w o hρ _ ho; unfold execOp; rw [ho]
  simp [hρ _ _ hx, resolve, invoke, builtin, Builtin.cap_, hu.run, goInt]
theorem v_max2 {ts : Array TypeId} {x y : Operand} {k k' : IntKind} {m n : Int} (hx : ev e x = some (.int k m)) (hy : ev e y = some (.int k' n)) : OpV P (.call ⟨.builtin .max, #[x, y], ts⟩) e h L (.int k (if n > m then n else m)) := by
  intro ρ w o hρ _ ho; unfold execOp; rw [ho]
  simp [hρ _ _ hx, hρ _ _ hy, resolve, invoke, builtin, Builtin.max_, Builtin.max2]
theorem v_min2 {ts : Array TypeId} {x y : Operand} {k k' : IntKind} {m n : Int} (hx : ev e x = some (.int k m)) (hy : ev e y = some (.int k' n)) : OpV P (.call ⟨.builtin .min, #[x, y], ts⟩) e h L (.int k (if n < m then n else m)) := by
  intro ρ w o hρ _ ho; unfold execOp; rw [ho]
  simp [hρ _ _ hx, hρ _ _ hy, resolve, invoke, builtin, Builtin.min_, Builtin.min2]

/-! slices of slices -/
/-- a bound of a slice expression, or what stands for it -/
def Bnd (e : Env) (x : Option Operand) (d n : Nat) : Prop := match x with
  | none => n = d
  | some y => ∃ k, ev e y = some (.int k (n : Int))
theorem Bnd.none {e : Env} {d : Nat} : Bnd e none d d := rfl
theorem Bnd.some {e : Env} {y : Operand} {d n : Nat} {k : IntKind} {i : Int} (hy : ev e y = some (.int k i)) (hi : i = (n : Int)) : Bnd e (some y) d n := ⟨k, by rw [hy, hi]⟩

theorem run_bounds {ρ : Operand → Value} {w : World} (hρ : ∀ x u, ev e x = some u → ρ x = u) {lo hi : Option Operand} {isS : Bool} {len cap l m : Nat} (h1 : Bnd e lo 0 l) (h2 : Bnd e hi len m) (hl : l ≤ m) (hm : m ≤ cap) : (Instr.sliceBounds isS len cap (lo.map ρ) (hi.map ρ) none).run P w = .ok (l, m, cap) w := by
  cases lo with
  | none =>
    have h1 : l = 0 := h1
    subst h1
    cases hi with
    | none => have h2 : m = len := h2; subst h2; simp [Instr.sliceBounds]
    | some y => obtain ⟨k, hy⟩ := h2; simp [Instr.sliceBounds, Instr.sliceBound, hρ _ _ hy, asIntOf]; omega
  | some x =>
    obtain ⟨k, hx⟩ := h1
    cases hi with
    | none => have h2 : m = len := h2; subst h2; simp [Instr.sliceBounds, Instr.sliceBound, hρ _ _ hx, asIntOf]; omega
    | some y => obtain ⟨k', hy⟩ := h2; simp [Instr.sliceBounds, Instr.sliceBound, hρ _ _ hy, hρ _ _ hx, asIntOf]; rw [if_pos (by omega)]; simp; omega

theorem v_slices {t et : TypeId} {x : Operand} {lo hi : Option Operand} {b off len cap size l m : Nat} (hu : Und P t (.slice et)) (hs : Siz P et size) (hx : ev e x = some (.slice (some ⟨b, off, none⟩) len cap)) (h1 : Bnd e lo 0 l) (h2 : Bnd e hi len m) (hl : l ≤ m) (hm : m ≤ cap) :
    OpV P (.slice t x lo hi none) e h L (.slice (some ⟨b, if cap = l then off else off + l * size, none⟩) (m - l) (cap - l)) := by
  intro ρ w o hρ _ ho; unfold execOp; rw [ho]
  simp [hρ _ _ hx, Instr.sliceAt, Instr.slice, hu.run, run_bounds hρ h1 h2 hl hm, hs.run, add_none]
  split <;> simp
theorem v_slicesn {t et : TypeId} {x : Operand} {lo hi : Option Operand} {size : Nat} (hu : Und P t (.slice et)) (hs : Siz P et size) (hx : ev e x = some (.slice none 0 0)) (h1 : Bnd e lo 0 0) (h2 : Bnd e hi 0 0) :
    OpV P (.slice t x lo hi none) e h L (.slice none 0 0) := by
  intro ρ w o hρ _ ho; unfold execOp; rw [ho]
  simp [hρ _ _ hx, Instr.sliceAt, Instr.slice, hu.run, run_bounds hρ h1 h2 (Nat.le_refl 0) (Nat.le_refl 0), hs.run]
theorem v_slicea {t et : TypeId} {x : Operand} {lo hi : Option Operand} {b off len size l m : Nat} (hu : Und P t (.array len et)) (hs : Siz P et size) (hx : ev e x = some (.pointer (some ⟨b, off, none⟩))) (h1 : Bnd e lo 0 l) (h2 : Bnd e hi len m) (hl : l ≤ m) (hm : m ≤ len) :
    OpV P (.slice t x lo hi none) e h L (.slice (some ⟨b, if len = l then off else off + l * size, none⟩) (m - l) (len - l)) := by
  intro ρ w o hρ _ ho; unfold execOp; rw [ho]
  simp [hρ _ _ hx, Instr.sliceAt, hu.run, run_bounds hρ h1 h2 hl hm, hs.run, add_none, Instr.sureAddr]
  split <;> simp
/-- the whole of an array in memory -/
theorem v_slicea0 {t et : TypeId} {x : Operand} {b off len size : Nat} (hu : Und P t (.array len et)) (hs : Siz P et size) (hx : ev e x = some (.pointer (some ⟨b, off, none⟩))) :
    OpV P (.slice t x none none none) e h L (.slice (some ⟨b, off, none⟩) len len) := by
  have := v_slicea (P := P) (h := h) (L := L) (lo := none) (hi := none) (l := 0) (m := len) hu hs hx rfl rfl (Nat.zero_le _) (Nat.le_refl _)
  simpa using this
/-- a slice's beginning -/
theorem v_slices0 {t et : TypeId} {x : Operand} {hi : Option Operand} {b off len cap size m : Nat} (hu : Und P t (.slice et)) (hs : Siz P et size) (hx : ev e x = some (.slice (some ⟨b, off, none⟩) len cap)) (h2 : Bnd e hi len m) (hm : m ≤ cap) :
    OpV P (.slice t x none hi none) e h L (.slice (some ⟨b, off, none⟩) m cap) := by
  have := v_slices (P := P) (h := h) (L := L) (lo := none) (l := 0) hu hs hx rfl h2 (Nat.zero_le _) hm
  simpa using this
theorem v_slicestr {t : TypeId} {x : Operand} {lo hi : Option Operand} {s : ByteArray} {l m : Nat} (hu : Und P t .string) (hx : ev e x = some (.string s)) (h1 : Bnd e lo 0 l) (h2 : Bnd e hi s.size m) (hl : l ≤ m) (hm : m ≤ s.size) :
    OpV P (.slice t x lo hi none) e h L (.string (s.extract l m)) := by
  intro ρ w o hρ _ ho; unfold execOp; rw [ho]
  simp [hρ _ _ hx, Instr.sliceAt, Instr.slice, hu.run, run_bounds hρ h1 h2 hl hm]

/-! bytes -/
def byteV (b : UInt8) : Value := .int .u8 b.toNat
theorem run_forIn_bytes (f : Value → ByteArray → Sem (ForInStep ByteArray)) (hf : ∀ b r, f (byteV b) r = pure (.yield (r.push b))) (w : World) : ∀ (bs : List UInt8) (acc : ByteArray), (forIn (m := Sem) (bs.map byteV) acc f).run P w = .ok ⟨acc.data ++ ⟨bs⟩⟩ w := by
  intro bs
  induction bs with
  | nil => intro acc; simp
  | cons b bs ih =>
    intro acc
    simp only [List.map_cons, List.forIn_cons, hf, Sem.run_bind, Sem.run_pure, Result.andThen_ok]
    refine Eq.trans (ih (acc.push b)) ?_
    show Result.ok (ByteArray.mk ((acc.data.push b) ++ _)) w = _
    simp
/-- 'string(b)' of a slice of bytes that is known -/
theorem v_tostr {s d et : TypeId} {x : Operand} {b off n cap : Nat} {cs : List Value} {T : TypeId} {fr : Nat × Nat} {bs : List UInt8} (hu : Und P s (.slice et)) (hu' : Und P d .string) (hue : Und P et (.int .u8)) (hx : ev e x = some (.slice (some ⟨b, off, none⟩) n cap)) (hk : Kn h L b (.cells ⟨cs⟩ T fr)) (hv : cut off n cs = some (bs.map byteV)) :
    OpV P (.convert s d x) e h L (.string ⟨⟨bs⟩⟩) := by
  intro ρ w o hρ hs ho; unfold execOp; rw [ho]
  have hl := run_loadCells (P := P) (hs.kn hk) hv
  simp only [hρ _ _ hx, convert, hu.run, hu'.run, hue.run, Sem.run_bind, Result.andThen_ok, Conv.bytesToString, hl]
  rw [List.forIn_toArray, run_forIn_bytes _ (by intro b r; simp [byteV])]
  have he : (ByteArray.empty).data = #[] := rfl
  simp [he]
theorem v_tostrn {s d et : TypeId} {x : Operand} {n cap : Nat} (hu : Und P s (.slice et)) (hu' : Und P d .string) (hue : Und P et (.int .u8)) (hx : ev e x = some (.slice none n cap)) :
    OpV P (.convert s d x) e h L (.string ⟨⟨[]⟩⟩) := by
  intro ρ w o hρ hs ho; unfold execOp; rw [ho]
  simp only [hρ _ _ hx, convert, hu.run, hu'.run, hue.run, Conv.bytesToString, Sem.run_bind, Result.andThen_ok, Sem.run_pure]
  rfl
/-- a conversion between types of strings -/
theorem v_strstr {s d : TypeId} {x : Operand} {bs : ByteArray} (hu : Und P s .string) (hu' : Und P d .string) (hx : ev e x = some (.string bs)) :
    OpV P (.convert s d x) e h L (.string bs) := by
  intro ρ w o hρ hs ho; unfold execOp; rw [ho]
  simp [hρ _ _ hx, convert, hu.run, hu'.run]
/-- indexing a string -/
theorem v_indexstr {t : TypeId} {x y : Operand} {k : IntKind} {i : Int} {n : Nat} {s : ByteArray} {b : UInt8} (hu : Und P t .string) (hx : ev e x = some (.string s)) (hy : ev e y = some (.int k i)) (hn : i = (n : Int)) (hb : s[n]? = some b) : OpV P (.index t x y) e h L (byteV b) := by
  subst hn
  intro ρ w o hρ _ ho; unfold execOp; rw [ho]; simp [hρ _ _ hx, hρ _ _ hy, Instr.index, asIntOf, hu.run, hb, byteV]
end
end Go.Proofs.Ch
