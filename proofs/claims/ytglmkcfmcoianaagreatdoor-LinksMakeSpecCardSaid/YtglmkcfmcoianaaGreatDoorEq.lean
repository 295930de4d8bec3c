/- Equality of numbers, digests, arrays of numbers and structs of such. No program is named here. -/
import Derived.Test.YtglmkcfmcoianaaGreatDoorDi
import Derived.ChangeKeysEq
namespace Go.Proofs.Ch
open Go
/-- what the comparison of two values comes to -/
def EqV (P : Program) (d : Nat) (t : TypeId) (a b : Value) (r : Bool) : Prop := ∀ w, (Op.equalIn d t a b).run P w = .ok r w
/-- what the comparison of two parts comes to -/
def EqP (P : Program) (d : Nat) (t : TypeId) (xs ys : List Value) (off : Nat) (r : Bool) : Prop :=
  ∃ a b, (∀ w, (part t ⟨xs⟩ off).run P w = .ok a w) ∧ (∀ w, (part t ⟨ys⟩ off).run P w = .ok b w) ∧ EqV P d t a b r
inductive EqF (P : Program) (d : Nat) (xs ys : List Value) : List Field → Bool → Prop
  | nil : EqF P d xs ys [] true
  | cons {f : Field} {fs : List Field} {r r' : Bool} (hn : f.name ≠ "_") (hp : EqP P d f.type xs ys f.offset r) (hf : EqF P d xs ys fs r') : EqF P d xs ys (f :: fs) (r && r')
section
variable {P : Program} {d : Nat} {t : TypeId} {xs ys : List Value} {off : Nat} {r : Bool}
theorem EqV.to {a b : Value} {r r' : Bool} (h : EqV P d t a b r) (e : r = r') : EqV P d t a b r' := e ▸ h
theorem EqV.int {k k' : IntKind} {a b : Int} (hu : Und P t (.int k')) : EqV P (d + 1) t (.int k a) (.int k b) (decide (a = b)) := fun w => by
  rw [run_equalIn_int w d t k k' a b hu]; congr 1
theorem EqV.bool {a b : Bool} (hu : Und P t .bool) : EqV P (d + 1) t (.bool a) (.bool b) (a == b) := fun w => run_equalIn_bool' w d t a b hu
theorem EqP.one {a b : Value} (h1 : One P t) (hx : xs[off]? = some a) (hy : ys[off]? = some b) (he : EqV P d t a b r) : EqP P d t xs ys off r :=
  ⟨a, b, fun w => part_one h1 hx w, fun w => part_one h1 hy w, he⟩
theorem EqP.many {n : Nat} {as bs : List Value} (h1 : Many P t n) (hx : cut off n xs = some as) (hy : cut off n ys = some bs) (he : EqV P d t (.agg ⟨as⟩) (.agg ⟨bs⟩) r) : EqP P d t xs ys off r :=
  ⟨_, _, fun w => part_many h1 hx w, fun w => part_many h1 hy w, he⟩
theorem EqV.struct {fs : Array Field} (hu : Und P t (.struct fs)) (hp : P.stoodInHeld t = false) (hf : EqF P d xs ys fs.toList r) : EqV P (d + 1) t (.agg ⟨xs⟩) (.agg ⟨ys⟩) r := fun w => by
  have hfs : P.fieldsOf t = fs := by unfold Program.fieldsOf; rw [show P.underlying t = _ from hu]
  rw [run_equalIn_struct w d t _ _ (by rw [hfs]; exact hu) hp, hfs]
  generalize fs.toList = l at hf
  clear hfs hu
  induction hf with
  | nil => simp [Op.eqFields]
  | @cons f fs r r' hn hp hf ih =>
    obtain ⟨a, b, h1, h2, h3⟩ := hp
    simp only [Op.eqFields, hn, ne_eq, not_false_eq_true, if_true, Sem.run_bind, h1 w, h2 w, h3 w, Result.andThen_ok]
    cases r
    · simp
    · simpa using ih
theorem run_eqItems_of {el : TypeId} {c : Nat} {q : Nat → Bool} (w : World) : ∀ (is : List Nat), (∀ i ∈ is, EqP P d el xs ys (i * c) (q i)) → (Op.eqItems d el c ⟨xs⟩ ⟨ys⟩ is).run P w = .ok (is.all q) w
  | [], _ => by simp [Op.eqItems]
  | i :: is, h => by
    obtain ⟨a, b, h1, h2, h3⟩ := h i (by simp)
    have ih := run_eqItems_of (q := q) w is (fun j hj => h j (by simp [hj]))
    simp only [Op.eqItems, Sem.run_bind, h1 w, h2 w, h3 w, Result.andThen_ok, List.all_cons]
    cases q i
    · simp
    · simpa using ih
theorem EqV.array {el : TypeId} {n c : Nat} {q : Nat → Bool} (hu : Und P t (.array n el)) (hz : Siz P el c) (h : ∀ i, i < n → EqP P d el xs ys (i * c) (q i)) : EqV P (d + 1) t (.agg ⟨xs⟩) (.agg ⟨ys⟩) ((List.range n).all q) := fun w => by
  obtain ⟨i, hi, hs⟩ : ∃ i, P.info? el = some i ∧ i.size = c := by
    unfold Siz at hz
    cases hi : P.info? el with
    | none => rw [hi] at hz; cases hz
    | some i => rw [hi] at hz; exact ⟨i, rfl, by simpa using hz⟩
  have hc : P.cellsOf el = c := by
    unfold Program.cellsOf; rw [hi]; simpa using hs
  rw [run_equalIn_array w d _ _ hu hi, hc]
  exact run_eqItems_of w _ fun i hi => h i (List.mem_range.1 hi)
theorem dig_all {p q : Dig} : ((List.range 32).all fun i => decide ((dn p i : Int) = (dn q i : Int))) = decide (p = q) := by
  rw [Bool.eq_iff_iff, List.all_eq_true]
  simp only [List.mem_range, decide_eq_true_eq]
  constructor
  · intro h
    apply Vector.ext
    intro i hi
    have := h i hi
    have h2 : dn p i = dn q i := by omega
    unfold dn at h2
    have e1 : p.toList.getD i 0 = p[i] := by simp [hi]
    have e2 : q.toList.getD i 0 = q[i] := by simp [hi]
    rw [e1, e2] at h2
    exact UInt8.toNat_inj.1 h2
  · rintro rfl i _; rfl
theorem EqV.dig {el : TypeId} {p q : Dig} (hu : Und P t (.array 32 el)) (hz : Siz P el 1) (h1 : One P el) (hk : Und P el (.int .u8)) : EqV P (d + 2) t (.agg ⟨dcells p⟩) (.agg ⟨dcells q⟩) (decide (p = q)) := by
  rw [← dig_all]
  refine EqV.array (d := d + 1) hu hz fun i hi => ?_
  rw [Nat.mul_one]
  exact EqP.one h1 (dcells_get p hi) (dcells_get q hi) (EqV.int hk)
variable {e : Env} {h : Heap} {L : Owned} {x y : Operand} {yt : TypeId}
theorem v_aeql (he : EqV P 10000 t (.agg ⟨xs⟩) (.agg ⟨ys⟩) r) (hm : P.eqGuardType P.depth t = false) (hx : ev e x = some (.agg ⟨xs⟩)) (hy : ev e y = some (.agg ⟨ys⟩)) : OpV P (.binOp .eql t x y yt) e h L (.bool r) := by
  intro ρ w o hρ _ ho; unfold execOp; rw [ho]
  have h1 := run_eqGuard_agg w .eql t x y ⟨xs⟩ ⟨ys⟩ hm
  have h2 := run_eql_struct (P := P) w t ⟨xs⟩ ⟨ys⟩
  rw [he w] at h2
  simp [hρ _ _ hx, hρ _ _ hy, h1, h2]
theorem v_aneq (he : EqV P 10000 t (.agg ⟨xs⟩) (.agg ⟨ys⟩) r) (hm : P.eqGuardType P.depth t = false) (hx : ev e x = some (.agg ⟨xs⟩)) (hy : ev e y = some (.agg ⟨ys⟩)) : OpV P (.binOp .neq t x y yt) e h L (.bool (!r)) := by
  intro ρ w o hρ _ ho; unfold execOp; rw [ho]
  have h1 := run_eqGuard_agg w .neq t x y ⟨xs⟩ ⟨ys⟩ hm
  have h2 := run_neq_struct (P := P) w t ⟨xs⟩ ⟨ys⟩
  rw [he w] at h2
  simp [hρ _ _ hx, hρ _ _ hy, h1, h2]
end
end Go.Proofs.Ch
