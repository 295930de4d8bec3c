/- Signed 64-bit arithmetic on numbers that are not negative; a few small rules. No program is named here. -/
import Derived.Test.YtglmkcfmcoianaaGreatDoorN
namespace Go.Proofs.Ch
open Go
section
variable {P : Program} {e : Env} {h : Heap} {L : Owned} {x y : Operand} {xt yt : TypeId} {m n : Nat}
theorem v_addj (hx : ev e x = some (.int .i64 (m : Int))) (hy : ev e y = some (.int .i64 (n : Int))) (hb : m + n < 9223372036854775808) : OpV P (.binOp .add xt x y yt) e h L (.int .i64 ((m + n : Nat) : Int)) :=
  v_add hx hy (by rw [wrap_i64 (by omega) (by omega)]; omega)
theorem v_subj (hx : ev e x = some (.int .i64 (m : Int))) (hy : ev e y = some (.int .i64 (n : Int))) (hle : n ≤ m) (hb : m < 9223372036854775808) : OpV P (.binOp .sub xt x y yt) e h L (.int .i64 ((m - n : Nat) : Int)) :=
  v_sub hx hy (by rw [wrap_i64 (by omega) (by omega)]; omega)
theorem v_mulj (hx : ev e x = some (.int .i64 (m : Int))) (hy : ev e y = some (.int .i64 (n : Int))) (hb : m * n < 9223372036854775808) : OpV P (.binOp .mul xt x y yt) e h L (.int .i64 ((m * n : Nat) : Int)) :=
  v_mul hx hy (by
    have : ((m * n : Nat) : Int) = (m : Int) * (n : Int) := by simp
    rw [← this, wrap_i64 (by omega) (by omega)])
theorem v_quoj (hx : ev e x = some (.int .i64 (m : Int))) (hy : ev e y = some (.int .i64 (n : Int))) (h0 : n ≠ 0) (hb : m < 9223372036854775808) : OpV P (.binOp .quo xt x y yt) e h L (.int .i64 ((m / n : Nat) : Int)) :=
  v_quo hx hy (by omega) (by
    rw [← Int.ofNat_tdiv]
    have := Nat.div_le_self m n
    generalize m / n = q at *
    exact wrap_i64 (by omega) (by omega))
theorem v_convj {s d : TypeId} {k : IntKind} {du : TypeDesc} (hu : Und P s du) (hu' : Und P d (.int .i64)) (hx : ev e x = some (.int k (m : Int))) (hb : m < 9223372036854775808) : OpV P (.convert s d x) e h L (.int .i64 (m : Int)) :=
  v_conv hu hu' hx (wrap_i64 (by omega) (by omega))
theorem v_convu {s d : TypeId} {k : IntKind} {du : TypeDesc} (hu : Und P s du) (hu' : Und P d (.int .u64)) (hx : ev e x = some (.int k (m : Int))) (hb : m < 18446744073709551616) : OpV P (.convert s d x) e h L (.int .u64 (m : Int)) :=
  v_conv hu hu' hx (wrap_u64 (by omega) (by omega))
/-- a number that is known to be one that is not negative -/
theorem v_convz {s d : TypeId} {k : IntKind} {z : Int} {du : TypeDesc} (hu : Und P s du) (hu' : Und P d (.int .u64)) (hx : ev e x = some (.int k z)) (h0 : 0 ≤ z) (hb : z < 18446744073709551616) : OpV P (.convert s d x) e h L (.int .u64 (z.toNat : Int)) :=
  v_conv hu hu' hx (by rw [wrap_u64 h0 (by omega), Int.toNat_of_nonneg h0])
end
/-- what a yield comes to -/
theorem yv {v : Value} {A B : Prop} (h : (v = .bool true ∧ A) ∨ (v = .bool false ∧ B)) : ∃ b, v = .bool b ∧ (b = true → A) ∧ (b = false → B) := by
  rcases h with ⟨rfl, h⟩ | ⟨rfl, h⟩
  · exact ⟨true, rfl, fun _ => h, fun h => by cases h⟩
  · exact ⟨false, rfl, (fun h => Bool.noConfusion h), fun _ => h⟩
theorem int_nat {z : Int} (h : 0 ≤ z) : ∃ n : Nat, z = (n : Int) := ⟨z.toNat, by omega⟩
end Go.Proofs.Ch
/-! results that lie in memory -/
namespace Go.Proofs.Ch
open Go
def RV (P : Program) (e : Env) (h : Heap) (L : Owned) : ResultVar → Value → Prop
  | .tmp t, v => look e t = some v
  | .cell a T, v => ∃ b off cs T' fr, look e a = some (.pointer (some ⟨b, off, none⟩)) ∧ Kn h L b (.cells ⟨cs⟩ T' fr) ∧ ((One P T ∧ cs[off]? = some v) ∨ ∃ n r, Many P T n ∧ cut off n cs = some r ∧ v = .agg ⟨r⟩)
section
variable {P : Program} {e : Env} {h : Heap} {L : Owned}
theorem rv_t {t : Nat} {v : Value} (hl : look e t = some v) : RV P e h L (.tmp t) v := hl
theorem rv_1 {a b off : Nat} {T T' : TypeId} {cs : List Value} {fr : Nat × Nat} {v : Value} (h1 : One P T) (hl : look e a = some (.pointer (some ⟨b, off, none⟩))) (hk : Kn h L b (.cells ⟨cs⟩ T' fr)) (hv : cs[off]? = some v) : RV P e h L (.cell a T) v :=
  ⟨b, off, cs, T', fr, hl, hk, .inl ⟨h1, hv⟩⟩
theorem rv_n {a b off n : Nat} {T T' : TypeId} {cs r : List Value} {fr : Nat × Nat} (h1 : Many P T n) (hl : look e a = some (.pointer (some ⟨b, off, none⟩))) (hk : Kn h L b (.cells ⟨cs⟩ T' fr)) (hv : cut off n cs = some r) : RV P e h L (.cell a T) (.agg ⟨r⟩) :=
  ⟨b, off, cs, T', fr, hl, hk, .inr ⟨n, r, h1, hv, rfl⟩⟩
def resOf (tmps : Array Value) : ResultVar → Sem Value := fun
  | .tmp t => pure (tmps.getD t undef)
  | .cell a t => do loadVar t (← asAddr (tmps.getD a undef))
theorem results_eq (fn : Func) (tmps : Array Value) : results fn tmps = (do
  let vs ← fn.results.mapM (resOf tmps)
  pure (if h : vs.size = 1 then vs[0] else .tuple vs)) := rfl
theorem rv_run {n : Nat} {ds : List Deferred} {a : Act} {w : World} {r : ResultVar} {v : Value} (he : EnvOk n e ds a) (hs : St h L w) (hv : RV P e h L r v) : (resOf a.tmps r).run P w = .ok v w := by
  cases r with
  | tmp t => simp only [resOf, getD_of he hv, Sem.run_pure]
  | cell x t =>
    obtain ⟨b, off, cs, T', fr, hl, hk, ⟨h1, hv⟩ | ⟨n', r, h1, hv, rfl⟩⟩ := hv
    · have := run_load_at (P := P) (hs.kn hk) hv
      simp only [resOf, getD_of he hl, asAddr, loadVar, Sem.run_bind, Sem.run_pure, Result.andThen_ok, h1 w, Bool.false_eq_true, if_false, this]
    · have := run_loadCells (P := P) (hs.kn hk) hv
      simp only [resOf, getD_of he hl, asAddr, loadVar, Sem.run_bind, Sem.run_pure, Result.andThen_ok, (h1 w).1, (h1 w).2, if_true, this]
variable {fn : Func} {n : Nat} {h0 h' : Heap} {Lf L' : Owned} {Post : Value → Heap → Owned → Prop}
theorem endsr1 {r : ResultVar} {v : Value} (hr : fn.results = #[r]) (h1 : RV P e h' L r v) (hle : Heap.le h0 h') (hL : (L' ++ Lf).Sublist L) (hp : Post v h' L') : Ends P fn n h0 Lf Post e [] h' L :=
  ends_of (fun a w he hs => by
    have i1 := rv_run he hs h1
    rw [results_eq, hr]
    generalize resOf a.tmps = g at *
    simp [i1]) hle hL hp
theorem endsr2 {r r2 : ResultVar} {v v2 : Value} (hr : fn.results = #[r, r2]) (h1 : RV P e h' L r v) (h2 : RV P e h' L r2 v2) (hle : Heap.le h0 h') (hL : (L' ++ Lf).Sublist L) (hp : Post (.tuple ⟨[v, v2]⟩) h' L') : Ends P fn n h0 Lf Post e [] h' L :=
  ends_of (fun a w he hs => by
    have i1 := rv_run he hs h1
    have i2 := rv_run he hs h2
    rw [results_eq, hr]
    generalize resOf a.tmps = g at *
    simp [i1, i2]) hle hL hp
theorem endsr3 {r r2 r3 : ResultVar} {v v2 v3 : Value} (hr : fn.results = #[r, r2, r3]) (h1 : RV P e h' L r v) (h2 : RV P e h' L r2 v2) (h3 : RV P e h' L r3 v3) (hle : Heap.le h0 h') (hL : (L' ++ Lf).Sublist L) (hp : Post (.tuple ⟨[v, v2, v3]⟩) h' L') : Ends P fn n h0 Lf Post e [] h' L :=
  ends_of (fun a w he hs => by
    have i1 := rv_run he hs h1
    have i2 := rv_run he hs h2
    have i3 := rv_run he hs h3
    rw [results_eq, hr]
    generalize resOf a.tmps = g at *
    simp [i1, i2, i3]) hle hL hp
end
theorem dec_one {x : Nat} : decide ((x : Int) = 1) = decide (x = 1) := by congr 1; exact propext ⟨fun h => by omega, fun h => by omega⟩
end Go.Proofs.Ch
