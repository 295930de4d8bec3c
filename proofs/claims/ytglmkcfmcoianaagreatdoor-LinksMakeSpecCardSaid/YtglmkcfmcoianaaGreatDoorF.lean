/- The rules of A to E in the forms in which the printed walks use them. No program is named here. -/
import Derived.Test.YtglmkcfmcoianaaGreatDoorE
namespace Go.Proofs.Ch
open Go

/-- a function that hands back r, and keeps nothing -/
abbrev Fn0 (P : Program) (f : FuncId) (args : List Value) (h : Heap) (r : Value) : Prop := Tr P f args h [] (fun v _ L' => v = r ∧ L' = [])
/-- a function that hands back what G tells, and keeps nothing of its own -/
abbrev Fnp (P : Program) (f : FuncId) (args : List Value) (h : Heap) (G : Value → Heap → Prop) : Prop := Tr P f args h [] (fun v h' L' => G v h' ∧ L' = [])

section
variable {C : Cx} {R : Pst} {k : List K} {e : Env} {ds : List Deferred} {h : Heap} {L : Owned} {ops : Array Oper} {l : List Oper} {Q : Pst}
variable {d : Option Tmp} {ty : TypeId} {pos : String} {af : Array Edge} {f : FuncId} {xs : List Operand} {ts : Array TypeId} {vs : List Value} {r : Value} {x : Operand} {fi ca : List Value}

theorem TrV.of {P : Program} {Post : Value → Heap → Owned → Prop} {L1 : Owned} {as : List Value} (t : Tr P f as h L1 Post) (ha : fi ++ vs ++ ca = as) : TrV P (.func (.func f) ⟨fi⟩ ⟨ca⟩) vs h L1 Post := by
  subst ha; exact t
theorem TrV.of0 {P : Program} {Post : Value → Heap → Owned → Prop} {L1 : Owned} (t : Tr P f vs h L1 Post) : TrV P (.func (.func f) #[] #[]) vs h L1 Post :=
  TrV.of (fi := []) (ca := []) t (by simp)

/-- a static call -/
theorem WL_callf {L1 Lf : Owned} {Post : Value → Heap → Owned → Prop} (hv : evs e xs = some vs) (t : Tr C.P f vs h L1 Post) (hd : dstOk d C.n = true)
    (H : ∀ v h' L', Heap.le h h' → Post v h' L' → WL C ops l Q (put d v e) ds h' (L' ++ Lf)) : WL C ops (⟨d, .call ⟨.value (.func f), ⟨xs⟩, ts⟩, ty, pos, af, none⟩ :: l) Q e ds h (L1 ++ Lf) :=
  WL_call rfl hv (TrV.of0 t) hd H
theorem WL_callp {G : Value → Heap → Prop} (hv : evs e xs = some vs) (t : Fnp C.P f vs h G) (hd : dstOk d C.n = true)
    (H : ∀ v h', Heap.le h h' → G v h' → WL C ops l Q (put d v e) ds h' L) : WL C ops (⟨d, .call ⟨.value (.func f), ⟨xs⟩, ts⟩, ty, pos, af, none⟩ :: l) Q e ds h L :=
  WL_callf (L1 := []) hv t hd (by rintro v h' L' hle ⟨hg, rfl⟩; exact H v h' hle hg)
theorem WL_callq (hv : evs e xs = some vs) (t : Fn0 C.P f vs h r) (hd : dstOk d C.n = true)
    (H : WL C ops l Q (put d r e) ds h L) : WL C ops (⟨d, .call ⟨.value (.func f), ⟨xs⟩, ts⟩, ty, pos, af, none⟩ :: l) Q e ds h L :=
  WL_callf (L1 := []) hv t hd (by rintro v h' L' hle ⟨rfl, rfl⟩; exact WL_weak hle H)
/-- the call of a function value -/
theorem WL_vcallp {G : Value → Heap → Prop} (hx : ev e x = some (.func (.func f) ⟨fi⟩ ⟨ca⟩)) (hv : evs e xs = some vs) {as : List Value} (ha : fi ++ vs ++ ca = as) (t : Fnp C.P f as h G) (hd : dstOk d C.n = true)
    (H : ∀ v h', Heap.le h h' → G v h' → WL C ops l Q (put d v e) ds h' L) : WL C ops (⟨d, .call ⟨.value x, ⟨xs⟩, ts⟩, ty, pos, af, none⟩ :: l) Q e ds h L :=
  WL_call (L1 := []) hx hv (TrV.of t ha) hd (by rintro v h' L' hle ⟨hg, rfl⟩; exact H v h' hle hg)
theorem WL_vcallq (hx : ev e x = some (.func (.func f) ⟨fi⟩ ⟨ca⟩)) (hv : evs e xs = some vs) {as : List Value} (ha : fi ++ vs ++ ca = as) (t : Fn0 C.P f as h r) (hd : dstOk d C.n = true)
    (H : WL C ops l Q (put d r e) ds h L) : WL C ops (⟨d, .call ⟨.value x, ⟨xs⟩, ts⟩, ty, pos, af, none⟩ :: l) Q e ds h L :=
  WL_call (L1 := []) hx hv (TrV.of t ha) hd (by rintro v h' L' hle ⟨rfl, rfl⟩; exact WL_weak hle H)
/-- the same with a guard that holds -/
theorem WL_callqg {j t : Nat} {b : Bool} (hj : guardTmp ops j = some t) (hl : look e t = some (.bool b)) (hv : evs e xs = some vs) (tr : Fn0 C.P f vs h r) (hd : dstOk d C.n = true)
    (H : WL C ops l Q (put d r e) ds h L) : WL C ops (⟨d, .call ⟨.value (.func f), ⟨xs⟩, ts⟩, ty, pos, af, some (j, b)⟩ :: l) Q e ds h L :=
  WL_opg (op1_call (L1 := []) rfl hv (TrV.of0 tr)) rfl hj hl hd (by rintro v h' L' ⟨L2, rfl, hle, rfl, rfl⟩; exact WL_weak hle H)
theorem WL_vcallqg {j t : Nat} {b : Bool} (hj : guardTmp ops j = some t) (hl : look e t = some (.bool b)) (hx : ev e x = some (.func (.func f) ⟨fi⟩ ⟨ca⟩)) (hv : evs e xs = some vs) {as : List Value} (ha : fi ++ vs ++ ca = as) (tr : Fn0 C.P f as h r) (hd : dstOk d C.n = true)
    (H : WL C ops l Q (put d r e) ds h L) : WL C ops (⟨d, .call ⟨.value x, ⟨xs⟩, ts⟩, ty, pos, af, some (j, b)⟩ :: l) Q e ds h L :=
  WL_opg (op1_call (L1 := []) hx hv (TrV.of tr ha)) rfl hj hl hd (by rintro v h' L' ⟨L2, rfl, hle, rfl, rfl⟩; exact WL_weak hle H)

/-! making memory -/
theorem WL_alloc {T : TypeId} {z : Value} {zs : List Value} (hz : Zer C.P T z) (hc : z.cells = ⟨zs⟩) (hd : dstOk d C.n = true)
    (H : ∀ b, WL C ops l Q (put d (.pointer (some ⟨b, 0, none⟩)) e) ds h ((b, .cells ⟨zs⟩ T (0, 0)) :: L)) : WL C ops (⟨d, .alloc T, ty, pos, af, none⟩ :: l) Q e ds h L :=
  WL_new (f := fun b => .pointer (some ⟨b, 0, none⟩)) (o_alloc hz hc) rfl hd H
theorem WL_box {T : TypeId} {v : Value} {zs : List Value} (hx : ev e x = some v) (hc : v.cells = ⟨zs⟩) (hd : dstOk d C.n = true)
    (H : ∀ b, WL C ops l Q (put d (.pointer (some ⟨b, 0, none⟩)) e) ds h ((b, .cells ⟨zs⟩ T (0, 0)) :: L)) : WL C ops (⟨d, .box T x, ty, pos, af, none⟩ :: l) Q e ds h L :=
  WL_new (f := fun b => .pointer (some ⟨b, 0, none⟩)) (o_box hx hc) rfl hd H
theorem WL_buildSlice {t et : TypeId} {len : Nat} {z : Value} {parts : List (Nat × Operand)} {zs r : List Value} {vs : List (Nat × Value)} (hu : Und C.P t (.slice et)) (hz : Zer C.P et z) (hzc : z.cells = ⟨zs⟩) (hs : Siz C.P et zs.length) (h0 : (zs.length != 0) = true) (hb : Nat.ble (len * zs.length) 16777216 = true) (hv : evp e parts = some vs) (hf : fil (fun i => some (i * zs.length, zs.length)) (zbase len zs) vs = some r) (hd : dstOk d C.n = true)
    (H : ∀ b, WL C ops l Q (put d (.slice (some ⟨b, 0, none⟩) len len) e) ds h ((b, .cells ⟨r⟩ et (0, 0)) :: L)) : WL C ops (⟨d, .buildSlice t len ⟨parts⟩, ty, pos, af, none⟩ :: l) Q e ds h L :=
  WL_new (f := fun b => .slice (some ⟨b, 0, none⟩) len len) (o_buildSlice hu hz hzc hs h0 hb hv hf) rfl hd H
theorem WL_makeMap {t : TypeId} (hd : dstOk d C.n = true)
    (H : ∀ b, WL C ops l Q (put d (.map (some b)) e) ds h ((b, .map #[] 0) :: L)) : WL C ops (⟨d, .makeMap t none, ty, pos, af, none⟩ :: l) Q e ds h L :=
  WL_new (f := fun b => .map (some b)) o_makeMap rfl hd H

/-! stores into the call's own blocks, by their places -/
section
variable {t T : TypeId} {y : Operand} {b off : Nat} {v : Value} {us cs cs' : List Value} {p0 p1 p2 p3 p4 p5 p6 p7 : Nat × Obj}
  (hx : ev e x = some (.pointer (some ⟨b, off, none⟩))) (hy : ev e y = some v) (hc : v.cells = ⟨us⟩) (hz : Siz C.P t us.length) (hs : spl off us cs = some cs') (ho : us.all Value.oneCell' = true) (hd : dstOk d C.n = true)
include hx hy hc hz hs ho hd
theorem WL_store0 (H : WL C ops l Q (put d undef e) ds h ((b, .cells ⟨cs'⟩ T (0, 0)) :: L)) : WL C ops (⟨d, .store t x y, ty, pos, af, none⟩ :: l) Q e ds h ((b, .cells ⟨cs⟩ T (0, 0)) :: L) := WL_store (A := []) hx hy hc hz hs ho hd H
theorem WL_store1 (H : WL C ops l Q (put d undef e) ds h (p0 :: (b, .cells ⟨cs'⟩ T (0, 0)) :: L)) : WL C ops (⟨d, .store t x y, ty, pos, af, none⟩ :: l) Q e ds h (p0 :: (b, .cells ⟨cs⟩ T (0, 0)) :: L) := WL_store (A := [p0]) hx hy hc hz hs ho hd H
theorem WL_store2 (H : WL C ops l Q (put d undef e) ds h (p0 :: p1 :: (b, .cells ⟨cs'⟩ T (0, 0)) :: L)) : WL C ops (⟨d, .store t x y, ty, pos, af, none⟩ :: l) Q e ds h (p0 :: p1 :: (b, .cells ⟨cs⟩ T (0, 0)) :: L) := WL_store (A := [p0, p1]) hx hy hc hz hs ho hd H
theorem WL_store3 (H : WL C ops l Q (put d undef e) ds h (p0 :: p1 :: p2 :: (b, .cells ⟨cs'⟩ T (0, 0)) :: L)) : WL C ops (⟨d, .store t x y, ty, pos, af, none⟩ :: l) Q e ds h (p0 :: p1 :: p2 :: (b, .cells ⟨cs⟩ T (0, 0)) :: L) := WL_store (A := [p0, p1, p2]) hx hy hc hz hs ho hd H
theorem WL_store4 (H : WL C ops l Q (put d undef e) ds h (p0 :: p1 :: p2 :: p3 :: (b, .cells ⟨cs'⟩ T (0, 0)) :: L)) : WL C ops (⟨d, .store t x y, ty, pos, af, none⟩ :: l) Q e ds h (p0 :: p1 :: p2 :: p3 :: (b, .cells ⟨cs⟩ T (0, 0)) :: L) := WL_store (A := [p0, p1, p2, p3]) hx hy hc hz hs ho hd H
theorem WL_store5 (H : WL C ops l Q (put d undef e) ds h (p0 :: p1 :: p2 :: p3 :: p4 :: (b, .cells ⟨cs'⟩ T (0, 0)) :: L)) : WL C ops (⟨d, .store t x y, ty, pos, af, none⟩ :: l) Q e ds h (p0 :: p1 :: p2 :: p3 :: p4 :: (b, .cells ⟨cs⟩ T (0, 0)) :: L) := WL_store (A := [p0, p1, p2, p3, p4]) hx hy hc hz hs ho hd H
theorem WL_store6 (H : WL C ops l Q (put d undef e) ds h (p0 :: p1 :: p2 :: p3 :: p4 :: p5 :: (b, .cells ⟨cs'⟩ T (0, 0)) :: L)) : WL C ops (⟨d, .store t x y, ty, pos, af, none⟩ :: l) Q e ds h (p0 :: p1 :: p2 :: p3 :: p4 :: p5 :: (b, .cells ⟨cs⟩ T (0, 0)) :: L) := WL_store (A := [p0, p1, p2, p3, p4, p5]) hx hy hc hz hs ho hd H
theorem WL_store7 (H : WL C ops l Q (put d undef e) ds h (p0 :: p1 :: p2 :: p3 :: p4 :: p5 :: p6 :: (b, .cells ⟨cs'⟩ T (0, 0)) :: L)) : WL C ops (⟨d, .store t x y, ty, pos, af, none⟩ :: l) Q e ds h (p0 :: p1 :: p2 :: p3 :: p4 :: p5 :: p6 :: (b, .cells ⟨cs⟩ T (0, 0)) :: L) := WL_store (A := [p0, p1, p2, p3, p4, p5, p6]) hx hy hc hz hs ho hd H
end
theorem WL_freeze1 {p0 : Nat × Obj} {b : Nat} {o : Obj} (H : ∀ h', Heap.le h h' → h' b = some o → WL C ops l Q e ds h' (p0 :: L)) : WL C ops l Q e ds h (p0 :: (b, o) :: L) :=
  WL_perm (L' := (b, o) :: p0 :: L) (List.Perm.swap _ _ _) (WL_freeze H)
theorem den_freeze1 {c : Code} {p0 : Nat × Obj} {b : Nat} {o : Obj} (H : ∀ h', Heap.le h h' → h' b = some o → den C R (.code c :: k) .normal e ds h' (p0 :: L)) : den C R (.code c :: k) .normal e ds h (p0 :: (b, o) :: L) :=
  den_perm (L' := (b, o) :: p0 :: L) (List.Perm.swap _ _ _) (den_freeze H)
end

/-! loops, told over their variables -/
def Sub (e' e : Env) : Prop := ∀ t v, look e' t = some v → look e t = some v
theorem sub_nil {e : Env} : Sub [] e := fun _ _ h => by simp [look] at h
theorem sub_cons {e e' : Env} {t0 : Nat} {v0 : Value} (h : look e t0 = some v0) (r : Sub e' e) : Sub ((t0, v0) :: e') e := by
  intro t v hl
  simp only [look] at hl
  cases hb : Nat.beq t0 t with
  | true => have := Nat.eq_of_beq_eq_true hb; subst this; simp [hb] at hl; subst hl; exact h
  | false => simp [hb] at hl; exact r t v hl
theorem den_loopI {C : Cx} {R : Pst} {k : List K} {e : Env} {ds : List Deferred} {h : Heap} {L : Owned} {c : Code} {ι : Type} (env : ι → Env) (ok : ι → Heap → Owned → Prop) (μ : ι → Nat) (i0 : ι)
    (hs : Sub (env i0) e) (h0 : ok i0 h L)
    (round : ∀ i h L, ok i h L → den C R (.code c :: .again (fun e ds' h L => ds' = ds ∧ ∃ j, μ j < μ i ∧ Sub (env j) e ∧ ok j h L) :: k) .normal (env i) ds h L) :
    den C R (.code (.loop c) :: k) .normal e ds h L := by
  refine den_loop (fun m e ds' h L => ds' = ds ∧ ∃ i, m = μ i ∧ Sub (env i) e ∧ ok i h L) (μ i0) ⟨rfl, i0, rfl, hs, h0⟩ ?_
  rintro m e ds h L ⟨rfl, i, rfl, hsub, hok⟩
  refine den_env hsub ?_
  intro a w he hs
  refine wpIn_mono (round i h L hok a w he hs) ?_
  rintro x a' w' ⟨e', ds', h', L', he', hs', hq⟩
  refine ⟨e', ds', h', L', he', hs', ?_⟩
  cases x with
  | normal => obtain ⟨rfl, j, hlt, hsj, hj⟩ := hq; exact ⟨μ j, hlt, rfl, j, rfl, hsj, hj⟩
  | _ => exact hq

/-- what holds where ways meet again -/
theorem den_cut {C : Cx} {R : Pst} {k : List K} {e : Env} {ds : List Deferred} {h : Heap} {L : Owned} {c : Code} {ι : Type} (env : ι → Env) (ok : ι → Heap → Owned → Prop)
    (h1 : den C R (.code c :: .again (fun e ds' h L => ds' = ds ∧ ∃ j, Sub (env j) e ∧ ok j h L) :: k) .normal e ds h L)
    (h2 : ∀ j h L, ok j h L → den C R k .normal (env j) ds h L) : den C R (.code c :: k) .normal e ds h L := by
  intro a w he hs
  refine wpIn_mono (h1 a w he hs) ?_
  rintro x a' w' ⟨e', ds', h', L', he', hs', hq⟩
  cases x with
  | normal =>
    obtain ⟨rfl, j, hsub, hok⟩ := hq
    exact ⟨env j, ds', h', L', he'.less hsub, hs', h2 j h' L' hok⟩
  | _ => exact ⟨e', ds', h', L', he', hs', hq⟩

/-! numbers that fit -/
theorem wrap_i64 {n : Int} (h1 : -9223372036854775808 ≤ n) (h2 : n ≤ 9223372036854775807) : IntKind.i64.wrap n = n := by
  simp only [IntKind.wrap, IntKind.bits, IntKind.signed]
  simp
  omega
theorem wrap_u64 {n : Int} (h1 : 0 ≤ n) (h2 : n ≤ 18446744073709551615) : IntKind.u64.wrap n = n := by
  simp only [IntKind.wrap, IntKind.bits, IntKind.signed]
  simp
  omega
theorem wrap_u32 {n : Int} (h1 : 0 ≤ n) (h2 : n ≤ 4294967295) : IntKind.u32.wrap n = n := by
  simp only [IntKind.wrap, IntKind.bits, IntKind.signed]
  simp
  omega
theorem wrap_u8 {n : Int} (h1 : 0 ≤ n) (h2 : n ≤ 255) : IntKind.u8.wrap n = n := by
  simp only [IntKind.wrap, IntKind.bits, IntKind.signed]
  simp
  omega
end Go.Proofs.Ch
