/- From a walk to the row: a call that keeps all memory that was there reads its arguments behind the call as before. No program is named here. -/
import Derived.Test.YtglmkcfmcoianaaGreatDoorF
import Derived.ProofKit
import Derived.LaidMore
import Derived.OpenShut
import Derived.Stop.Joined
import Derived.ReadAgain
import Derived.ChangeStays
import Derived.MakeChecks
import Derived.LaidHandle
import Derived.Test.YtglmkcfmcoianaaGreatDoorLi
namespace Go.Proofs.Ch
open Go Go.ChangeShapes Go.WideShapes Go.ChangeAt Go.RowKit
/-- all that was there stays as it was -/
def Kept (W W' : World) : Prop := W'.os = W.os ∧ W'.output = W.output ∧ ∀ b : Nat, b < W.heap.size → W'.heap[b]? = W.heap[b]?
/-- all of memory -/
def whole (W : World) : Heap := ⟨fun b => W.heap[b]?, W.os, W.output⟩
theorem calls_of {P : Program} {f : FuncId} {args : List Value} {W : World} {r : Value} (t : Fn0 P f args (whole W) r) : Calls P f ⟨args⟩ W (fun e W' => e = .returned r ∧ Kept W W') := by
  have hs : St (whole W) ([] ++ []) W := ⟨fun _ _ x => x, fun p hp => by simp at hp, fun p hp => by simp at hp, by simp, rfl, rfl⟩
  refine (callsIn_wide.1 (t.2 [] W hs)).mono ?_
  rintro e W' ⟨v, h', L', rfl, hle, hs', rfl, rfl⟩
  refine ⟨rfl, hs'.os.trans hle.os, hs'.out.trans hle.out, fun b hb => ?_⟩
  have h1 : W.heap[b]? = some W.heap[b] := Array.getElem?_eq_getElem hb
  rw [h1]
  exact hs'.per _ _ (hle _ _ h1)
theorem Kept.sameAt {W W' : World} (k : Kept W W') {p : MemPlace} (hp : p.block < W.heap.size) : W.sameAt W' p := by
  cases p with
  | cell b off =>
    have := k.2.2 b hp
    show W'.cell? _ = W.cell? _
    unfold World.cell?
    simp only [this]
  | map b => exact k.2.2 b hp
section
variable {H : Type} {enc : TypeId × Value → H} {P : Program} {T : TypeId → Prop}
theorem trodAll_kept {W W' : World} (k : Kept W W') : ∀ {ts : List TypeId} {vs : List Value} {ds : List (DataW H)} {ps : List MemPlace}, DataW.TrodAll enc P W 0 (fun _ => true) true ts vs ds ps → (∀ p ∈ ps, p.block < W.heap.size) → DataW.TrodAll enc P W' 0 (fun _ => true) true ts vs ds ps
  | [], [], [], _, h, _ => h
  | _ :: _, _ :: _, _ :: _, _, ⟨p, q, ⟨n, h1⟩, h2, e⟩, hs => ⟨p, q, ⟨n, DataW.trod_carry n _ _ _ h1 (fun x hx => k.sameAt (hs x (by rw [e]; exact List.mem_append_left _ hx)))⟩, trodAll_kept k h2 (fun x hx => hs x (by rw [e]; exact List.mem_append_right _ hx)), e⟩
theorem Kept.frozen {W W' : World} (k : Kept W W') {a : Addr} (hp : a.block < W.heap.size) : W'.frozen? a = W.frozen? a := by
  unfold World.frozen?
  rw [k.2.2 a.block hp]
theorem Kept.but {W W' : World} (k : Kept W W') (may : MemPlace → Prop) : W.keptBut W' may := by
  refine ⟨k.1, k.2.1, fun i hi => ?_⟩
  rw [k.2.2 i hi]
  cases hx : W.heap[i]? with
  | none => rfl
  | some o =>
    cases o <;> simp
/-- The law answers true, and nothing that was there has turned. -/
theorem post_kept (K : Kids P T) (hz : ∀ t e, T t → P.underlying t = some (.slice e) → 0 < P.cellsOf e) {f : Func} {s : ChangeSpec} {apart fresh handsOn again : Bool} {W W' : World} {args : Array Value} {ds gs : List (DataW H)} {before : List MemPlace} {tb : TypeId}
    (hv : s.vars = []) (hT : ∀ t ∈ f.params.toList, T t) (hr : f.resultTypes = #[tb]) (hb : P.underlying tb = some .bool)
    (hW : DataW.Whole enc P f.params.toList s.vars apart W args.toList ds gs before) (k : Kept W W')
    (hres : (s.fn H (ds ++ gs)).results = [.lit (.bool true)]) (hargs : (s.fn H (ds ++ gs)).args = ds) (hvars : (s.fn H (ds ++ gs)).vars = []) :
    s.post enc P f apart fresh handsOn again W args (.bool true) W' := by
  have hlt : ∀ p ∈ before, p.block < W.heap.size := fun p hp => hW.lt p hp
  have hWc := hW
  obtain ⟨p, q, hA, hV, rfl, hfz, hnd⟩ := hW
  rw [hv] at hV
  obtain ⟨rfl, rfl⟩ := trodVars_none hV
  have hA' := trodAll_kept k hA (fun x hx => hlt x (by simp [hx]))
  have hold : ∀ x ∈ p ++ [], (fun b => decide (b < W.heap.size)) x.block = true := fun x hx => by simpa using hlt x hx
  have hag : ∀ sp : Nat → Bool, (∀ x ∈ p ++ [], sp x.block = true) → DataW.TrodAll enc P W' 0 sp true f.params.toList args.toList (s.fn H (ds ++ [])).args p := fun sp hsp => by
    rw [hargs]
    exact DataW.TrodAll.respare K hz hT hA' (fun x hx => hsp x (by simp [hx]))
  have hvg : ∀ sp : Nat → Bool, DataW.TrodVars enc P W' sp s.vars (s.fn H (ds ++ [])).vars [] := fun sp => by
    rw [hvars, hv]; exact rfl
  have hrg : ∀ (b : Nat) (sp : Nat → Bool) (hd : Bool), DataW.TrodAll enc P W' b sp hd f.resultTypes.toList ((Value.bool true).resultList f.resultTypes.size) (s.fn H (ds ++ [])).results [] := fun b sp hd => by
    rw [hr, hres]
    exact trodAll_mk1 (shut_bool hb _)
  refine ⟨ds, [], p ++ [], [], p, [], hWc, hrg _ _ _, hag _ hold, hvg _, World.keptBut_mono (fun x hx => ⟨hx, ?_⟩) (k.but (· ∈ p ++ [])), fun _ => ?_⟩
  · rw [List.mem_append] at hx
    exact Or.inr hx
  · refine ⟨ok_one hr rfl (okWide_bool_mk hb _), _, _, ([] ++ p) ++ [], ⟨[] ++ p, [], trodAll_append (hag _ (fun _ _ => rfl)) (hrg _ _ _), hvg _, rfl, ?_, ?_⟩, ?_⟩
    · intro b off hp
      have hin : MemPlace.cell b off ∈ p ++ [] := by simpa using hp
      rw [k.frozen (hlt _ hin)]
      exact hfz b off hin
    · intro ha
      have := hnd ha
      simpa using this
    · intro x hx _
      simpa using hx
end
section
variable {P : Program} {w : World} {r : Reach} {base : Nat} {t : TypeId} {v : Value}
theorem cell_int {k : IntKind} (ht : P.underlying t = some (.int k)) (h : Cell.okWide P w r base t v) : ∃ n, v = .int k n ∧ k.has n := by
  unfold Cell.okWide at h
  rw [ht] at h
  cases v <;> simp_all [Cell.ok]
theorem cell_bool (ht : P.underlying t = some .bool) (h : Cell.okWide P w r base t v) : ∃ b, v = .bool b := by
  unfold Cell.okWide at h
  rw [ht] at h
  cases v <;> simp_all [Cell.ok]
theorem okw_int {k : IntKind} (ht : P.underlying t = some (.int k)) (h : Value.okWide P w r base t v) : ∃ n, v = .int k n ∧ k.has n := by
  unfold Value.okWide at h
  rw [ht] at h
  exact cell_int ht h
theorem okw_agg {ts : List TypeId} {N : Nat} (hm : (match P.underlying t with | some (.struct _) | some (.array _ _) => true | _ => false) = true) (hsz : P.cellsOf t = N) (hts : P.cellTypes P.depth t = some ts) (hl : ts.length = N)
    (h : Value.okWide P w r base t v) : ∃ cs : List Value, v = .agg ⟨cs⟩ ∧ cs.length = N ∧ ∀ (i : Nat) (c : Value), cs[i]? = some c → ∃ u, ts[i]? = some u ∧ Cell.okWide P w r base u c := by
  have h2 : ∃ cs, v = .agg cs ∧ cs.size = P.cellsOf t ∧ Row.okWide P w r base t cs := by
    unfold Value.okWide at h
    split at h
    · exact h
    · exact h
    · rename_i h1 h2
      cases hu : P.underlying t with
      | none => rw [hu] at hm; cases hm
      | some d =>
        rw [hu] at hm
        cases d <;> simp at hm
        · exact absurd hu (by intro e; exact absurd e (by first | exact h1 _ | exact h2 _ _))
        · exact absurd hu (by intro e; exact absurd e (by first | exact h1 _ | exact h2 _ _))
  obtain ⟨⟨cs⟩, rfl, hs, ts', hts', _, hc⟩ := h2
  have he : ts' = ts := Option.some.inj (hts'.symm.trans hts)
  subst he
  refine ⟨cs, rfl, by simpa [hsz] using hs, fun i c hi => ?_⟩
  obtain ⟨u, hu, ho⟩ := hc i c (by simpa using hi)
  have hlt : i < cs.length := (List.getElem?_eq_some_iff.1 hi).1
  have : cs.length = N := by simpa [hsz] using hs
  rw [hl, Nat.mod_eq_of_lt (by omega)] at hu
  exact ⟨u, hu, ho⟩
end
theorem trodAll_len {H : Type} {enc : TypeId × Value → H} {P : Program} {w : World} {base : Nat} {sp : Nat → Bool} {held : Bool} : ∀ {ts : List TypeId} {vs : List Value} {ds : List (DataW H)} {ps : List MemPlace}, DataW.TrodAll enc P w base sp held ts vs ds ps → vs.length = ts.length ∧ ds.length = ts.length
  | [], [], [], _, _ => ⟨rfl, rfl⟩
  | _ :: _, _ :: _, _ :: _, _, ⟨_, _, _, h, _⟩ => by
    have := trodAll_len h
    simp [this.1, this.2]
def toB : Value → UInt8
  | .int _ n => UInt8.ofNat n.toNat
  | _ => 0
theorem dig_of {bs : List Value} (hl : bs.length = 32) (h : ∀ (i : Nat) (c : Value), bs[i]? = some c → ∃ n, c = .int .u8 n ∧ IntKind.u8.has n) : ∃ d : Dig, bs = dcells d := by
  refine ⟨⟨(bs.map toB).toArray, by simp [hl]⟩, ?_⟩
  rw [dcells_eq]
  apply List.ext_getElem?
  intro i
  have e : (Vector.toList (⟨(bs.map toB).toArray, by simp [hl]⟩ : Dig)) = bs.map toB := by simp [Vector.toList]
  rw [e, List.getElem?_map, List.getElem?_map]
  cases hb : bs[i]? with
  | none => rfl
  | some c =>
    obtain ⟨n, rfl, hn⟩ := h i c hb
    have h8 : 0 ≤ n ∧ n < 256 := by
      simp [IntKind.has, IntKind.min, IntKind.max, IntKind.signed, IntKind.bits] at hn
      omega
    obtain ⟨m, rfl⟩ : ∃ m : Nat, n = (m : Int) := ⟨n.toNat, by omega⟩
    simp only [Option.map_some, toB, Int.toNat_natCast]
    rw [byteV_nat (by omega)]
theorem ri_has {n : Int} (h : IntKind.i64.has n) : Ri n := by
  simp [IntKind.has, IntKind.min, IntKind.max, IntKind.signed, IntKind.bits] at h
  unfold Ri; omega
theorem dig_sub {P : Program} {w : World} {r : Reach} {base u8 o : Nat} {cs : List Value} {ts : List TypeId} (hu : P.underlying u8 = some (.int .u8)) (hl : o + 32 ≤ cs.length) (ht : ∀ i : Nat, i < 32 → ts[o + i]? = some u8)
    (h : ∀ (i : Nat) (c : Value), cs[i]? = some c → ∃ u, ts[i]? = some u ∧ Cell.okWide P w r base u c) : ∃ d : Dig, (cs.drop o).take 32 = dcells d := by
  refine dig_of (by simp; omega) fun i c hi => ?_
  have hi32 : i < 32 := by
    have := (List.getElem?_eq_some_iff.1 hi).1
    simp at this; omega
  rw [List.getElem?_take_of_lt hi32, List.getElem?_drop] at hi
  obtain ⟨u, hu', ho⟩ := h _ _ hi
  rw [ht i hi32] at hu'
  cases hu'
  exact cell_int hu ho
theorem lk_of {P : Program} {w : World} {r : Reach} {base i3 b4 u8 : Nat} {cs : List Value} (h3 : P.underlying i3 = some (.int .i64)) (h4 : P.underlying b4 = some .bool) (h8 : P.underlying u8 = some (.int .u8)) (hl : cs.length = 40)
    (h : ∀ (i : Nat) (c : Value), cs[i]? = some c → ∃ u, ([i3, i3, i3, i3, i3, b4] ++ List.replicate 32 u8 ++ [i3, i3])[i]? = some u ∧ Cell.okWide P w r base u c) : ∃ l : Lk, cs = l.cells ∧ l.ok := by
  obtain ⟨d, hd⟩ := dig_sub (o := 6) h8 (by omega) (fun i hi => by
    rw [List.getElem?_append_left (by simp only [List.length_append, List.length_replicate, List.length_cons, List.length_nil]; omega), List.getElem?_append_right (by simp only [List.length_cons, List.length_nil]; omega), List.getElem?_replicate, if_pos (by simp only [List.length_cons, List.length_nil]; omega)]) h
  have int : ∀ i : Nat, i < 40 → ([i3, i3, i3, i3, i3, b4] ++ List.replicate 32 u8 ++ [i3, i3])[i]? = some i3 → ∃ n, cs[i]? = some (.int .i64 n) ∧ Ri n := by
    intro i hi ht
    obtain ⟨u, hu, ho⟩ := h i cs[i] (List.getElem?_eq_getElem (by omega))
    rw [ht] at hu; cases hu
    obtain ⟨n, hn, hr⟩ := cell_int h3 ho
    exact ⟨n, by rw [← hn]; exact List.getElem?_eq_getElem (by omega), ri_has hr⟩
  obtain ⟨f, hf, rf⟩ := int 0 (by omega) rfl
  obtain ⟨b, hb, rb⟩ := int 1 (by omega) rfl
  obtain ⟨p, hp, rp⟩ := int 2 (by omega) rfl
  obtain ⟨v, hv, rv⟩ := int 3 (by omega) rfl
  obtain ⟨x, hx, rx⟩ := int 4 (by omega) rfl
  obtain ⟨re, hre⟩ : ∃ re, cs[5]? = some (.bool re) := by
    obtain ⟨u, hu, ho⟩ := h 5 cs[5] (List.getElem?_eq_getElem (by omega))
    have : u = b4 := by simpa using hu.symm
    subst this
    obtain ⟨q, hq⟩ := cell_bool h4 ho
    exact ⟨q, by rw [← hq]; exact List.getElem?_eq_getElem (by omega)⟩
  obtain ⟨r1, hr1, rr1⟩ := int 38 (by omega) rfl
  obtain ⟨s1, hs1, rs1⟩ := int 39 (by omega) rfl
  refine ⟨⟨f, b, p, v, x, re, d, r1, s1⟩, ?_, rf, rb, rp, rv, rx, rr1, rs1⟩
  show cs = [.int .i64 f, .int .i64 b, .int .i64 p, .int .i64 v, .int .i64 x, .bool re] ++ (dcells d ++ [.int .i64 r1, .int .i64 s1])
  rw [← hd]
  apply List.ext_getElem?
  intro i
  have cases6 : i < 6 ∨ (6 ≤ i ∧ i < 38) ∨ 38 ≤ i := by omega
  rcases cases6 with hi | ⟨h6, h38⟩ | hi
  · rw [List.getElem?_append_left (by simpa using hi)]
    match i, hi with
    | 0, _ => exact hf
    | 1, _ => exact hb
    | 2, _ => exact hp
    | 3, _ => exact hv
    | 4, _ => exact hx
    | 5, _ => exact hre
  · rw [List.getElem?_append_right (by simpa using h6), List.getElem?_append_left (by simp; omega), List.getElem?_take_of_lt (by simp; omega), List.getElem?_drop]
    congr 1
    simp; omega
  · rw [List.getElem?_append_right (by simp; omega), List.getElem?_append_right (by simp; omega)]
    rcases Nat.lt_trichotomy i 39 with hq | rfl | hq
    · have : i = 38 := by omega
      subst this
      rw [hr1]; simp [hl]
    · rw [hs1]; simp [hl]
    · rw [List.getElem?_eq_none (by omega), List.getElem?_eq_none (by simp [hl]; omega)]
theorem keys_of {P : Program} {w : World} {r : Reach} {base u8 : Nat} {cs : List Value} (h8 : P.underlying u8 = some (.int .u8)) (hl : cs.length = 64)
    (h : ∀ (i : Nat) (c : Value), cs[i]? = some c → ∃ u, (List.replicate 64 u8)[i]? = some u ∧ Cell.okWide P w r base u c) : ∃ a b : Dig, cs = dcells a ++ dcells b := by
  obtain ⟨a, ha⟩ := dig_sub (o := 0) h8 (by omega) (fun i hi => by rw [List.getElem?_replicate, if_pos (by omega)]) h
  obtain ⟨b, hb⟩ := dig_sub (o := 32) h8 (by omega) (fun i hi => by rw [List.getElem?_replicate, if_pos (by omega)]) h
  refine ⟨a, b, ?_⟩
  rw [← ha, ← hb, List.drop_zero, List.take_of_length_le (l := cs.drop 32) (by simp [hl]), List.take_append_drop]
/-- an array of numbers, as the program lays it -/
theorem cells_ints {H : Type} {enc : TypeId × Value → H} {P : Program} {w : World} {base : Nat} {sp : Nat → Bool} {held : Bool} {fuel n : Nat} {t e : TypeId} {k : IntKind} {cs : List Value} {zs : List Int} {p : List MemPlace} (ht : P.underlying t = some (.array n e)) (he : P.underlying e = some (.int k)) (hc : P.cellsOf e = 1) (hct : P.cellsOf t = n)
    (h : DataW.trod enc P w base sp held fuel t cs = some (.agg (zs.map fun z => .lit (.int k z)), p)) : cs = zs.map (Value.int k) := by
  obtain ⟨xs, m, _, hx, hlen, hn, hel⟩ := DataW.trod_array ht h
  simp only [Prod.mk.injEq, DataW.agg.injEq] at hx
  rw [hct] at hlen
  have hz : zs.length = n := by
    have := congrArg List.length hx.1
    simpa [hn] using this
  apply List.ext_getElem?
  intro i
  rcases Nat.lt_or_ge i n with hi | hi
  · have h1 := hel i hi
    rw [hc, Nat.mul_one, List.getElem?_eq_getElem (by omega : i < xs.length)] at h1
    obtain ⟨z, e1, e2, _⟩ := DataW.trod_int he h1
    have h2 : (zs.map fun z => (DataW.lit (.int k z) : DataW H))[i]? = (xs.map (·.1))[i]? := by rw [hx.1]
    rw [List.getElem?_map, List.getElem?_map, List.getElem?_eq_getElem (by omega : i < zs.length), List.getElem?_eq_getElem (by omega : i < xs.length), e2] at h2
    simp at h2
    have h3 : ((cs.drop i).take 1)[0]? = some (.int k z) := by rw [e1]; rfl
    rw [List.getElem?_take_of_lt (by omega), List.getElem?_drop, Nat.add_zero] at h3
    rw [h3, List.getElem?_map, List.getElem?_eq_getElem (by omega : i < zs.length)]
    simp [h2]
  · rw [List.getElem?_eq_none (by omega), List.getElem?_eq_none (by simp; omega)]
theorem var_block {P : Program} {w : World} {n : String} {g : Nat} {cs : Array Value} (hg : P.globalNamed n = some g) (h : w.var? P n = some cs) : ∃ T fr, w.heap[g]? = some (.cells cs T fr) := by
  unfold World.var? at h
  rw [hg] at h
  simp only [Option.bind_some] at h
  split at h
  · cases h; exact ⟨_, _, ‹_›⟩
  · cases h
end Go.Proofs.Ch
