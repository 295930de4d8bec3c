/- PROVED: PolicyExact answers true whatever the input, and its arguments read behind the call as before. The conditions: those of the given card (package-level variables start as the program's text lays them, tied to it; runs of the model). -/
import Derived.Test.YtmeakefbepbapaaGreatDoorTie
import Derived.Test.YtmeakefbepbapaaGreatDoorCards
import Derived.Test.YtmeakefbepbapaaGreatDoorS3
import Derived.Test.YtmeakefbepbapaaGreatDoorP7
namespace Go.Proofs.YtmeakefbepbapaaGreatDoor
open Go Go.Proofs.Ch Go.ChangeShapes Go.WideShapes Go.ChangeAt Go.RowKit
theorem own : ownKnob Tryz.prog.godebug = none := by kernel_rfl
theorem gStart : Tryz.prog.globalNamed "chartroom/digest.start" = some 0 := by kernel_rfl
theorem gNums : Tryz.prog.globalNamed "chartroom/digest.numbers" = some 1 := by kernel_rfl
theorem tStart : (Tryz.prog.globals[0]?).map (·.type) = some 151 := by kernel_rfl
theorem tNums : (Tryz.prog.globals[1]?).map (·.type) = some 191 := by kernel_rfl
def zsStart : List Int := [1779033703, 3144134277, 1013904242, 2773480762, 1359893119, 2600822924, 528734635, 1541459225]
def zsNums : List Int := [1116352408, 1899447441, 3049323471, 3921009573, 961987163, 1508970993, 2453635748, 2870763221, 3624381080, 310598401, 607225278, 1426881987, 1925078388, 2162078206, 2614888103, 3248222580, 3835390401, 4022224774, 264347078, 604807628, 770255983, 1249150122, 1555081692, 1996064986, 2554220882, 2821834349, 2952996808, 3210313671, 3336571891, 3584528711, 113926993, 338241895, 666307205, 773529912, 1294757372, 1396182291, 1695183700, 1986661051, 2177026350, 2456956037, 2730485921, 2820302411, 3259730800, 3345764771, 3516065817, 3600352804, 4094571909, 275423344, 430227734, 506948616, 659060556, 883997877, 958139571, 1322822218, 1537002063, 1747873779, 1955562222, 2024104815, 2227730452, 2361852424, 2428436474, 2756734187, 3204031479, 3329325298]
theorem zStart : zsStart.map (Value.int .u32) = start8.cells := by kernel_rfl
theorem zNums : zsNums.map (Value.int .u32) = kcells := by kernel_rfl
theorem of_laid {W : World} (h : laidMetH Tryz.prog Rows.policyExactRow.laid W) : Gl (whole W) := by
  rw [MakeChecks.laidMetH_plain _ _ _ (by kernel_rfl)] at h
  obtain ⟨ps, ⟨g0, t0, cs0, f0, p0, q0, hg0, ht0, hv0, hd0, ⟨g1, t1, cs1, f1, p1, q1, hg1, ht1, hv1, hd1, _⟩, _⟩, _⟩ := h
  obtain rfl := Option.some.inj (gStart.symm.trans hg0)
  obtain rfl := Option.some.inj (gNums.symm.trans hg1)
  obtain rfl := Option.some.inj (tStart.symm.trans ht0)
  obtain rfl := Option.some.inj (tNums.symm.trans ht1)
  have e0 := cells_ints (zs := zsStart) Tryz.underlying151 Tryz.underlying150 (by kernel_rfl) (by kernel_rfl) hd0
  have e1 := cells_ints (zs := zsNums) Tryz.underlying191 Tryz.underlying150 (by kernel_rfl) (by kernel_rfl) hd1
  rw [zStart] at e0
  rw [zNums] at e1
  obtain ⟨T0, r0, b0⟩ := var_block hg0 hv0
  obtain ⟨T1, r1, b1⟩ := var_block hg1 hv1
  obtain ⟨c0⟩ := cs0
  obtain ⟨c1⟩ := cs1
  simp only at e0 e1
  subst e0 e1
  exact ⟨⟨T0, r0, b0⟩, T1, r1, b1⟩
theorem door_met (os : Os) (args : Array Value) : laidMetH Tryz.prog Rows.policyExactRow.laid ((World.doorLaid Tryz.prog 400 os).forCall (fun _ _ => 0) ⟨#[], args, []⟩).memory :=
  laidMetH_of_parts3 (fuel := 8) (laidMet_of_run' 8 (by kernel_rfl) (by kernel_rfl)) (by kernel_rfl) (by kernel_rfl)
theorem kids : Kids Tryz.prog (· < Tryz.prog.types.size) := kids_rows (by kernel_rfl) (by kernel_rfl)
theorem full : ∀ t e, t < Tryz.prog.types.size → Tryz.prog.underlying t = some (.slice e) → 0 < Tryz.prog.cellsOf e := slices_full_of _ (by kernel_rfl)
theorem rowsT : ∀ t ∈ Tryz.f6.params.toList, t < Tryz.prog.types.size := by
  have h : (Tryz.f6.params.toList.all fun t => decide (t < Tryz.prog.types.size)) = true := by kernel_rfl
  exact fun t ht => of_decide_eq_true (List.all_eq_true.1 h t ht)
set_option maxRecDepth 100000 in
theorem contract {H : Type} {enc : TypeId × Value → H} {W : World} {base : Nat} {args : Array Value} {ds gs : List (DataW H)} {before : List MemPlace}
    (hval : ∀ (j : Nat) t v, Tryz.f6.params[j]? = some t → args[j]? = some v → Value.okWide Tryz.prog W .any base t v)
    (hW : DataW.Whole enc Tryz.prog Tryz.f6.params.toList Rows.policyExactSpec.vars false W args.toList ds gs before) (hL : laidMetH Tryz.prog Rows.policyExactRow.laid W) :
    Calls Tryz.prog 6 args W fun e W' => ∃ v, e = .returned v ∧ Rows.policyExactSpec.post enc Tryz.prog Tryz.f6 false true false false W args v W' := by
  have hW0 := hW
  obtain ⟨p, q, hA, hV, _, _, _⟩ := hW0
  obtain ⟨rfl, _⟩ := trodVars_none hV
  have hlen := trodAll_len hA
  rw [Tryz.params6] at hval hlen
  obtain ⟨args⟩ := args
  obtain ⟨ha, hd⟩ := hlen
  simp only [List.length_cons, List.length_nil] at ha hd
  match args, ds, ha, hd with
  | [v0, v1, v2], [d0, d1, d2], _, _ =>
    have hR := rdAll_of hA
    obtain ⟨r0, r1, r2, _⟩ := hR
    obtain ⟨cs0, rfl⟩ := okw_cells (by kernel_rfl) (hval 0 24 v0 rfl rfl)
    have r0 : Rd _ W _ cs0 := r0
    obtain ⟨p, a, b, ca, cb, rfl, sa, sb⟩ := rd_pol r0
    obtain ⟨sa1, n1, m1, rfl⟩ := okw_slice Tryz.underlying38 (hval 1 38 v1 rfl rfl)
    have r1 : Rd _ W _ [.slice sa1 n1 m1] := r1
    obtain ⟨x, cx, xs, e1, sx⟩ := rd_lsts r1
    obtain ⟨rfl, rfl, rfl⟩ : x = sa1 ∧ xs.length = n1 ∧ cx = m1 := by cases e1; exact ⟨rfl, rfl, rfl⟩
    obtain ⟨cs2, rfl⟩ := okw_cells (by kernel_rfl) (hval 2 41 v2 rfl rfl)
    have r2 : Rd _ W _ cs2 := r2
    obtain ⟨it, y, cy, cs, rfl, hok, sy⟩ := rd_exp r2
    refine (calls_of (lawx_fn p a b x y ca cb cx cy xs it cs (whole W) sa sb sx sy hok (of_laid hL))).mono ?_
    rintro e W' ⟨rfl, hk⟩
    exact ⟨_, rfl, post_kept kids full rfl rowsT (by kernel_rfl) Tryz.underlying4 hW hk rfl rfl rfl⟩
set_option maxRecDepth 100000 in
theorem lifted (os : Os) (started : os.Started) (H : Type) (enc : TypeId × Value → H) :
    ReturnsInHanded {} Tryz.checked os 6 .any (fun w args => (Rows.policyExactSpec.pre enc Tryz.prog Tryz.f6 [] false w args ∧ laidMetH Tryz.prog Rows.policyExactRow.laid w) ∧ sizedMet enc Tryz.prog Tryz.f6 (OpenSpec.ofChange Rows.policyExactSpec) false w args)
      (Rows.policyExactSpec.post enc Tryz.prog Tryz.f6 false true false false) := by
  refine returnsInHanded_of_change_and (C := Tryz.checked) (X := fun w _ => laidMetH Tryz.prog Rows.policyExactRow.laid w) (fun _ _ _ hh h => h.of_heap hh) own started (by kernel_rfl) Tryz.func6
    (ChangeSpec.witness_shaped (enc := enc) (C := Tryz.checked) (os := os) (X := fun w _ => laidMetH Tryz.prog Rows.policyExactRow.laid w) false (World.doorLaid Tryz.prog 400 os) #[.agg ⟨[.int .i64 0, .bool false, .slice none 0 0, .slice none 0 0, .int .i64 0, .int .i64 0]⟩, .slice none 0 0, .agg ⟨dcells dz ++ [.slice none 0 0]⟩] 8 rfl (World.shaped_of_RefB (by kernel_rfl) (by kernel_rfl)) (by kernel_rfl) (by kernel_rfl) (by kernel_rfl) (door_met os _)) ?_
  intro W base args ds gs before hval hW _ _ hL _
  exact contract hval hW hL
end Go.Proofs.YtmeakefbepbapaaGreatDoor
