/- Walks of the program's functions, printed by my own generator (layer P1). -/
import Derived.Test.YtmeakefbepbapaaGreatDoorV1
import Derived.Test.YtmeakefbepbapaaGreatDoorPo
namespace Go.Proofs.Ch
open Go Go.Proofs
set_option maxRecDepth 4000
set_option maxHeartbeats 1000000
theorem zer138 : Zer Tryz.prog 138 (.agg ⟨[]⟩) := by show _ = _; kernel_rfl
theorem plc138 : Plc Tryz.prog (match Tryz.prog.underlying 138 with | some (.struct fs) => fs | _ => #[]) [] := fun _ => by kernel_rfl
theorem siz138 : Siz Tryz.prog 138 0 := by show _ = _; kernel_rfl
theorem siz22 : Siz Tryz.prog 22 1 := by show _ = _; kernel_rfl
theorem one22 : One Tryz.prog 22 := One.of Tryz.underlying22 rfl
theorem siz49 : Siz Tryz.prog 49 5 := by show _ = _; kernel_rfl
theorem many49 : Many Tryz.prog 49 5 := Many.of Tryz.underlying49 rfl siz49
theorem one39 : One Tryz.prog 39 := One.of Tryz.underlying39 rfl
theorem siz32 : Siz Tryz.prog 32 3 := by show _ = _; kernel_rfl
theorem many32 : Many Tryz.prog 32 3 := Many.of Tryz.underlying32 rfl siz32
theorem one38 : One Tryz.prog 38 := One.of Tryz.underlying38 rfl
theorem siz39 : Siz Tryz.prog 39 1 := by show _ = _; kernel_rfl
theorem zer32 : Zer Tryz.prog 32 (.agg ⟨[.int .i64 0, .int .i64 0, .int .i64 0]⟩) := by show _ = _; kernel_rfl
theorem siz24 : Siz Tryz.prog 24 6 := by show _ = _; kernel_rfl
theorem many24 : Many Tryz.prog 24 6 := Many.of Tryz.underlying24 rfl siz24
theorem siz41 : Siz Tryz.prog 41 33 := by show _ = _; kernel_rfl
theorem many41 : Many Tryz.prog 41 33 := Many.of Tryz.underlying41 rfl siz41
theorem one84 : One Tryz.prog 84 := One.of Tryz.underlying84 rfl
theorem zer84 : Zer Tryz.prog 84 (.map none) := by show _ = _; kernel_rfl
theorem siz84 : Siz Tryz.prog 84 1 := by show _ = _; kernel_rfl
theorem fine_fn (a : Option Addr) (c : Nat) (l : List Int) (h : Heap) (hs : SlI h a l) : Fn0 Tryz.prog 30 [.slice a l.length c] h (.bool (fineB l)) := by
  refine Tr_of Tryz.func30 rfl rfl Tryz.ntmps30 rfl [(0, .slice a l.length c)] rfl ?_
  intro Lf
  have hl := hs.2
  refine den_seq ?_
  -- region 0
  refine den_region rfl ?_
  refine WL_v (v_assign rfl) rfl ?_
  refine WL_nil ?_
  refine den_seq ?_
  refine den_seq ?_
  -- region 1
  refine den_region rfl ?_
  refine WL_v (v_move rfl) rfl ?_
  refine WL_v (v_lens Tryz.underlying22 rfl) rfl ?_
  refine WL_v (v_move rfl) rfl ?_
  refine WL_nil ?_
  refine den_block ?_
  refine den_loopI (ι := Nat) (fun i => [(0, .slice a l.length c), (5, .slice a l.length c), (6, .int .i64 ((l.length : Nat) : Int)), (7, .int .i64 ((i : Nat) : Int))]) (fun i h' L' => i ≤ l.length ∧ h = h' ∧ Lf = L' ∧ ∀ j, j < i → fineAt l j) (fun i => l.length - i) 0 (sub_cons rfl (sub_cons rfl (sub_cons rfl (sub_cons rfl sub_nil)))) ⟨by omega, rfl, rfl, fun j hj => by omega⟩ ?_
  rintro i _ _ ⟨i1, rfl, rfl, hall⟩
  refine den_seq ?_
  -- region 2
  refine den_region rfl ?_
  refine WL_v (v_lss rfl rfl) rfl ?_
  refine WL_nil ?_
  refine den_seq ?_
  first | refine den_ifd rfl (fun hi => ?_) (fun hi => ?_) | refine den_if rfl (fun hi => ?_) (fun hi => ?_)
  · skip
    have hi : i < l.length := by omega
    obtain ⟨b, off, all, T, fr, rfl, hb, hx⟩ := hs.get hi
    refine den_skip ?_
    refine den_seq ?_
    refine den_block ?_
    refine den_seq ?_
    -- region 3
    refine den_region rfl ?_
    refine WL_v (v_move rfl) rfl ?_
    refine WL_v (v_iaddrs Tryz.underlying22 siz3 rfl rfl rfl hi) rfl ?_
    refine WL_v (v_load1 one3 rfl (Kn.per hb) hx) rfl ?_
    refine WL_v (v_assign rfl) rfl ?_
    refine WL_v (v_assign rfl) rfl ?_
    refine WL_nil ?_
    refine den_seq ?_
    -- region 4
    refine den_region rfl ?_
    refine WL_v (v_move rfl) rfl ?_
    refine WL_v (v_lss rfl rfl) rfl ?_
    refine WL_v (v_move rfl) rfl ?_
    first | refine WL_split (t := 14) rfl ?_ ?_
    · intro c3; try have c3 := of_decide_eq_true c3
      refine WL_skip (j := 2) (t := 14) (b := true) rfl rfl rfl rfl ?_
      refine WL_skip (j := 2) (t := 14) (b := true) rfl rfl rfl rfl ?_
      refine WL_v (v_pickt rfl rfl) rfl ?_
      refine WL_v (v_move rfl) rfl ?_
      refine WL_skip (j := 6) (t := 18) (b := true) rfl rfl rfl rfl ?_
      refine WL_skip (j := 6) (t := 18) (b := true) rfl rfl rfl rfl ?_
      refine WL_skip (j := 6) (t := 18) (b := true) rfl rfl rfl rfl ?_
      refine WL_skipu (j := 9) (t := 21) rfl rfl rfl rfl ?_
      refine WL_skipu (j := 9) (t := 21) rfl rfl rfl rfl ?_
      refine WL_skipu (j := 9) (t := 21) rfl rfl rfl rfl ?_
      refine WL_skipu (j := 9) (t := 21) rfl rfl rfl rfl ?_
      refine WL_skipu (j := 9) (t := 21) rfl rfl rfl rfl ?_
      refine WL_skipu (j := 9) (t := 21) rfl rfl rfl rfl ?_
      refine WL_skipu (j := 9) (t := 21) rfl rfl rfl rfl ?_
      refine WL_skip (j := 6) (t := 18) (b := true) rfl rfl rfl rfl ?_
      refine WL_v (v_pickt rfl rfl) rfl ?_
      refine WL_nil ?_
      refine den_true rfl ?_
      refine den_seq ?_
      -- region 5
      refine den_region rfl ?_
      refine WL_v (v_assign rfl) rfl ?_
      refine WL_nil ?_
      refine den_ret ?_
      exact ends1 Tryz.results30 rfl (Heap.le.refl _) (by simp) ⟨by first | rw [fineB_no hi (fun g => by obtain ⟨g1, g2, g3⟩ := g; omega)] | rw [fineB_yes hall], rfl⟩
    · intro c4; try have c4 := of_decide_eq_false c4
      refine WL_vg rfl rfl (v_move rfl) rfl ?_
      refine WL_vg rfl rfl (v_geq rfl rfl) rfl ?_
      refine WL_v (v_pickf rfl rfl) rfl ?_
      refine WL_v (v_move rfl) rfl ?_
      first | refine WL_split (t := 18) rfl ?_ ?_
      · intro c5; try have c5 := of_decide_eq_true c5
        refine WL_skip (j := 6) (t := 18) (b := true) rfl rfl rfl rfl ?_
        refine WL_skip (j := 6) (t := 18) (b := true) rfl rfl rfl rfl ?_
        refine WL_skip (j := 6) (t := 18) (b := true) rfl rfl rfl rfl ?_
        refine WL_skipu (j := 9) (t := 21) rfl rfl rfl rfl ?_
        refine WL_skipu (j := 9) (t := 21) rfl rfl rfl rfl ?_
        refine WL_skipu (j := 9) (t := 21) rfl rfl rfl rfl ?_
        refine WL_skipu (j := 9) (t := 21) rfl rfl rfl rfl ?_
        refine WL_skipu (j := 9) (t := 21) rfl rfl rfl rfl ?_
        refine WL_skipu (j := 9) (t := 21) rfl rfl rfl rfl ?_
        refine WL_skipu (j := 9) (t := 21) rfl rfl rfl rfl ?_
        refine WL_skip (j := 6) (t := 18) (b := true) rfl rfl rfl rfl ?_
        refine WL_v (v_pickt rfl rfl) rfl ?_
        refine WL_nil ?_
        refine den_true rfl ?_
        refine den_seq ?_
        -- region 5
        refine den_region rfl ?_
        refine WL_v (v_assign rfl) rfl ?_
        refine WL_nil ?_
        refine den_ret ?_
        exact ends1 Tryz.results30 rfl (Heap.le.refl _) (by simp) ⟨by first | rw [fineB_no hi (fun g => by obtain ⟨g1, g2, g3⟩ := g; omega)] | rw [fineB_yes hall], rfl⟩
      · intro c6; try have c6 := of_decide_eq_false c6
        refine WL_vg rfl rfl (v_move rfl) rfl ?_
        refine WL_vg rfl rfl (v_gtr rfl rfl) rfl ?_
        refine WL_vg rfl rfl (v_move rfl) rfl ?_
        first | refine WL_split (t := 21) rfl ?_ ?_
        · intro c7; try have c7 := of_decide_eq_true c7
          refine WL_vg rfl rfl (v_move rfl) rfl ?_
          refine WL_vg rfl rfl (v_move rfl) rfl ?_
          obtain ⟨b2, off2, all2, T2, fr2, e2, hb2, hx2⟩ := hs.get (show i - 1 < l.length by omega)
          cases e2
          refine WL_vg rfl rfl (v_subj (n := 1) rfl rfl (by omega) (by omega)) rfl ?_
          refine WL_vg rfl rfl (v_iaddrs (n := i - 1) Tryz.underlying22 siz3 rfl rfl rfl (by omega)) rfl ?_
          refine WL_vg rfl rfl (v_load1 one3 rfl (Kn.per hb2) hx2) rfl ?_
          refine WL_vg rfl rfl (v_move rfl) rfl ?_
          refine WL_vg rfl rfl (v_geq rfl rfl) rfl ?_
          refine WL_vg rfl rfl (v_pickt rfl rfl) rfl ?_
          refine WL_v (v_pickf rfl rfl) rfl ?_
          refine WL_nil ?_
          first | refine den_ifd rfl (fun c9 => ?_) (fun c10 => ?_) | refine den_if rfl (fun c9 => ?_) (fun c10 => ?_)
          · skip
            refine den_seq ?_
            -- region 5
            refine den_region rfl ?_
            refine WL_v (v_assign rfl) rfl ?_
            refine WL_nil ?_
            refine den_ret ?_
            exact ends1 Tryz.results30 rfl (Heap.le.refl _) (by simp) ⟨by first | rw [fineB_no hi (fun g => by obtain ⟨g1, g2, g3⟩ := g; omega)] | rw [fineB_yes hall], rfl⟩
          · skip
            refine den_skip ?_
            refine den_blk ?_
            -- region 6
            refine den_region rfl ?_
            refine WL_v (v_addj (n := 1) rfl rfl (by show _ < 9223372036854775808; omega)) rfl ?_
            refine WL_v (v_move rfl) rfl ?_
            refine WL_nil ?_
            refine den_again ⟨rfl, (i + 1), (by show l.length - (i + 1) < l.length - i; omega), (sub_cons rfl (sub_cons rfl (sub_cons rfl (sub_cons rfl sub_nil)))), ⟨by omega, rfl, rfl, fun j hj => by rcases Nat.lt_succ_iff_lt_or_eq.1 hj with g | rfl; exact hall j g; exact ⟨by omega, by omega, by omega⟩⟩⟩
        · intro c8; try have c8 := of_decide_eq_false c8
          refine WL_skip (j := 9) (t := 21) (b := false) rfl rfl rfl rfl ?_
          refine WL_skip (j := 9) (t := 21) (b := false) rfl rfl rfl rfl ?_
          refine WL_skip (j := 9) (t := 21) (b := false) rfl rfl rfl rfl ?_
          refine WL_skip (j := 9) (t := 21) (b := false) rfl rfl rfl rfl ?_
          refine WL_skip (j := 9) (t := 21) (b := false) rfl rfl rfl rfl ?_
          refine WL_skip (j := 9) (t := 21) (b := false) rfl rfl rfl rfl ?_
          refine WL_skip (j := 9) (t := 21) (b := false) rfl rfl rfl rfl ?_
          refine WL_vg rfl rfl (v_pickf rfl rfl) rfl ?_
          refine WL_v (v_pickf rfl rfl) rfl ?_
          refine WL_nil ?_
          refine den_false rfl ?_
          refine den_skip ?_
          refine den_blk ?_
          -- region 6
          refine den_region rfl ?_
          refine WL_v (v_addj (n := 1) rfl rfl (by show _ < 9223372036854775808; omega)) rfl ?_
          refine WL_v (v_move rfl) rfl ?_
          refine WL_nil ?_
          refine den_again ⟨rfl, (i + 1), (by show l.length - (i + 1) < l.length - i; omega), (sub_cons rfl (sub_cons rfl (sub_cons rfl (sub_cons rfl sub_nil)))), ⟨by omega, rfl, rfl, fun j hj => by rcases Nat.lt_succ_iff_lt_or_eq.1 hj with g | rfl; exact hall j g; exact ⟨by omega, by omega, by omega⟩⟩⟩
  · skip
    have hil : i = l.length := by omega
    subst hil
    refine den_exit rfl ?_
    refine den_seq ?_
    -- region 7
    refine den_region rfl ?_
    refine WL_v (v_assign rfl) rfl ?_
    refine WL_nil ?_
    refine den_ret ?_
    exact ends1 Tryz.results30 rfl (Heap.le.refl _) (by simp) ⟨by first | rw [fineB_no hi (fun g => by obtain ⟨g1, g2, g3⟩ := g; omega)] | rw [fineB_yes hall], rfl⟩

theorem add_fn (b : Nat) (l : List Int) (z : Int) (h : Heap) : Tr Tryz.prog 37 [.map (some b), .int .i64 z] h [(b, Mo U0 l)] (fun _ _ L' => L' = [(b, Mo U0 (addI l z))]) := by
  refine Tr_of Tryz.func37 rfl rfl Tryz.ntmps37 rfl [(0, .map (some b)), (1, .int .i64 z)] rfl ?_
  intro Lf
  -- region 0
  refine den_region rfl ?_
  refine WL_v (v_move rfl) rfl ?_
  refine WL_v (v_move rfl) rfl ?_
  refine WL_v (v_builds Tryz.underlying138 zer138 plc138 rfl rfl rfl) rfl ?_
  refine WL_addI (A := []) (B := Lf) Tryz.underlying84 Tryz.underlying3 rfl rfl rfl rfl ?_
  refine WL_nil ?_
  refine den_nil ?_
  exact ends0 Tryz.results37 (Heap.le.refl _) (List.Sublist.refl _) rfl

theorem has_fn (b : Nat) (l : List Int) (z : Int) (h : Heap) (hb : h b = some (Mo U0 l)) : Fn0 Tryz.prog 33 [.map (some b), .int .i64 z] h (.bool (decide (z ∈ l))) := by
  refine Tr_of Tryz.func33 rfl rfl Tryz.ntmps33 rfl [(0, .map (some b)), (1, .int .i64 z)] rfl ?_
  intro Lf
  refine den_seq ?_
  -- region 0
  refine den_region rfl ?_
  refine WL_v (v_assign rfl) rfl ?_
  refine WL_nil ?_
  refine den_seq ?_
  -- region 1
  refine den_region rfl ?_
  refine WL_v (v_move rfl) rfl ?_
  refine WL_v (v_move rfl) rfl ?_
  refine WL_v (v_lookI Tryz.underlying84 Tryz.underlying3 zer138 rfl rfl (Kn.per hb)) rfl ?_
  refine WL_v (v_move rfl) rfl ?_
  refine WL_v (v_extract rfl rfl) rfl ?_
  refine WL_v (v_extract rfl rfl) rfl ?_
  refine WL_alloc zer138 rfl rfl fun b5 => ?_
  refine WL_store0 rfl rfl (us := []) rfl siz138 rfl rfl rfl ?_
  refine WL_v (v_assign rfl) rfl ?_
  refine WL_nil ?_
  refine den_seq ?_
  -- region 2
  refine den_region rfl ?_
  refine WL_v (v_move rfl) rfl ?_
  refine WL_v (v_assign rfl) rfl ?_
  refine WL_nil ?_
  refine den_ret ?_
  exact ends1 Tryz.results33 rfl (Heap.le.refl _) (by simp) ⟨rfl, rfl⟩

theorem setof_fn (a : Option Addr) (c : Nat) (l : List Int) (h : Heap) (hs : SlI h a l) : Fnp Tryz.prog 32 [.slice a l.length c] h (fun v h' => ∃ b, v = .map (some b) ∧ h' b = some (Mo U0 (setI l))) := by
  refine Tr_of Tryz.func32 rfl rfl Tryz.ntmps32 rfl [(0, .slice a l.length c)] rfl ?_
  intro Lf
  have hl := hs.2
  refine den_seq ?_
  -- region 0
  refine den_region rfl ?_
  refine WL_v (v_assign rfl) rfl ?_
  refine WL_nil ?_
  refine den_seq ?_
  -- region 1
  refine den_region rfl ?_
  refine WL_makeMap rfl fun b6 => ?_
  refine WL_v (v_assign rfl) rfl ?_
  refine WL_nil ?_
  refine den_seq ?_
  refine den_seq ?_
  -- region 2
  refine den_region rfl ?_
  refine WL_v (v_move rfl) rfl ?_
  refine WL_v (v_lens Tryz.underlying22 rfl) rfl ?_
  refine WL_v (v_move rfl) rfl ?_
  refine WL_nil ?_
  refine den_block ?_
  refine den_loopI (ι := Nat) (fun i => [(3, .map (some b6)), (7, .slice a l.length c), (8, .int .i64 ((l.length : Nat) : Int)), (9, .int .i64 ((i : Nat) : Int))]) (fun i h' L' => i ≤ l.length ∧ Heap.le h h' ∧ L' = (b6, Mo U0 (setI (l.take i))) :: Lf) (fun i => l.length - i) 0 (sub_cons rfl (sub_cons rfl (sub_cons rfl (sub_cons rfl sub_nil)))) ⟨by omega, Heap.le.refl _, rfl⟩ ?_
  rintro i h1 _ ⟨i1, hl1, rfl⟩
  refine den_seq ?_
  -- region 3
  refine den_region rfl ?_
  refine WL_v (v_lss rfl rfl) rfl ?_
  refine WL_nil ?_
  refine den_seq ?_
  first | refine den_ifd rfl (fun hi => ?_) (fun hi => ?_) | refine den_if rfl (fun hi => ?_) (fun hi => ?_)
  · skip
    have hi : i < l.length := by omega
    obtain ⟨b, off, all, T, fr, rfl, hb, hx⟩ := hs.get hi
    have hb := hl1 _ _ hb
    refine den_skip ?_
    refine den_seq ?_
    refine den_block ?_
    refine den_seq ?_
    -- region 4
    refine den_region rfl ?_
    refine WL_v (v_iaddrs Tryz.underlying22 siz3 rfl rfl rfl hi) rfl ?_
    refine WL_v (v_load1 one3 rfl (Kn.per hb) hx) rfl ?_
    refine WL_v (v_assign rfl) rfl ?_
    refine WL_nil ?_
    -- region 5
    refine den_region rfl ?_
    refine WL_v (v_move rfl) rfl ?_
    refine WL_v (v_move rfl) rfl ?_
    refine WL_callf (L1 := [(b6, Mo U0 (setI (l.take i)))]) rfl (add_fn _ _ _ _) rfl ?_
    rintro v15 h15 L15 hl15 rfl
    refine WL_nil ?_
    refine den_blk ?_
    -- region 6
    refine den_region rfl ?_
    refine WL_v (v_addj (n := 1) rfl rfl (by show _ < 9223372036854775808; omega)) rfl ?_
    refine WL_v (v_move rfl) rfl ?_
    refine WL_nil ?_
    refine den_again ⟨rfl, (i + 1), (by show l.length - (i + 1) < l.length - i; omega), (sub_cons rfl (sub_cons rfl (sub_cons rfl (sub_cons rfl sub_nil)))), ⟨by omega, hl1.trans hl15, by rw [setI_take hi]; rfl⟩⟩
  · skip
    have hil : i = l.length := by omega
    subst hil
    refine den_exit rfl ?_
    refine den_seq ?_
    -- region 7
    refine den_region rfl ?_
    rw [List.take_length]
    refine WL_freeze fun h17 hl17 hb17 => ?_
    refine WL_v (v_move rfl) rfl ?_
    refine WL_v (v_assign rfl) rfl ?_
    refine WL_nil ?_
    refine den_ret ?_
    exact ends1 Tryz.results32 rfl (hl1.trans hl17) (List.Sublist.refl _) ⟨⟨b6, rfl, hb17⟩, rfl⟩

theorem check_fn (p : Pol) (a b : Option Addr) (ca cb : Nat) (h : Heap) (ha : SlI h a p.le) (hb : SlI h b p.ri) : Fn0 Tryz.prog 11 [.agg ⟨p.cells a b ca cb⟩] h (.int .i64 (polE p)) := by
  refine Tr_of Tryz.func11 rfl rfl Tryz.ntmps11 rfl [(0, .agg ⟨p.cells a b ca cb⟩)] rfl ?_
  intro Lf
  refine den_seq ?_
  -- region 0
  refine den_region rfl ?_
  refine WL_box rfl rfl rfl fun b1 => ?_
  refine WL_v (v_assign rfl) rfl ?_
  refine WL_nil ?_
  refine den_seq ?_
  refine den_seq ?_
  -- region 1
  refine den_region rfl ?_
  refine WL_v (v_faddr Tryz.underlying24 rfl siz3 rfl) rfl ?_
  refine WL_v (v_load1 one3 rfl (by first | exact Kn.own 0 rfl | exact Kn.own 1 rfl | exact Kn.own 2 rfl | exact Kn.own 3 rfl | exact Kn.own 4 rfl | exact Kn.own 5 rfl | exact Kn.per ‹_›) rfl) rfl ?_
  refine WL_v (v_lss rfl rfl) rfl ?_
  refine WL_v (v_move rfl) rfl ?_
  first | refine WL_split (t := 6) rfl ?_ ?_
  · intro c1; try have c1 := of_decide_eq_true c1
    refine WL_skip (j := 3) (t := 6) (b := true) rfl rfl rfl rfl ?_
    refine WL_skip (j := 3) (t := 6) (b := true) rfl rfl rfl rfl ?_
    refine WL_skip (j := 3) (t := 6) (b := true) rfl rfl rfl rfl ?_
    refine WL_v (v_pickt rfl rfl) rfl ?_
    refine WL_v (v_move rfl) rfl ?_
    refine WL_skip (j := 8) (t := 11) (b := true) rfl rfl rfl rfl ?_
    refine WL_skip (j := 8) (t := 11) (b := true) rfl rfl rfl rfl ?_
    refine WL_skip (j := 8) (t := 11) (b := true) rfl rfl rfl rfl ?_
    refine WL_skip (j := 8) (t := 11) (b := true) rfl rfl rfl rfl ?_
    refine WL_v (v_pickt rfl rfl) rfl ?_
    refine WL_v (v_move rfl) rfl ?_
    refine WL_skip (j := 14) (t := 17) (b := true) rfl rfl rfl rfl ?_
    refine WL_skip (j := 14) (t := 17) (b := true) rfl rfl rfl rfl ?_
    refine WL_skip (j := 14) (t := 17) (b := true) rfl rfl rfl rfl ?_
    refine WL_skip (j := 14) (t := 17) (b := true) rfl rfl rfl rfl ?_
    refine WL_v (v_pickt rfl rfl) rfl ?_
    refine WL_v (v_move rfl) rfl ?_
    refine WL_skip (j := 20) (t := 23) (b := true) rfl rfl rfl rfl ?_
    refine WL_skip (j := 20) (t := 23) (b := true) rfl rfl rfl rfl ?_
    refine WL_skip (j := 20) (t := 23) (b := true) rfl rfl rfl rfl ?_
    refine WL_v (v_pickt rfl rfl) rfl ?_
    refine WL_v (v_move rfl) rfl ?_
    refine WL_skip (j := 25) (t := 28) (b := true) rfl rfl rfl rfl ?_
    refine WL_skip (j := 25) (t := 28) (b := true) rfl rfl rfl rfl ?_
    refine WL_skip (j := 25) (t := 28) (b := true) rfl rfl rfl rfl ?_
    refine WL_skip (j := 25) (t := 28) (b := true) rfl rfl rfl rfl ?_
    refine WL_skip (j := 25) (t := 28) (b := true) rfl rfl rfl rfl ?_
    refine WL_v (v_pickt rfl rfl) rfl ?_
    refine WL_v (v_move rfl) rfl ?_
    refine WL_skip (j := 32) (t := 35) (b := true) rfl rfl rfl rfl ?_
    refine WL_skip (j := 32) (t := 35) (b := true) rfl rfl rfl rfl ?_
    refine WL_skip (j := 32) (t := 35) (b := true) rfl rfl rfl rfl ?_
    refine WL_v (v_pickt rfl rfl) rfl ?_
    refine WL_nil ?_
    refine den_true rfl ?_
    refine den_seq ?_
    -- region 2
    refine den_region rfl ?_
    refine WL_v (v_assign rfl) rfl ?_
    refine WL_nil ?_
    refine den_ret ?_
    exact ends1 Tryz.results11 rfl (by first | exact Heap.le.refl _ | exact hl44) (by simp) ⟨by congr 1; first | exact (polE_m hm).symm | exact (polE_ok ⟨by omega, by omega, by simp_all, by simp_all, by omega, by omega, by omega⟩ hm).symm | exact (polE_f (fun g => by obtain ⟨g1, g2, g3, g4, g5, g6, g7⟩ := g; first | omega | simp_all)).symm, rfl⟩
  · intro c2; try have c2 := of_decide_eq_false c2
    refine WL_vg rfl rfl (v_faddr Tryz.underlying24 rfl siz3 rfl) rfl ?_
    refine WL_vg rfl rfl (v_load1 one3 rfl (by first | exact Kn.own 0 rfl | exact Kn.own 1 rfl | exact Kn.own 2 rfl | exact Kn.own 3 rfl | exact Kn.own 4 rfl | exact Kn.own 5 rfl | exact Kn.per ‹_›) rfl) rfl ?_
    refine WL_vg rfl rfl (v_geq rfl rfl) rfl ?_
    refine WL_v (v_pickf rfl rfl) rfl ?_
    refine WL_v (v_move rfl) rfl ?_
    first | refine WL_split (t := 11) rfl ?_ ?_
    · intro c3; try have c3 := of_decide_eq_true c3
      refine WL_skip (j := 8) (t := 11) (b := true) rfl rfl rfl rfl ?_
      refine WL_skip (j := 8) (t := 11) (b := true) rfl rfl rfl rfl ?_
      refine WL_skip (j := 8) (t := 11) (b := true) rfl rfl rfl rfl ?_
      refine WL_skip (j := 8) (t := 11) (b := true) rfl rfl rfl rfl ?_
      refine WL_v (v_pickt rfl rfl) rfl ?_
      refine WL_v (v_move rfl) rfl ?_
      refine WL_skip (j := 14) (t := 17) (b := true) rfl rfl rfl rfl ?_
      refine WL_skip (j := 14) (t := 17) (b := true) rfl rfl rfl rfl ?_
      refine WL_skip (j := 14) (t := 17) (b := true) rfl rfl rfl rfl ?_
      refine WL_skip (j := 14) (t := 17) (b := true) rfl rfl rfl rfl ?_
      refine WL_v (v_pickt rfl rfl) rfl ?_
      refine WL_v (v_move rfl) rfl ?_
      refine WL_skip (j := 20) (t := 23) (b := true) rfl rfl rfl rfl ?_
      refine WL_skip (j := 20) (t := 23) (b := true) rfl rfl rfl rfl ?_
      refine WL_skip (j := 20) (t := 23) (b := true) rfl rfl rfl rfl ?_
      refine WL_v (v_pickt rfl rfl) rfl ?_
      refine WL_v (v_move rfl) rfl ?_
      refine WL_skip (j := 25) (t := 28) (b := true) rfl rfl rfl rfl ?_
      refine WL_skip (j := 25) (t := 28) (b := true) rfl rfl rfl rfl ?_
      refine WL_skip (j := 25) (t := 28) (b := true) rfl rfl rfl rfl ?_
      refine WL_skip (j := 25) (t := 28) (b := true) rfl rfl rfl rfl ?_
      refine WL_skip (j := 25) (t := 28) (b := true) rfl rfl rfl rfl ?_
      refine WL_v (v_pickt rfl rfl) rfl ?_
      refine WL_v (v_move rfl) rfl ?_
      refine WL_skip (j := 32) (t := 35) (b := true) rfl rfl rfl rfl ?_
      refine WL_skip (j := 32) (t := 35) (b := true) rfl rfl rfl rfl ?_
      refine WL_skip (j := 32) (t := 35) (b := true) rfl rfl rfl rfl ?_
      refine WL_v (v_pickt rfl rfl) rfl ?_
      refine WL_nil ?_
      refine den_true rfl ?_
      refine den_seq ?_
      -- region 2
      refine den_region rfl ?_
      refine WL_v (v_assign rfl) rfl ?_
      refine WL_nil ?_
      refine den_ret ?_
      exact ends1 Tryz.results11 rfl (by first | exact Heap.le.refl _ | exact hl44) (by simp) ⟨by congr 1; first | exact (polE_m hm).symm | exact (polE_ok ⟨by omega, by omega, by simp_all, by simp_all, by omega, by omega, by omega⟩ hm).symm | exact (polE_f (fun g => by obtain ⟨g1, g2, g3, g4, g5, g6, g7⟩ := g; first | omega | simp_all)).symm, rfl⟩
    · intro c4; try have c4 := of_decide_eq_false c4
      refine WL_vg rfl rfl (v_faddr Tryz.underlying24 rfl siz22 rfl) rfl ?_
      refine WL_vg rfl rfl (v_load1 one22 rfl (by first | exact Kn.own 0 rfl | exact Kn.own 1 rfl | exact Kn.own 2 rfl | exact Kn.own 3 rfl | exact Kn.own 4 rfl | exact Kn.own 5 rfl | exact Kn.per ‹_›) rfl) rfl ?_
      refine WL_callqg rfl rfl rfl (fine_fn _ _ _ _ ha) rfl ?_
      first | refine WL_vg rfl rfl (v_notd rfl) rfl ?_ | refine WL_vg rfl rfl (v_not rfl) rfl ?_
      refine WL_v (v_pickf rfl rfl) rfl ?_
      refine WL_v (v_move rfl) rfl ?_
      first | refine WL_split (t := 17) rfl ?_ ?_
      · intro c5; try have c5 := of_decide_eq_true c5
        refine WL_skip (j := 14) (t := 17) (b := true) rfl rfl rfl rfl ?_
        refine WL_skip (j := 14) (t := 17) (b := true) rfl rfl rfl rfl ?_
        refine WL_skip (j := 14) (t := 17) (b := true) rfl rfl rfl rfl ?_
        refine WL_skip (j := 14) (t := 17) (b := true) rfl rfl rfl rfl ?_
        refine WL_v (v_pickt rfl rfl) rfl ?_
        refine WL_v (v_move rfl) rfl ?_
        refine WL_skip (j := 20) (t := 23) (b := true) rfl rfl rfl rfl ?_
        refine WL_skip (j := 20) (t := 23) (b := true) rfl rfl rfl rfl ?_
        refine WL_skip (j := 20) (t := 23) (b := true) rfl rfl rfl rfl ?_
        refine WL_v (v_pickt rfl rfl) rfl ?_
        refine WL_v (v_move rfl) rfl ?_
        refine WL_skip (j := 25) (t := 28) (b := true) rfl rfl rfl rfl ?_
        refine WL_skip (j := 25) (t := 28) (b := true) rfl rfl rfl rfl ?_
        refine WL_skip (j := 25) (t := 28) (b := true) rfl rfl rfl rfl ?_
        refine WL_skip (j := 25) (t := 28) (b := true) rfl rfl rfl rfl ?_
        refine WL_skip (j := 25) (t := 28) (b := true) rfl rfl rfl rfl ?_
        refine WL_v (v_pickt rfl rfl) rfl ?_
        refine WL_v (v_move rfl) rfl ?_
        refine WL_skip (j := 32) (t := 35) (b := true) rfl rfl rfl rfl ?_
        refine WL_skip (j := 32) (t := 35) (b := true) rfl rfl rfl rfl ?_
        refine WL_skip (j := 32) (t := 35) (b := true) rfl rfl rfl rfl ?_
        refine WL_v (v_pickt rfl rfl) rfl ?_
        refine WL_nil ?_
        refine den_true rfl ?_
        refine den_seq ?_
        -- region 2
        refine den_region rfl ?_
        refine WL_v (v_assign rfl) rfl ?_
        refine WL_nil ?_
        refine den_ret ?_
        exact ends1 Tryz.results11 rfl (by first | exact Heap.le.refl _ | exact hl44) (by simp) ⟨by congr 1; first | exact (polE_m hm).symm | exact (polE_ok ⟨by omega, by omega, by simp_all, by simp_all, by omega, by omega, by omega⟩ hm).symm | exact (polE_f (fun g => by obtain ⟨g1, g2, g3, g4, g5, g6, g7⟩ := g; first | omega | simp_all)).symm, rfl⟩
      · intro c6; try have c6 := of_decide_eq_false c6
        refine WL_vg rfl rfl (v_faddr Tryz.underlying24 rfl siz22 rfl) rfl ?_
        refine WL_vg rfl rfl (v_load1 one22 rfl (by first | exact Kn.own 0 rfl | exact Kn.own 1 rfl | exact Kn.own 2 rfl | exact Kn.own 3 rfl | exact Kn.own 4 rfl | exact Kn.own 5 rfl | exact Kn.per ‹_›) rfl) rfl ?_
        refine WL_callqg rfl rfl rfl (fine_fn _ _ _ _ hb) rfl ?_
        first | refine WL_vg rfl rfl (v_notd rfl) rfl ?_ | refine WL_vg rfl rfl (v_not rfl) rfl ?_
        refine WL_v (v_pickf rfl rfl) rfl ?_
        refine WL_v (v_move rfl) rfl ?_
        first | refine WL_split (t := 23) rfl ?_ ?_
        · intro c7; try have c7 := of_decide_eq_true c7
          refine WL_skip (j := 20) (t := 23) (b := true) rfl rfl rfl rfl ?_
          refine WL_skip (j := 20) (t := 23) (b := true) rfl rfl rfl rfl ?_
          refine WL_skip (j := 20) (t := 23) (b := true) rfl rfl rfl rfl ?_
          refine WL_v (v_pickt rfl rfl) rfl ?_
          refine WL_v (v_move rfl) rfl ?_
          refine WL_skip (j := 25) (t := 28) (b := true) rfl rfl rfl rfl ?_
          refine WL_skip (j := 25) (t := 28) (b := true) rfl rfl rfl rfl ?_
          refine WL_skip (j := 25) (t := 28) (b := true) rfl rfl rfl rfl ?_
          refine WL_skip (j := 25) (t := 28) (b := true) rfl rfl rfl rfl ?_
          refine WL_skip (j := 25) (t := 28) (b := true) rfl rfl rfl rfl ?_
          refine WL_v (v_pickt rfl rfl) rfl ?_
          refine WL_v (v_move rfl) rfl ?_
          refine WL_skip (j := 32) (t := 35) (b := true) rfl rfl rfl rfl ?_
          refine WL_skip (j := 32) (t := 35) (b := true) rfl rfl rfl rfl ?_
          refine WL_skip (j := 32) (t := 35) (b := true) rfl rfl rfl rfl ?_
          refine WL_v (v_pickt rfl rfl) rfl ?_
          refine WL_nil ?_
          refine den_true rfl ?_
          refine den_seq ?_
          -- region 2
          refine den_region rfl ?_
          refine WL_v (v_assign rfl) rfl ?_
          refine WL_nil ?_
          refine den_ret ?_
          exact ends1 Tryz.results11 rfl (by first | exact Heap.le.refl _ | exact hl44) (by simp) ⟨by congr 1; first | exact (polE_m hm).symm | exact (polE_ok ⟨by omega, by omega, by simp_all, by simp_all, by omega, by omega, by omega⟩ hm).symm | exact (polE_f (fun g => by obtain ⟨g1, g2, g3, g4, g5, g6, g7⟩ := g; first | omega | simp_all)).symm, rfl⟩
        · intro c8; try have c8 := of_decide_eq_false c8
          refine WL_vg rfl rfl (v_faddr Tryz.underlying24 rfl siz3 rfl) rfl ?_
          refine WL_vg rfl rfl (v_load1 one3 rfl (by first | exact Kn.own 0 rfl | exact Kn.own 1 rfl | exact Kn.own 2 rfl | exact Kn.own 3 rfl | exact Kn.own 4 rfl | exact Kn.own 5 rfl | exact Kn.per ‹_›) rfl) rfl ?_
          refine WL_vg rfl rfl (v_lss rfl rfl) rfl ?_
          refine WL_v (v_pickf rfl rfl) rfl ?_
          refine WL_v (v_move rfl) rfl ?_
          first | refine WL_split (t := 28) rfl ?_ ?_
          · intro c9; try have c9 := of_decide_eq_true c9
            refine WL_skip (j := 25) (t := 28) (b := true) rfl rfl rfl rfl ?_
            refine WL_skip (j := 25) (t := 28) (b := true) rfl rfl rfl rfl ?_
            refine WL_skip (j := 25) (t := 28) (b := true) rfl rfl rfl rfl ?_
            refine WL_skip (j := 25) (t := 28) (b := true) rfl rfl rfl rfl ?_
            refine WL_skip (j := 25) (t := 28) (b := true) rfl rfl rfl rfl ?_
            refine WL_v (v_pickt rfl rfl) rfl ?_
            refine WL_v (v_move rfl) rfl ?_
            refine WL_skip (j := 32) (t := 35) (b := true) rfl rfl rfl rfl ?_
            refine WL_skip (j := 32) (t := 35) (b := true) rfl rfl rfl rfl ?_
            refine WL_skip (j := 32) (t := 35) (b := true) rfl rfl rfl rfl ?_
            refine WL_v (v_pickt rfl rfl) rfl ?_
            refine WL_nil ?_
            refine den_true rfl ?_
            refine den_seq ?_
            -- region 2
            refine den_region rfl ?_
            refine WL_v (v_assign rfl) rfl ?_
            refine WL_nil ?_
            refine den_ret ?_
            exact ends1 Tryz.results11 rfl (by first | exact Heap.le.refl _ | exact hl44) (by simp) ⟨by congr 1; first | exact (polE_m hm).symm | exact (polE_ok ⟨by omega, by omega, by simp_all, by simp_all, by omega, by omega, by omega⟩ hm).symm | exact (polE_f (fun g => by obtain ⟨g1, g2, g3, g4, g5, g6, g7⟩ := g; first | omega | simp_all)).symm, rfl⟩
          · intro c10; try have c10 := of_decide_eq_false c10
            refine WL_vg rfl rfl (v_faddr Tryz.underlying24 rfl siz3 rfl) rfl ?_
            refine WL_vg rfl rfl (v_load1 one3 rfl (by first | exact Kn.own 0 rfl | exact Kn.own 1 rfl | exact Kn.own 2 rfl | exact Kn.own 3 rfl | exact Kn.own 4 rfl | exact Kn.own 5 rfl | exact Kn.per ‹_›) rfl) rfl ?_
            refine WL_vg rfl rfl (v_faddr Tryz.underlying24 rfl siz3 rfl) rfl ?_
            refine WL_vg rfl rfl (v_load1 one3 rfl (by first | exact Kn.own 0 rfl | exact Kn.own 1 rfl | exact Kn.own 2 rfl | exact Kn.own 3 rfl | exact Kn.own 4 rfl | exact Kn.own 5 rfl | exact Kn.per ‹_›) rfl) rfl ?_
            refine WL_vg rfl rfl (v_lss rfl rfl) rfl ?_
            refine WL_v (v_pickf rfl rfl) rfl ?_
            refine WL_v (v_move rfl) rfl ?_
            first | refine WL_split (t := 35) rfl ?_ ?_
            · intro c11; try have c11 := of_decide_eq_true c11
              refine WL_skip (j := 32) (t := 35) (b := true) rfl rfl rfl rfl ?_
              refine WL_skip (j := 32) (t := 35) (b := true) rfl rfl rfl rfl ?_
              refine WL_skip (j := 32) (t := 35) (b := true) rfl rfl rfl rfl ?_
              refine WL_v (v_pickt rfl rfl) rfl ?_
              refine WL_nil ?_
              refine den_true rfl ?_
              refine den_seq ?_
              -- region 2
              refine den_region rfl ?_
              refine WL_v (v_assign rfl) rfl ?_
              refine WL_nil ?_
              refine den_ret ?_
              exact ends1 Tryz.results11 rfl (by first | exact Heap.le.refl _ | exact hl44) (by simp) ⟨by congr 1; first | exact (polE_m hm).symm | exact (polE_ok ⟨by omega, by omega, by simp_all, by simp_all, by omega, by omega, by omega⟩ hm).symm | exact (polE_f (fun g => by obtain ⟨g1, g2, g3, g4, g5, g6, g7⟩ := g; first | omega | simp_all)).symm, rfl⟩
            · intro c12; try have c12 := of_decide_eq_false c12
              refine WL_vg rfl rfl (v_faddr Tryz.underlying24 rfl siz3 rfl) rfl ?_
              refine WL_vg rfl rfl (v_load1 one3 rfl (by first | exact Kn.own 0 rfl | exact Kn.own 1 rfl | exact Kn.own 2 rfl | exact Kn.own 3 rfl | exact Kn.own 4 rfl | exact Kn.own 5 rfl | exact Kn.per ‹_›) rfl) rfl ?_
              refine WL_vg rfl rfl (v_gtr rfl rfl) rfl ?_
              refine WL_v (v_pickf rfl rfl) rfl ?_
              refine WL_nil ?_
              first | refine den_ifd rfl (fun hf => ?_) (fun hf => ?_) | refine den_if rfl (fun hf => ?_) (fun hf => ?_)
              · skip
                refine den_seq ?_
                -- region 2
                refine den_region rfl ?_
                refine WL_v (v_assign rfl) rfl ?_
                refine WL_nil ?_
                refine den_ret ?_
                exact ends1 Tryz.results11 rfl (by first | exact Heap.le.refl _ | exact hl44) (by simp) ⟨by congr 1; first | exact (polE_m hm).symm | exact (polE_ok ⟨by omega, by omega, by simp_all, by simp_all, by omega, by omega, by omega⟩ hm).symm | exact (polE_f (fun g => by obtain ⟨g1, g2, g3, g4, g5, g6, g7⟩ := g; first | omega | simp_all)).symm, rfl⟩
              · skip
                refine den_skip ?_
                refine den_seq ?_
                refine den_seq ?_
                -- region 3
                refine den_draw [] (by kernel_rfl) (by kernel_rfl) (NoP.fn) (rem := [0, 1, 2, 3, 4, 5, 6]) (by kernel_rfl) ?_
                refine QS_v (i := 0) rfl (v_faddr Tryz.underlying24 rfl siz22 rfl) (by kernel_rfl) (by kernel_rfl) (by kernel_rfl) (rem' := [1, 2, 3, 4, 5, 6]) (by kernel_rfl) rfl ?_
                refine QS_v (i := 1) rfl (v_load1 one22 rfl (by first | exact Kn.own 0 rfl | exact Kn.own 1 rfl | exact Kn.own 2 rfl | exact Kn.own 3 rfl | exact Kn.own 4 rfl | exact Kn.own 5 rfl | exact Kn.per ‹_›) rfl) (by kernel_rfl) (by kernel_rfl) (by kernel_rfl) (rem' := [2, 3, 4, 5, 6]) (by kernel_rfl) rfl ?_
                refine QS_v (i := 2) rfl (v_faddr Tryz.underlying24 rfl siz22 rfl) (by kernel_rfl) (by kernel_rfl) (by kernel_rfl) (rem' := [3, 4, 5, 6]) (by kernel_rfl) rfl ?_
                refine QS_v (i := 3) rfl (v_load1 one22 rfl (by first | exact Kn.own 0 rfl | exact Kn.own 1 rfl | exact Kn.own 2 rfl | exact Kn.own 3 rfl | exact Kn.own 4 rfl | exact Kn.own 5 rfl | exact Kn.per ‹_›) rfl) (by kernel_rfl) (by kernel_rfl) (by kernel_rfl) (rem' := [4, 5, 6]) (by kernel_rfl) rfl ?_
                refine QS_step (is := [4]) rfl (by kernel_rfl) ?_
                refine qall1 ?_
                refine qs_callp rfl rfl (setof_fn _ _ _ _ hb) rfl (rem' := [5, 6]) (by kernel_rfl) fun v44 h44 hl44 hg44 => ?_
                obtain ⟨bs, rfl, hbs⟩ := hg44
                refine QS_v (i := 5) rfl (v_func rfl rfl) (by kernel_rfl) (by kernel_rfl) (by kernel_rfl) (rem' := [6]) (by kernel_rfl) rfl ?_
                refine QS_step (is := [6]) rfl (by kernel_rfl) ?_
                refine qall1 ?_
                refine qs_callq rfl rfl (containsI_fn _ _ _ _ (fun i => decide (p.le.getD i 0 ∈ setI p.ri)) _ _ (by have := ha.2; omega) (ha.1.le hl44) (fun i h2 _ hl => TrV.of0 (has_fn bs _ _ _ (hl _ _ hbs)))) rfl (rem' := []) (by kernel_rfl) ?_
                rw [meet_setI]
                refine QS_nil ?_
                first | refine den_ifd rfl (fun hm => ?_) (fun hm => ?_) | refine den_if rfl (fun hm => ?_) (fun hm => ?_)
                · skip
                  refine den_seq ?_
                  -- region 4
                  refine den_region rfl ?_
                  refine WL_v (v_assign rfl) rfl ?_
                  refine WL_nil ?_
                  refine den_ret ?_
                  exact ends1 Tryz.results11 rfl (by first | exact Heap.le.refl _ | exact hl44) (by simp) ⟨by congr 1; first | exact (polE_m hm).symm | exact (polE_ok ⟨by omega, by omega, by simp_all, by simp_all, by omega, by omega, by omega⟩ hm).symm | exact (polE_f (fun g => by obtain ⟨g1, g2, g3, g4, g5, g6, g7⟩ := g; first | omega | simp_all)).symm, rfl⟩
                · skip
                  refine den_skip ?_
                  refine den_seq ?_
                  -- region 5
                  refine den_region rfl ?_
                  refine WL_v (v_assign rfl) rfl ?_
                  refine WL_nil ?_
                  refine den_ret ?_
                  exact ends1 Tryz.results11 rfl (by first | exact Heap.le.refl _ | exact hl44) (by simp) ⟨by congr 1; first | exact (polE_m hm).symm | exact (polE_ok ⟨by omega, by omega, by simp_all, by simp_all, by omega, by omega, by omega⟩ hm).symm | exact (polE_f (fun g => by obtain ⟨g1, g2, g3, g4, g5, g6, g7⟩ := g; first | omega | simp_all)).symm, rfl⟩

theorem isdev_fn (d : Int) (h : Heap) : Fn0 Tryz.prog 39 [.int .i64 d] h (.bool (decide (dev d))) := by
  refine Tr_of Tryz.func39 rfl rfl Tryz.ntmps39 rfl [(0, .int .i64 d)] rfl ?_
  intro Lf
  refine den_seq ?_
  -- region 0
  refine den_region rfl ?_
  refine WL_v (v_assign rfl) rfl ?_
  refine WL_nil ?_
  refine den_seq ?_
  -- region 1
  refine den_region rfl ?_
  refine WL_v (v_move rfl) rfl ?_
  refine WL_v (v_geq rfl rfl) rfl ?_
  refine WL_v (v_move rfl) rfl ?_
  first | refine WL_split (t := 5) rfl ?_ ?_
  · intro c1; try have c1 := of_decide_eq_true c1
    refine WL_vg rfl rfl (v_move rfl) rfl ?_
    refine WL_vg rfl rfl (v_lss rfl rfl) rfl ?_
    refine WL_v (v_pickt rfl rfl) rfl ?_
    refine WL_v (v_assign rfl) rfl ?_
    refine WL_nil ?_
    refine den_ret ?_
    exact ends1 Tryz.results39 rfl (Heap.le.refl _) (by simp) ⟨by congr 1; first | exact (decide_eq_false (fun g => by have := g.1; omega)).symm | (rw [decide_eq_decide]; exact ⟨fun g => ⟨by omega, g⟩, fun g => g.2⟩), rfl⟩
  · intro c2; try have c2 := of_decide_eq_false c2
    refine WL_skip (j := 2) (t := 5) (b := false) rfl rfl rfl rfl ?_
    refine WL_skip (j := 2) (t := 5) (b := false) rfl rfl rfl rfl ?_
    refine WL_v (v_pickf rfl rfl) rfl ?_
    refine WL_v (v_assign rfl) rfl ?_
    refine WL_nil ?_
    refine den_ret ?_
    exact ends1 Tryz.results39 rfl (Heap.le.refl _) (by simp) ⟨by congr 1; first | exact (decide_eq_false (fun g => by have := g.1; omega)).symm | (rw [decide_eq_decide]; exact ⟨fun g => ⟨by omega, g⟩, fun g => g.2⟩), rfl⟩

theorem owner_fn (d : Int) (h : Heap) : Fn0 Tryz.prog 16 [.int .i64 d] h (.tuple ⟨[.int .i64 (ownV d), .int .i64 (ownE d)]⟩) := by
  refine Tr_of Tryz.func16 rfl rfl Tryz.ntmps16 rfl [(0, .int .i64 d)] rfl ?_
  intro Lf
  refine den_seq ?_
  -- region 0
  refine den_region rfl ?_
  refine WL_v (v_assign rfl) rfl ?_
  refine WL_v (v_assign rfl) rfl ?_
  refine WL_nil ?_
  refine den_seq ?_
  refine den_seq ?_
  -- region 1
  refine den_region rfl ?_
  refine WL_v (v_move rfl) rfl ?_
  refine WL_callq rfl (isdev_fn _ _) rfl ?_
  first | refine WL_v (v_notd rfl) rfl ?_ | refine WL_v (v_not rfl) rfl ?_
  refine WL_nil ?_
  first | refine den_ifd rfl (fun hd => ?_) (fun hd => ?_) | refine den_if rfl (fun hd => ?_) (fun hd => ?_)
  · skip
    refine den_seq ?_
    -- region 2
    refine den_region rfl ?_
    refine WL_v (v_assign rfl) rfl ?_
    refine WL_v (v_assign rfl) rfl ?_
    refine WL_nil ?_
    refine den_ret ?_
    exact ends2 Tryz.results16 rfl rfl (Heap.le.refl _) (by simp) ⟨by unfold ownV ownE; first | (rw [if_pos hd, if_pos hd]; rfl) | (have hd : ¬ dev d := by simpa using hd); rw [if_neg hd, if_neg hd], rfl⟩
  · skip
    have hd : dev d := by simpa using hd
    obtain ⟨m, rfl⟩ := int_nat hd.1
    have hm := hd.2
    refine den_skip ?_
    refine den_seq ?_
    -- region 3
    refine den_region rfl ?_
    refine WL_v (v_move rfl) rfl ?_
    refine WL_v (v_quoj (m := m) (n := 8) rfl rfl (by omega) (by omega)) rfl ?_
    refine WL_v (v_assign rfl) rfl ?_
    refine WL_v (v_assign rfl) rfl ?_
    refine WL_nil ?_
    refine den_ret ?_
    exact ends2 Tryz.results16 rfl rfl (Heap.le.refl _) (by simp) ⟨by unfold ownV ownE; first | (rw [if_pos hd, if_pos hd]; rfl) | (have hd : ¬ dev d := by simpa using hd); rw [if_neg hd, if_neg hd], rfl⟩

theorem pmessage_fn (it : Dig) (d : Int) (h : Heap) (hd : Ri d) (hG : Gl h) : Fnp Tryz.prog 26 [.agg ⟨dcells it⟩, .int .i64 d] h (fun v h' => Bs h' v (pmsg it d).toList) := by
  refine Tr_of Tryz.func26 rfl rfl Tryz.ntmps26 rfl [(0, .agg ⟨dcells it⟩), (1, .int .i64 d)] rfl ?_
  intro Lf
  refine den_seq ?_
  -- region 0
  refine den_region rfl ?_
  refine WL_box rfl rfl rfl fun b2 => ?_
  refine WL_v (v_assign rfl) rfl ?_
  refine WL_nil ?_
  refine den_seq ?_
  -- region 1
  refine den_region rfl ?_
  refine WL_v (v_slicea0 Tryz.underlying26 siz5 rfl) rfl ?_
  refine WL_v (OpV.to (v' := .string (dstr (it))) (v_tostr (bs := (it).toList) Tryz.underlying53 Tryz.underlying9 Tryz.underlying5 rfl (Kn.own 0 rfl) (by rw [← dcells_eq (it)]; exact cut_self rfl)) rfl) rfl ?_
  refine WL_v (v_builds (r := tC it) Tryz.underlying58 zer58 plc58 rfl rfl rfl) rfl ?_
  refine WL_v (v_move rfl) rfl ?_
  refine WL_v (v_builds (r := iC d) Tryz.underlying58 zer58 plc58 rfl rfl rfl) rfl ?_
  refine WL_buildSlice Tryz.underlying56 zer58 rfl siz58 rfl rfl rfl rfl rfl fun b14 => ?_
  refine WL_freeze fun h14 hl14 hb14 => ?_
  refine WL_v (v_builds Tryz.underlying58 zer58 plc58 rfl rfl rfl) rfl ?_
  have hvr := VR.rows (rows := [tC it, iC d]) (ms := [.text (dstr it), .int d]) (pad := []) (cap := 2) (n := 2) hb14 (pm_vrs hd _) rfl (by decide)
  refine WL_callf (L1 := []) rfl (encode_fn _ (.list [.text (dstr it), .int d]) _ hvr (pm_dep it d) (by have := pm_len (it := it) hd; omega)) rfl ?_
  rintro _ h16 L16 hl16 ⟨v16, rfl, ho16⟩
  refine WL_freezeS ho16 fun h17 hl17 hbs => ?_
  refine WL_v (v_move rfl) rfl ?_
  refine WL_v (v_extract rfl rfl) rfl ?_
  refine WL_v (v_extract rfl rfl) rfl ?_
  refine WL_v (v_assign rfl) rfl ?_
  refine WL_v (v_assign rfl) rfl ?_
  refine WL_nil ?_
  refine den_seq ?_
  -- region 2
  refine den_region rfl ?_
  refine WL_v (v_move rfl) rfl ?_
  refine WL_callq rfl (tagged_fn ⟨⟨[101, 120, 112, 111, 114, 116]⟩⟩ _ _ _ (by decide) hbs (by have := pm_len (it := it) hd; omega) (hG.le (hl14.trans (hl16.trans hl17)))) rfl ?_
  refine WL_alloc zer26 rfl rfl fun b7 => ?_
  refine WL_store0 rfl rfl rfl siz26 (spl_all rfl) rfl rfl ?_
  refine WL_freeze fun h7 hl7 hb7 => ?_
  refine WL_nil ?_
  refine den_seq ?_
  -- region 3
  refine den_region rfl ?_
  refine WL_v (v_slicea0 Tryz.underlying26 siz5 rfl) rfl ?_
  refine WL_v (v_assign rfl) rfl ?_
  refine WL_nil ?_
  refine den_ret ?_
  exact ends1 Tryz.results26 rfl (hl14.trans (hl16.trans (hl17.trans hl7))) (.cons _ (List.Sublist.refl _)) ⟨Bs.dig hb7 (by decide), rfl⟩

theorem indexL_fn (a : Option Addr) (n cap : Nat) (x : Nat → List Value) (p : Nat → Bool) (fv : Value) (h : Heap) (hn : n < 9223372036854775808) (hs : Sln h a n 5 x) (hf : ∀ i h', i < n → Heap.le h h' → TrV Tryz.prog fv [.agg ⟨x i⟩] h' [] (fun v _ L' => v = .bool (p i) ∧ L' = [])) : Fn0 Tryz.prog 80 [.slice a n cap, fv] h (.int .i64 (findI p n)) := by
  refine Tr_of Tryz.func80 rfl rfl Tryz.ntmps80 rfl [(0, .slice a n cap), (1, fv)] rfl ?_
  intro Lf
  refine den_seq ?_
  -- region 0
  refine den_region rfl ?_
  refine WL_v (v_assign rfl) rfl ?_
  refine WL_nil ?_
  refine den_seq ?_
  refine den_seq ?_
  -- region 1
  refine den_region rfl ?_
  refine WL_v (v_move rfl) rfl ?_
  refine WL_v (v_lens Tryz.underlying38 rfl) rfl ?_
  refine WL_v (v_move rfl) rfl ?_
  refine WL_nil ?_
  refine den_block ?_
  refine den_loopI (ι := Nat) (fun i => [(0, .slice a n cap), (1, fv), (7, .int .i64 (n : Int)), (8, .int .i64 (i : Int))]) (fun i h' L' => i ≤ n ∧ Heap.le h h' ∧ L' = Lf ∧ ∀ j, j < i → p j = false) (fun i => n - i) 0 (sub_cons rfl (sub_cons rfl (sub_cons rfl (sub_cons rfl sub_nil)))) ⟨by omega, Heap.le.refl _, rfl, fun j hj => absurd hj (by omega)⟩ ?_
  rintro i hq _ ⟨i1, hle1, rfl, hall⟩
  refine den_seq ?_
  -- region 2
  refine den_region rfl ?_
  refine WL_v (v_lss rfl rfl) rfl ?_
  refine WL_nil ?_
  refine den_seq ?_
  first | refine den_ifd rfl (fun hi => ?_) (fun hi => ?_) | refine den_if rfl (fun hi => ?_) (fun hi => ?_)
  · skip
    have hi : i < n := by omega
    obtain ⟨bb, off, all, T, fr, rfl, hbk, hxi⟩ := hs i hi
    refine den_skip ?_
    refine den_seq ?_
    refine den_block ?_
    refine den_seq ?_
    -- region 3
    refine den_region rfl ?_
    refine WL_v (v_move rfl) rfl ?_
    refine WL_v (v_assign rfl) rfl ?_
    refine WL_nil ?_
    refine den_seq ?_
    -- region 4
    refine den_region rfl ?_
    refine WL_v (v_move rfl) rfl ?_
    refine WL_v (v_move rfl) rfl ?_
    refine WL_v (v_move rfl) rfl ?_
    refine WL_v (v_iaddrs Tryz.underlying38 siz49 rfl rfl rfl hi) rfl ?_
    refine WL_v (v_loadn many49 rfl (Kn.per (hle1 _ _ hbk)) hxi) rfl ?_
    refine WL_call (L1 := []) rfl rfl (hf i _ hi hle1) rfl ?_
    rintro _ hr _ hle2 ⟨rfl, rfl⟩
    refine WL_nil ?_
    first | refine den_ifd rfl (fun hyes => ?_) (fun hno => ?_) | refine den_if rfl (fun hyes => ?_) (fun hno => ?_)
    · skip
      refine den_seq ?_
      -- region 5
      refine den_region rfl ?_
      refine WL_v (v_move rfl) rfl ?_
      refine WL_v (v_assign rfl) rfl ?_
      refine WL_nil ?_
      refine den_ret ?_
      exact ends1 Tryz.results80 rfl (hle1.trans hle2) (by simp) ⟨by rw [findI_some hi hyes hall], rfl⟩
    · skip
      refine den_skip ?_
      refine den_blk ?_
      -- region 6
      refine den_region rfl ?_
      refine WL_v (v_addj (n := 1) rfl rfl (by show _ < 9223372036854775808; omega)) rfl ?_
      refine WL_v (v_move rfl) rfl ?_
      refine WL_nil ?_
      refine den_again ⟨rfl, (i + 1), (by show n - (i + 1) < n - i; omega), (sub_cons rfl (sub_cons rfl (sub_cons rfl (sub_cons rfl sub_nil)))), ⟨by omega, hle1.trans hle2, rfl, fun j hj => by rcases Nat.lt_succ_iff_lt_or_eq.1 hj with g | rfl; exact hall j g; exact hno⟩⟩
  · skip
    refine den_exit rfl ?_
    refine den_seq ?_
    -- region 7
    refine den_region rfl ?_
    refine WL_v (v_assign rfl) rfl ?_
    refine WL_nil ?_
    refine den_ret ?_
    exact ends1 Tryz.results80 rfl hle1 (by simp) ⟨by rw [findI_none (fun j hj => hall j (by omega))], rfl⟩

theorem appr11_fn (z : Lst) (c : Con) (b : Nat) (h : Heap) (hb : h b = some (.cells ⟨c.cells⟩ 32 (0, 0))) : Fn0 Tryz.prog 81 [.agg ⟨z.cells⟩, .pointer (some ⟨b, 0, none⟩)] h (.bool (decide (z.d = c.d))) := by
  refine Tr_of Tryz.func81 rfl rfl Tryz.ntmps81 rfl [(0, .agg ⟨z.cells⟩), (1, .pointer (some ⟨b, 0, none⟩))] rfl ?_
  intro Lf
  refine den_seq ?_
  -- region 0
  refine den_region rfl ?_
  refine WL_box (zs := z.cells) rfl rfl rfl fun b2 => ?_
  refine WL_v (v_assign rfl) rfl ?_
  refine WL_nil ?_
  refine den_seq ?_
  -- region 1
  refine den_region rfl ?_
  refine WL_v (v_faddr Tryz.underlying49 rfl siz3 rfl) rfl ?_
  refine WL_v (v_load1 one3 rfl (Kn.own 0 rfl) (show z.cells[0]? = some (.int .i64 z.d) from rfl)) rfl ?_
  refine WL_v (v_faddr Tryz.underlying32 rfl siz3 rfl) rfl ?_
  refine WL_v (v_load1 one3 rfl (Kn.per hb) (show c.cells[0]? = some (.int .i64 c.d) from rfl)) rfl ?_
  refine WL_v (v_eql rfl rfl) rfl ?_
  refine WL_v (v_assign rfl) rfl ?_
  refine WL_nil ?_
  refine den_ret ?_
  exact ends1 Tryz.results81 rfl (Heap.le.refl _) (by simp) ⟨rfl, rfl⟩

theorem approved_fn (a b : Option Addr) (ca cb n m : Nat) (it : Dig) (h : Heap) : Fnp Tryz.prog 36 [.slice a n ca, .agg ⟨dcells it ++ [.slice b m cb]⟩] h (fun v h' => ∃ b2 b3, v = .func (.func 79) ⟨[]⟩ ⟨[.pointer (some ⟨b3, 0, none⟩), .pointer (some ⟨b2, 0, none⟩)]⟩ ∧ h' b2 = some (.cells ⟨[.slice a n ca]⟩ 38 (0, 0)) ∧ h' b3 = some (.cells ⟨dcells it ++ [.slice b m cb]⟩ 41 (0, 0))) := by
  refine Tr_of Tryz.func36 rfl rfl Tryz.ntmps36 rfl [(0, .slice a n ca), (1, .agg ⟨dcells it ++ [.slice b m cb]⟩)] rfl ?_
  intro Lf
  refine den_seq ?_
  -- region 0
  refine den_region rfl ?_
  refine WL_box (zs := [.slice a n ca]) rfl rfl rfl fun b2 => ?_
  refine WL_box (zs := dcells it ++ [.slice b m cb]) rfl rfl rfl fun b3 => ?_
  refine WL_freeze fun h3 hl3 hb3 => ?_
  refine WL_freeze fun h2 hl2 hb2 => ?_
  refine WL_v (v_assign rfl) rfl ?_
  refine WL_nil ?_
  refine den_seq ?_
  -- region 1
  refine den_region rfl ?_
  refine WL_v (v_func rfl rfl) rfl ?_
  refine WL_v (v_assign rfl) rfl ?_
  refine WL_nil ?_
  refine den_ret ?_
  exact ends1 Tryz.results36 rfl (hl3.trans hl2) (List.Sublist.refl _) ⟨⟨b2, b3, rfl, hb2, hl2 _ _ hb3⟩, rfl⟩

theorem appr_iter (a b : Option Addr) (ca cb : Nat) (xs : List Lst) (cs : List Con) (it : Dig) (b2 b3 : Nat) (h : Heap) (hx : SlL h a xs) (hc : SlC h b cs) (hG : Gl h) (hb2 : h b2 = some (.cells ⟨[.slice a xs.length ca]⟩ 38 (0, 0))) (hb3 : h b3 = some (.cells ⟨dcells it ++ [.slice b cs.length cb]⟩ 41 (0, 0))) : Iter Tryz.prog 79 [] [.pointer (some ⟨b3, 0, none⟩), .pointer (some ⟨b2, 0, none⟩)] [] (ows xs it cs).length (fun i args _ => args = [.int .i64 ((ows xs it cs).getD i 0)]) h := by
  intro y Sx X hS hY h0 M0 hle0 hS0
  refine Tr_of Tryz.func79 rfl rfl Tryz.ntmps79 rfl [(0, y), (1, .pointer (some ⟨b3, 0, none⟩)), (2, .pointer (some ⟨b2, 0, none⟩))] rfl ?_
  intro Lf
  have hb2 := hle0 _ _ hb2
  have hb3 := hle0 _ _ hb3
  have hl := hc.2
  refine den_seq ?_
  -- region 0
  refine den_region rfl ?_
  refine WL_v (v_faddr Tryz.underlying41 rfl siz39 rfl) rfl ?_
  refine WL_v (v_load1 one39 rfl (Kn.per hb3) (show (dcells it ++ [.slice b cs.length cb])[32]? = some (.slice b cs.length cb) from rfl)) rfl ?_
  refine WL_v (v_lens Tryz.underlying39 rfl) rfl ?_
  refine WL_v (v_move rfl) rfl ?_
  refine WL_nil ?_
  refine den_block ?_
  refine den_loopI (ι := Nat) (fun i => [(0, y), (1, .pointer (some ⟨b3, 0, none⟩)), (2, .pointer (some ⟨b2, 0, none⟩)), (10, .slice b cs.length cb), (11, .int .i64 ((cs.length : Nat) : Int)), (12, .int .i64 ((i : Nat) : Int))]) (fun i h' L' => i ≤ cs.length ∧ Heap.le h0 h' ∧ ∃ M, L' = M ++ Lf ∧ Sx (ows xs it (cs.take i)).length h' M) (fun i => cs.length - i) 0 (sub_cons rfl (sub_cons rfl (sub_cons rfl (sub_cons rfl (sub_cons rfl (sub_cons rfl sub_nil)))))) ⟨by omega, Heap.le.refl _, M0, by rw [List.append_nil], hS0⟩ ?_
  rintro i h1 _ ⟨i1, hle1, M, rfl, hM⟩
  have hb2 := hle1 _ _ hb2
  have hb3 := hle1 _ _ hb3
  refine den_seq ?_
  -- region 1
  refine den_region rfl ?_
  refine WL_v (v_lss rfl rfl) rfl ?_
  refine WL_nil ?_
  refine den_seq ?_
  first | refine den_ifd rfl (fun hi => ?_) (fun hi => ?_) | refine den_if rfl (fun hi => ?_) (fun hi => ?_)
  · skip
    have hi : i < cs.length := by omega
    obtain ⟨bb, off, all, T, fr, rfl, hbb, hxi⟩ := hc.1 i hi
    have hbb := hle1 _ _ (hle0 _ _ hbb)
    refine den_skip ?_
    refine den_seq ?_
    refine den_block ?_
    refine den_seq ?_
    -- region 2
    refine den_region rfl ?_
    refine WL_v (v_iaddrs Tryz.underlying39 siz32 rfl rfl rfl hi) rfl ?_
    refine WL_v (v_loadn many32 rfl (Kn.per hbb) hxi) rfl ?_
    refine WL_alloc zer32 rfl rfl fun b5 => ?_
    refine WL_store0 rfl rfl (us := (cs.getD i conz).cells) rfl siz32 (spl_all rfl) rfl rfl ?_
    refine WL_freeze fun h5 hl5 hb5 => ?_
    refine WL_nil ?_
    refine den_seq ?_
    -- region 3
    refine den_region rfl ?_
    refine WL_v (v_load1 one38 rfl (Kn.per (hl5 _ _ hb2)) rfl) rfl ?_
    refine WL_v (v_func rfl rfl) rfl ?_
    refine WL_callq rfl (indexL_fn _ _ _ (fun j => (xs.getD j lstz).cells) (fun j => decide ((xs.getD j lstz).d = (cs.getD i conz).d)) _ _ (by have := hx.2; omega) (hx.1.le (hle0.trans (hle1.trans hl5))) (fun j h9 _ hl9 => TrV.of0 (appr11_fn _ (cs.getD i conz) b5 _ (hl9 _ _ hb5)))) rfl ?_
    obtain ⟨z, hz⟩ : ∃ z, z = at_ xs (cs.getD i conz).d := ⟨_, rfl⟩
    rw [show findI (fun j => decide ((xs.getD j lstz).d = (cs.getD i conz).d)) xs.length = z from hz.symm]
    refine WL_v (v_assign rfl) rfl ?_
    refine WL_nil ?_
    refine den_seq ?_
    -- region 4
    refine den_region rfl ?_
    refine WL_v (v_faddr Tryz.underlying32 rfl siz3 rfl) rfl ?_
    refine WL_v (v_load1 one3 rfl (Kn.per hb5) (show (cs.getD i conz).cells[0]? = some (.int .i64 (cs.getD i conz).d) from rfl)) rfl ?_
    refine WL_callq rfl (owner_fn _ _) rfl ?_
    refine WL_v (v_move rfl) rfl ?_
    refine WL_v (v_extract rfl rfl) rfl ?_
    refine WL_v (v_extract rfl rfl) rfl ?_
    refine WL_v (v_assign rfl) rfl ?_
    refine WL_v (v_assign rfl) rfl ?_
    refine WL_nil ?_
    refine den_seq ?_
    refine den_seq ?_
    -- region 5
    refine den_draw [] (by kernel_rfl) (by kernel_rfl) (NoP.fn) (rem := [0, 1, 2, 3, 4, 5, 6, 7, 8, 9, 10, 11, 12, 13, 14, 15, 16, 17, 18, 19, 20, 21, 22, 23, 24, 25, 26, 27, 28]) (by kernel_rfl) ?_
    refine QS_v (i := 0) rfl (v_move rfl) (by kernel_rfl) (by kernel_rfl) (by kernel_rfl) (rem' := [1, 2, 3, 4, 5, 6, 7, 8, 9, 10, 11, 12, 13, 14, 15, 16, 17, 18, 19, 20, 21, 22, 23, 24, 25, 26, 27, 28]) (by kernel_rfl) rfl ?_
    refine QS_v (i := 1) rfl (v_lss rfl rfl) (by kernel_rfl) (by kernel_rfl) (by kernel_rfl) (rem' := [2, 3, 4, 5, 6, 7, 8, 9, 10, 11, 12, 13, 14, 15, 16, 17, 18, 19, 20, 21, 22, 23, 24, 25, 26, 27, 28]) (by kernel_rfl) rfl ?_
    refine QS_v (i := 2) rfl (v_move rfl) (by kernel_rfl) (by kernel_rfl) (by kernel_rfl) (rem' := [3, 4, 5, 6, 7, 8, 9, 10, 11, 12, 13, 14, 15, 16, 17, 18, 19, 20, 21, 22, 23, 24, 25, 26, 27, 28]) (by kernel_rfl) rfl ?_
    refine QS_split (t := 27) rfl ?_ ?_
    · intro c3; try have c3 := of_decide_eq_true c3
      refine QS_skip (i := 3) (j := 2) (t := 27) (b := true) rfl rfl rfl (by kernel_rfl) (by kernel_rfl) (by kernel_rfl) (rem' := [4, 5, 6, 7, 8, 9, 10, 11, 12, 13, 14, 15, 16, 17, 18, 19, 20, 21, 22, 23, 24, 25, 26, 27, 28]) (by kernel_rfl) rfl ?_
      refine QS_skip (i := 4) (j := 2) (t := 27) (b := true) rfl rfl rfl (by kernel_rfl) (by kernel_rfl) (by kernel_rfl) (rem' := [5, 6, 7, 8, 9, 10, 11, 12, 13, 14, 15, 16, 17, 18, 19, 20, 21, 22, 23, 24, 25, 26, 27, 28]) (by kernel_rfl) rfl ?_
      refine QS_skip (i := 5) (j := 2) (t := 27) (b := true) rfl rfl rfl (by kernel_rfl) (by kernel_rfl) (by kernel_rfl) (rem' := [6, 7, 8, 9, 10, 11, 12, 13, 14, 15, 16, 17, 18, 19, 20, 21, 22, 23, 24, 25, 26, 27, 28]) (by kernel_rfl) rfl ?_
      refine QS_skip (i := 6) (j := 2) (t := 27) (b := true) rfl rfl rfl (by kernel_rfl) (by kernel_rfl) (by kernel_rfl) (rem' := [7, 8, 9, 10, 11, 12, 13, 14, 15, 16, 17, 18, 19, 20, 21, 22, 23, 24, 25, 26, 27, 28]) (by kernel_rfl) rfl ?_
      refine QS_skip (i := 7) (j := 2) (t := 27) (b := true) rfl rfl rfl (by kernel_rfl) (by kernel_rfl) (by kernel_rfl) (rem' := [8, 9, 10, 11, 12, 13, 14, 15, 16, 17, 18, 19, 20, 21, 22, 23, 24, 25, 26, 27, 28]) (by kernel_rfl) rfl ?_
      refine QS_v (i := 8) rfl (v_pickt rfl rfl) (by kernel_rfl) (by kernel_rfl) (by kernel_rfl) (rem' := [9, 10, 11, 12, 13, 14, 15, 16, 17, 18, 19, 20, 21, 22, 23, 24, 25, 26, 27, 28]) (by kernel_rfl) rfl ?_
      refine QS_v (i := 9) rfl (v_move rfl) (by kernel_rfl) (by kernel_rfl) (by kernel_rfl) (rem' := [10, 11, 12, 13, 14, 15, 16, 17, 18, 19, 20, 21, 22, 23, 24, 25, 26, 27, 28]) (by kernel_rfl) rfl ?_
      refine QS_skip (i := 10) (j := 9) (t := 34) (b := true) rfl rfl rfl (by kernel_rfl) (by kernel_rfl) (by kernel_rfl) (rem' := [11, 12, 13, 14, 15, 16, 17, 18, 19, 20, 21, 22, 23, 24, 25, 26, 27, 28]) (by kernel_rfl) rfl ?_
      refine QS_skip (i := 11) (j := 9) (t := 34) (b := true) rfl rfl rfl (by kernel_rfl) (by kernel_rfl) (by kernel_rfl) (rem' := [12, 13, 14, 15, 16, 17, 18, 19, 20, 21, 22, 23, 24, 25, 26, 27, 28]) (by kernel_rfl) rfl ?_
      refine QS_v (i := 12) rfl (v_pickt rfl rfl) (by kernel_rfl) (by kernel_rfl) (by kernel_rfl) (rem' := [13, 14, 15, 16, 17, 18, 19, 20, 21, 22, 23, 24, 25, 26, 27, 28]) (by kernel_rfl) rfl ?_
      refine QS_v (i := 13) rfl (v_move rfl) (by kernel_rfl) (by kernel_rfl) (by kernel_rfl) (rem' := [14, 15, 16, 17, 18, 19, 20, 21, 22, 23, 24, 25, 26, 27, 28]) (by kernel_rfl) rfl ?_
      refine QS_skip (i := 14) (j := 13) (t := 38) (b := true) rfl rfl rfl (by kernel_rfl) (by kernel_rfl) (by kernel_rfl) (rem' := [15, 16, 17, 18, 19, 20, 21, 22, 23, 24, 25, 26, 27, 28]) (by kernel_rfl) rfl ?_
      refine QS_skip (i := 15) (j := 13) (t := 38) (b := true) rfl rfl rfl (by kernel_rfl) (by kernel_rfl) (by kernel_rfl) (rem' := [16, 17, 18, 19, 20, 21, 22, 23, 24, 25, 26, 27, 28]) (by kernel_rfl) rfl ?_
      refine QS_skip (i := 16) (j := 13) (t := 38) (b := true) rfl rfl rfl (by kernel_rfl) (by kernel_rfl) (by kernel_rfl) (rem' := [17, 18, 19, 20, 21, 22, 23, 24, 25, 26, 27, 28]) (by kernel_rfl) rfl ?_
      refine QS_skip (i := 17) (j := 13) (t := 38) (b := true) rfl rfl rfl (by kernel_rfl) (by kernel_rfl) (by kernel_rfl) (rem' := [18, 19, 20, 21, 22, 23, 24, 25, 26, 27, 28]) (by kernel_rfl) rfl ?_
      refine QS_skip (i := 18) (j := 13) (t := 38) (b := true) rfl rfl rfl (by kernel_rfl) (by kernel_rfl) (by kernel_rfl) (rem' := [19, 20, 21, 22, 23, 24, 25, 26, 27, 28]) (by kernel_rfl) rfl ?_
      refine QS_skip (i := 19) (j := 13) (t := 38) (b := true) rfl rfl rfl (by kernel_rfl) (by kernel_rfl) (by kernel_rfl) (rem' := [20, 21, 22, 23, 24, 25, 26, 27, 28]) (by kernel_rfl) rfl ?_
      refine QS_skip (i := 20) (j := 13) (t := 38) (b := true) rfl rfl rfl (by kernel_rfl) (by kernel_rfl) (by kernel_rfl) (rem' := [21, 22, 23, 24, 25, 26, 27, 28]) (by kernel_rfl) rfl ?_
      refine QS_skip (i := 21) (j := 13) (t := 38) (b := true) rfl rfl rfl (by kernel_rfl) (by kernel_rfl) (by kernel_rfl) (rem' := [22, 23, 24, 25, 26, 27, 28]) (by kernel_rfl) rfl ?_
      refine QS_skip (i := 22) (j := 13) (t := 38) (b := true) rfl rfl rfl (by kernel_rfl) (by kernel_rfl) (by kernel_rfl) (rem' := [23, 24, 25, 26, 27, 28]) (by kernel_rfl) rfl ?_
      refine QS_skip (i := 23) (j := 13) (t := 38) (b := true) rfl rfl rfl (by kernel_rfl) (by kernel_rfl) (by kernel_rfl) (rem' := [24, 25, 26, 27, 28]) (by kernel_rfl) rfl ?_
      refine QS_skip (i := 24) (j := 13) (t := 38) (b := true) rfl rfl rfl (by kernel_rfl) (by kernel_rfl) (by kernel_rfl) (rem' := [25, 26, 27, 28]) (by kernel_rfl) rfl ?_
      refine QS_skip (i := 25) (j := 13) (t := 38) (b := true) rfl rfl rfl (by kernel_rfl) (by kernel_rfl) (by kernel_rfl) (rem' := [26, 27, 28]) (by kernel_rfl) rfl ?_
      refine QS_skip (i := 26) (j := 13) (t := 38) (b := true) rfl rfl rfl (by kernel_rfl) (by kernel_rfl) (by kernel_rfl) (rem' := [27, 28]) (by kernel_rfl) rfl ?_
      refine QS_skip (i := 27) (j := 13) (t := 38) (b := true) rfl rfl rfl (by kernel_rfl) (by kernel_rfl) (by kernel_rfl) (rem' := [28]) (by kernel_rfl) rfl ?_
      refine QS_v (i := 28) rfl (v_pickt rfl rfl) (by kernel_rfl) (by kernel_rfl) (by kernel_rfl) (rem' := []) (by kernel_rfl) rfl ?_
      refine QS_nil ?_
      refine den_true rfl ?_
      refine den_exit rfl ?_
      -- region 7
      refine den_region rfl ?_
      refine WL_v (v_addj (n := 1) rfl rfl (by show _ < 9223372036854775808; omega)) rfl ?_
      refine WL_v (v_move rfl) rfl ?_
      refine WL_nil ?_
      refine den_again ⟨rfl, (i + 1), (by show cs.length - (i + 1) < cs.length - i; omega), (sub_cons rfl (sub_cons rfl (sub_cons rfl (sub_cons rfl (sub_cons rfl (sub_cons rfl sub_nil)))))), (by first | exact ⟨by omega, hle1.trans (hl5.trans (hl48.trans hle56)), M2, rfl, by rw [ows_yes hi hyes, List.length_append]; exact hgoT (by simpa using hgo)⟩ | exact ⟨by omega, hle1.trans (hl5.trans hl48), M, rfl, by rw [ows_no hi (fun g => by first | exact cok_neg (by omega) g | (obtain ⟨g1, g2, g3⟩ := (cok_at hz).1 g; first | exact absurd (if_pos g2) ‹_› | simp_all))]; exact hS _ _ _ _ (hl5.trans hl48) hM⟩ | exact ⟨by omega, hle1.trans hl5, M, rfl, by rw [ows_no hi (fun g => by first | exact cok_neg (by omega) g | (obtain ⟨g1, g2, g3⟩ := (cok_at hz).1 g; first | exact absurd (if_pos g2) ‹_› | simp_all))]; exact hS _ _ _ _ hl5 hM⟩)⟩
    · intro c4; try have c4 := of_decide_eq_false c4
      refine QS_vg (i := 3) rfl rfl rfl (v_load1 one38 rfl (Kn.per (hl5 _ _ hb2)) rfl) (by kernel_rfl) (by kernel_rfl) (by kernel_rfl) (rem' := [4, 5, 6, 7, 8, 9, 10, 11, 12, 13, 14, 15, 16, 17, 18, 19, 20, 21, 22, 23, 24, 25, 26, 27, 28]) (by kernel_rfl) rfl ?_
      obtain ⟨k, rfl⟩ := int_nat (by omega : 0 ≤ z)
      have hk := at_lt hz
      obtain ⟨bz, oz, allz, Tz, frz, rfl, hbz, hxz⟩ := hx.1 k hk
      have hbz := hle1 _ _ (hle0 _ _ hbz)
      refine QS_vg (i := 4) rfl rfl rfl (v_move rfl) (by kernel_rfl) (by kernel_rfl) (by kernel_rfl) (rem' := [5, 6, 7, 8, 9, 10, 11, 12, 13, 14, 15, 16, 17, 18, 19, 20, 21, 22, 23, 24, 25, 26, 27, 28]) (by kernel_rfl) rfl ?_
      refine QS_vg (i := 5) rfl rfl rfl (v_iaddrs Tryz.underlying38 siz49 rfl rfl rfl hk) (by kernel_rfl) (by kernel_rfl) (by kernel_rfl) (rem' := [6, 7, 8, 9, 10, 11, 12, 13, 14, 15, 16, 17, 18, 19, 20, 21, 22, 23, 24, 25, 26, 27, 28]) (by kernel_rfl) rfl ?_
      refine QS_vg (i := 6) rfl rfl rfl (v_faddr Tryz.underlying49 rfl siz4 rfl) (by kernel_rfl) (by kernel_rfl) (by kernel_rfl) (rem' := [7, 8, 9, 10, 11, 12, 13, 14, 15, 16, 17, 18, 19, 20, 21, 22, 23, 24, 25, 26, 27, 28]) (by kernel_rfl) rfl ?_
      refine QS_vg (i := 7) rfl rfl rfl (v_load1 one4 rfl (Kn.per (hl5 _ _ hbz)) (show _ = some (.bool (xs.getD k lstz).g) from (cut_get hxz (k := 4) (by decide)).trans rfl)) (by kernel_rfl) (by kernel_rfl) (by kernel_rfl) (rem' := [8, 9, 10, 11, 12, 13, 14, 15, 16, 17, 18, 19, 20, 21, 22, 23, 24, 25, 26, 27, 28]) (by kernel_rfl) rfl ?_
      refine QS_v (i := 8) rfl (v_pickf rfl rfl) (by kernel_rfl) (by kernel_rfl) (by kernel_rfl) (rem' := [9, 10, 11, 12, 13, 14, 15, 16, 17, 18, 19, 20, 21, 22, 23, 24, 25, 26, 27, 28]) (by kernel_rfl) rfl ?_
      refine QS_v (i := 9) rfl (v_move rfl) (by kernel_rfl) (by kernel_rfl) (by kernel_rfl) (rem' := [10, 11, 12, 13, 14, 15, 16, 17, 18, 19, 20, 21, 22, 23, 24, 25, 26, 27, 28]) (by kernel_rfl) rfl ?_
      refine QS_split (t := 34) rfl ?_ ?_
      · intro c5; try have c5 := of_decide_eq_true c5
        refine QS_skip (i := 10) (j := 9) (t := 34) (b := true) rfl rfl rfl (by kernel_rfl) (by kernel_rfl) (by kernel_rfl) (rem' := [11, 12, 13, 14, 15, 16, 17, 18, 19, 20, 21, 22, 23, 24, 25, 26, 27, 28]) (by kernel_rfl) rfl ?_
        refine QS_skip (i := 11) (j := 9) (t := 34) (b := true) rfl rfl rfl (by kernel_rfl) (by kernel_rfl) (by kernel_rfl) (rem' := [12, 13, 14, 15, 16, 17, 18, 19, 20, 21, 22, 23, 24, 25, 26, 27, 28]) (by kernel_rfl) rfl ?_
        refine QS_v (i := 12) rfl (v_pickt rfl rfl) (by kernel_rfl) (by kernel_rfl) (by kernel_rfl) (rem' := [13, 14, 15, 16, 17, 18, 19, 20, 21, 22, 23, 24, 25, 26, 27, 28]) (by kernel_rfl) rfl ?_
        refine QS_v (i := 13) rfl (v_move rfl) (by kernel_rfl) (by kernel_rfl) (by kernel_rfl) (rem' := [14, 15, 16, 17, 18, 19, 20, 21, 22, 23, 24, 25, 26, 27, 28]) (by kernel_rfl) rfl ?_
        refine QS_skip (i := 14) (j := 13) (t := 38) (b := true) rfl rfl rfl (by kernel_rfl) (by kernel_rfl) (by kernel_rfl) (rem' := [15, 16, 17, 18, 19, 20, 21, 22, 23, 24, 25, 26, 27, 28]) (by kernel_rfl) rfl ?_
        refine QS_skip (i := 15) (j := 13) (t := 38) (b := true) rfl rfl rfl (by kernel_rfl) (by kernel_rfl) (by kernel_rfl) (rem' := [16, 17, 18, 19, 20, 21, 22, 23, 24, 25, 26, 27, 28]) (by kernel_rfl) rfl ?_
        refine QS_skip (i := 16) (j := 13) (t := 38) (b := true) rfl rfl rfl (by kernel_rfl) (by kernel_rfl) (by kernel_rfl) (rem' := [17, 18, 19, 20, 21, 22, 23, 24, 25, 26, 27, 28]) (by kernel_rfl) rfl ?_
        refine QS_skip (i := 17) (j := 13) (t := 38) (b := true) rfl rfl rfl (by kernel_rfl) (by kernel_rfl) (by kernel_rfl) (rem' := [18, 19, 20, 21, 22, 23, 24, 25, 26, 27, 28]) (by kernel_rfl) rfl ?_
        refine QS_skip (i := 18) (j := 13) (t := 38) (b := true) rfl rfl rfl (by kernel_rfl) (by kernel_rfl) (by kernel_rfl) (rem' := [19, 20, 21, 22, 23, 24, 25, 26, 27, 28]) (by kernel_rfl) rfl ?_
        refine QS_skip (i := 19) (j := 13) (t := 38) (b := true) rfl rfl rfl (by kernel_rfl) (by kernel_rfl) (by kernel_rfl) (rem' := [20, 21, 22, 23, 24, 25, 26, 27, 28]) (by kernel_rfl) rfl ?_
        refine QS_skip (i := 20) (j := 13) (t := 38) (b := true) rfl rfl rfl (by kernel_rfl) (by kernel_rfl) (by kernel_rfl) (rem' := [21, 22, 23, 24, 25, 26, 27, 28]) (by kernel_rfl) rfl ?_
        refine QS_skip (i := 21) (j := 13) (t := 38) (b := true) rfl rfl rfl (by kernel_rfl) (by kernel_rfl) (by kernel_rfl) (rem' := [22, 23, 24, 25, 26, 27, 28]) (by kernel_rfl) rfl ?_
        refine QS_skip (i := 22) (j := 13) (t := 38) (b := true) rfl rfl rfl (by kernel_rfl) (by kernel_rfl) (by kernel_rfl) (rem' := [23, 24, 25, 26, 27, 28]) (by kernel_rfl) rfl ?_
        refine QS_skip (i := 23) (j := 13) (t := 38) (b := true) rfl rfl rfl (by kernel_rfl) (by kernel_rfl) (by kernel_rfl) (rem' := [24, 25, 26, 27, 28]) (by kernel_rfl) rfl ?_
        refine QS_skip (i := 24) (j := 13) (t := 38) (b := true) rfl rfl rfl (by kernel_rfl) (by kernel_rfl) (by kernel_rfl) (rem' := [25, 26, 27, 28]) (by kernel_rfl) rfl ?_
        refine QS_skip (i := 25) (j := 13) (t := 38) (b := true) rfl rfl rfl (by kernel_rfl) (by kernel_rfl) (by kernel_rfl) (rem' := [26, 27, 28]) (by kernel_rfl) rfl ?_
        refine QS_skip (i := 26) (j := 13) (t := 38) (b := true) rfl rfl rfl (by kernel_rfl) (by kernel_rfl) (by kernel_rfl) (rem' := [27, 28]) (by kernel_rfl) rfl ?_
        refine QS_skip (i := 27) (j := 13) (t := 38) (b := true) rfl rfl rfl (by kernel_rfl) (by kernel_rfl) (by kernel_rfl) (rem' := [28]) (by kernel_rfl) rfl ?_
        refine QS_v (i := 28) rfl (v_pickt rfl rfl) (by kernel_rfl) (by kernel_rfl) (by kernel_rfl) (rem' := []) (by kernel_rfl) rfl ?_
        refine QS_nil ?_
        refine den_true rfl ?_
        refine den_exit rfl ?_
        -- region 7
        refine den_region rfl ?_
        refine WL_v (v_addj (n := 1) rfl rfl (by show _ < 9223372036854775808; omega)) rfl ?_
        refine WL_v (v_move rfl) rfl ?_
        refine WL_nil ?_
        refine den_again ⟨rfl, (i + 1), (by show cs.length - (i + 1) < cs.length - i; omega), (sub_cons rfl (sub_cons rfl (sub_cons rfl (sub_cons rfl (sub_cons rfl (sub_cons rfl sub_nil)))))), (by first | exact ⟨by omega, hle1.trans (hl5.trans (hl48.trans hle56)), M2, rfl, by rw [ows_yes hi hyes, List.length_append]; exact hgoT (by simpa using hgo)⟩ | exact ⟨by omega, hle1.trans (hl5.trans hl48), M, rfl, by rw [ows_no hi (fun g => by first | exact cok_neg (by omega) g | (obtain ⟨g1, g2, g3⟩ := (cok_at hz).1 g; first | exact absurd (if_pos g2) ‹_› | simp_all))]; exact hS _ _ _ _ (hl5.trans hl48) hM⟩ | exact ⟨by omega, hle1.trans hl5, M, rfl, by rw [ows_no hi (fun g => by first | exact cok_neg (by omega) g | (obtain ⟨g1, g2, g3⟩ := (cok_at hz).1 g; first | exact absurd (if_pos g2) ‹_› | simp_all))]; exact hS _ _ _ _ hl5 hM⟩)⟩
      · intro c6; try have c6 := of_decide_eq_false c6
        refine QS_vg (i := 10) rfl rfl rfl (v_move rfl) (by kernel_rfl) (by kernel_rfl) (by kernel_rfl) (rem' := [11, 12, 13, 14, 15, 16, 17, 18, 19, 20, 21, 22, 23, 24, 25, 26, 27, 28]) (by kernel_rfl) rfl ?_
        refine QS_vg (i := 11) rfl rfl rfl (v_neq rfl rfl) (by kernel_rfl) (by kernel_rfl) (by kernel_rfl) (rem' := [12, 13, 14, 15, 16, 17, 18, 19, 20, 21, 22, 23, 24, 25, 26, 27, 28]) (by kernel_rfl) rfl ?_
        refine QS_v (i := 12) rfl (v_pickf rfl rfl) (by kernel_rfl) (by kernel_rfl) (by kernel_rfl) (rem' := [13, 14, 15, 16, 17, 18, 19, 20, 21, 22, 23, 24, 25, 26, 27, 28]) (by kernel_rfl) rfl ?_
        refine QS_v (i := 13) rfl (v_move rfl) (by kernel_rfl) (by kernel_rfl) (by kernel_rfl) (rem' := [14, 15, 16, 17, 18, 19, 20, 21, 22, 23, 24, 25, 26, 27, 28]) (by kernel_rfl) rfl ?_
        refine QS_split (t := 38) rfl ?_ ?_
        · intro c7; try have c7 := of_decide_eq_true c7
          refine QS_skip (i := 14) (j := 13) (t := 38) (b := true) rfl rfl rfl (by kernel_rfl) (by kernel_rfl) (by kernel_rfl) (rem' := [15, 16, 17, 18, 19, 20, 21, 22, 23, 24, 25, 26, 27, 28]) (by kernel_rfl) rfl ?_
          refine QS_skip (i := 15) (j := 13) (t := 38) (b := true) rfl rfl rfl (by kernel_rfl) (by kernel_rfl) (by kernel_rfl) (rem' := [16, 17, 18, 19, 20, 21, 22, 23, 24, 25, 26, 27, 28]) (by kernel_rfl) rfl ?_
          refine QS_skip (i := 16) (j := 13) (t := 38) (b := true) rfl rfl rfl (by kernel_rfl) (by kernel_rfl) (by kernel_rfl) (rem' := [17, 18, 19, 20, 21, 22, 23, 24, 25, 26, 27, 28]) (by kernel_rfl) rfl ?_
          refine QS_skip (i := 17) (j := 13) (t := 38) (b := true) rfl rfl rfl (by kernel_rfl) (by kernel_rfl) (by kernel_rfl) (rem' := [18, 19, 20, 21, 22, 23, 24, 25, 26, 27, 28]) (by kernel_rfl) rfl ?_
          refine QS_skip (i := 18) (j := 13) (t := 38) (b := true) rfl rfl rfl (by kernel_rfl) (by kernel_rfl) (by kernel_rfl) (rem' := [19, 20, 21, 22, 23, 24, 25, 26, 27, 28]) (by kernel_rfl) rfl ?_
          refine QS_skip (i := 19) (j := 13) (t := 38) (b := true) rfl rfl rfl (by kernel_rfl) (by kernel_rfl) (by kernel_rfl) (rem' := [20, 21, 22, 23, 24, 25, 26, 27, 28]) (by kernel_rfl) rfl ?_
          refine QS_skip (i := 20) (j := 13) (t := 38) (b := true) rfl rfl rfl (by kernel_rfl) (by kernel_rfl) (by kernel_rfl) (rem' := [21, 22, 23, 24, 25, 26, 27, 28]) (by kernel_rfl) rfl ?_
          refine QS_skip (i := 21) (j := 13) (t := 38) (b := true) rfl rfl rfl (by kernel_rfl) (by kernel_rfl) (by kernel_rfl) (rem' := [22, 23, 24, 25, 26, 27, 28]) (by kernel_rfl) rfl ?_
          refine QS_skip (i := 22) (j := 13) (t := 38) (b := true) rfl rfl rfl (by kernel_rfl) (by kernel_rfl) (by kernel_rfl) (rem' := [23, 24, 25, 26, 27, 28]) (by kernel_rfl) rfl ?_
          refine QS_skip (i := 23) (j := 13) (t := 38) (b := true) rfl rfl rfl (by kernel_rfl) (by kernel_rfl) (by kernel_rfl) (rem' := [24, 25, 26, 27, 28]) (by kernel_rfl) rfl ?_
          refine QS_skip (i := 24) (j := 13) (t := 38) (b := true) rfl rfl rfl (by kernel_rfl) (by kernel_rfl) (by kernel_rfl) (rem' := [25, 26, 27, 28]) (by kernel_rfl) rfl ?_
          refine QS_skip (i := 25) (j := 13) (t := 38) (b := true) rfl rfl rfl (by kernel_rfl) (by kernel_rfl) (by kernel_rfl) (rem' := [26, 27, 28]) (by kernel_rfl) rfl ?_
          refine QS_skip (i := 26) (j := 13) (t := 38) (b := true) rfl rfl rfl (by kernel_rfl) (by kernel_rfl) (by kernel_rfl) (rem' := [27, 28]) (by kernel_rfl) rfl ?_
          refine QS_skip (i := 27) (j := 13) (t := 38) (b := true) rfl rfl rfl (by kernel_rfl) (by kernel_rfl) (by kernel_rfl) (rem' := [28]) (by kernel_rfl) rfl ?_
          refine QS_v (i := 28) rfl (v_pickt rfl rfl) (by kernel_rfl) (by kernel_rfl) (by kernel_rfl) (rem' := []) (by kernel_rfl) rfl ?_
          refine QS_nil ?_
          refine den_true rfl ?_
          refine den_exit rfl ?_
          -- region 7
          refine den_region rfl ?_
          refine WL_v (v_addj (n := 1) rfl rfl (by show _ < 9223372036854775808; omega)) rfl ?_
          refine WL_v (v_move rfl) rfl ?_
          refine WL_nil ?_
          refine den_again ⟨rfl, (i + 1), (by show cs.length - (i + 1) < cs.length - i; omega), (sub_cons rfl (sub_cons rfl (sub_cons rfl (sub_cons rfl (sub_cons rfl (sub_cons rfl sub_nil)))))), (by first | exact ⟨by omega, hle1.trans (hl5.trans (hl48.trans hle56)), M2, rfl, by rw [ows_yes hi hyes, List.length_append]; exact hgoT (by simpa using hgo)⟩ | exact ⟨by omega, hle1.trans (hl5.trans hl48), M, rfl, by rw [ows_no hi (fun g => by first | exact cok_neg (by omega) g | (obtain ⟨g1, g2, g3⟩ := (cok_at hz).1 g; first | exact absurd (if_pos g2) ‹_› | simp_all))]; exact hS _ _ _ _ (hl5.trans hl48) hM⟩ | exact ⟨by omega, hle1.trans hl5, M, rfl, by rw [ows_no hi (fun g => by first | exact cok_neg (by omega) g | (obtain ⟨g1, g2, g3⟩ := (cok_at hz).1 g; first | exact absurd (if_pos g2) ‹_› | simp_all))]; exact hS _ _ _ _ hl5 hM⟩)⟩
        · intro c8; try have c8 := of_decide_eq_false c8
          have hdv : dev (cs.getD i conz).d := by
            by_cases g : dev (cs.getD i conz).d
            · exact g
            · exfalso; simp_all [ownE]
          refine QS_vg (i := 14) rfl rfl rfl (v_load1 one38 rfl (Kn.per (hl5 _ _ hb2)) rfl) (by kernel_rfl) (by kernel_rfl) (by kernel_rfl) (rem' := [15, 16, 17, 18, 19, 20, 21, 22, 23, 24, 25, 26, 27, 28]) (by kernel_rfl) rfl ?_
          refine QS_vg (i := 15) rfl rfl rfl (v_move rfl) (by kernel_rfl) (by kernel_rfl) (by kernel_rfl) (rem' := [16, 17, 18, 19, 20, 21, 22, 23, 24, 25, 26, 27, 28]) (by kernel_rfl) rfl ?_
          refine QS_vg (i := 16) rfl rfl rfl (v_iaddrs Tryz.underlying38 siz49 rfl rfl rfl hk) (by kernel_rfl) (by kernel_rfl) (by kernel_rfl) (rem' := [17, 18, 19, 20, 21, 22, 23, 24, 25, 26, 27, 28]) (by kernel_rfl) rfl ?_
          refine QS_vg (i := 17) rfl rfl rfl (v_faddr Tryz.underlying49 rfl siz3 rfl) (by kernel_rfl) (by kernel_rfl) (by kernel_rfl) (rem' := [18, 19, 20, 21, 22, 23, 24, 25, 26, 27, 28]) (by kernel_rfl) rfl ?_
          refine QS_vg (i := 18) rfl rfl rfl (v_load1 one3 rfl (Kn.per (hl5 _ _ hbz)) (show _ = some (.int .i64 (xs.getD k lstz).v) from (cut_get hxz (k := 1) (by decide)).trans rfl)) (by kernel_rfl) (by kernel_rfl) (by kernel_rfl) (rem' := [19, 20, 21, 22, 23, 24, 25, 26, 27, 28]) (by kernel_rfl) rfl ?_
          refine QS_vg (i := 19) rfl rfl rfl (v_faddr Tryz.underlying41 rfl siz26 rfl) (by kernel_rfl) (by kernel_rfl) (by kernel_rfl) (rem' := [20, 21, 22, 23, 24, 25, 26, 27, 28]) (by kernel_rfl) rfl ?_
          refine QS_vg (i := 20) rfl rfl rfl (v_loadn many26 rfl (Kn.per (hl5 _ _ hb3)) (cut_left (dcells it) _)) (by kernel_rfl) (by kernel_rfl) (by kernel_rfl) (rem' := [21, 22, 23, 24, 25, 26, 27, 28]) (by kernel_rfl) rfl ?_
          refine QS_vg (i := 21) rfl rfl rfl (v_faddr Tryz.underlying32 rfl siz3 rfl) (by kernel_rfl) (by kernel_rfl) (by kernel_rfl) (rem' := [22, 23, 24, 25, 26, 27, 28]) (by kernel_rfl) rfl ?_
          refine QS_vg (i := 22) rfl rfl rfl (v_load1 one3 rfl (Kn.per hb5) (show (cs.getD i conz).cells[0]? = some (.int .i64 (cs.getD i conz).d) from rfl)) (by kernel_rfl) (by kernel_rfl) (by kernel_rfl) (rem' := [23, 24, 25, 26, 27, 28]) (by kernel_rfl) rfl ?_
          refine QS_vg (i := 24) rfl rfl rfl (v_faddr Tryz.underlying32 rfl siz30 rfl) (by kernel_rfl) (by kernel_rfl) (by kernel_rfl) (rem' := [23, 25, 26, 27, 28]) (by kernel_rfl) rfl ?_
          refine QS_vg (i := 25) rfl rfl rfl (v_loadn many30 rfl (Kn.per (by first | exact hl48 _ _ hb5 | exact hb5)) (show cut 1 2 (cs.getD i conz).cells = some [.int .i64 (cs.getD i conz).r, .int .i64 (cs.getD i conz).s] from rfl)) (by kernel_rfl) (by kernel_rfl) (by kernel_rfl) (rem' := [23, 26, 27, 28]) (by kernel_rfl) rfl ?_
          refine QS_step (is := [23]) rfl (by kernel_rfl) ?_
          refine qall1 ?_
          refine qs_callpg rfl rfl rfl rfl (pmessage_fn _ _ _ (dev_ri hdv) (hG.le (hle0.trans (hle1.trans hl5)))) rfl (rem' := [26, 27, 28]) (by kernel_rfl) fun v48 h48 hl48 hbs48 => ?_
          refine QS_step (is := [26]) rfl (by kernel_rfl) ?_
          refine qall1 ?_
          refine qs_callqg rfl rfl rfl rfl (verify_fn _ _ _ _ _ _ hbs48 (by simp) (hG.le (hle0.trans (hle1.trans (hl5.trans hl48))))) rfl (rem' := [27, 28]) (by kernel_rfl) ?_
          first | refine QS_vg (i := 27) rfl rfl rfl (v_notd rfl) (by kernel_rfl) (by kernel_rfl) (by kernel_rfl) (rem' := [28]) (by kernel_rfl) rfl ?_ | refine QS_vg (i := 27) rfl rfl rfl (v_not rfl) (by kernel_rfl) (by kernel_rfl) (by kernel_rfl) (rem' := [28]) (by kernel_rfl) rfl ?_
          refine QS_v (i := 28) rfl (v_pickf rfl rfl) (by kernel_rfl) (by kernel_rfl) (by kernel_rfl) (rem' := []) (by kernel_rfl) rfl ?_
          refine QS_nil ?_
          first | refine den_ifd rfl (fun hv => ?_) (fun hv => ?_) | refine den_if rfl (fun hv => ?_) (fun hv => ?_)
          · skip
            refine den_exit rfl ?_
            -- region 7
            refine den_region rfl ?_
            refine WL_v (v_addj (n := 1) rfl rfl (by show _ < 9223372036854775808; omega)) rfl ?_
            refine WL_v (v_move rfl) rfl ?_
            refine WL_nil ?_
            refine den_again ⟨rfl, (i + 1), (by show cs.length - (i + 1) < cs.length - i; omega), (sub_cons rfl (sub_cons rfl (sub_cons rfl (sub_cons rfl (sub_cons rfl (sub_cons rfl sub_nil)))))), (by first | exact ⟨by omega, hle1.trans (hl5.trans (hl48.trans hle56)), M2, rfl, by rw [ows_yes hi hyes, List.length_append]; exact hgoT (by simpa using hgo)⟩ | exact ⟨by omega, hle1.trans (hl5.trans hl48), M, rfl, by rw [ows_no hi (fun g => by first | exact cok_neg (by omega) g | (obtain ⟨g1, g2, g3⟩ := (cok_at hz).1 g; first | exact absurd (if_pos g2) ‹_› | simp_all))]; exact hS _ _ _ _ (hl5.trans hl48) hM⟩ | exact ⟨by omega, hle1.trans hl5, M, rfl, by rw [ows_no hi (fun g => by first | exact cok_neg (by omega) g | (obtain ⟨g1, g2, g3⟩ := (cok_at hz).1 g; first | exact absurd (if_pos g2) ‹_› | simp_all))]; exact hS _ _ _ _ hl5 hM⟩)⟩
          · skip
            have hyes : cok xs it (cs.getD i conz) := (cok_at hz).2 ⟨by simp_all, hdv, by simpa using hv⟩
            obtain ⟨hj, hv5⟩ := ows_pre hi hyes
            refine den_skip ?_
            refine den_seq ?_
            -- region 6
            refine den_region rfl ?_
            refine WL_v (v_move rfl) rfl ?_
            refine WL_v (v_move rfl) rfl ?_
            refine WL_call (L1 := M) rfl rfl (hY (ows xs it (cs.take i)).length _ _ _ hj (hle0.trans (hle1.trans (hl5.trans hl48))) (by show _ = _; rw [hv5]; simp only [ownV, if_pos hdv]) (hS _ _ _ _ (hl5.trans hl48) hM)) rfl fun v56 h56 M2 hle56 hv56 => ?_
            obtain ⟨go, rfl, hgoT, hgoF⟩ := yv hv56
            first | refine WL_v (v_notd rfl) rfl ?_ | refine WL_v (v_not rfl) rfl ?_
            refine WL_nil ?_
            first | refine den_ifd rfl (fun hgo => ?_) (fun hgo => ?_) | refine den_if rfl (fun hgo => ?_) (fun hgo => ?_)
            · skip
              refine den_ret ?_
              exact ends0 Tryz.results79 (hle1.trans (hl5.trans (hl48.trans hle56))) (List.Sublist.refl _) (.inr (hgoF (by simpa using hgo)))
            · skip
              refine den_skip ?_
              refine den_blk ?_
              -- region 7
              refine den_region rfl ?_
              refine WL_v (v_addj (n := 1) rfl rfl (by show _ < 9223372036854775808; omega)) rfl ?_
              refine WL_v (v_move rfl) rfl ?_
              refine WL_nil ?_
              refine den_again ⟨rfl, (i + 1), (by show cs.length - (i + 1) < cs.length - i; omega), (sub_cons rfl (sub_cons rfl (sub_cons rfl (sub_cons rfl (sub_cons rfl (sub_cons rfl sub_nil)))))), (by first | exact ⟨by omega, hle1.trans (hl5.trans (hl48.trans hle56)), M2, rfl, by rw [ows_yes hi hyes, List.length_append]; exact hgoT (by simpa using hgo)⟩ | exact ⟨by omega, hle1.trans (hl5.trans hl48), M, rfl, by rw [ows_no hi (fun g => by first | exact cok_neg (by omega) g | (obtain ⟨g1, g2, g3⟩ := (cok_at hz).1 g; first | exact absurd (if_pos g2) ‹_› | simp_all))]; exact hS _ _ _ _ (hl5.trans hl48) hM⟩ | exact ⟨by omega, hle1.trans hl5, M, rfl, by rw [ows_no hi (fun g => by first | exact cok_neg (by omega) g | (obtain ⟨g1, g2, g3⟩ := (cok_at hz).1 g; first | exact absurd (if_pos g2) ‹_› | simp_all))]; exact hS _ _ _ _ hl5 hM⟩)⟩
  · skip
    have hil : i = cs.length := by omega
    subst hil
    rw [List.take_length] at hM
    refine den_exit rfl ?_
    refine den_nil ?_
    exact ends0 Tryz.results79 hle1 (List.Sublist.refl _) (.inl hM)

theorem export_fn (p : Pol) (a b x y : Option Addr) (ca cb cx cy : Nat) (xs : List Lst) (it : Dig) (cs : List Con) (h : Heap) (ha : SlI h a p.le) (hb : SlI h b p.ri) (hx : SlL h x xs) (hy : SlC h y cs) (hG : Gl h) : Fn0 Tryz.prog 14 [.agg ⟨p.cells a b ca cb⟩, .slice x xs.length cx, .agg ⟨dcells it ++ [.slice y cs.length cy]⟩] h (.int .i64 (expE p xs it cs)) := by
  refine Tr_of Tryz.func14 rfl rfl Tryz.ntmps14 rfl [(0, .agg ⟨p.cells a b ca cb⟩), (1, .slice x xs.length cx), (2, .agg ⟨dcells it ++ [.slice y cs.length cy]⟩)] rfl ?_
  intro Lf
  refine den_seq ?_
  -- region 0
  refine den_region rfl ?_
  refine WL_box (zs := p.cells a b ca cb) rfl rfl rfl fun b3 => ?_
  refine WL_box (zs := dcells it ++ [.slice y cs.length cy]) rfl rfl rfl fun b5 => ?_
  refine WL_v (v_assign rfl) rfl ?_
  refine WL_nil ?_
  refine den_seq ?_
  refine den_seq ?_
  -- region 1
  refine den_region rfl ?_
  refine WL_v (v_loadn many24 rfl (Kn.own 1 rfl) (p.cutS a b ca cb)) rfl ?_
  refine WL_callq rfl (check_fn _ _ _ _ _ _ ha hb) rfl ?_
  obtain ⟨e, he⟩ : ∃ e, e = polE p := ⟨_, rfl⟩
  rw [← he]
  refine WL_v (v_assign rfl) rfl ?_
  refine WL_nil ?_
  refine den_seq ?_
  -- region 2
  refine den_region rfl ?_
  refine WL_v (v_move rfl) rfl ?_
  refine WL_v (v_neq rfl rfl) rfl ?_
  refine WL_nil ?_
  first | refine den_ifd rfl (fun hq => ?_) (fun hq => ?_) | refine den_if rfl (fun hq => ?_) (fun hq => ?_)
  · skip
    have hbad : expE p xs it cs = 460 := if_neg (fun g => hq (he.trans (if_pos g)))
    have he2 : e = 460 := he.trans (if_neg (fun g => hq (he.trans (if_pos g))))
    refine den_seq ?_
    -- region 3
    refine den_region rfl ?_
    refine WL_v (v_move rfl) rfl ?_
    refine WL_v (v_assign rfl) rfl ?_
    refine WL_nil ?_
    refine den_ret ?_
    exact ends1 Tryz.results14 rfl (Heap.le.refl _) (.cons _ (.cons _ (List.Sublist.refl _))) ⟨by rw [hbad, he2], rfl⟩
  · skip
    have hgood : p.good := polE_0 (by omega)
    refine den_skip ?_
    refine den_seq ?_
    -- region 4
    refine den_region rfl ?_
    refine WL_makeMap rfl fun b15 => ?_
    refine WL_alloc zer84 rfl rfl fun b8 => ?_
    refine WL_store0 rfl rfl rfl siz84 rfl rfl rfl ?_
    refine WL_nil ?_
    refine den_seq ?_
    refine den_seq ?_
    -- region 5
    refine den_region rfl ?_
    refine WL_freeze fun h8 hl8 hb8 => ?_
    refine WL_v (v_move rfl) rfl ?_
    refine WL_v (v_loadn many41 rfl (Kn.own 1 rfl) (cut_self rfl)) rfl ?_
    refine WL_callp rfl (approved_fn _ _ _ _ _ _ _ _) rfl fun v18 h18 hl18 hg18 => ?_
    obtain ⟨b2, b4, rfl, hb2, hb4⟩ := hg18
    refine WL_nil ?_
    refine den_block ?_
    refine den_each (Lb := [(b15, Mo U0 [])]) (Lc := []) (appr_iter x y cx cy xs cs it b2 b4 _ (hx.le (hl8.trans hl18)) (hy.le (hl8.trans hl18)) (hG.le (hl8.trans hl18)) hb2 hb4) (fun i h' L' => L' = [(b15, Mo U0 (setI ((ows xs it cs).take i)))] ∧ Heap.le h18 h') (fun c h' L' => False) rfl rfl (by kernel_rfl) (fun i args hq hx => by rw [hx]; rfl) (fun _ _ _ _ hl g => ⟨g.1, g.2.trans hl⟩) ⟨rfl, Heap.le.refl _⟩ ?_ ?_ ?_
    · intro lp i args hq L1 r1 Lx hi hleq hitem hinv hrec
      obtain ⟨rfl, hle1⟩ := hinv
      subst hitem
      have hle7 := hl18.trans hle1
      -- region 6
      refine den_region rfl ?_
      refine WL_v (v_assign rfl) rfl ?_
      refine WL_nil ?_
      refine den_again ⟨_, rfl, Heap.le.refl _, fun r2 hrec2 => ?_⟩
      refine den_block ?_
      -- region 7
      refine den_region rfl ?_
      refine WL_v (v_load1 one84 rfl (Kn.per (hle7 _ _ hb8)) rfl) rfl ?_
      refine WL_v (v_move rfl) rfl ?_
      refine WL_perm (L' := (b15, _) :: (lp, _) :: Lx) (List.Perm.swap _ _ _) ?_
      refine WL_callf (L1 := [(b15, _)]) rfl (add_fn _ _ _ _) rfl ?_
      rintro v22 h22 L22 hl22 rfl
      refine WL_perm (L' := (lp, _) :: (b15, _) :: Lx) (List.Perm.swap _ _ _) ?_
      refine WL_nil ?_
      refine den_blk ?_
      refine den_nil ?_
      exact ⟨r2, [_], rfl, hrec2, hl22, by rw [setI_take hi], hle1.trans hl22⟩
    · intro D hd Ld hled hI
      obtain ⟨rfl, hle1⟩ := hI
      rw [List.take_length]
      have hl8b := hl18.trans hle1
      refine den_blk ?_
      refine den_seq ?_
      refine den_seq ?_
      -- region 8
      refine den_region rfl ?_
      refine WL_v (v_load1 one84 rfl (Kn.per (hl8b _ _ hb8)) rfl) rfl ?_
      refine WL_v (v_lenMo Tryz.underlying84 rfl (Kn.own 0 rfl)) rfl ?_
      refine WL_v (v_eql rfl rfl) rfl ?_
      refine WL_v (v_move rfl) rfl ?_
      first | refine WL_split (t := 26) rfl ?_ ?_
      · intro c3; try have c3 := of_decide_eq_true c3
        refine WL_skip (j := 3) (t := 26) (b := true) rfl rfl rfl rfl ?_
        refine WL_skip (j := 3) (t := 26) (b := true) rfl rfl rfl rfl ?_
        refine WL_skip (j := 3) (t := 26) (b := true) rfl rfl rfl rfl ?_
        refine WL_skipu (j := 6) (t := 29) rfl rfl rfl rfl ?_
        refine WL_skipu (j := 6) (t := 29) rfl rfl rfl rfl ?_
        refine WL_skipu (j := 6) (t := 29) rfl rfl rfl rfl ?_
        refine WL_skip (j := 3) (t := 26) (b := true) rfl rfl rfl rfl ?_
        refine WL_v (v_pickt rfl rfl) rfl ?_
        refine WL_nil ?_
        refine den_true rfl ?_
        refine den_seq ?_
        -- region 9
        refine den_region rfl ?_
        refine WL_v (v_assign rfl) rfl ?_
        refine WL_nil ?_
        refine den_ret ?_
        refine ends_mark (A := [_]) ?_
        exact ends1 Tryz.results14 rfl (hl8.trans hl8b) (.cons _ (.cons _ (.cons _ (.cons _ (List.Sublist.refl _))))) ⟨by congr 1; unfold expE; rw [if_pos hgood]; first | (rw [if_pos (by first | exact .inl (by omega) | exact .inr ⟨by assumption, by omega⟩)]) | (rw [if_neg (by rintro (g | ⟨g, g2⟩) <;> first | omega | simp_all)]), rfl⟩
      · intro c4; try have c4 := of_decide_eq_false c4
        refine WL_vg rfl rfl (v_faddr Tryz.underlying24 rfl siz4 rfl) rfl ?_
        refine WL_vg rfl rfl (v_load1 one4 rfl (Kn.own 3 rfl) (show (p.cells a b ca cb)[1]? = some (.bool p.two) from rfl)) rfl ?_
        refine WL_vg rfl rfl (v_move rfl) rfl ?_
        first | refine WL_split (t := 29) rfl ?_ ?_
        · intro c5; try have c5 := of_decide_eq_true c5
          refine WL_vg rfl rfl (v_load1 one84 rfl (Kn.per (hl8b _ _ hb8)) rfl) rfl ?_
          refine WL_vg rfl rfl (v_lenMo Tryz.underlying84 rfl (Kn.own 0 rfl)) rfl ?_
          refine WL_vg rfl rfl (v_eql rfl rfl) rfl ?_
          refine WL_vg rfl rfl (v_pickt rfl rfl) rfl ?_
          refine WL_v (v_pickf rfl rfl) rfl ?_
          refine WL_nil ?_
          first | refine den_ifd rfl (fun hr => ?_) (fun hr => ?_) | refine den_if rfl (fun hr => ?_) (fun hr => ?_)
          · skip
            refine den_seq ?_
            -- region 9
            refine den_region rfl ?_
            refine WL_v (v_assign rfl) rfl ?_
            refine WL_nil ?_
            refine den_ret ?_
            refine ends_mark (A := [_]) ?_
            exact ends1 Tryz.results14 rfl (hl8.trans hl8b) (.cons _ (.cons _ (.cons _ (.cons _ (List.Sublist.refl _))))) ⟨by congr 1; unfold expE; rw [if_pos hgood]; first | (rw [if_pos (by first | exact .inl (by omega) | exact .inr ⟨by assumption, by omega⟩)]) | (rw [if_neg (by rintro (g | ⟨g, g2⟩) <;> first | omega | simp_all)]), rfl⟩
          · skip
            refine den_skip ?_
            refine den_seq ?_
            -- region 10
            refine den_region rfl ?_
            refine WL_v (v_assign rfl) rfl ?_
            refine WL_nil ?_
            refine den_ret ?_
            refine ends_mark (A := [_]) ?_
            exact ends1 Tryz.results14 rfl (hl8.trans hl8b) (.cons _ (.cons _ (.cons _ (.cons _ (List.Sublist.refl _))))) ⟨by congr 1; unfold expE; rw [if_pos hgood]; first | (rw [if_pos (by first | exact .inl (by omega) | exact .inr ⟨by assumption, by omega⟩)]) | (rw [if_neg (by rintro (g | ⟨g, g2⟩) <;> first | omega | simp_all)]), rfl⟩
        · intro c6; try have c6 := of_decide_eq_false c6
          refine WL_skip (j := 6) (t := 29) (b := false) rfl rfl rfl rfl ?_
          refine WL_skip (j := 6) (t := 29) (b := false) rfl rfl rfl rfl ?_
          refine WL_skip (j := 6) (t := 29) (b := false) rfl rfl rfl rfl ?_
          refine WL_vg rfl rfl (v_pickf rfl rfl) rfl ?_
          refine WL_v (v_pickf rfl rfl) rfl ?_
          refine WL_nil ?_
          refine den_false rfl ?_
          refine den_skip ?_
          refine den_seq ?_
          -- region 10
          refine den_region rfl ?_
          refine WL_v (v_assign rfl) rfl ?_
          refine WL_nil ?_
          refine den_ret ?_
          refine ends_mark (A := [_]) ?_
          exact ends1 Tryz.results14 rfl (hl8.trans hl8b) (.cons _ (.cons _ (.cons _ (.cons _ (List.Sublist.refl _))))) ⟨by congr 1; unfold expE; rw [if_pos hgood]; first | (rw [if_pos (by first | exact .inl (by omega) | exact .inr ⟨by assumption, by omega⟩)]) | (rw [if_neg (by rintro (g | ⟨g, g2⟩) <;> first | omega | simp_all)]), rfl⟩
    · intro D c hd Ld hled hX
      exact hX.elim

end Go.Proofs.Ch
