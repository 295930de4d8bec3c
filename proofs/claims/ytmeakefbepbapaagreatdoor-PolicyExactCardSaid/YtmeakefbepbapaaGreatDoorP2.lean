/- Walks of the program's functions, printed by my own generator (layer P2). -/
import Derived.Test.YtmeakefbepbapaaGreatDoorP1
namespace Go.Proofs.Ch
open Go Go.Proofs
set_option maxRecDepth 4000
set_option maxHeartbeats 1000000
theorem zer49 : Zer Tryz.prog 49 (.agg ⟨[.int .i64 0, .int .i64 0, .int .i64 0, .int .i64 0, .bool false]⟩) := by show _ = _; kernel_rfl
theorem plc49 : Plc Tryz.prog (match Tryz.prog.underlying 49 with | some (.struct fs) => fs | _ => #[]) [(0, 1), (1, 1), (2, 1), (3, 1), (4, 1)] := fun _ => by kernel_rfl
theorem plc32 : Plc Tryz.prog (match Tryz.prog.underlying 32 with | some (.struct fs) => fs | _ => #[]) [(0, 1), (1, 2)] := fun _ => by kernel_rfl
theorem byt3 : Byt Tryz.prog 3 8 := by show _ = _; kernel_rfl
theorem rmul4_fn (a b : Int) (h : Heap) : Fn0 Tryz.prog 118 [.int .i64 a, .int .i64 b] h (.tuple ⟨[.int .i64 (gmulV a b), .int .i64 (gmulE a b)]⟩) := by
  refine Tr_of Tryz.func118 rfl rfl Tryz.ntmps118 rfl [(0, .int .i64 a), (1, .int .i64 b)] rfl ?_
  intro Lf
  refine den_seq ?_
  -- region 0
  refine den_region rfl ?_
  refine WL_v (v_assign rfl) rfl ?_
  refine WL_v (v_assign rfl) rfl ?_
  refine WL_nil ?_
  refine den_seq ?_
  -- region 1
  refine den_region rfl ?_
  refine WL_v (v_move rfl) rfl ?_
  refine WL_callq rfl (rcheck_fn _ _) rfl ?_
  refine WL_v (v_assign rfl) rfl ?_
  refine WL_nil ?_
  refine den_seq ?_
  refine den_seq ?_
  -- region 2
  refine den_region rfl ?_
  refine WL_v (v_move rfl) rfl ?_
  refine WL_v (v_eql rfl rfl) rfl ?_
  refine WL_nil ?_
  first | refine den_ifd rfl (fun hp => ?_) (fun hp => ?_) | refine den_if rfl (fun hp => ?_) (fun hp => ?_)
  · skip
    -- region 3
    refine den_region rfl ?_
    refine WL_v (v_move rfl) rfl ?_
    refine WL_callq rfl (rcheck_fn _ _) rfl ?_
    refine WL_v (v_assign rfl) rfl ?_
    refine WL_nil ?_
    refine den_seq ?_
    refine den_seq ?_
    -- region 4
    refine den_region rfl ?_
    refine WL_v (v_move rfl) rfl ?_
    refine WL_v (v_neq rfl rfl) rfl ?_
    refine WL_nil ?_
    first | refine den_ifd rfl (fun hq => ?_) (fun hq => ?_) | refine den_if rfl (fun hq => ?_) (fun hq => ?_)
    · skip
      refine den_seq ?_
      -- region 5
      refine den_region rfl ?_
      refine WL_v (v_move rfl) rfl ?_
      refine WL_v (v_assign rfl) rfl ?_
      refine WL_v (v_assign rfl) rfl ?_
      refine WL_nil ?_
      refine den_ret ?_
      exact ends2 Tryz.results118 rfl rfl (Heap.le.refl _) (by simp) ⟨by unfold gmulV gmulE; first | (rw [if_pos ⟨hga, hgb⟩, if_pos ⟨hga, hgb⟩]; simp only [Int.toNat_natCast]) | (rw [if_neg (show ¬ GC a from fun g => hq (gcz.2 g)), if_neg (show ¬ (GC a ∧ GC b) from fun g => hq (gcz.2 g.1)), if_neg (show ¬ (GC a ∧ GC b) from fun g => hq (gcz.2 g.1))]) | (rw [if_neg (show ¬ GC b from fun g => hq (gcz.2 g)), if_neg (show ¬ (GC a ∧ GC b) from fun g => hq (gcz.2 g.2)), if_neg (show ¬ (GC a ∧ GC b) from fun g => hq (gcz.2 g.2))]), rfl⟩
    · skip
      have hga : GC a := by first | exact gcz.1 (Decidable.of_not_not hq) | exact gcz.1 hp
      have hgb : GC b := by first | exact gcz.1 (Decidable.of_not_not hq) | exact absurd (Decidable.of_not_not hq) hp
      refine den_skip ?_
      refine den_seq ?_
      -- region 6
      refine den_region rfl ?_
      refine WL_v (v_move rfl) rfl ?_
      refine WL_v (v_move rfl) rfl ?_
      obtain ⟨m, rfl⟩ := int_nat (by have := hga.1; omega : 0 ≤ a)
      obtain ⟨n, rfl⟩ := int_nat (by have := hgb.1; omega : 0 ≤ b)
      refine WL_callq rfl (rprod4_fn m n 4611686018427377339 (by have := hga.2.1; omega) (by have := hgb.2.1; omega) (by decide) _) rfl ?_
      refine WL_v (v_assign rfl) rfl ?_
      refine WL_v (v_assign rfl) rfl ?_
      refine WL_nil ?_
      refine den_ret ?_
      exact ends2 Tryz.results118 rfl rfl (Heap.le.refl _) (by simp) ⟨by unfold gmulV gmulE; first | (rw [if_pos ⟨hga, hgb⟩, if_pos ⟨hga, hgb⟩]; simp only [Int.toNat_natCast]) | (rw [if_neg (show ¬ GC a from fun g => hq (gcz.2 g)), if_neg (show ¬ (GC a ∧ GC b) from fun g => hq (gcz.2 g.1)), if_neg (show ¬ (GC a ∧ GC b) from fun g => hq (gcz.2 g.1))]) | (rw [if_neg (show ¬ GC b from fun g => hq (gcz.2 g)), if_neg (show ¬ (GC a ∧ GC b) from fun g => hq (gcz.2 g.2)), if_neg (show ¬ (GC a ∧ GC b) from fun g => hq (gcz.2 g.2))]), rfl⟩
  · skip
    refine den_skip ?_
    refine den_seq ?_
    refine den_seq ?_
    -- region 4
    refine den_region rfl ?_
    refine WL_v (v_move rfl) rfl ?_
    refine WL_v (v_neq rfl rfl) rfl ?_
    refine WL_nil ?_
    first | refine den_ifd rfl (fun hq => ?_) (fun hq => ?_) | refine den_if rfl (fun hq => ?_) (fun hq => ?_)
    · skip
      refine den_seq ?_
      -- region 5
      refine den_region rfl ?_
      refine WL_v (v_move rfl) rfl ?_
      refine WL_v (v_assign rfl) rfl ?_
      refine WL_v (v_assign rfl) rfl ?_
      refine WL_nil ?_
      refine den_ret ?_
      exact ends2 Tryz.results118 rfl rfl (Heap.le.refl _) (by simp) ⟨by unfold gmulV gmulE; first | (rw [if_pos ⟨hga, hgb⟩, if_pos ⟨hga, hgb⟩]; simp only [Int.toNat_natCast]) | (rw [if_neg (show ¬ GC a from fun g => hq (gcz.2 g)), if_neg (show ¬ (GC a ∧ GC b) from fun g => hq (gcz.2 g.1)), if_neg (show ¬ (GC a ∧ GC b) from fun g => hq (gcz.2 g.1))]) | (rw [if_neg (show ¬ GC b from fun g => hq (gcz.2 g)), if_neg (show ¬ (GC a ∧ GC b) from fun g => hq (gcz.2 g.2)), if_neg (show ¬ (GC a ∧ GC b) from fun g => hq (gcz.2 g.2))]), rfl⟩
    · skip
      have hga : GC a := by first | exact gcz.1 (Decidable.of_not_not hq) | exact gcz.1 hp
      have hgb : GC b := by first | exact gcz.1 (Decidable.of_not_not hq) | exact absurd (Decidable.of_not_not hq) hp
      refine den_skip ?_
      refine den_seq ?_
      -- region 6
      refine den_region rfl ?_
      refine WL_v (v_move rfl) rfl ?_
      refine WL_v (v_move rfl) rfl ?_
      obtain ⟨m, rfl⟩ := int_nat (by have := hga.1; omega : 0 ≤ a)
      obtain ⟨n, rfl⟩ := int_nat (by have := hgb.1; omega : 0 ≤ b)
      refine WL_callq rfl (rprod4_fn m n 4611686018427377339 (by have := hga.2.1; omega) (by have := hgb.2.1; omega) (by decide) _) rfl ?_
      refine WL_v (v_assign rfl) rfl ?_
      refine WL_v (v_assign rfl) rfl ?_
      refine WL_nil ?_
      refine den_ret ?_
      exact ends2 Tryz.results118 rfl rfl (Heap.le.refl _) (by simp) ⟨by unfold gmulV gmulE; first | (rw [if_pos ⟨hga, hgb⟩, if_pos ⟨hga, hgb⟩]; simp only [Int.toNat_natCast]) | (rw [if_neg (show ¬ GC a from fun g => hq (gcz.2 g)), if_neg (show ¬ (GC a ∧ GC b) from fun g => hq (gcz.2 g.1)), if_neg (show ¬ (GC a ∧ GC b) from fun g => hq (gcz.2 g.1))]) | (rw [if_neg (show ¬ GC b from fun g => hq (gcz.2 g)), if_neg (show ¬ (GC a ∧ GC b) from fun g => hq (gcz.2 g.2)), if_neg (show ¬ (GC a ∧ GC b) from fun g => hq (gcz.2 g.2))]), rfl⟩

theorem rverify_fn (p : Int) (xv : Value) (xs : List UInt8) (r s : Int) (h : Heap) (hv : Bs h xv xs) (hn : xs.length ≤ 1099511627) : Fn0 Tryz.prog 84 [.int .i64 p, xv, .agg ⟨[.int .i64 r, .int .i64 s]⟩] h (.bool (vrf p xs r s)) := by
  refine Tr_of Tryz.func84 rfl rfl Tryz.ntmps84 rfl [(0, .int .i64 p), (1, xv), (2, .agg ⟨[.int .i64 r, .int .i64 s]⟩)] rfl ?_
  intro Lf
  refine den_seq ?_
  -- region 0
  refine den_region rfl ?_
  refine WL_box rfl rfl rfl fun b5 => ?_
  refine WL_v (v_assign rfl) rfl ?_
  refine WL_nil ?_
  refine den_seq ?_
  refine den_seq ?_
  -- region 1
  refine den_region rfl ?_
  refine WL_v (v_move rfl) rfl ?_
  refine WL_callq rfl (rcheck_fn _ _) rfl ?_
  refine WL_v (OpV.to (v' := .bool (!decide (GC p))) (v_neq rfl rfl) (by rw [gcN])) rfl ?_
  refine WL_v (v_move rfl) rfl ?_
  first | refine WL_split (t := 16) rfl ?_ ?_
  · intro c1; try have c1 := of_decide_eq_true c1
    refine WL_skip (j := 3) (t := 16) (b := true) rfl rfl rfl rfl ?_
    refine WL_skip (j := 3) (t := 16) (b := true) rfl rfl rfl rfl ?_
    refine WL_skip (j := 3) (t := 16) (b := true) rfl rfl rfl rfl ?_
    refine WL_skip (j := 3) (t := 16) (b := true) rfl rfl rfl rfl ?_
    refine WL_v (v_pickt rfl rfl) rfl ?_
    refine WL_v (v_move rfl) rfl ?_
    refine WL_skip (j := 9) (t := 22) (b := true) rfl rfl rfl rfl ?_
    refine WL_skip (j := 9) (t := 22) (b := true) rfl rfl rfl rfl ?_
    refine WL_skip (j := 9) (t := 22) (b := true) rfl rfl rfl rfl ?_
    refine WL_skip (j := 9) (t := 22) (b := true) rfl rfl rfl rfl ?_
    refine WL_v (v_pickt rfl rfl) rfl ?_
    refine WL_nil ?_
    refine den_true rfl ?_
    refine den_seq ?_
    -- region 2
    refine den_region rfl ?_
    refine WL_v (v_assign rfl) rfl ?_
    refine WL_nil ?_
    refine den_ret ?_
    exact ends1 Tryz.results84 rfl (Heap.le.refl _) (by simp) ⟨by first | rw [vrf_yes hyes] | rw [vrf_no hno] | rw [vrf_no (fun g => by obtain ⟨g1, g2, g3⟩ := g; simp_all)], rfl⟩
  · intro c2; try have c2 := of_decide_eq_false c2
    refine WL_vg rfl rfl (v_faddr Tryz.underlying30 rfl siz3 rfl) rfl ?_
    refine WL_vg rfl rfl (v_load1 one3 rfl (by first | exact Kn.own 0 rfl | exact Kn.own 1 rfl | exact Kn.own 2 rfl | exact Kn.own 3 rfl | exact Kn.own 4 rfl | exact Kn.own 5 rfl | exact Kn.per ‹_›) rfl) rfl ?_
    refine WL_callqg rfl rfl rfl (rcheck_fn _ _) rfl ?_
    refine WL_vg rfl rfl (OpV.to (v' := .bool (!decide (GC r))) (v_neq rfl rfl) (by rw [gcN])) rfl ?_
    refine WL_v (v_pickf rfl rfl) rfl ?_
    refine WL_v (v_move rfl) rfl ?_
    first | refine WL_split (t := 22) rfl ?_ ?_
    · intro c3; try have c3 := of_decide_eq_true c3
      refine WL_skip (j := 9) (t := 22) (b := true) rfl rfl rfl rfl ?_
      refine WL_skip (j := 9) (t := 22) (b := true) rfl rfl rfl rfl ?_
      refine WL_skip (j := 9) (t := 22) (b := true) rfl rfl rfl rfl ?_
      refine WL_skip (j := 9) (t := 22) (b := true) rfl rfl rfl rfl ?_
      refine WL_v (v_pickt rfl rfl) rfl ?_
      refine WL_nil ?_
      refine den_true rfl ?_
      refine den_seq ?_
      -- region 2
      refine den_region rfl ?_
      refine WL_v (v_assign rfl) rfl ?_
      refine WL_nil ?_
      refine den_ret ?_
      exact ends1 Tryz.results84 rfl (Heap.le.refl _) (by simp) ⟨by first | rw [vrf_yes hyes] | rw [vrf_no hno] | rw [vrf_no (fun g => by obtain ⟨g1, g2, g3⟩ := g; simp_all)], rfl⟩
    · intro c4; try have c4 := of_decide_eq_false c4
      refine WL_vg rfl rfl (v_faddr Tryz.underlying30 rfl siz3 rfl) rfl ?_
      refine WL_vg rfl rfl (v_load1 one3 rfl (by first | exact Kn.own 0 rfl | exact Kn.own 1 rfl | exact Kn.own 2 rfl | exact Kn.own 3 rfl | exact Kn.own 4 rfl | exact Kn.own 5 rfl | exact Kn.per ‹_›) rfl) rfl ?_
      refine WL_callqg rfl rfl rfl (rscal3_fn _ _) rfl ?_
      first | refine WL_vg rfl rfl (v_notd rfl) rfl ?_ | refine WL_vg rfl rfl (v_not rfl) rfl ?_
      refine WL_v (v_pickf rfl rfl) rfl ?_
      refine WL_nil ?_
      first | refine den_ifd rfl (fun hq => ?_) (fun hq => ?_) | refine den_if rfl (fun hq => ?_) (fun hq => ?_)
      · skip
        have hno : ¬ vrfC p r s := fun g => by have := outI_t (nn_t hq); have := g.2.2; omega
        refine den_seq ?_
        -- region 2
        refine den_region rfl ?_
        refine WL_v (v_assign rfl) rfl ?_
        refine WL_nil ?_
        refine den_ret ?_
        exact ends1 Tryz.results84 rfl (Heap.le.refl _) (by simp) ⟨by first | rw [vrf_yes hyes] | rw [vrf_no hno] | rw [vrf_no (fun g => by obtain ⟨g1, g2, g3⟩ := g; simp_all)], rfl⟩
      · skip
        have hyes : vrfC p r s := ⟨by simp_all, by simp_all, outI_f (nn_f hq)⟩
        refine den_skip ?_
        refine den_seq ?_
        -- region 3
        refine den_region rfl ?_
        refine WL_v (v_faddr Tryz.underlying30 rfl siz3 rfl) rfl ?_
        refine WL_v (v_load1 one3 rfl (by first | exact Kn.own 0 rfl | exact Kn.own 1 rfl | exact Kn.own 2 rfl | exact Kn.own 3 rfl | exact Kn.own 4 rfl | exact Kn.own 5 rfl | exact Kn.per ‹_›) rfl) rfl ?_
        refine WL_callq rfl (rbase_fn _ _) rfl ?_
        refine WL_v (v_move rfl) rfl ?_
        refine WL_v (v_extract rfl rfl) rfl ?_
        refine WL_v (v_extract rfl rfl) rfl ?_
        refine WL_v (v_assign rfl) rfl ?_
        refine WL_v (v_assign rfl) rfl ?_
        refine WL_nil ?_
        refine den_seq ?_
        -- region 4
        refine den_region rfl ?_
        refine WL_v (v_move rfl) rfl ?_
        refine WL_v (v_move rfl) rfl ?_
        refine WL_v (v_faddr Tryz.underlying30 rfl siz3 rfl) rfl ?_
        refine WL_v (v_load1 one3 rfl (by first | exact Kn.own 0 rfl | exact Kn.own 1 rfl | exact Kn.own 2 rfl | exact Kn.own 3 rfl | exact Kn.own 4 rfl | exact Kn.own 5 rfl | exact Kn.per ‹_›) rfl) rfl ?_
        refine WL_v (v_move rfl) rfl ?_
        refine WL_callq rfl (rchal_fn _ _ _ _ _ hv hn) rfl ?_
        refine WL_callq rfl (rexp_fn _ _ _) rfl ?_
        refine WL_v (v_move rfl) rfl ?_
        refine WL_v (v_extract rfl rfl) rfl ?_
        refine WL_v (v_extract rfl rfl) rfl ?_
        refine WL_v (v_assign rfl) rfl ?_
        refine WL_v (v_assign rfl) rfl ?_
        refine WL_nil ?_
        refine den_seq ?_
        -- region 5
        refine den_region rfl ?_
        refine WL_v (v_faddr Tryz.underlying30 rfl siz3 rfl) rfl ?_
        refine WL_v (v_load1 one3 rfl (by first | exact Kn.own 0 rfl | exact Kn.own 1 rfl | exact Kn.own 2 rfl | exact Kn.own 3 rfl | exact Kn.own 4 rfl | exact Kn.own 5 rfl | exact Kn.per ‹_›) rfl) rfl ?_
        refine WL_v (v_move rfl) rfl ?_
        refine WL_callq rfl (rmul4_fn _ _ _) rfl ?_
        refine WL_v (v_move rfl) rfl ?_
        refine WL_v (v_extract rfl rfl) rfl ?_
        refine WL_v (v_extract rfl rfl) rfl ?_
        refine WL_v (v_assign rfl) rfl ?_
        refine WL_v (v_assign rfl) rfl ?_
        refine WL_nil ?_
        refine den_seq ?_
        -- region 6
        refine den_region rfl ?_
        refine WL_v (v_move rfl) rfl ?_
        refine WL_v (v_move rfl) rfl ?_
        refine WL_v (v_eql rfl rfl) rfl ?_
        refine WL_v (v_assign rfl) rfl ?_
        refine WL_nil ?_
        refine den_ret ?_
        exact ends1 Tryz.results84 rfl (Heap.le.refl _) (by simp) ⟨by first | rw [vrf_yes hyes] | rw [vrf_no hno] | rw [vrf_no (fun g => by obtain ⟨g1, g2, g3⟩ := g; simp_all)], rfl⟩

theorem rdev_fn (d : Int) (h : Heap) : Fn0 Tryz.prog 116 [.int .i64 d] h (.bool (decide (dev d))) := by
  refine Tr_of Tryz.func116 rfl rfl Tryz.ntmps116 rfl [(0, .int .i64 d)] rfl ?_
  intro Lf
  refine den_seq ?_
  -- region 0
  refine den_region rfl ?_
  refine WL_v (v_assign rfl) rfl ?_
  refine WL_nil ?_
  refine den_seq ?_
  -- region 1
  refine den_region rfl ?_
  refine WL_v (v_move rfl) rfl ?_
  refine WL_v (v_geq rfl rfl) rfl ?_
  refine WL_v (v_move rfl) rfl ?_
  first | refine WL_split (t := 5) rfl ?_ ?_
  · intro c1; try have c1 := of_decide_eq_true c1
    refine WL_vg rfl rfl (v_move rfl) rfl ?_
    refine WL_vg rfl rfl (v_lss rfl rfl) rfl ?_
    refine WL_v (v_pickt rfl rfl) rfl ?_
    refine WL_v (v_assign rfl) rfl ?_
    refine WL_nil ?_
    refine den_ret ?_
    exact ends1 Tryz.results116 rfl (Heap.le.refl _) (by simp) ⟨by congr 1; first | exact (decide_eq_false (fun g => by have := g.1; omega)).symm | (rw [decide_eq_decide]; exact ⟨fun g => ⟨by omega, g⟩, fun g => g.2⟩), rfl⟩
  · intro c2; try have c2 := of_decide_eq_false c2
    refine WL_skip (j := 2) (t := 5) (b := false) rfl rfl rfl rfl ?_
    refine WL_skip (j := 2) (t := 5) (b := false) rfl rfl rfl rfl ?_
    refine WL_v (v_pickf rfl rfl) rfl ?_
    refine WL_v (v_assign rfl) rfl ?_
    refine WL_nil ?_
    refine den_ret ?_
    exact ends1 Tryz.results116 rfl (Heap.le.refl _) (by simp) ⟨by congr 1; first | exact (decide_eq_false (fun g => by have := g.1; omega)).symm | (rw [decide_eq_decide]; exact ⟨fun g => ⟨by omega, g⟩, fun g => g.2⟩), rfl⟩

theorem rowner_fn (d : Int) (h : Heap) : Fn0 Tryz.prog 83 [.int .i64 d] h (.tuple ⟨[.int .i64 (ownV d), .int .i64 (ownE d)]⟩) := by
  refine Tr_of Tryz.func83 rfl rfl Tryz.ntmps83 rfl [(0, .int .i64 d)] rfl ?_
  intro Lf
  refine den_seq ?_
  -- region 0
  refine den_region rfl ?_
  refine WL_v (v_assign rfl) rfl ?_
  refine WL_v (v_assign rfl) rfl ?_
  refine WL_nil ?_
  refine den_seq ?_
  refine den_seq ?_
  -- region 1
  refine den_region rfl ?_
  refine WL_v (v_move rfl) rfl ?_
  refine WL_callq rfl (rdev_fn _ _) rfl ?_
  first | refine WL_v (v_notd rfl) rfl ?_ | refine WL_v (v_not rfl) rfl ?_
  refine WL_nil ?_
  first | refine den_ifd rfl (fun hd => ?_) (fun hd => ?_) | refine den_if rfl (fun hd => ?_) (fun hd => ?_)
  · skip
    refine den_seq ?_
    -- region 2
    refine den_region rfl ?_
    refine WL_v (v_assign rfl) rfl ?_
    refine WL_v (v_assign rfl) rfl ?_
    refine WL_nil ?_
    refine den_ret ?_
    exact ends2 Tryz.results83 rfl rfl (Heap.le.refl _) (by simp) ⟨by unfold ownV ownE; first | (rw [if_pos hd, if_pos hd]; rfl) | (have hd : ¬ dev d := by simpa using hd); rw [if_neg hd, if_neg hd], rfl⟩
  · skip
    have hd : dev d := by simpa using hd
    obtain ⟨m, rfl⟩ := int_nat hd.1
    have hm := hd.2
    refine den_skip ?_
    refine den_seq ?_
    -- region 3
    refine den_region rfl ?_
    refine WL_v (v_move rfl) rfl ?_
    refine WL_v (v_quoj (m := m) (n := 8) rfl rfl (by omega) (by omega)) rfl ?_
    refine WL_v (v_assign rfl) rfl ?_
    refine WL_v (v_assign rfl) rfl ?_
    refine WL_nil ?_
    refine den_ret ?_
    exact ends2 Tryz.results83 rfl rfl (Heap.le.refl _) (by simp) ⟨by unfold ownV ownE; first | (rw [if_pos hd, if_pos hd]; rfl) | (have hd : ¬ dev d := by simpa using hd); rw [if_neg hd, if_neg hd], rfl⟩

theorem rlisting_fn (a : Option Addr) (ca : Nat) (xs : List Lst) (d : Int) (h : Heap) (hx : SlL h a xs) : Fn0 Tryz.prog 82 [.slice a xs.length ca, .int .i64 d] h (.tuple ⟨[.agg ⟨(if 0 ≤ at_ xs d then xs.getD (at_ xs d).toNat lstz else lstz).cells⟩, .bool (decide (0 ≤ at_ xs d))]⟩) := by
  refine Tr_of Tryz.func82 rfl rfl Tryz.ntmps82 rfl [(0, .slice a xs.length ca), (1, .int .i64 d)] rfl ?_
  intro Lf
  have hl := hx.2
  refine den_seq ?_
  -- region 0
  refine den_region rfl ?_
  refine WL_alloc zer49 rfl rfl fun b4 => ?_
  refine WL_v (v_assign rfl) rfl ?_
  refine WL_nil ?_
  refine den_seq ?_
  refine den_seq ?_
  -- region 1
  refine den_region rfl ?_
  refine WL_v (v_assign rfl) rfl ?_
  refine WL_nil ?_
  refine den_block ?_
  refine den_loopI (ι := Nat) (fun i => [(0, .slice a xs.length ca), (1, .int .i64 d), (4, .pointer (some ⟨b4, 0, none⟩)), (6, .int .i64 ((i : Nat) : Int))]) (fun i h' L' => i ≤ xs.length ∧ h = h' ∧ L' = (b4, .cells ⟨lstz.cells⟩ 49 (0, 0)) :: Lf ∧ ∀ j, j < i → (xs.getD j lstz).d ≠ d) (fun i => xs.length - i) 0 (sub_cons rfl (sub_cons rfl (sub_cons rfl (sub_cons rfl sub_nil)))) ⟨by omega, rfl, rfl, fun j hj => by omega⟩ ?_
  rintro i _ _ ⟨i1, rfl, rfl, hall⟩
  refine den_seq ?_
  refine den_seq ?_
  -- region 2
  refine den_region rfl ?_
  refine WL_v (v_move rfl) rfl ?_
  refine WL_v (v_move rfl) rfl ?_
  refine WL_v (v_lens Tryz.underlying38 rfl) rfl ?_
  refine WL_v (v_lss rfl rfl) rfl ?_
  refine WL_nil ?_
  first | refine den_ifd rfl (fun hi => ?_) (fun hi => ?_) | refine den_if rfl (fun hi => ?_) (fun hi => ?_)
  · skip
    have hi : i < xs.length := by omega
    obtain ⟨bb, off, all, T, fr, rfl, hbb, hxi⟩ := hx.1 i hi
    refine den_skip ?_
    refine den_seq ?_
    refine den_block ?_
    refine den_seq ?_
    -- region 4
    refine den_region rfl ?_
    refine WL_v (v_move rfl) rfl ?_
    refine WL_v (v_move rfl) rfl ?_
    refine WL_v (v_iaddrs Tryz.underlying38 siz49 rfl rfl rfl hi) rfl ?_
    refine WL_v (v_faddr Tryz.underlying49 rfl siz3 rfl) rfl ?_
    refine WL_v (v_load1 one3 rfl (Kn.per hbb) (show _ = some (.int .i64 (xs.getD i lstz).d) from (cut_get hxi (k := 0) (by decide)).trans rfl)) rfl ?_
    refine WL_v (v_move rfl) rfl ?_
    refine WL_v (v_eql rfl rfl) rfl ?_
    refine WL_nil ?_
    first | refine den_ifd rfl (fun hd => ?_) (fun hd => ?_) | refine den_if rfl (fun hd => ?_) (fun hd => ?_)
    · skip
      have hat := at_some hi hd hall
      refine den_seq ?_
      -- region 5
      refine den_region rfl ?_
      refine WL_v (v_move rfl) rfl ?_
      refine WL_v (v_move rfl) rfl ?_
      refine WL_v (v_iaddrs Tryz.underlying38 siz49 rfl rfl rfl hi) rfl ?_
      refine WL_v (v_loadn many49 rfl (Kn.per hbb) hxi) rfl ?_
      refine WL_store0 rfl rfl (us := (xs.getD i lstz).cells) rfl siz49 (spl_all rfl) rfl rfl ?_
      refine WL_v (v_assign rfl) rfl ?_
      refine WL_nil ?_
      refine den_ret ?_
      exact endsr2 Tryz.results82 (rv_n many49 rfl (by first | exact Kn.own 0 rfl | exact Kn.own 1 rfl | exact Kn.own 2 rfl | exact Kn.own 3 rfl | exact Kn.own 4 rfl | exact Kn.own 5 rfl | exact Kn.per ‹_›) rfl) (rv_t rfl) (Heap.le.refl _) (by simp) ⟨by rw [hat]; first | (rw [if_pos (by omega), decide_eq_true (by omega), Int.toNat_natCast]; rfl) | (rw [if_neg (by omega), decide_eq_false (by omega)]; rfl), rfl⟩
    · skip
      refine den_skip ?_
      refine den_blk ?_
      -- region 3
      refine den_region rfl ?_
      refine WL_v (v_move rfl) rfl ?_
      refine WL_v (v_addj (n := 1) rfl rfl (by show _ < 9223372036854775808; omega)) rfl ?_
      refine WL_v (v_assign rfl) rfl ?_
      refine WL_nil ?_
      refine den_again ⟨rfl, (i + 1), (by show xs.length - (i + 1) < xs.length - i; omega), (sub_cons rfl (sub_cons rfl (sub_cons rfl (sub_cons rfl sub_nil)))), ⟨by omega, rfl, rfl, fun j hj => by rcases Nat.lt_succ_iff_lt_or_eq.1 hj with g | rfl; exact hall j g; exact hd⟩⟩
  · skip
    have hil : i = xs.length := by omega
    subst hil
    have hat := at_none hall
    refine den_exit rfl ?_
    refine den_seq ?_
    -- region 6
    refine den_region rfl ?_
    refine WL_v (v_builds (r := lstz.cells) Tryz.underlying49 zer49 plc49 rfl rfl rfl) rfl ?_
    refine WL_store0 rfl rfl (us := lstz.cells) rfl siz49 (spl_all rfl) rfl rfl ?_
    refine WL_v (v_assign rfl) rfl ?_
    refine WL_nil ?_
    refine den_ret ?_
    exact endsr2 Tryz.results82 (rv_n many49 rfl (by first | exact Kn.own 0 rfl | exact Kn.own 1 rfl | exact Kn.own 2 rfl | exact Kn.own 3 rfl | exact Kn.own 4 rfl | exact Kn.own 5 rfl | exact Kn.per ‹_›) rfl) (rv_t rfl) (Heap.le.refl _) (by simp) ⟨by rw [hat]; first | (rw [if_pos (by omega), decide_eq_true (by omega), Int.toNat_natCast]; rfl) | (rw [if_neg (by omega), decide_eq_false (by omega)]; rfl), rfl⟩

theorem people_fn (a : Option Addr) (c : Nat) (l : List Int) (h : Heap) (hs : SlI h a l) : Fn0 Tryz.prog 34 [.slice a l.length c] h (.bool (fineB l)) := by
  refine Tr_of Tryz.func34 rfl rfl Tryz.ntmps34 rfl [(0, .slice a l.length c)] rfl ?_
  intro Lf
  have hl := hs.2
  refine den_seq ?_
  -- region 0
  refine den_region rfl ?_
  refine WL_v (v_assign rfl) rfl ?_
  refine WL_nil ?_
  refine den_seq ?_
  refine den_seq ?_
  -- region 1
  refine den_region rfl ?_
  refine WL_v (v_assign rfl) rfl ?_
  refine WL_nil ?_
  refine den_block ?_
  refine den_loopI (ι := Nat) (fun i => [(0, .slice a l.length c), (3, .int .i64 ((i : Nat) : Int))]) (fun i h' L' => i ≤ l.length ∧ h = h' ∧ Lf = L' ∧ ∀ j, j < i → fineAt l j) (fun i => l.length - i) 0 (sub_cons rfl (sub_cons rfl sub_nil)) ⟨by omega, rfl, rfl, fun j hj => by omega⟩ ?_
  rintro i _ _ ⟨i1, rfl, rfl, hall⟩
  refine den_seq ?_
  refine den_seq ?_
  -- region 2
  refine den_region rfl ?_
  refine WL_v (v_move rfl) rfl ?_
  refine WL_v (v_move rfl) rfl ?_
  refine WL_v (v_lens Tryz.underlying22 rfl) rfl ?_
  refine WL_v (v_lss rfl rfl) rfl ?_
  refine WL_nil ?_
  first | refine den_ifd rfl (fun hi => ?_) (fun hi => ?_) | refine den_if rfl (fun hi => ?_) (fun hi => ?_)
  · skip
    have hi : i < l.length := by omega
    obtain ⟨b, off, all, T, fr, rfl, hb, hx⟩ := hs.get hi
    refine den_skip ?_
    refine den_seq ?_
    refine den_block ?_
    refine den_seq ?_
    -- region 4
    refine den_draw [] (by kernel_rfl) (by kernel_rfl) (NoP.fn) (rem := [0, 1, 2, 3, 4, 5, 6, 7, 8, 9, 10, 11, 12, 13, 14, 15, 16, 17, 18, 19, 20, 21, 22, 23, 24, 25, 26, 27]) (by kernel_rfl) ?_
    refine QS_v (i := 0) rfl (v_move rfl) (by kernel_rfl) (by kernel_rfl) (by kernel_rfl) (rem' := [1, 2, 3, 4, 5, 6, 7, 8, 9, 10, 11, 12, 13, 14, 15, 16, 17, 18, 19, 20, 21, 22, 23, 24, 25, 26, 27]) (by kernel_rfl) rfl ?_
    refine QS_v (i := 1) rfl (v_move rfl) (by kernel_rfl) (by kernel_rfl) (by kernel_rfl) (rem' := [2, 3, 4, 5, 6, 7, 8, 9, 10, 11, 12, 13, 14, 15, 16, 17, 18, 19, 20, 21, 22, 23, 24, 25, 26, 27]) (by kernel_rfl) rfl ?_
    refine QS_v (i := 2) rfl (v_iaddrs Tryz.underlying22 siz3 rfl rfl rfl hi) (by kernel_rfl) (by kernel_rfl) (by kernel_rfl) (rem' := [3, 4, 5, 6, 7, 8, 9, 10, 11, 12, 13, 14, 15, 16, 17, 18, 19, 20, 21, 22, 23, 24, 25, 26, 27]) (by kernel_rfl) rfl ?_
    refine QS_v (i := 3) rfl (v_load1 one3 rfl (Kn.per hb) hx) (by kernel_rfl) (by kernel_rfl) (by kernel_rfl) (rem' := [4, 5, 6, 7, 8, 9, 10, 11, 12, 13, 14, 15, 16, 17, 18, 19, 20, 21, 22, 23, 24, 25, 26, 27]) (by kernel_rfl) rfl ?_
    refine QS_v (i := 4) rfl (v_lss rfl rfl) (by kernel_rfl) (by kernel_rfl) (by kernel_rfl) (rem' := [5, 6, 7, 8, 9, 10, 11, 12, 13, 14, 15, 16, 17, 18, 19, 20, 21, 22, 23, 24, 25, 26, 27]) (by kernel_rfl) rfl ?_
    refine QS_v (i := 5) rfl (v_move rfl) (by kernel_rfl) (by kernel_rfl) (by kernel_rfl) (rem' := [6, 7, 8, 9, 10, 11, 12, 13, 14, 15, 16, 17, 18, 19, 20, 21, 22, 23, 24, 25, 26, 27]) (by kernel_rfl) rfl ?_
    refine QS_split (t := 15) rfl ?_ ?_
    · intro c3; try have c3 := of_decide_eq_true c3
      refine QS_skip (i := 6) (j := 5) (t := 15) (b := true) rfl rfl rfl (by kernel_rfl) (by kernel_rfl) (by kernel_rfl) (rem' := [7, 8, 9, 10, 11, 12, 13, 14, 15, 16, 17, 18, 19, 20, 21, 22, 23, 24, 25, 26, 27]) (by kernel_rfl) rfl ?_
      refine QS_skip (i := 7) (j := 5) (t := 15) (b := true) rfl rfl rfl (by kernel_rfl) (by kernel_rfl) (by kernel_rfl) (rem' := [8, 9, 10, 11, 12, 13, 14, 15, 16, 17, 18, 19, 20, 21, 22, 23, 24, 25, 26, 27]) (by kernel_rfl) rfl ?_
      refine QS_skip (i := 8) (j := 5) (t := 15) (b := true) rfl rfl rfl (by kernel_rfl) (by kernel_rfl) (by kernel_rfl) (rem' := [9, 10, 11, 12, 13, 14, 15, 16, 17, 18, 19, 20, 21, 22, 23, 24, 25, 26, 27]) (by kernel_rfl) rfl ?_
      refine QS_skip (i := 9) (j := 5) (t := 15) (b := true) rfl rfl rfl (by kernel_rfl) (by kernel_rfl) (by kernel_rfl) (rem' := [10, 11, 12, 13, 14, 15, 16, 17, 18, 19, 20, 21, 22, 23, 24, 25, 26, 27]) (by kernel_rfl) rfl ?_
      refine QS_skip (i := 10) (j := 5) (t := 15) (b := true) rfl rfl rfl (by kernel_rfl) (by kernel_rfl) (by kernel_rfl) (rem' := [11, 12, 13, 14, 15, 16, 17, 18, 19, 20, 21, 22, 23, 24, 25, 26, 27]) (by kernel_rfl) rfl ?_
      refine QS_v (i := 11) rfl (v_pickt rfl rfl) (by kernel_rfl) (by kernel_rfl) (by kernel_rfl) (rem' := [12, 13, 14, 15, 16, 17, 18, 19, 20, 21, 22, 23, 24, 25, 26, 27]) (by kernel_rfl) rfl ?_
      refine QS_v (i := 12) rfl (v_move rfl) (by kernel_rfl) (by kernel_rfl) (by kernel_rfl) (rem' := [13, 14, 15, 16, 17, 18, 19, 20, 21, 22, 23, 24, 25, 26, 27]) (by kernel_rfl) rfl ?_
      refine QS_skip (i := 13) (j := 12) (t := 22) (b := true) rfl rfl rfl (by kernel_rfl) (by kernel_rfl) (by kernel_rfl) (rem' := [14, 15, 16, 17, 18, 19, 20, 21, 22, 23, 24, 25, 26, 27]) (by kernel_rfl) rfl ?_
      refine QS_skip (i := 14) (j := 12) (t := 22) (b := true) rfl rfl rfl (by kernel_rfl) (by kernel_rfl) (by kernel_rfl) (rem' := [15, 16, 17, 18, 19, 20, 21, 22, 23, 24, 25, 26, 27]) (by kernel_rfl) rfl ?_
      refine QS_skip (i := 15) (j := 12) (t := 22) (b := true) rfl rfl rfl (by kernel_rfl) (by kernel_rfl) (by kernel_rfl) (rem' := [16, 17, 18, 19, 20, 21, 22, 23, 24, 25, 26, 27]) (by kernel_rfl) rfl ?_
      refine QS_skipu (i := 16) (j := 15) (t := 25) rfl rfl rfl (by kernel_rfl) (by kernel_rfl) (by kernel_rfl) (rem' := [17, 18, 19, 20, 21, 22, 23, 24, 25, 26, 27]) (by kernel_rfl) rfl ?_
      refine QS_skipu (i := 17) (j := 15) (t := 25) rfl rfl rfl (by kernel_rfl) (by kernel_rfl) (by kernel_rfl) (rem' := [18, 19, 20, 21, 22, 23, 24, 25, 26, 27]) (by kernel_rfl) rfl ?_
      refine QS_skipu (i := 18) (j := 15) (t := 25) rfl rfl rfl (by kernel_rfl) (by kernel_rfl) (by kernel_rfl) (rem' := [19, 20, 21, 22, 23, 24, 25, 26, 27]) (by kernel_rfl) rfl ?_
      refine QS_skipu (i := 19) (j := 15) (t := 25) rfl rfl rfl (by kernel_rfl) (by kernel_rfl) (by kernel_rfl) (rem' := [20, 21, 22, 23, 24, 25, 26, 27]) (by kernel_rfl) rfl ?_
      refine QS_skipu (i := 20) (j := 15) (t := 25) rfl rfl rfl (by kernel_rfl) (by kernel_rfl) (by kernel_rfl) (rem' := [21, 22, 23, 24, 25, 26, 27]) (by kernel_rfl) rfl ?_
      refine QS_skipu (i := 21) (j := 15) (t := 25) rfl rfl rfl (by kernel_rfl) (by kernel_rfl) (by kernel_rfl) (rem' := [22, 23, 24, 25, 26, 27]) (by kernel_rfl) rfl ?_
      refine QS_skipu (i := 22) (j := 15) (t := 25) rfl rfl rfl (by kernel_rfl) (by kernel_rfl) (by kernel_rfl) (rem' := [23, 24, 25, 26, 27]) (by kernel_rfl) rfl ?_
      refine QS_skipu (i := 23) (j := 15) (t := 25) rfl rfl rfl (by kernel_rfl) (by kernel_rfl) (by kernel_rfl) (rem' := [24, 25, 26, 27]) (by kernel_rfl) rfl ?_
      refine QS_skipu (i := 24) (j := 15) (t := 25) rfl rfl rfl (by kernel_rfl) (by kernel_rfl) (by kernel_rfl) (rem' := [25, 26, 27]) (by kernel_rfl) rfl ?_
      refine QS_skipu (i := 25) (j := 15) (t := 25) rfl rfl rfl (by kernel_rfl) (by kernel_rfl) (by kernel_rfl) (rem' := [26, 27]) (by kernel_rfl) rfl ?_
      refine QS_skip (i := 26) (j := 12) (t := 22) (b := true) rfl rfl rfl (by kernel_rfl) (by kernel_rfl) (by kernel_rfl) (rem' := [27]) (by kernel_rfl) rfl ?_
      refine QS_v (i := 27) rfl (v_pickt rfl rfl) (by kernel_rfl) (by kernel_rfl) (by kernel_rfl) (rem' := []) (by kernel_rfl) rfl ?_
      refine QS_nil ?_
      refine den_true rfl ?_
      refine den_seq ?_
      -- region 5
      refine den_region rfl ?_
      refine WL_v (v_assign rfl) rfl ?_
      refine WL_nil ?_
      refine den_ret ?_
      exact ends1 Tryz.results34 rfl (Heap.le.refl _) (by simp) ⟨by first | rw [fineB_no hi (fun g => by obtain ⟨g1, g2, g3⟩ := g; omega)] | rw [fineB_yes hall], rfl⟩
    · intro c4; try have c4 := of_decide_eq_false c4
      refine QS_vg (i := 6) rfl rfl rfl (v_move rfl) (by kernel_rfl) (by kernel_rfl) (by kernel_rfl) (rem' := [7, 8, 9, 10, 11, 12, 13, 14, 15, 16, 17, 18, 19, 20, 21, 22, 23, 24, 25, 26, 27]) (by kernel_rfl) rfl ?_
      refine QS_vg (i := 7) rfl rfl rfl (v_move rfl) (by kernel_rfl) (by kernel_rfl) (by kernel_rfl) (rem' := [8, 9, 10, 11, 12, 13, 14, 15, 16, 17, 18, 19, 20, 21, 22, 23, 24, 25, 26, 27]) (by kernel_rfl) rfl ?_
      refine QS_vg (i := 8) rfl rfl rfl (v_iaddrs Tryz.underlying22 siz3 rfl rfl rfl hi) (by kernel_rfl) (by kernel_rfl) (by kernel_rfl) (rem' := [9, 10, 11, 12, 13, 14, 15, 16, 17, 18, 19, 20, 21, 22, 23, 24, 25, 26, 27]) (by kernel_rfl) rfl ?_
      refine QS_vg (i := 9) rfl rfl rfl (v_load1 one3 rfl (Kn.per hb) hx) (by kernel_rfl) (by kernel_rfl) (by kernel_rfl) (rem' := [10, 11, 12, 13, 14, 15, 16, 17, 18, 19, 20, 21, 22, 23, 24, 25, 26, 27]) (by kernel_rfl) rfl ?_
      refine QS_vg (i := 10) rfl rfl rfl (v_geq rfl rfl) (by kernel_rfl) (by kernel_rfl) (by kernel_rfl) (rem' := [11, 12, 13, 14, 15, 16, 17, 18, 19, 20, 21, 22, 23, 24, 25, 26, 27]) (by kernel_rfl) rfl ?_
      refine QS_v (i := 11) rfl (v_pickf rfl rfl) (by kernel_rfl) (by kernel_rfl) (by kernel_rfl) (rem' := [12, 13, 14, 15, 16, 17, 18, 19, 20, 21, 22, 23, 24, 25, 26, 27]) (by kernel_rfl) rfl ?_
      refine QS_v (i := 12) rfl (v_move rfl) (by kernel_rfl) (by kernel_rfl) (by kernel_rfl) (rem' := [13, 14, 15, 16, 17, 18, 19, 20, 21, 22, 23, 24, 25, 26, 27]) (by kernel_rfl) rfl ?_
      refine QS_split (t := 22) rfl ?_ ?_
      · intro c5; try have c5 := of_decide_eq_true c5
        refine QS_skip (i := 13) (j := 12) (t := 22) (b := true) rfl rfl rfl (by kernel_rfl) (by kernel_rfl) (by kernel_rfl) (rem' := [14, 15, 16, 17, 18, 19, 20, 21, 22, 23, 24, 25, 26, 27]) (by kernel_rfl) rfl ?_
        refine QS_skip (i := 14) (j := 12) (t := 22) (b := true) rfl rfl rfl (by kernel_rfl) (by kernel_rfl) (by kernel_rfl) (rem' := [15, 16, 17, 18, 19, 20, 21, 22, 23, 24, 25, 26, 27]) (by kernel_rfl) rfl ?_
        refine QS_skip (i := 15) (j := 12) (t := 22) (b := true) rfl rfl rfl (by kernel_rfl) (by kernel_rfl) (by kernel_rfl) (rem' := [16, 17, 18, 19, 20, 21, 22, 23, 24, 25, 26, 27]) (by kernel_rfl) rfl ?_
        refine QS_skipu (i := 16) (j := 15) (t := 25) rfl rfl rfl (by kernel_rfl) (by kernel_rfl) (by kernel_rfl) (rem' := [17, 18, 19, 20, 21, 22, 23, 24, 25, 26, 27]) (by kernel_rfl) rfl ?_
        refine QS_skipu (i := 17) (j := 15) (t := 25) rfl rfl rfl (by kernel_rfl) (by kernel_rfl) (by kernel_rfl) (rem' := [18, 19, 20, 21, 22, 23, 24, 25, 26, 27]) (by kernel_rfl) rfl ?_
        refine QS_skipu (i := 18) (j := 15) (t := 25) rfl rfl rfl (by kernel_rfl) (by kernel_rfl) (by kernel_rfl) (rem' := [19, 20, 21, 22, 23, 24, 25, 26, 27]) (by kernel_rfl) rfl ?_
        refine QS_skipu (i := 19) (j := 15) (t := 25) rfl rfl rfl (by kernel_rfl) (by kernel_rfl) (by kernel_rfl) (rem' := [20, 21, 22, 23, 24, 25, 26, 27]) (by kernel_rfl) rfl ?_
        refine QS_skipu (i := 20) (j := 15) (t := 25) rfl rfl rfl (by kernel_rfl) (by kernel_rfl) (by kernel_rfl) (rem' := [21, 22, 23, 24, 25, 26, 27]) (by kernel_rfl) rfl ?_
        refine QS_skipu (i := 21) (j := 15) (t := 25) rfl rfl rfl (by kernel_rfl) (by kernel_rfl) (by kernel_rfl) (rem' := [22, 23, 24, 25, 26, 27]) (by kernel_rfl) rfl ?_
        refine QS_skipu (i := 22) (j := 15) (t := 25) rfl rfl rfl (by kernel_rfl) (by kernel_rfl) (by kernel_rfl) (rem' := [23, 24, 25, 26, 27]) (by kernel_rfl) rfl ?_
        refine QS_skipu (i := 23) (j := 15) (t := 25) rfl rfl rfl (by kernel_rfl) (by kernel_rfl) (by kernel_rfl) (rem' := [24, 25, 26, 27]) (by kernel_rfl) rfl ?_
        refine QS_skipu (i := 24) (j := 15) (t := 25) rfl rfl rfl (by kernel_rfl) (by kernel_rfl) (by kernel_rfl) (rem' := [25, 26, 27]) (by kernel_rfl) rfl ?_
        refine QS_skipu (i := 25) (j := 15) (t := 25) rfl rfl rfl (by kernel_rfl) (by kernel_rfl) (by kernel_rfl) (rem' := [26, 27]) (by kernel_rfl) rfl ?_
        refine QS_skip (i := 26) (j := 12) (t := 22) (b := true) rfl rfl rfl (by kernel_rfl) (by kernel_rfl) (by kernel_rfl) (rem' := [27]) (by kernel_rfl) rfl ?_
        refine QS_v (i := 27) rfl (v_pickt rfl rfl) (by kernel_rfl) (by kernel_rfl) (by kernel_rfl) (rem' := []) (by kernel_rfl) rfl ?_
        refine QS_nil ?_
        refine den_true rfl ?_
        refine den_seq ?_
        -- region 5
        refine den_region rfl ?_
        refine WL_v (v_assign rfl) rfl ?_
        refine WL_nil ?_
        refine den_ret ?_
        exact ends1 Tryz.results34 rfl (Heap.le.refl _) (by simp) ⟨by first | rw [fineB_no hi (fun g => by obtain ⟨g1, g2, g3⟩ := g; omega)] | rw [fineB_yes hall], rfl⟩
      · intro c6; try have c6 := of_decide_eq_false c6
        refine QS_vg (i := 13) rfl rfl rfl (v_move rfl) (by kernel_rfl) (by kernel_rfl) (by kernel_rfl) (rem' := [14, 15, 16, 17, 18, 19, 20, 21, 22, 23, 24, 25, 26, 27]) (by kernel_rfl) rfl ?_
        refine QS_vg (i := 14) rfl rfl rfl (v_gtr rfl rfl) (by kernel_rfl) (by kernel_rfl) (by kernel_rfl) (rem' := [15, 16, 17, 18, 19, 20, 21, 22, 23, 24, 25, 26, 27]) (by kernel_rfl) rfl ?_
        refine QS_vg (i := 15) rfl rfl rfl (v_move rfl) (by kernel_rfl) (by kernel_rfl) (by kernel_rfl) (rem' := [16, 17, 18, 19, 20, 21, 22, 23, 24, 25, 26, 27]) (by kernel_rfl) rfl ?_
        refine QS_split (t := 25) rfl ?_ ?_
        · intro c7; try have c7 := of_decide_eq_true c7
          refine QS_vg (i := 16) rfl rfl rfl (v_move rfl) (by kernel_rfl) (by kernel_rfl) (by kernel_rfl) (rem' := [17, 18, 19, 20, 21, 22, 23, 24, 25, 26, 27]) (by kernel_rfl) rfl ?_
          refine QS_vg (i := 17) rfl rfl rfl (v_move rfl) (by kernel_rfl) (by kernel_rfl) (by kernel_rfl) (rem' := [18, 19, 20, 21, 22, 23, 24, 25, 26, 27]) (by kernel_rfl) rfl ?_
          obtain ⟨b2, off2, all2, T2, fr2, e2, hb2, hx2⟩ := hs.get (show i - 1 < l.length by omega)
          cases e2
          refine QS_vg (i := 18) rfl rfl rfl (v_subj (n := 1) rfl rfl (by omega) (by omega)) (by kernel_rfl) (by kernel_rfl) (by kernel_rfl) (rem' := [19, 20, 21, 22, 23, 24, 25, 26, 27]) (by kernel_rfl) rfl ?_
          refine QS_vg (i := 19) rfl rfl rfl (v_iaddrs (n := i - 1) Tryz.underlying22 siz3 rfl rfl rfl (by omega)) (by kernel_rfl) (by kernel_rfl) (by kernel_rfl) (rem' := [20, 21, 22, 23, 24, 25, 26, 27]) (by kernel_rfl) rfl ?_
          refine QS_vg (i := 20) rfl rfl rfl (v_load1 one3 rfl (Kn.per hb2) hx2) (by kernel_rfl) (by kernel_rfl) (by kernel_rfl) (rem' := [21, 22, 23, 24, 25, 26, 27]) (by kernel_rfl) rfl ?_
          refine QS_vg (i := 21) rfl rfl rfl (v_move rfl) (by kernel_rfl) (by kernel_rfl) (by kernel_rfl) (rem' := [22, 23, 24, 25, 26, 27]) (by kernel_rfl) rfl ?_
          refine QS_vg (i := 22) rfl rfl rfl (v_move rfl) (by kernel_rfl) (by kernel_rfl) (by kernel_rfl) (rem' := [23, 24, 25, 26, 27]) (by kernel_rfl) rfl ?_
          refine QS_vg (i := 23) rfl rfl rfl (v_iaddrs Tryz.underlying22 siz3 rfl rfl rfl hi) (by kernel_rfl) (by kernel_rfl) (by kernel_rfl) (rem' := [24, 25, 26, 27]) (by kernel_rfl) rfl ?_
          refine QS_vg (i := 24) rfl rfl rfl (v_load1 one3 rfl (Kn.per hb) hx) (by kernel_rfl) (by kernel_rfl) (by kernel_rfl) (rem' := [25, 26, 27]) (by kernel_rfl) rfl ?_
          refine QS_vg (i := 25) rfl rfl rfl (v_geq rfl rfl) (by kernel_rfl) (by kernel_rfl) (by kernel_rfl) (rem' := [26, 27]) (by kernel_rfl) rfl ?_
          refine QS_vg (i := 26) rfl rfl rfl (v_pickt rfl rfl) (by kernel_rfl) (by kernel_rfl) (by kernel_rfl) (rem' := [27]) (by kernel_rfl) rfl ?_
          refine QS_v (i := 27) rfl (v_pickf rfl rfl) (by kernel_rfl) (by kernel_rfl) (by kernel_rfl) (rem' := []) (by kernel_rfl) rfl ?_
          refine QS_nil ?_
          first | refine den_ifd rfl (fun c9 => ?_) (fun c10 => ?_) | refine den_if rfl (fun c9 => ?_) (fun c10 => ?_)
          · skip
            refine den_seq ?_
            -- region 5
            refine den_region rfl ?_
            refine WL_v (v_assign rfl) rfl ?_
            refine WL_nil ?_
            refine den_ret ?_
            exact ends1 Tryz.results34 rfl (Heap.le.refl _) (by simp) ⟨by first | rw [fineB_no hi (fun g => by obtain ⟨g1, g2, g3⟩ := g; omega)] | rw [fineB_yes hall], rfl⟩
          · skip
            refine den_skip ?_
            refine den_blk ?_
            -- region 3
            refine den_region rfl ?_
            refine WL_v (v_move rfl) rfl ?_
            refine WL_v (v_addj (n := 1) rfl rfl (by show _ < 9223372036854775808; omega)) rfl ?_
            refine WL_v (v_assign rfl) rfl ?_
            refine WL_nil ?_
            refine den_again ⟨rfl, (i + 1), (by show l.length - (i + 1) < l.length - i; omega), (sub_cons rfl (sub_cons rfl sub_nil)), ⟨by omega, rfl, rfl, fun j hj => by rcases Nat.lt_succ_iff_lt_or_eq.1 hj with g | rfl; exact hall j g; exact ⟨by omega, by omega, by omega⟩⟩⟩
        · intro c8; try have c8 := of_decide_eq_false c8
          refine QS_skip (i := 16) (j := 15) (t := 25) (b := false) rfl rfl rfl (by kernel_rfl) (by kernel_rfl) (by kernel_rfl) (rem' := [17, 18, 19, 20, 21, 22, 23, 24, 25, 26, 27]) (by kernel_rfl) rfl ?_
          refine QS_skip (i := 17) (j := 15) (t := 25) (b := false) rfl rfl rfl (by kernel_rfl) (by kernel_rfl) (by kernel_rfl) (rem' := [18, 19, 20, 21, 22, 23, 24, 25, 26, 27]) (by kernel_rfl) rfl ?_
          refine QS_skip (i := 18) (j := 15) (t := 25) (b := false) rfl rfl rfl (by kernel_rfl) (by kernel_rfl) (by kernel_rfl) (rem' := [19, 20, 21, 22, 23, 24, 25, 26, 27]) (by kernel_rfl) rfl ?_
          refine QS_skip (i := 19) (j := 15) (t := 25) (b := false) rfl rfl rfl (by kernel_rfl) (by kernel_rfl) (by kernel_rfl) (rem' := [20, 21, 22, 23, 24, 25, 26, 27]) (by kernel_rfl) rfl ?_
          refine QS_skip (i := 20) (j := 15) (t := 25) (b := false) rfl rfl rfl (by kernel_rfl) (by kernel_rfl) (by kernel_rfl) (rem' := [21, 22, 23, 24, 25, 26, 27]) (by kernel_rfl) rfl ?_
          refine QS_skip (i := 21) (j := 15) (t := 25) (b := false) rfl rfl rfl (by kernel_rfl) (by kernel_rfl) (by kernel_rfl) (rem' := [22, 23, 24, 25, 26, 27]) (by kernel_rfl) rfl ?_
          refine QS_skip (i := 22) (j := 15) (t := 25) (b := false) rfl rfl rfl (by kernel_rfl) (by kernel_rfl) (by kernel_rfl) (rem' := [23, 24, 25, 26, 27]) (by kernel_rfl) rfl ?_
          refine QS_skip (i := 23) (j := 15) (t := 25) (b := false) rfl rfl rfl (by kernel_rfl) (by kernel_rfl) (by kernel_rfl) (rem' := [24, 25, 26, 27]) (by kernel_rfl) rfl ?_
          refine QS_skip (i := 24) (j := 15) (t := 25) (b := false) rfl rfl rfl (by kernel_rfl) (by kernel_rfl) (by kernel_rfl) (rem' := [25, 26, 27]) (by kernel_rfl) rfl ?_
          refine QS_skip (i := 25) (j := 15) (t := 25) (b := false) rfl rfl rfl (by kernel_rfl) (by kernel_rfl) (by kernel_rfl) (rem' := [26, 27]) (by kernel_rfl) rfl ?_
          refine QS_vg (i := 26) rfl rfl rfl (v_pickf rfl rfl) (by kernel_rfl) (by kernel_rfl) (by kernel_rfl) (rem' := [27]) (by kernel_rfl) rfl ?_
          refine QS_v (i := 27) rfl (v_pickf rfl rfl) (by kernel_rfl) (by kernel_rfl) (by kernel_rfl) (rem' := []) (by kernel_rfl) rfl ?_
          refine QS_nil ?_
          refine den_false rfl ?_
          refine den_skip ?_
          refine den_blk ?_
          -- region 3
          refine den_region rfl ?_
          refine WL_v (v_move rfl) rfl ?_
          refine WL_v (v_addj (n := 1) rfl rfl (by show _ < 9223372036854775808; omega)) rfl ?_
          refine WL_v (v_assign rfl) rfl ?_
          refine WL_nil ?_
          refine den_again ⟨rfl, (i + 1), (by show l.length - (i + 1) < l.length - i; omega), (sub_cons rfl (sub_cons rfl sub_nil)), ⟨by omega, rfl, rfl, fun j hj => by rcases Nat.lt_succ_iff_lt_or_eq.1 hj with g | rfl; exact hall j g; exact ⟨by omega, by omega, by omega⟩⟩⟩
  · skip
    have hil : i = l.length := by omega
    subst hil
    refine den_exit rfl ?_
    refine den_seq ?_
    -- region 6
    refine den_region rfl ?_
    refine WL_v (v_assign rfl) rfl ?_
    refine WL_nil ?_
    refine den_ret ?_
    exact ends1 Tryz.results34 rfl (Heap.le.refl _) (by simp) ⟨by first | rw [fineB_no hi (fun g => by obtain ⟨g1, g2, g3⟩ := g; omega)] | rw [fineB_yes hall], rfl⟩

theorem rhas_fn (a : Option Addr) (c : Nat) (l : List Int) (z : Int) (h : Heap) (L1 : Owned) (hl : l.length < 4611686018427387904) (hs : ∀ Lf i, i < l.length → ∃ b off all T fr, a = some ⟨b, off, none⟩ ∧ Kn h (L1 ++ Lf) b (.cells ⟨all⟩ T fr) ∧ all[off + i * 1]? = some (.int .i64 (l.getD i 0))) : Tr Tryz.prog 35 [.slice a l.length c, .int .i64 z] h L1 (fun v _ L' => v = .bool (decide (z ∈ l)) ∧ L' = L1) := by
  refine Tr_of Tryz.func35 rfl rfl Tryz.ntmps35 rfl [(0, .slice a l.length c), (1, .int .i64 z)] rfl ?_
  intro Lf
  refine den_seq ?_
  -- region 0
  refine den_region rfl ?_
  refine WL_v (v_assign rfl) rfl ?_
  refine WL_nil ?_
  refine den_seq ?_
  refine den_seq ?_
  -- region 1
  refine den_region rfl ?_
  refine WL_v (v_assign rfl) rfl ?_
  refine WL_nil ?_
  refine den_block ?_
  refine den_loopI (ι := Nat) (fun i => [(0, .slice a l.length c), (1, .int .i64 z), (5, .int .i64 ((i : Nat) : Int))]) (fun i h' L' => i ≤ l.length ∧ h = h' ∧ L' = L1 ++ Lf ∧ ∀ j, j < i → l.getD j 0 ≠ z) (fun i => l.length - i) 0 (sub_cons rfl (sub_cons rfl (sub_cons rfl sub_nil))) ⟨by omega, rfl, rfl, fun j hj => by omega⟩ ?_
  rintro i _ _ ⟨i1, rfl, rfl, hall⟩
  refine den_seq ?_
  refine den_seq ?_
  -- region 2
  refine den_region rfl ?_
  refine WL_v (v_move rfl) rfl ?_
  refine WL_v (v_move rfl) rfl ?_
  refine WL_v (v_lens Tryz.underlying22 rfl) rfl ?_
  refine WL_v (v_lss rfl rfl) rfl ?_
  refine WL_nil ?_
  first | refine den_ifd rfl (fun hi => ?_) (fun hi => ?_) | refine den_if rfl (fun hi => ?_) (fun hi => ?_)
  · skip
    have hi : i < l.length := by omega
    obtain ⟨b, off, all, T, fr, rfl, hb, hx⟩ := hs Lf i hi
    refine den_skip ?_
    refine den_seq ?_
    refine den_block ?_
    refine den_seq ?_
    -- region 4
    refine den_region rfl ?_
    refine WL_v (v_move rfl) rfl ?_
    refine WL_v (v_move rfl) rfl ?_
    refine WL_v (v_iaddrs Tryz.underlying22 siz3 rfl rfl rfl hi) rfl ?_
    refine WL_v (v_load1 one3 rfl hb hx) rfl ?_
    refine WL_v (v_move rfl) rfl ?_
    refine WL_v (v_eql rfl rfl) rfl ?_
    refine WL_nil ?_
    first | refine den_ifd rfl (fun hd => ?_) (fun hd => ?_) | refine den_if rfl (fun hd => ?_) (fun hd => ?_)
    · skip
      refine den_seq ?_
      -- region 5
      refine den_region rfl ?_
      refine WL_v (v_assign rfl) rfl ?_
      refine WL_nil ?_
      refine den_ret ?_
      exact ends1 Tryz.results35 rfl (Heap.le.refl _) (List.Sublist.refl _) ⟨by first | rw [decide_eq_true (mem_at hi hd)] | rw [decide_eq_false (mem_none hall)], rfl⟩
    · skip
      refine den_skip ?_
      refine den_blk ?_
      -- region 3
      refine den_region rfl ?_
      refine WL_v (v_move rfl) rfl ?_
      refine WL_v (v_addj (n := 1) rfl rfl (by show _ < 9223372036854775808; omega)) rfl ?_
      refine WL_v (v_assign rfl) rfl ?_
      refine WL_nil ?_
      refine den_again ⟨rfl, (i + 1), (by show l.length - (i + 1) < l.length - i; omega), (sub_cons rfl (sub_cons rfl (sub_cons rfl sub_nil))), ⟨by omega, rfl, rfl, fun j hj => by rcases Nat.lt_succ_iff_lt_or_eq.1 hj with g | rfl; exact hall j g; exact hd⟩⟩
  · skip
    have hil : i = l.length := by omega
    subst hil
    refine den_exit rfl ?_
    refine den_seq ?_
    -- region 6
    refine den_region rfl ?_
    refine WL_v (v_assign rfl) rfl ?_
    refine WL_nil ?_
    refine den_ret ?_
    exact ends1 Tryz.results35 rfl (Heap.le.refl _) (List.Sublist.refl _) ⟨by first | rw [decide_eq_true (mem_at hi hd)] | rw [decide_eq_false (mem_none hall)], rfl⟩

theorem rhasp_fn (a : Option Addr) (c : Nat) (l : List Int) (z : Int) (h : Heap) (hs : SlI h a l) : Fn0 Tryz.prog 35 [.slice a l.length c, .int .i64 z] h (.bool (decide (z ∈ l))) :=
  (rhas_fn a c l z h [] hs.2 (fun _ i hi => by
    obtain ⟨b, off, all, T, fr, h1, h2, h3⟩ := hs.get hi
    exact ⟨b, off, all, T, fr, h1, Kn.per h2, h3⟩)).mono (fun _ _ _ _ g => g)
theorem rhaso_fn (v : Value) (l : List Int) (z : Int) (h : Heap) (L1 : Owned) (hl : l.length < 4611686018427387904) (hs : OwnS 3 1 v l.length (l.map (Value.int .i64)) L1) : Tr Tryz.prog 35 [v, .int .i64 z] h L1 (fun r _ L' => r = .bool (decide (z ∈ l)) ∧ L' = L1) := by
  rcases hs with ⟨rfl, h0, _, rfl⟩ | ⟨b, cap, pad, rfl, h1, h2, h3, h4, rfl⟩
  · have : l = [] := List.length_eq_zero_iff.1 h0
    subst this
    exact rhas_fn none 0 [] z h [] hl (fun _ i hi => absurd hi (Nat.not_lt_zero i))
  · refine rhas_fn (some ⟨b, 0, none⟩) cap l z h _ hl (fun Lf i hi => ⟨b, 0, _, 3, (0, 0), rfl, Kn.own 0 rfl, ?_⟩)
    rw [Nat.zero_add, Nat.mul_one, List.getElem?_append_left (by simpa using hi)]
    simp [hi]
theorem rcheck46_fn (p : Pol) (a b : Option Addr) (ca cb : Nat) (h : Heap) (ha : SlI h a p.le) (hb : SlI h b p.ri) : Fn0 Tryz.prog 12 [.agg ⟨p.cells a b ca cb⟩] h (.int .i64 (polE p)) := by
  refine Tr_of Tryz.func12 rfl rfl Tryz.ntmps12 rfl [(0, .agg ⟨p.cells a b ca cb⟩)] rfl ?_
  intro Lf
  have hl := ha.2
  refine den_seq ?_
  -- region 0
  refine den_region rfl ?_
  refine WL_box (zs := p.cells a b ca cb) rfl rfl rfl fun b1 => ?_
  refine WL_v (v_assign rfl) rfl ?_
  refine WL_nil ?_
  refine den_seq ?_
  refine den_seq ?_
  -- region 1
  refine den_region rfl ?_
  refine WL_v (v_faddr Tryz.underlying24 rfl siz3 rfl) rfl ?_
  refine WL_v (v_load1 one3 rfl (by first | exact Kn.own 0 rfl | exact Kn.own 1 rfl | exact Kn.own 2 rfl | exact Kn.own 3 rfl | exact Kn.own 4 rfl | exact Kn.own 5 rfl | exact Kn.per ‹_›) rfl) rfl ?_
  refine WL_v (v_lss rfl rfl) rfl ?_
  refine WL_v (v_move rfl) rfl ?_
  first | refine WL_split (t := 7) rfl ?_ ?_
  · intro c1; try have c1 := of_decide_eq_true c1
    refine WL_skip (j := 3) (t := 7) (b := true) rfl rfl rfl rfl ?_
    refine WL_skip (j := 3) (t := 7) (b := true) rfl rfl rfl rfl ?_
    refine WL_skip (j := 3) (t := 7) (b := true) rfl rfl rfl rfl ?_
    refine WL_v (v_pickt rfl rfl) rfl ?_
    refine WL_v (v_move rfl) rfl ?_
    refine WL_skip (j := 8) (t := 12) (b := true) rfl rfl rfl rfl ?_
    refine WL_skip (j := 8) (t := 12) (b := true) rfl rfl rfl rfl ?_
    refine WL_skip (j := 8) (t := 12) (b := true) rfl rfl rfl rfl ?_
    refine WL_skip (j := 8) (t := 12) (b := true) rfl rfl rfl rfl ?_
    refine WL_v (v_pickt rfl rfl) rfl ?_
    refine WL_v (v_move rfl) rfl ?_
    refine WL_skip (j := 14) (t := 18) (b := true) rfl rfl rfl rfl ?_
    refine WL_skip (j := 14) (t := 18) (b := true) rfl rfl rfl rfl ?_
    refine WL_skip (j := 14) (t := 18) (b := true) rfl rfl rfl rfl ?_
    refine WL_skip (j := 14) (t := 18) (b := true) rfl rfl rfl rfl ?_
    refine WL_v (v_pickt rfl rfl) rfl ?_
    refine WL_v (v_move rfl) rfl ?_
    refine WL_skip (j := 20) (t := 24) (b := true) rfl rfl rfl rfl ?_
    refine WL_skip (j := 20) (t := 24) (b := true) rfl rfl rfl rfl ?_
    refine WL_skip (j := 20) (t := 24) (b := true) rfl rfl rfl rfl ?_
    refine WL_v (v_pickt rfl rfl) rfl ?_
    refine WL_v (v_move rfl) rfl ?_
    refine WL_skip (j := 25) (t := 29) (b := true) rfl rfl rfl rfl ?_
    refine WL_skip (j := 25) (t := 29) (b := true) rfl rfl rfl rfl ?_
    refine WL_skip (j := 25) (t := 29) (b := true) rfl rfl rfl rfl ?_
    refine WL_skip (j := 25) (t := 29) (b := true) rfl rfl rfl rfl ?_
    refine WL_skip (j := 25) (t := 29) (b := true) rfl rfl rfl rfl ?_
    refine WL_v (v_pickt rfl rfl) rfl ?_
    refine WL_v (v_move rfl) rfl ?_
    refine WL_skip (j := 32) (t := 36) (b := true) rfl rfl rfl rfl ?_
    refine WL_skip (j := 32) (t := 36) (b := true) rfl rfl rfl rfl ?_
    refine WL_skip (j := 32) (t := 36) (b := true) rfl rfl rfl rfl ?_
    refine WL_v (v_pickt rfl rfl) rfl ?_
    refine WL_nil ?_
    refine den_true rfl ?_
    refine den_seq ?_
    -- region 2
    refine den_region rfl ?_
    refine WL_v (v_assign rfl) rfl ?_
    refine WL_nil ?_
    refine den_ret ?_
    exact ends1 Tryz.results12 rfl (Heap.le.refl _) (by simp) ⟨by congr 1; first | exact (polE_m (meet_yes hi hm)).symm | exact (polE_ok hform (meet_no hall)).symm | exact (polE_f (fun g => by obtain ⟨g1, g2, g3, g4, g5, g6, g7⟩ := g; first | omega | simp_all)).symm, rfl⟩
  · intro c2; try have c2 := of_decide_eq_false c2
    refine WL_vg rfl rfl (v_faddr Tryz.underlying24 rfl siz3 rfl) rfl ?_
    refine WL_vg rfl rfl (v_load1 one3 rfl (by first | exact Kn.own 0 rfl | exact Kn.own 1 rfl | exact Kn.own 2 rfl | exact Kn.own 3 rfl | exact Kn.own 4 rfl | exact Kn.own 5 rfl | exact Kn.per ‹_›) rfl) rfl ?_
    refine WL_vg rfl rfl (v_geq rfl rfl) rfl ?_
    refine WL_v (v_pickf rfl rfl) rfl ?_
    refine WL_v (v_move rfl) rfl ?_
    first | refine WL_split (t := 12) rfl ?_ ?_
    · intro c3; try have c3 := of_decide_eq_true c3
      refine WL_skip (j := 8) (t := 12) (b := true) rfl rfl rfl rfl ?_
      refine WL_skip (j := 8) (t := 12) (b := true) rfl rfl rfl rfl ?_
      refine WL_skip (j := 8) (t := 12) (b := true) rfl rfl rfl rfl ?_
      refine WL_skip (j := 8) (t := 12) (b := true) rfl rfl rfl rfl ?_
      refine WL_v (v_pickt rfl rfl) rfl ?_
      refine WL_v (v_move rfl) rfl ?_
      refine WL_skip (j := 14) (t := 18) (b := true) rfl rfl rfl rfl ?_
      refine WL_skip (j := 14) (t := 18) (b := true) rfl rfl rfl rfl ?_
      refine WL_skip (j := 14) (t := 18) (b := true) rfl rfl rfl rfl ?_
      refine WL_skip (j := 14) (t := 18) (b := true) rfl rfl rfl rfl ?_
      refine WL_v (v_pickt rfl rfl) rfl ?_
      refine WL_v (v_move rfl) rfl ?_
      refine WL_skip (j := 20) (t := 24) (b := true) rfl rfl rfl rfl ?_
      refine WL_skip (j := 20) (t := 24) (b := true) rfl rfl rfl rfl ?_
      refine WL_skip (j := 20) (t := 24) (b := true) rfl rfl rfl rfl ?_
      refine WL_v (v_pickt rfl rfl) rfl ?_
      refine WL_v (v_move rfl) rfl ?_
      refine WL_skip (j := 25) (t := 29) (b := true) rfl rfl rfl rfl ?_
      refine WL_skip (j := 25) (t := 29) (b := true) rfl rfl rfl rfl ?_
      refine WL_skip (j := 25) (t := 29) (b := true) rfl rfl rfl rfl ?_
      refine WL_skip (j := 25) (t := 29) (b := true) rfl rfl rfl rfl ?_
      refine WL_skip (j := 25) (t := 29) (b := true) rfl rfl rfl rfl ?_
      refine WL_v (v_pickt rfl rfl) rfl ?_
      refine WL_v (v_move rfl) rfl ?_
      refine WL_skip (j := 32) (t := 36) (b := true) rfl rfl rfl rfl ?_
      refine WL_skip (j := 32) (t := 36) (b := true) rfl rfl rfl rfl ?_
      refine WL_skip (j := 32) (t := 36) (b := true) rfl rfl rfl rfl ?_
      refine WL_v (v_pickt rfl rfl) rfl ?_
      refine WL_nil ?_
      refine den_true rfl ?_
      refine den_seq ?_
      -- region 2
      refine den_region rfl ?_
      refine WL_v (v_assign rfl) rfl ?_
      refine WL_nil ?_
      refine den_ret ?_
      exact ends1 Tryz.results12 rfl (Heap.le.refl _) (by simp) ⟨by congr 1; first | exact (polE_m (meet_yes hi hm)).symm | exact (polE_ok hform (meet_no hall)).symm | exact (polE_f (fun g => by obtain ⟨g1, g2, g3, g4, g5, g6, g7⟩ := g; first | omega | simp_all)).symm, rfl⟩
    · intro c4; try have c4 := of_decide_eq_false c4
      refine WL_vg rfl rfl (v_faddr Tryz.underlying24 rfl siz22 rfl) rfl ?_
      refine WL_vg rfl rfl (v_load1 one22 rfl (by first | exact Kn.own 0 rfl | exact Kn.own 1 rfl | exact Kn.own 2 rfl | exact Kn.own 3 rfl | exact Kn.own 4 rfl | exact Kn.own 5 rfl | exact Kn.per ‹_›) rfl) rfl ?_
      refine WL_callqg rfl rfl rfl (people_fn _ _ _ _ ha) rfl ?_
      first | refine WL_vg rfl rfl (v_notd rfl) rfl ?_ | refine WL_vg rfl rfl (v_not rfl) rfl ?_
      refine WL_v (v_pickf rfl rfl) rfl ?_
      refine WL_v (v_move rfl) rfl ?_
      first | refine WL_split (t := 18) rfl ?_ ?_
      · intro c5; try have c5 := of_decide_eq_true c5
        refine WL_skip (j := 14) (t := 18) (b := true) rfl rfl rfl rfl ?_
        refine WL_skip (j := 14) (t := 18) (b := true) rfl rfl rfl rfl ?_
        refine WL_skip (j := 14) (t := 18) (b := true) rfl rfl rfl rfl ?_
        refine WL_skip (j := 14) (t := 18) (b := true) rfl rfl rfl rfl ?_
        refine WL_v (v_pickt rfl rfl) rfl ?_
        refine WL_v (v_move rfl) rfl ?_
        refine WL_skip (j := 20) (t := 24) (b := true) rfl rfl rfl rfl ?_
        refine WL_skip (j := 20) (t := 24) (b := true) rfl rfl rfl rfl ?_
        refine WL_skip (j := 20) (t := 24) (b := true) rfl rfl rfl rfl ?_
        refine WL_v (v_pickt rfl rfl) rfl ?_
        refine WL_v (v_move rfl) rfl ?_
        refine WL_skip (j := 25) (t := 29) (b := true) rfl rfl rfl rfl ?_
        refine WL_skip (j := 25) (t := 29) (b := true) rfl rfl rfl rfl ?_
        refine WL_skip (j := 25) (t := 29) (b := true) rfl rfl rfl rfl ?_
        refine WL_skip (j := 25) (t := 29) (b := true) rfl rfl rfl rfl ?_
        refine WL_skip (j := 25) (t := 29) (b := true) rfl rfl rfl rfl ?_
        refine WL_v (v_pickt rfl rfl) rfl ?_
        refine WL_v (v_move rfl) rfl ?_
        refine WL_skip (j := 32) (t := 36) (b := true) rfl rfl rfl rfl ?_
        refine WL_skip (j := 32) (t := 36) (b := true) rfl rfl rfl rfl ?_
        refine WL_skip (j := 32) (t := 36) (b := true) rfl rfl rfl rfl ?_
        refine WL_v (v_pickt rfl rfl) rfl ?_
        refine WL_nil ?_
        refine den_true rfl ?_
        refine den_seq ?_
        -- region 2
        refine den_region rfl ?_
        refine WL_v (v_assign rfl) rfl ?_
        refine WL_nil ?_
        refine den_ret ?_
        exact ends1 Tryz.results12 rfl (Heap.le.refl _) (by simp) ⟨by congr 1; first | exact (polE_m (meet_yes hi hm)).symm | exact (polE_ok hform (meet_no hall)).symm | exact (polE_f (fun g => by obtain ⟨g1, g2, g3, g4, g5, g6, g7⟩ := g; first | omega | simp_all)).symm, rfl⟩
      · intro c6; try have c6 := of_decide_eq_false c6
        refine WL_vg rfl rfl (v_faddr Tryz.underlying24 rfl siz22 rfl) rfl ?_
        refine WL_vg rfl rfl (v_load1 one22 rfl (by first | exact Kn.own 0 rfl | exact Kn.own 1 rfl | exact Kn.own 2 rfl | exact Kn.own 3 rfl | exact Kn.own 4 rfl | exact Kn.own 5 rfl | exact Kn.per ‹_›) rfl) rfl ?_
        refine WL_callqg rfl rfl rfl (people_fn _ _ _ _ hb) rfl ?_
        first | refine WL_vg rfl rfl (v_notd rfl) rfl ?_ | refine WL_vg rfl rfl (v_not rfl) rfl ?_
        refine WL_v (v_pickf rfl rfl) rfl ?_
        refine WL_v (v_move rfl) rfl ?_
        first | refine WL_split (t := 24) rfl ?_ ?_
        · intro c7; try have c7 := of_decide_eq_true c7
          refine WL_skip (j := 20) (t := 24) (b := true) rfl rfl rfl rfl ?_
          refine WL_skip (j := 20) (t := 24) (b := true) rfl rfl rfl rfl ?_
          refine WL_skip (j := 20) (t := 24) (b := true) rfl rfl rfl rfl ?_
          refine WL_v (v_pickt rfl rfl) rfl ?_
          refine WL_v (v_move rfl) rfl ?_
          refine WL_skip (j := 25) (t := 29) (b := true) rfl rfl rfl rfl ?_
          refine WL_skip (j := 25) (t := 29) (b := true) rfl rfl rfl rfl ?_
          refine WL_skip (j := 25) (t := 29) (b := true) rfl rfl rfl rfl ?_
          refine WL_skip (j := 25) (t := 29) (b := true) rfl rfl rfl rfl ?_
          refine WL_skip (j := 25) (t := 29) (b := true) rfl rfl rfl rfl ?_
          refine WL_v (v_pickt rfl rfl) rfl ?_
          refine WL_v (v_move rfl) rfl ?_
          refine WL_skip (j := 32) (t := 36) (b := true) rfl rfl rfl rfl ?_
          refine WL_skip (j := 32) (t := 36) (b := true) rfl rfl rfl rfl ?_
          refine WL_skip (j := 32) (t := 36) (b := true) rfl rfl rfl rfl ?_
          refine WL_v (v_pickt rfl rfl) rfl ?_
          refine WL_nil ?_
          refine den_true rfl ?_
          refine den_seq ?_
          -- region 2
          refine den_region rfl ?_
          refine WL_v (v_assign rfl) rfl ?_
          refine WL_nil ?_
          refine den_ret ?_
          exact ends1 Tryz.results12 rfl (Heap.le.refl _) (by simp) ⟨by congr 1; first | exact (polE_m (meet_yes hi hm)).symm | exact (polE_ok hform (meet_no hall)).symm | exact (polE_f (fun g => by obtain ⟨g1, g2, g3, g4, g5, g6, g7⟩ := g; first | omega | simp_all)).symm, rfl⟩
        · intro c8; try have c8 := of_decide_eq_false c8
          refine WL_vg rfl rfl (v_faddr Tryz.underlying24 rfl siz3 rfl) rfl ?_
          refine WL_vg rfl rfl (v_load1 one3 rfl (by first | exact Kn.own 0 rfl | exact Kn.own 1 rfl | exact Kn.own 2 rfl | exact Kn.own 3 rfl | exact Kn.own 4 rfl | exact Kn.own 5 rfl | exact Kn.per ‹_›) rfl) rfl ?_
          refine WL_vg rfl rfl (v_lss rfl rfl) rfl ?_
          refine WL_v (v_pickf rfl rfl) rfl ?_
          refine WL_v (v_move rfl) rfl ?_
          first | refine WL_split (t := 29) rfl ?_ ?_
          · intro c9; try have c9 := of_decide_eq_true c9
            refine WL_skip (j := 25) (t := 29) (b := true) rfl rfl rfl rfl ?_
            refine WL_skip (j := 25) (t := 29) (b := true) rfl rfl rfl rfl ?_
            refine WL_skip (j := 25) (t := 29) (b := true) rfl rfl rfl rfl ?_
            refine WL_skip (j := 25) (t := 29) (b := true) rfl rfl rfl rfl ?_
            refine WL_skip (j := 25) (t := 29) (b := true) rfl rfl rfl rfl ?_
            refine WL_v (v_pickt rfl rfl) rfl ?_
            refine WL_v (v_move rfl) rfl ?_
            refine WL_skip (j := 32) (t := 36) (b := true) rfl rfl rfl rfl ?_
            refine WL_skip (j := 32) (t := 36) (b := true) rfl rfl rfl rfl ?_
            refine WL_skip (j := 32) (t := 36) (b := true) rfl rfl rfl rfl ?_
            refine WL_v (v_pickt rfl rfl) rfl ?_
            refine WL_nil ?_
            refine den_true rfl ?_
            refine den_seq ?_
            -- region 2
            refine den_region rfl ?_
            refine WL_v (v_assign rfl) rfl ?_
            refine WL_nil ?_
            refine den_ret ?_
            exact ends1 Tryz.results12 rfl (Heap.le.refl _) (by simp) ⟨by congr 1; first | exact (polE_m (meet_yes hi hm)).symm | exact (polE_ok hform (meet_no hall)).symm | exact (polE_f (fun g => by obtain ⟨g1, g2, g3, g4, g5, g6, g7⟩ := g; first | omega | simp_all)).symm, rfl⟩
          · intro c10; try have c10 := of_decide_eq_false c10
            refine WL_vg rfl rfl (v_faddr Tryz.underlying24 rfl siz3 rfl) rfl ?_
            refine WL_vg rfl rfl (v_load1 one3 rfl (by first | exact Kn.own 0 rfl | exact Kn.own 1 rfl | exact Kn.own 2 rfl | exact Kn.own 3 rfl | exact Kn.own 4 rfl | exact Kn.own 5 rfl | exact Kn.per ‹_›) rfl) rfl ?_
            refine WL_vg rfl rfl (v_faddr Tryz.underlying24 rfl siz3 rfl) rfl ?_
            refine WL_vg rfl rfl (v_load1 one3 rfl (by first | exact Kn.own 0 rfl | exact Kn.own 1 rfl | exact Kn.own 2 rfl | exact Kn.own 3 rfl | exact Kn.own 4 rfl | exact Kn.own 5 rfl | exact Kn.per ‹_›) rfl) rfl ?_
            refine WL_vg rfl rfl (v_lss rfl rfl) rfl ?_
            refine WL_v (v_pickf rfl rfl) rfl ?_
            refine WL_v (v_move rfl) rfl ?_
            first | refine WL_split (t := 36) rfl ?_ ?_
            · intro c11; try have c11 := of_decide_eq_true c11
              refine WL_skip (j := 32) (t := 36) (b := true) rfl rfl rfl rfl ?_
              refine WL_skip (j := 32) (t := 36) (b := true) rfl rfl rfl rfl ?_
              refine WL_skip (j := 32) (t := 36) (b := true) rfl rfl rfl rfl ?_
              refine WL_v (v_pickt rfl rfl) rfl ?_
              refine WL_nil ?_
              refine den_true rfl ?_
              refine den_seq ?_
              -- region 2
              refine den_region rfl ?_
              refine WL_v (v_assign rfl) rfl ?_
              refine WL_nil ?_
              refine den_ret ?_
              exact ends1 Tryz.results12 rfl (Heap.le.refl _) (by simp) ⟨by congr 1; first | exact (polE_m (meet_yes hi hm)).symm | exact (polE_ok hform (meet_no hall)).symm | exact (polE_f (fun g => by obtain ⟨g1, g2, g3, g4, g5, g6, g7⟩ := g; first | omega | simp_all)).symm, rfl⟩
            · intro c12; try have c12 := of_decide_eq_false c12
              refine WL_vg rfl rfl (v_faddr Tryz.underlying24 rfl siz3 rfl) rfl ?_
              refine WL_vg rfl rfl (v_load1 one3 rfl (by first | exact Kn.own 0 rfl | exact Kn.own 1 rfl | exact Kn.own 2 rfl | exact Kn.own 3 rfl | exact Kn.own 4 rfl | exact Kn.own 5 rfl | exact Kn.per ‹_›) rfl) rfl ?_
              refine WL_vg rfl rfl (v_gtr rfl rfl) rfl ?_
              refine WL_v (v_pickf rfl rfl) rfl ?_
              refine WL_nil ?_
              first | refine den_ifd rfl (fun hf => ?_) (fun hf => ?_) | refine den_if rfl (fun hf => ?_) (fun hf => ?_)
              · skip
                refine den_seq ?_
                -- region 2
                refine den_region rfl ?_
                refine WL_v (v_assign rfl) rfl ?_
                refine WL_nil ?_
                refine den_ret ?_
                exact ends1 Tryz.results12 rfl (Heap.le.refl _) (by simp) ⟨by congr 1; first | exact (polE_m (meet_yes hi hm)).symm | exact (polE_ok hform (meet_no hall)).symm | exact (polE_f (fun g => by obtain ⟨g1, g2, g3, g4, g5, g6, g7⟩ := g; first | omega | simp_all)).symm, rfl⟩
              · skip
                refine den_skip ?_
                refine den_seq ?_
                refine den_seq ?_
                -- region 3
                refine den_region rfl ?_
                refine WL_v (v_assign rfl) rfl ?_
                refine WL_nil ?_
                refine den_block ?_
                have hform : p.form := ⟨by omega, by omega, by simp_all, by simp_all, by omega, by omega, by omega⟩
                refine den_loopI (ι := Nat) (fun i => [(1, .pointer (some ⟨b1, 0, none⟩)), (3, .int .i64 ((i : Nat) : Int))]) (fun i h' L' => i ≤ p.le.length ∧ h = h' ∧ L' = (b1, .cells ⟨p.cells a b ca cb⟩ 24 (0, 0)) :: Lf ∧ ∀ j, j < i → ¬ p.le.getD j 0 ∈ p.ri) (fun i => p.le.length - i) 0 (sub_cons rfl (sub_cons rfl sub_nil)) ⟨by omega, rfl, rfl, fun j hj => by omega⟩ ?_
                rintro i _ _ ⟨i1, rfl, rfl, hall⟩
                refine den_seq ?_
                refine den_seq ?_
                -- region 4
                refine den_region rfl ?_
                refine WL_v (v_move rfl) rfl ?_
                refine WL_v (v_faddr Tryz.underlying24 rfl siz22 rfl) rfl ?_
                refine WL_v (v_load1 one22 rfl (Kn.own 0 rfl) (show (p.cells a b ca cb)[2]? = some (.slice a p.le.length ca) from rfl)) rfl ?_
                refine WL_v (v_lens Tryz.underlying22 rfl) rfl ?_
                refine WL_v (v_lss rfl rfl) rfl ?_
                refine WL_nil ?_
                first | refine den_ifd rfl (fun hi => ?_) (fun hi => ?_) | refine den_if rfl (fun hi => ?_) (fun hi => ?_)
                · skip
                  have hi : i < p.le.length := by omega
                  obtain ⟨bb, off, all, T, fr, rfl, hbb, hxi⟩ := ha.get hi
                  refine den_skip ?_
                  refine den_seq ?_
                  refine den_block ?_
                  refine den_seq ?_
                  -- region 6
                  refine den_draw [] (by kernel_rfl) (by kernel_rfl) (NoP.fn) (rem := [0, 1, 2, 3, 4, 5, 6, 7]) (by kernel_rfl) ?_
                  refine QS_v (i := 0) rfl (v_faddr Tryz.underlying24 rfl siz22 rfl) (by kernel_rfl) (by kernel_rfl) (by kernel_rfl) (rem' := [1, 2, 3, 4, 5, 6, 7]) (by kernel_rfl) rfl ?_
                  refine QS_v (i := 1) rfl (v_load1 one22 rfl (Kn.own 0 rfl) (show (p.cells (some ⟨bb, off, none⟩) b ca cb)[3]? = some (.slice b p.ri.length cb) from rfl)) (by kernel_rfl) (by kernel_rfl) (by kernel_rfl) (rem' := [2, 3, 4, 5, 6, 7]) (by kernel_rfl) rfl ?_
                  refine QS_v (i := 2) rfl (v_faddr Tryz.underlying24 rfl siz22 rfl) (by kernel_rfl) (by kernel_rfl) (by kernel_rfl) (rem' := [3, 4, 5, 6, 7]) (by kernel_rfl) rfl ?_
                  refine QS_v (i := 3) rfl (v_load1 one22 rfl (Kn.own 0 rfl) (show (p.cells (some ⟨bb, off, none⟩) b ca cb)[2]? = some (.slice (some ⟨bb, off, none⟩) p.le.length ca) from rfl)) (by kernel_rfl) (by kernel_rfl) (by kernel_rfl) (rem' := [4, 5, 6, 7]) (by kernel_rfl) rfl ?_
                  refine QS_v (i := 4) rfl (v_move rfl) (by kernel_rfl) (by kernel_rfl) (by kernel_rfl) (rem' := [5, 6, 7]) (by kernel_rfl) rfl ?_
                  refine QS_v (i := 5) rfl (v_iaddrs Tryz.underlying22 siz3 rfl rfl rfl hi) (by kernel_rfl) (by kernel_rfl) (by kernel_rfl) (rem' := [6, 7]) (by kernel_rfl) rfl ?_
                  refine QS_v (i := 6) rfl (v_load1 one3 rfl (Kn.per hbb) hxi) (by kernel_rfl) (by kernel_rfl) (by kernel_rfl) (rem' := [7]) (by kernel_rfl) rfl ?_
                  refine QS_step (is := [7]) rfl (by kernel_rfl) ?_
                  refine qall1 ?_
                  refine qs_callq rfl rfl (rhasp_fn _ _ _ _ _ hb) rfl (rem' := []) (by kernel_rfl) ?_
                  refine QS_nil ?_
                  first | refine den_ifd rfl (fun hm => ?_) (fun hm => ?_) | refine den_if rfl (fun hm => ?_) (fun hm => ?_)
                  · skip
                    refine den_seq ?_
                    -- region 7
                    refine den_region rfl ?_
                    refine WL_v (v_assign rfl) rfl ?_
                    refine WL_nil ?_
                    refine den_ret ?_
                    exact ends1 Tryz.results12 rfl (Heap.le.refl _) (by simp) ⟨by congr 1; first | exact (polE_m (meet_yes hi hm)).symm | exact (polE_ok hform (meet_no hall)).symm | exact (polE_f (fun g => by obtain ⟨g1, g2, g3, g4, g5, g6, g7⟩ := g; first | omega | simp_all)).symm, rfl⟩
                  · skip
                    refine den_skip ?_
                    refine den_blk ?_
                    -- region 5
                    refine den_region rfl ?_
                    refine WL_v (v_move rfl) rfl ?_
                    refine WL_v (v_addj (n := 1) rfl rfl (by show _ < 9223372036854775808; omega)) rfl ?_
                    refine WL_v (v_assign rfl) rfl ?_
                    refine WL_nil ?_
                    refine den_again ⟨rfl, (i + 1), (by show p.le.length - (i + 1) < p.le.length - i; omega), (sub_cons rfl (sub_cons rfl sub_nil)), ⟨by omega, rfl, rfl, fun j hj => by rcases Nat.lt_succ_iff_lt_or_eq.1 hj with g | rfl; exact hall j g; exact hm⟩⟩
                · skip
                  have hil : i = p.le.length := by omega
                  subst hil
                  refine den_exit rfl ?_
                  refine den_seq ?_
                  -- region 8
                  refine den_region rfl ?_
                  refine WL_v (v_assign rfl) rfl ?_
                  refine WL_nil ?_
                  refine den_ret ?_
                  exact ends1 Tryz.results12 rfl (Heap.le.refl _) (by simp) ⟨by congr 1; first | exact (polE_m (meet_yes hi hm)).symm | exact (polE_ok hform (meet_no hall)).symm | exact (polE_f (fun g => by obtain ⟨g1, g2, g3, g4, g5, g6, g7⟩ := g; first | omega | simp_all)).symm, rfl⟩

theorem rpmessage_fn (it : Dig) (d : Int) (h : Heap) (hd : Ri d) : Fnp Tryz.prog 29 [.agg ⟨dcells it⟩, .int .i64 d] h (fun v h' => Bs h' v (pmsg it d).toList) := by
  refine Tr_of Tryz.func29 rfl rfl Tryz.ntmps29 rfl [(0, .agg ⟨dcells it⟩), (1, .int .i64 d)] rfl ?_
  intro Lf
  refine den_seq ?_
  -- region 0
  refine den_region rfl ?_
  refine WL_box rfl rfl rfl fun b2 => ?_
  refine WL_v (v_assign rfl) rfl ?_
  refine WL_nil ?_
  refine den_seq ?_
  -- region 1
  refine den_region rfl ?_
  refine WL_v (v_slicea0 Tryz.underlying26 siz5 rfl) rfl ?_
  refine WL_v (OpV.to (v' := .string (dstr (it))) (v_tostr (bs := (it).toList) Tryz.underlying53 Tryz.underlying9 Tryz.underlying5 rfl (Kn.own 0 rfl) (by rw [← dcells_eq (it)]; exact cut_self rfl)) rfl) rfl ?_
  refine WL_callq rfl (rtext_fn _ _) rfl ?_
  refine WL_v (v_move rfl) rfl ?_
  refine WL_callq rfl (rint_fn _ _) rfl ?_
  refine WL_buildSlice Tryz.underlying56 zer58 rfl siz58 rfl rfl rfl rfl rfl fun b14 => ?_
  refine WL_freeze fun h14 hl14 hb14 => ?_
  refine WL_callq rfl (rlist_fn _ _ _ _) rfl ?_
  have hvr := VR.rows (rows := [tC it, iC d]) (ms := [.text (dstr it), .int d]) (pad := []) (cap := 2) (n := 2) hb14 (pm_vrs hd _) rfl (by decide)
  refine WL_callf (L1 := []) rfl (rEncode_fn _ (.list [.text (dstr it), .int d]) _ hvr (pm_dep it d) (by have := pm_len (it := it) hd; omega)) rfl ?_
  rintro _ h16 L16 hl16 ⟨v16, rfl, ho16⟩
  refine WL_freezeS ho16 fun h17 hl17 hbs => ?_
  refine WL_v (v_move rfl) rfl ?_
  refine WL_v (v_extract rfl rfl) rfl ?_
  refine WL_v (v_extract rfl rfl) rfl ?_
  refine WL_v (v_assign rfl) rfl ?_
  refine WL_v (v_assign rfl) rfl ?_
  refine WL_nil ?_
  refine den_seq ?_
  -- region 2
  refine den_region rfl ?_
  refine WL_v (v_move rfl) rfl ?_
  refine WL_callq rfl (rtagged_fn ⟨⟨[101, 120, 112, 111, 114, 116]⟩⟩ _ _ _ (by decide) hbs (by have := pm_len (it := it) hd; omega)) rfl ?_
  refine WL_alloc zer26 rfl rfl fun b7 => ?_
  refine WL_store0 rfl rfl rfl siz26 (spl_all rfl) rfl rfl ?_
  refine WL_freeze fun h7 hl7 hb7 => ?_
  refine WL_nil ?_
  refine den_seq ?_
  -- region 3
  refine den_region rfl ?_
  refine WL_v (v_slicea0 Tryz.underlying26 siz5 rfl) rfl ?_
  refine WL_v (v_assign rfl) rfl ?_
  refine WL_nil ?_
  refine den_ret ?_
  exact ends1 Tryz.results29 rfl (hl14.trans (hl16.trans (hl17.trans hl7))) (.cons _ (List.Sublist.refl _)) ⟨Bs.dig hb7 (by decide), rfl⟩

theorem approve_fn (it : Dig) (d x : Int) (h : Heap) (hG : Gl h) : Fn0 Tryz.prog 9 [.agg ⟨dcells it⟩, .int .i64 d, .int .i64 x] h (.tuple ⟨[.agg ⟨(apC it d x).cells⟩, .int .i64 (apE d x)]⟩) := by
  refine Tr_of Tryz.func9 rfl rfl Tryz.ntmps9 rfl [(0, .agg ⟨dcells it⟩), (1, .int .i64 d), (2, .int .i64 x)] rfl ?_
  intro Lf
  refine den_seq ?_
  -- region 0
  refine den_region rfl ?_
  refine WL_box (zs := dcells it) rfl rfl rfl fun b3 => ?_
  refine WL_alloc (zs := (conz.cells)) zer32 rfl rfl fun b6 => ?_
  refine WL_v (v_assign rfl) rfl ?_
  refine WL_nil ?_
  refine den_seq ?_
  refine den_seq ?_
  -- region 1
  refine den_region rfl ?_
  refine WL_v (v_move rfl) rfl ?_
  refine WL_v (v_lss rfl rfl) rfl ?_
  refine WL_v (v_move rfl) rfl ?_
  first | refine WL_split (t := 12) rfl ?_ ?_
  · intro c1; try have c1 := of_decide_eq_true c1
    refine WL_skip (j := 2) (t := 12) (b := true) rfl rfl rfl rfl ?_
    refine WL_skip (j := 2) (t := 12) (b := true) rfl rfl rfl rfl ?_
    refine WL_v (v_pickt rfl rfl) rfl ?_
    refine WL_nil ?_
    refine den_true rfl ?_
    refine den_seq ?_
    -- region 2
    refine den_region rfl ?_
    have hnd : ¬ dev d := fun g => by have := g.1; have := g.2; omega
    refine WL_v (v_loadn many32 rfl (Kn.own 0 rfl) (show cut 0 3 (conz.cells) = some (conz.cells) from rfl)) rfl ?_
    refine WL_store0 rfl rfl (us := (conz.cells)) rfl siz32 (by exact spl_all rfl) rfl rfl ?_
    refine WL_v (v_assign rfl) rfl ?_
    refine WL_nil ?_
    refine den_ret ?_
    first
    | exact endsr2 Tryz.results9 (rv_n many32 rfl (Kn.own 0 rfl) (show cut 0 3 (conz.cells) = some (conz.cells) from rfl)) (rv_t rfl) (Heap.le.refl _) (.cons _ (.cons _ (List.Sublist.refl _))) ⟨by unfold apC apE; first | (rw [if_neg (fun g => hnd g.1), if_neg hnd]) | (rw [if_neg (fun g => hnx g.2), if_pos hdv, if_neg hnx]), rfl⟩
    | exact endsr2 Tryz.results9 (rv_n many32 rfl (Kn.own 0 rfl) (show cut 0 3 [.int .i64 d, .int .i64 (sgR x (pmsg it d).toList), .int .i64 (sgS x (pmsg it d).toList)] = some [.int .i64 d, .int .i64 (sgR x (pmsg it d).toList), .int .i64 (sgS x (pmsg it d).toList)] from rfl)) (rv_t rfl) hl32 (.cons _ (.cons _ (List.Sublist.refl _))) ⟨by unfold apC apE; rw [if_pos (show apOk d x from ⟨hdv, hpx⟩), if_pos hdv, if_pos hpx]; simp only [Con.cells], rfl⟩
  · intro c2; try have c2 := of_decide_eq_false c2
    refine WL_vg rfl rfl (v_move rfl) rfl ?_
    refine WL_vg rfl rfl (v_geq rfl rfl) rfl ?_
    refine WL_v (v_pickf rfl rfl) rfl ?_
    refine WL_nil ?_
    first | refine den_ifd rfl (fun hd => ?_) (fun hd => ?_) | refine den_if rfl (fun hd => ?_) (fun hd => ?_)
    · skip
      refine den_seq ?_
      -- region 2
      refine den_region rfl ?_
      have hnd : ¬ dev d := fun g => by have := g.1; have := g.2; omega
      refine WL_v (v_loadn many32 rfl (Kn.own 0 rfl) (show cut 0 3 (conz.cells) = some (conz.cells) from rfl)) rfl ?_
      refine WL_store0 rfl rfl (us := (conz.cells)) rfl siz32 (by exact spl_all rfl) rfl rfl ?_
      refine WL_v (v_assign rfl) rfl ?_
      refine WL_nil ?_
      refine den_ret ?_
      first
      | exact endsr2 Tryz.results9 (rv_n many32 rfl (Kn.own 0 rfl) (show cut 0 3 (conz.cells) = some (conz.cells) from rfl)) (rv_t rfl) (Heap.le.refl _) (.cons _ (.cons _ (List.Sublist.refl _))) ⟨by unfold apC apE; first | (rw [if_neg (fun g => hnd g.1), if_neg hnd]) | (rw [if_neg (fun g => hnx g.2), if_pos hdv, if_neg hnx]), rfl⟩
      | exact endsr2 Tryz.results9 (rv_n many32 rfl (Kn.own 0 rfl) (show cut 0 3 [.int .i64 d, .int .i64 (sgR x (pmsg it d).toList), .int .i64 (sgS x (pmsg it d).toList)] = some [.int .i64 d, .int .i64 (sgR x (pmsg it d).toList), .int .i64 (sgS x (pmsg it d).toList)] from rfl)) (rv_t rfl) hl32 (.cons _ (.cons _ (List.Sublist.refl _))) ⟨by unfold apC apE; rw [if_pos (show apOk d x from ⟨hdv, hpx⟩), if_pos hdv, if_pos hpx]; simp only [Con.cells], rfl⟩
    · skip
      refine den_skip ?_
      refine den_seq ?_
      refine den_seq ?_
      -- region 3
      refine den_region rfl ?_
      have hdv : dev d := ⟨by omega, by omega⟩
      refine WL_v (v_move rfl) rfl ?_
      refine WL_callq rfl (public_fn _ _) rfl ?_
      refine WL_v (v_move rfl) rfl ?_
      refine WL_v (v_extract rfl rfl) rfl ?_
      refine WL_v (v_extract rfl rfl) rfl ?_
      refine WL_v (v_assign rfl) rfl ?_
      refine WL_v (v_assign rfl) rfl ?_
      refine WL_nil ?_
      refine den_seq ?_
      -- region 4
      refine den_region rfl ?_
      refine WL_v (v_move rfl) rfl ?_
      refine WL_v (v_neq rfl rfl) rfl ?_
      refine WL_nil ?_
      first | refine den_ifd rfl (fun hq => ?_) (fun hq => ?_) | refine den_if rfl (fun hq => ?_) (fun hq => ?_)
      · skip
        have hnx : ¬ isPr x := fun g => by rw [if_pos g] at hq; exact hq rfl
        simp only [if_neg hnx]
        refine den_seq ?_
        -- region 5
        refine den_region rfl ?_
        refine WL_v (v_loadn many32 rfl (Kn.own 0 rfl) (show cut 0 3 (conz.cells) = some (conz.cells) from rfl)) rfl ?_
        refine WL_v (v_move rfl) rfl ?_
        refine WL_store0 rfl rfl (us := (conz.cells)) rfl siz32 (by exact spl_all rfl) rfl rfl ?_
        refine WL_v (v_assign rfl) rfl ?_
        refine WL_nil ?_
        refine den_ret ?_
        first
        | exact endsr2 Tryz.results9 (rv_n many32 rfl (Kn.own 0 rfl) (show cut 0 3 (conz.cells) = some (conz.cells) from rfl)) (rv_t rfl) (Heap.le.refl _) (.cons _ (.cons _ (List.Sublist.refl _))) ⟨by unfold apC apE; first | (rw [if_neg (fun g => hnd g.1), if_neg hnd]) | (rw [if_neg (fun g => hnx g.2), if_pos hdv, if_neg hnx]), rfl⟩
        | exact endsr2 Tryz.results9 (rv_n many32 rfl (Kn.own 0 rfl) (show cut 0 3 [.int .i64 d, .int .i64 (sgR x (pmsg it d).toList), .int .i64 (sgS x (pmsg it d).toList)] = some [.int .i64 d, .int .i64 (sgR x (pmsg it d).toList), .int .i64 (sgS x (pmsg it d).toList)] from rfl)) (rv_t rfl) hl32 (.cons _ (.cons _ (List.Sublist.refl _))) ⟨by unfold apC apE; rw [if_pos (show apOk d x from ⟨hdv, hpx⟩), if_pos hdv, if_pos hpx]; simp only [Con.cells], rfl⟩
      · skip
        have hpx : isPr x := by by_cases g : isPr x; exact g; rw [if_neg g] at hq; omega
        simp only [if_pos hpx]
        refine den_skip ?_
        refine den_seq ?_
        -- region 6
        refine den_region rfl ?_
        refine WL_v (v_move rfl) rfl ?_
        refine WL_v (v_faddr Tryz.underlying32 rfl siz3 rfl) rfl ?_
        refine WL_store0 rfl rfl (us := [.int .i64 d]) rfl siz3 rfl rfl rfl ?_
        refine WL_nil ?_
        refine den_seq ?_
        -- region 7
        refine den_region rfl ?_
        refine WL_v (v_move rfl) rfl ?_
        refine WL_v (v_loadn many26 rfl (Kn.own 1 rfl) (cut_self rfl)) rfl ?_
        refine WL_v (v_move rfl) rfl ?_
        refine WL_callp rfl (pmessage_fn _ _ _ (dev_ri hdv) hG) rfl fun v32 h32 hl32 hbs => ?_
        refine WL_callq rfl (sign_fn _ _ _ _ hbs (by simp) (hG.le hl32)) rfl ?_
        simp only [if_pos hpx]
        refine WL_v (v_move rfl) rfl ?_
        refine WL_v (v_extract rfl rfl) rfl ?_
        refine WL_v (v_extract rfl rfl) rfl ?_
        refine WL_v (v_faddr Tryz.underlying32 rfl siz30 rfl) rfl ?_
        refine WL_store0 rfl rfl (us := [.int .i64 (sgR x (pmsg it d).toList), .int .i64 (sgS x (pmsg it d).toList)]) rfl siz30 rfl rfl rfl ?_
        refine WL_nil ?_
        refine den_seq ?_
        -- region 8
        refine den_region rfl ?_
        refine WL_v (v_loadn many32 rfl (Kn.own 0 rfl) (show cut 0 3 [.int .i64 d, .int .i64 (sgR x (pmsg it d).toList), .int .i64 (sgS x (pmsg it d).toList)] = some [.int .i64 d, .int .i64 (sgR x (pmsg it d).toList), .int .i64 (sgS x (pmsg it d).toList)] from rfl)) rfl ?_
        refine WL_store0 rfl rfl (us := [.int .i64 d, .int .i64 (sgR x (pmsg it d).toList), .int .i64 (sgS x (pmsg it d).toList)]) rfl siz32 (by exact spl_all rfl) rfl rfl ?_
        refine WL_v (v_assign rfl) rfl ?_
        refine WL_nil ?_
        refine den_ret ?_
        first
        | exact endsr2 Tryz.results9 (rv_n many32 rfl (Kn.own 0 rfl) (show cut 0 3 (conz.cells) = some (conz.cells) from rfl)) (rv_t rfl) (Heap.le.refl _) (.cons _ (.cons _ (List.Sublist.refl _))) ⟨by unfold apC apE; first | (rw [if_neg (fun g => hnd g.1), if_neg hnd]) | (rw [if_neg (fun g => hnx g.2), if_pos hdv, if_neg hnx]), rfl⟩
        | exact endsr2 Tryz.results9 (rv_n many32 rfl (Kn.own 0 rfl) (show cut 0 3 [.int .i64 d, .int .i64 (sgR x (pmsg it d).toList), .int .i64 (sgS x (pmsg it d).toList)] = some [.int .i64 d, .int .i64 (sgR x (pmsg it d).toList), .int .i64 (sgS x (pmsg it d).toList)] from rfl)) (rv_t rfl) hl32 (.cons _ (.cons _ (List.Sublist.refl _))) ⟨by unfold apC apE; rw [if_pos (show apOk d x from ⟨hdv, hpx⟩), if_pos hdv, if_pos hpx]; simp only [Con.cells], rfl⟩

theorem rapprove_fn (it : Dig) (d x : Int) (h : Heap) : Fn0 Tryz.prog 10 [.agg ⟨dcells it⟩, .int .i64 d, .int .i64 x] h (.tuple ⟨[.agg ⟨(apC it d x).cells⟩, .int .i64 (apE d x)]⟩) := by
  refine Tr_of Tryz.func10 rfl rfl Tryz.ntmps10 rfl [(0, .agg ⟨dcells it⟩), (1, .int .i64 d), (2, .int .i64 x)] rfl ?_
  intro Lf
  refine den_seq ?_
  -- region 0
  refine den_region rfl ?_
  refine WL_box (zs := dcells it) rfl rfl rfl fun b3 => ?_
  refine WL_alloc (zs := (conz.cells)) zer32 rfl rfl fun b6 => ?_
  refine WL_v (v_assign rfl) rfl ?_
  refine WL_nil ?_
  refine den_seq ?_
  refine den_seq ?_
  -- region 1
  refine den_region rfl ?_
  refine WL_v (v_move rfl) rfl ?_
  refine WL_v (v_lss rfl rfl) rfl ?_
  refine WL_v (v_move rfl) rfl ?_
  first | refine WL_split (t := 14) rfl ?_ ?_
  · intro c1; try have c1 := of_decide_eq_true c1
    refine WL_skip (j := 2) (t := 14) (b := true) rfl rfl rfl rfl ?_
    refine WL_skip (j := 2) (t := 14) (b := true) rfl rfl rfl rfl ?_
    refine WL_v (v_pickt rfl rfl) rfl ?_
    refine WL_nil ?_
    refine den_true rfl ?_
    refine den_seq ?_
    -- region 2
    refine den_region rfl ?_
    have hnd : ¬ dev d := fun g => by have := g.1; have := g.2; omega
    refine WL_v (v_builds (r := (conz.cells)) Tryz.underlying32 zer32 plc32 rfl rfl rfl) rfl ?_
    refine WL_store0 rfl rfl (us := (conz.cells)) rfl siz32 (by exact spl_all rfl) rfl rfl ?_
    refine WL_v (v_assign rfl) rfl ?_
    refine WL_nil ?_
    refine den_ret ?_
    first
    | exact endsr2 Tryz.results10 (rv_n many32 rfl (Kn.own 0 rfl) (show cut 0 3 (conz.cells) = some (conz.cells) from rfl)) (rv_t rfl) (Heap.le.refl _) (.cons _ (.cons _ (List.Sublist.refl _))) ⟨by unfold apC apE; first | (rw [if_neg (fun g => hnd g.1), if_neg hnd]) | (rw [if_neg (fun g => hnx g.2), if_pos hdv, if_neg hnx]), rfl⟩
    | exact endsr2 Tryz.results10 (rv_n many32 rfl (Kn.own 1 rfl) (show cut 0 3 [.int .i64 d, .int .i64 (sgR x (pmsg it d).toList), .int .i64 (sgS x (pmsg it d).toList)] = some [.int .i64 d, .int .i64 (sgR x (pmsg it d).toList), .int .i64 (sgS x (pmsg it d).toList)] from rfl)) (rv_t rfl) hl32 (.cons _ (.cons _ (.cons _ (List.Sublist.refl _)))) ⟨by unfold apC apE; rw [if_pos (show apOk d x from ⟨hdv, hpx⟩), if_pos hdv, if_pos hpx]; simp only [Con.cells], rfl⟩
  · intro c2; try have c2 := of_decide_eq_false c2
    refine WL_vg rfl rfl (v_move rfl) rfl ?_
    refine WL_vg rfl rfl (v_geq rfl rfl) rfl ?_
    refine WL_v (v_pickf rfl rfl) rfl ?_
    refine WL_nil ?_
    first | refine den_ifd rfl (fun hd => ?_) (fun hd => ?_) | refine den_if rfl (fun hd => ?_) (fun hd => ?_)
    · skip
      refine den_seq ?_
      -- region 2
      refine den_region rfl ?_
      have hnd : ¬ dev d := fun g => by have := g.1; have := g.2; omega
      refine WL_v (v_builds (r := (conz.cells)) Tryz.underlying32 zer32 plc32 rfl rfl rfl) rfl ?_
      refine WL_store0 rfl rfl (us := (conz.cells)) rfl siz32 (by exact spl_all rfl) rfl rfl ?_
      refine WL_v (v_assign rfl) rfl ?_
      refine WL_nil ?_
      refine den_ret ?_
      first
      | exact endsr2 Tryz.results10 (rv_n many32 rfl (Kn.own 0 rfl) (show cut 0 3 (conz.cells) = some (conz.cells) from rfl)) (rv_t rfl) (Heap.le.refl _) (.cons _ (.cons _ (List.Sublist.refl _))) ⟨by unfold apC apE; first | (rw [if_neg (fun g => hnd g.1), if_neg hnd]) | (rw [if_neg (fun g => hnx g.2), if_pos hdv, if_neg hnx]), rfl⟩
      | exact endsr2 Tryz.results10 (rv_n many32 rfl (Kn.own 1 rfl) (show cut 0 3 [.int .i64 d, .int .i64 (sgR x (pmsg it d).toList), .int .i64 (sgS x (pmsg it d).toList)] = some [.int .i64 d, .int .i64 (sgR x (pmsg it d).toList), .int .i64 (sgS x (pmsg it d).toList)] from rfl)) (rv_t rfl) hl32 (.cons _ (.cons _ (.cons _ (List.Sublist.refl _)))) ⟨by unfold apC apE; rw [if_pos (show apOk d x from ⟨hdv, hpx⟩), if_pos hdv, if_pos hpx]; simp only [Con.cells], rfl⟩
    · skip
      refine den_skip ?_
      refine den_seq ?_
      -- region 3
      refine den_region rfl ?_
      have hdv : dev d := ⟨by omega, by omega⟩
      refine WL_v (v_move rfl) rfl ?_
      refine WL_callq rfl (rpublic_fn _ _) rfl ?_
      refine WL_v (v_move rfl) rfl ?_
      refine WL_v (v_extract rfl rfl) rfl ?_
      refine WL_v (v_extract rfl rfl) rfl ?_
      refine WL_v (v_assign rfl) rfl ?_
      refine WL_v (v_assign rfl) rfl ?_
      refine WL_nil ?_
      refine den_seq ?_
      refine den_seq ?_
      -- region 4
      refine den_region rfl ?_
      refine WL_v (v_move rfl) rfl ?_
      refine WL_v (v_neq rfl rfl) rfl ?_
      refine WL_nil ?_
      first | refine den_ifd rfl (fun hq => ?_) (fun hq => ?_) | refine den_if rfl (fun hq => ?_) (fun hq => ?_)
      · skip
        have hnx : ¬ isPr x := fun g => by rw [if_pos g] at hq; exact hq rfl
        simp only [if_neg hnx]
        refine den_seq ?_
        -- region 5
        refine den_region rfl ?_
        refine WL_v (v_builds (r := (conz.cells)) Tryz.underlying32 zer32 plc32 rfl rfl rfl) rfl ?_
        refine WL_v (v_move rfl) rfl ?_
        refine WL_store0 rfl rfl (us := (conz.cells)) rfl siz32 (by exact spl_all rfl) rfl rfl ?_
        refine WL_v (v_assign rfl) rfl ?_
        refine WL_nil ?_
        refine den_ret ?_
        first
        | exact endsr2 Tryz.results10 (rv_n many32 rfl (Kn.own 0 rfl) (show cut 0 3 (conz.cells) = some (conz.cells) from rfl)) (rv_t rfl) (Heap.le.refl _) (.cons _ (.cons _ (List.Sublist.refl _))) ⟨by unfold apC apE; first | (rw [if_neg (fun g => hnd g.1), if_neg hnd]) | (rw [if_neg (fun g => hnx g.2), if_pos hdv, if_neg hnx]), rfl⟩
        | exact endsr2 Tryz.results10 (rv_n many32 rfl (Kn.own 1 rfl) (show cut 0 3 [.int .i64 d, .int .i64 (sgR x (pmsg it d).toList), .int .i64 (sgS x (pmsg it d).toList)] = some [.int .i64 d, .int .i64 (sgR x (pmsg it d).toList), .int .i64 (sgS x (pmsg it d).toList)] from rfl)) (rv_t rfl) hl32 (.cons _ (.cons _ (.cons _ (List.Sublist.refl _)))) ⟨by unfold apC apE; rw [if_pos (show apOk d x from ⟨hdv, hpx⟩), if_pos hdv, if_pos hpx]; simp only [Con.cells], rfl⟩
      · skip
        have hpx : isPr x := by by_cases g : isPr x; exact g; rw [if_neg g] at hq; omega
        simp only [if_pos hpx]
        refine den_skip ?_
        refine den_seq ?_
        -- region 6
        refine den_region rfl ?_
        refine WL_v (v_move rfl) rfl ?_
        refine WL_v (v_loadn many26 rfl (Kn.own 1 rfl) (cut_self rfl)) rfl ?_
        refine WL_v (v_move rfl) rfl ?_
        refine WL_callp rfl (rpmessage_fn _ _ _ (dev_ri hdv)) rfl fun v32 h32 hl32 hbs => ?_
        refine WL_callq rfl (rsign_fn _ _ _ _ hbs (by simp)) rfl ?_
        simp only [if_pos hpx]
        refine WL_v (v_move rfl) rfl ?_
        refine WL_v (v_extract rfl rfl) rfl ?_
        refine WL_v (v_extract rfl rfl) rfl ?_
        refine WL_alloc zer30 rfl rfl fun b10 => ?_
        refine WL_store0 rfl rfl (us := [.int .i64 (sgR x (pmsg it d).toList), .int .i64 (sgS x (pmsg it d).toList)]) rfl siz30 rfl rfl rfl ?_
        refine WL_v (v_assign rfl) rfl ?_
        refine WL_nil ?_
        refine den_seq ?_
        -- region 7
        refine den_region rfl ?_
        refine WL_v (v_move rfl) rfl ?_
        refine WL_v (v_loadn many30 rfl (by first | exact Kn.own 0 rfl | exact Kn.own 1 rfl | exact Kn.own 2 rfl | exact Kn.own 3 rfl | exact Kn.own 4 rfl | exact Kn.own 5 rfl | exact Kn.per ‹_›) rfl) rfl ?_
        refine WL_v (v_builds (r := [.int .i64 d, .int .i64 (sgR x (pmsg it d).toList), .int .i64 (sgS x (pmsg it d).toList)]) Tryz.underlying32 zer32 plc32 rfl rfl rfl) rfl ?_
        refine WL_store1 rfl rfl (us := [.int .i64 d, .int .i64 (sgR x (pmsg it d).toList), .int .i64 (sgS x (pmsg it d).toList)]) rfl siz32 rfl rfl rfl ?_
        refine WL_v (v_assign rfl) rfl ?_
        refine WL_nil ?_
        refine den_ret ?_
        first
        | exact endsr2 Tryz.results10 (rv_n many32 rfl (Kn.own 0 rfl) (show cut 0 3 (conz.cells) = some (conz.cells) from rfl)) (rv_t rfl) (Heap.le.refl _) (.cons _ (.cons _ (List.Sublist.refl _))) ⟨by unfold apC apE; first | (rw [if_neg (fun g => hnd g.1), if_neg hnd]) | (rw [if_neg (fun g => hnx g.2), if_pos hdv, if_neg hnx]), rfl⟩
        | exact endsr2 Tryz.results10 (rv_n many32 rfl (Kn.own 1 rfl) (show cut 0 3 [.int .i64 d, .int .i64 (sgR x (pmsg it d).toList), .int .i64 (sgS x (pmsg it d).toList)] = some [.int .i64 d, .int .i64 (sgR x (pmsg it d).toList), .int .i64 (sgS x (pmsg it d).toList)] from rfl)) (rv_t rfl) hl32 (.cons _ (.cons _ (.cons _ (List.Sublist.refl _)))) ⟨by unfold apC apE; rw [if_pos (show apOk d x from ⟨hdv, hpx⟩), if_pos hdv, if_pos hpx]; simp only [Con.cells], rfl⟩

theorem rcounts_fn (a : Option Addr) (ca : Nat) (xs : List Lst) (it : Dig) (d r s : Int) (h : Heap) (hx : SlL h a xs) : Fn0 Tryz.prog 38 [.slice a xs.length ca, .agg ⟨dcells it⟩, .agg ⟨(Con.mk d r s).cells⟩] h (.tuple ⟨[.int .i64 (if cok xs it (Con.mk d r s) then own d else 0), .bool (decide (cok xs it (Con.mk d r s)))]⟩) := by
  refine Tr_of Tryz.func38 rfl rfl Tryz.ntmps38 rfl [(0, .slice a xs.length ca), (1, .agg ⟨dcells it⟩), (2, .agg ⟨(Con.mk d r s).cells⟩)] rfl ?_
  intro Lf
  refine den_seq ?_
  -- region 0
  refine den_region rfl ?_
  refine WL_box (zs := dcells it) rfl rfl rfl fun b4 => ?_
  refine WL_box (zs := (Con.mk d r s).cells) rfl rfl rfl fun b5 => ?_
  refine WL_freeze fun h5 hl5 hb5 => ?_
  refine WL_freeze fun h4 hl4 hb4 => ?_
  have hb5 := hl4 _ _ hb5
  have hx := hx.le (hl5.trans hl4)
  refine WL_v (v_assign rfl) rfl ?_
  refine WL_v (v_assign rfl) rfl ?_
  refine WL_nil ?_
  refine den_seq ?_
  -- region 1
  refine den_region rfl ?_
  refine WL_v (v_move rfl) rfl ?_
  refine WL_v (v_faddr Tryz.underlying32 rfl siz3 rfl) rfl ?_
  refine WL_v (v_load1 one3 rfl (Kn.per hb5) (show (Con.mk d r s).cells[0]? = some (.int .i64 d) from rfl)) rfl ?_
  refine WL_callq rfl (rlisting_fn _ _ _ _ _ hx) rfl ?_
  obtain ⟨z, hz⟩ : ∃ z, z = (if 0 ≤ at_ xs d then xs.getD (at_ xs d).toNat lstz else lstz) := ⟨_, rfl⟩
  rw [← hz]
  refine WL_v (v_move rfl) rfl ?_
  refine WL_v (v_extract rfl rfl) rfl ?_
  refine WL_v (v_extract rfl rfl) rfl ?_
  refine WL_alloc zer49 rfl rfl fun b8 => ?_
  refine WL_store0 rfl rfl (us := z.cells) rfl siz49 (spl_all rfl) rfl rfl ?_
  refine WL_freeze fun h8 hl8 hb8 => ?_
  refine WL_v (v_assign rfl) rfl ?_
  refine WL_nil ?_
  refine den_seq ?_
  -- region 2
  refine den_region rfl ?_
  refine WL_v (v_faddr Tryz.underlying32 rfl siz3 rfl) rfl ?_
  refine WL_v (v_load1 one3 rfl (Kn.per (hl8 _ _ hb5)) (show (Con.mk d r s).cells[0]? = some (.int .i64 d) from rfl)) rfl ?_
  refine WL_callq rfl (rowner_fn _ _) rfl ?_
  refine WL_v (v_move rfl) rfl ?_
  refine WL_v (v_extract rfl rfl) rfl ?_
  refine WL_v (v_extract rfl rfl) rfl ?_
  refine WL_v (v_assign rfl) rfl ?_
  refine WL_v (v_assign rfl) rfl ?_
  refine WL_nil ?_
  refine den_seq ?_
  refine den_seq ?_
  -- region 3
  refine den_draw [] (by kernel_rfl) (by kernel_rfl) (NoP.fn) (rem := [0, 1, 2, 3, 4, 5, 6, 7, 8, 9, 10, 11, 12, 13, 14, 15, 16, 17, 18, 19, 20, 21]) (by kernel_rfl) ?_
  refine QS_v (i := 0) rfl (v_move rfl) (by kernel_rfl) (by kernel_rfl) (by kernel_rfl) (rem' := [1, 2, 3, 4, 5, 6, 7, 8, 9, 10, 11, 12, 13, 14, 15, 16, 17, 18, 19, 20, 21]) (by kernel_rfl) rfl ?_
  first | refine QS_v (i := 1) rfl (v_notd rfl) (by kernel_rfl) (by kernel_rfl) (by kernel_rfl) (rem' := [2, 3, 4, 5, 6, 7, 8, 9, 10, 11, 12, 13, 14, 15, 16, 17, 18, 19, 20, 21]) (by kernel_rfl) rfl ?_ | refine QS_v (i := 1) rfl (v_not rfl) (by kernel_rfl) (by kernel_rfl) (by kernel_rfl) (rem' := [2, 3, 4, 5, 6, 7, 8, 9, 10, 11, 12, 13, 14, 15, 16, 17, 18, 19, 20, 21]) (by kernel_rfl) rfl ?_
  refine QS_v (i := 2) rfl (v_move rfl) (by kernel_rfl) (by kernel_rfl) (by kernel_rfl) (rem' := [3, 4, 5, 6, 7, 8, 9, 10, 11, 12, 13, 14, 15, 16, 17, 18, 19, 20, 21]) (by kernel_rfl) rfl ?_
  refine QS_split (t := 27) rfl ?_ ?_
  · intro c1; try have c1 := of_decide_eq_true c1
    refine QS_skip (i := 3) (j := 2) (t := 27) (b := true) rfl rfl rfl (by kernel_rfl) (by kernel_rfl) (by kernel_rfl) (rem' := [4, 5, 6, 7, 8, 9, 10, 11, 12, 13, 14, 15, 16, 17, 18, 19, 20, 21]) (by kernel_rfl) rfl ?_
    refine QS_skip (i := 4) (j := 2) (t := 27) (b := true) rfl rfl rfl (by kernel_rfl) (by kernel_rfl) (by kernel_rfl) (rem' := [5, 6, 7, 8, 9, 10, 11, 12, 13, 14, 15, 16, 17, 18, 19, 20, 21]) (by kernel_rfl) rfl ?_
    refine QS_v (i := 5) rfl (v_pickt rfl rfl) (by kernel_rfl) (by kernel_rfl) (by kernel_rfl) (rem' := [6, 7, 8, 9, 10, 11, 12, 13, 14, 15, 16, 17, 18, 19, 20, 21]) (by kernel_rfl) rfl ?_
    refine QS_v (i := 6) rfl (v_move rfl) (by kernel_rfl) (by kernel_rfl) (by kernel_rfl) (rem' := [7, 8, 9, 10, 11, 12, 13, 14, 15, 16, 17, 18, 19, 20, 21]) (by kernel_rfl) rfl ?_
    refine QS_skip (i := 7) (j := 6) (t := 31) (b := true) rfl rfl rfl (by kernel_rfl) (by kernel_rfl) (by kernel_rfl) (rem' := [8, 9, 10, 11, 12, 13, 14, 15, 16, 17, 18, 19, 20, 21]) (by kernel_rfl) rfl ?_
    refine QS_skip (i := 8) (j := 6) (t := 31) (b := true) rfl rfl rfl (by kernel_rfl) (by kernel_rfl) (by kernel_rfl) (rem' := [9, 10, 11, 12, 13, 14, 15, 16, 17, 18, 19, 20, 21]) (by kernel_rfl) rfl ?_
    refine QS_v (i := 9) rfl (v_pickt rfl rfl) (by kernel_rfl) (by kernel_rfl) (by kernel_rfl) (rem' := [10, 11, 12, 13, 14, 15, 16, 17, 18, 19, 20, 21]) (by kernel_rfl) rfl ?_
    refine QS_v (i := 10) rfl (v_move rfl) (by kernel_rfl) (by kernel_rfl) (by kernel_rfl) (rem' := [11, 12, 13, 14, 15, 16, 17, 18, 19, 20, 21]) (by kernel_rfl) rfl ?_
    refine QS_skip (i := 11) (j := 10) (t := 35) (b := true) rfl rfl rfl (by kernel_rfl) (by kernel_rfl) (by kernel_rfl) (rem' := [12, 13, 14, 15, 16, 17, 18, 19, 20, 21]) (by kernel_rfl) rfl ?_
    refine QS_skip (i := 12) (j := 10) (t := 35) (b := true) rfl rfl rfl (by kernel_rfl) (by kernel_rfl) (by kernel_rfl) (rem' := [13, 14, 15, 16, 17, 18, 19, 20, 21]) (by kernel_rfl) rfl ?_
    refine QS_skip (i := 13) (j := 10) (t := 35) (b := true) rfl rfl rfl (by kernel_rfl) (by kernel_rfl) (by kernel_rfl) (rem' := [14, 15, 16, 17, 18, 19, 20, 21]) (by kernel_rfl) rfl ?_
    refine QS_skip (i := 14) (j := 10) (t := 35) (b := true) rfl rfl rfl (by kernel_rfl) (by kernel_rfl) (by kernel_rfl) (rem' := [15, 16, 17, 18, 19, 20, 21]) (by kernel_rfl) rfl ?_
    refine QS_skip (i := 15) (j := 10) (t := 35) (b := true) rfl rfl rfl (by kernel_rfl) (by kernel_rfl) (by kernel_rfl) (rem' := [16, 17, 18, 19, 20, 21]) (by kernel_rfl) rfl ?_
    refine QS_skip (i := 16) (j := 10) (t := 35) (b := true) rfl rfl rfl (by kernel_rfl) (by kernel_rfl) (by kernel_rfl) (rem' := [17, 18, 19, 20, 21]) (by kernel_rfl) rfl ?_
    refine QS_skip (i := 17) (j := 10) (t := 35) (b := true) rfl rfl rfl (by kernel_rfl) (by kernel_rfl) (by kernel_rfl) (rem' := [18, 19, 20, 21]) (by kernel_rfl) rfl ?_
    refine QS_skip (i := 18) (j := 10) (t := 35) (b := true) rfl rfl rfl (by kernel_rfl) (by kernel_rfl) (by kernel_rfl) (rem' := [19, 20, 21]) (by kernel_rfl) rfl ?_
    refine QS_skip (i := 19) (j := 10) (t := 35) (b := true) rfl rfl rfl (by kernel_rfl) (by kernel_rfl) (by kernel_rfl) (rem' := [20, 21]) (by kernel_rfl) rfl ?_
    refine QS_skip (i := 20) (j := 10) (t := 35) (b := true) rfl rfl rfl (by kernel_rfl) (by kernel_rfl) (by kernel_rfl) (rem' := [21]) (by kernel_rfl) rfl ?_
    refine QS_v (i := 21) rfl (v_pickt rfl rfl) (by kernel_rfl) (by kernel_rfl) (by kernel_rfl) (rem' := []) (by kernel_rfl) rfl ?_
    refine QS_nil ?_
    refine den_true rfl ?_
    refine den_seq ?_
    -- region 4
    refine den_region rfl ?_
    refine WL_v (v_assign rfl) rfl ?_
    refine WL_v (v_assign rfl) rfl ?_
    refine WL_nil ?_
    refine den_ret ?_
    exact ends2 Tryz.results38 rfl rfl (by first | exact hl5.trans (hl4.trans (hl8.trans hl41)) | exact hl5.trans (hl4.trans hl8)) (List.Sublist.refl _) ⟨by first | (have hyes : cok xs it (Con.mk d r s) := ⟨by simp_all, by simp_all, hdv, by simp_all⟩; rw [if_pos hyes, decide_eq_true hyes]; simp only [ownV, if_pos hdv]) | (have hno : ¬ cok xs it (Con.mk d r s) := (fun g => by obtain ⟨g1, g2, g3, g4⟩ := g; simp only at g1 g2 g3 g4; first | omega | (rw [if_pos g1] at hz; subst hz; simp_all [ownE])); rw [if_neg hno, decide_eq_false hno]), rfl⟩
  · intro c2; try have c2 := of_decide_eq_false c2
    refine QS_vg (i := 3) rfl rfl rfl (v_faddr Tryz.underlying49 rfl siz4 rfl) (by kernel_rfl) (by kernel_rfl) (by kernel_rfl) (rem' := [4, 5, 6, 7, 8, 9, 10, 11, 12, 13, 14, 15, 16, 17, 18, 19, 20, 21]) (by kernel_rfl) rfl ?_
    refine QS_vg (i := 4) rfl rfl rfl (v_load1 one4 rfl (Kn.per hb8) (show z.cells[4]? = some (.bool z.g) from rfl)) (by kernel_rfl) (by kernel_rfl) (by kernel_rfl) (rem' := [5, 6, 7, 8, 9, 10, 11, 12, 13, 14, 15, 16, 17, 18, 19, 20, 21]) (by kernel_rfl) rfl ?_
    refine QS_v (i := 5) rfl (v_pickf rfl rfl) (by kernel_rfl) (by kernel_rfl) (by kernel_rfl) (rem' := [6, 7, 8, 9, 10, 11, 12, 13, 14, 15, 16, 17, 18, 19, 20, 21]) (by kernel_rfl) rfl ?_
    refine QS_v (i := 6) rfl (v_move rfl) (by kernel_rfl) (by kernel_rfl) (by kernel_rfl) (rem' := [7, 8, 9, 10, 11, 12, 13, 14, 15, 16, 17, 18, 19, 20, 21]) (by kernel_rfl) rfl ?_
    refine QS_split (t := 31) rfl ?_ ?_
    · intro c3; try have c3 := of_decide_eq_true c3
      refine QS_skip (i := 7) (j := 6) (t := 31) (b := true) rfl rfl rfl (by kernel_rfl) (by kernel_rfl) (by kernel_rfl) (rem' := [8, 9, 10, 11, 12, 13, 14, 15, 16, 17, 18, 19, 20, 21]) (by kernel_rfl) rfl ?_
      refine QS_skip (i := 8) (j := 6) (t := 31) (b := true) rfl rfl rfl (by kernel_rfl) (by kernel_rfl) (by kernel_rfl) (rem' := [9, 10, 11, 12, 13, 14, 15, 16, 17, 18, 19, 20, 21]) (by kernel_rfl) rfl ?_
      refine QS_v (i := 9) rfl (v_pickt rfl rfl) (by kernel_rfl) (by kernel_rfl) (by kernel_rfl) (rem' := [10, 11, 12, 13, 14, 15, 16, 17, 18, 19, 20, 21]) (by kernel_rfl) rfl ?_
      refine QS_v (i := 10) rfl (v_move rfl) (by kernel_rfl) (by kernel_rfl) (by kernel_rfl) (rem' := [11, 12, 13, 14, 15, 16, 17, 18, 19, 20, 21]) (by kernel_rfl) rfl ?_
      refine QS_skip (i := 11) (j := 10) (t := 35) (b := true) rfl rfl rfl (by kernel_rfl) (by kernel_rfl) (by kernel_rfl) (rem' := [12, 13, 14, 15, 16, 17, 18, 19, 20, 21]) (by kernel_rfl) rfl ?_
      refine QS_skip (i := 12) (j := 10) (t := 35) (b := true) rfl rfl rfl (by kernel_rfl) (by kernel_rfl) (by kernel_rfl) (rem' := [13, 14, 15, 16, 17, 18, 19, 20, 21]) (by kernel_rfl) rfl ?_
      refine QS_skip (i := 13) (j := 10) (t := 35) (b := true) rfl rfl rfl (by kernel_rfl) (by kernel_rfl) (by kernel_rfl) (rem' := [14, 15, 16, 17, 18, 19, 20, 21]) (by kernel_rfl) rfl ?_
      refine QS_skip (i := 14) (j := 10) (t := 35) (b := true) rfl rfl rfl (by kernel_rfl) (by kernel_rfl) (by kernel_rfl) (rem' := [15, 16, 17, 18, 19, 20, 21]) (by kernel_rfl) rfl ?_
      refine QS_skip (i := 15) (j := 10) (t := 35) (b := true) rfl rfl rfl (by kernel_rfl) (by kernel_rfl) (by kernel_rfl) (rem' := [16, 17, 18, 19, 20, 21]) (by kernel_rfl) rfl ?_
      refine QS_skip (i := 16) (j := 10) (t := 35) (b := true) rfl rfl rfl (by kernel_rfl) (by kernel_rfl) (by kernel_rfl) (rem' := [17, 18, 19, 20, 21]) (by kernel_rfl) rfl ?_
      refine QS_skip (i := 17) (j := 10) (t := 35) (b := true) rfl rfl rfl (by kernel_rfl) (by kernel_rfl) (by kernel_rfl) (rem' := [18, 19, 20, 21]) (by kernel_rfl) rfl ?_
      refine QS_skip (i := 18) (j := 10) (t := 35) (b := true) rfl rfl rfl (by kernel_rfl) (by kernel_rfl) (by kernel_rfl) (rem' := [19, 20, 21]) (by kernel_rfl) rfl ?_
      refine QS_skip (i := 19) (j := 10) (t := 35) (b := true) rfl rfl rfl (by kernel_rfl) (by kernel_rfl) (by kernel_rfl) (rem' := [20, 21]) (by kernel_rfl) rfl ?_
      refine QS_skip (i := 20) (j := 10) (t := 35) (b := true) rfl rfl rfl (by kernel_rfl) (by kernel_rfl) (by kernel_rfl) (rem' := [21]) (by kernel_rfl) rfl ?_
      refine QS_v (i := 21) rfl (v_pickt rfl rfl) (by kernel_rfl) (by kernel_rfl) (by kernel_rfl) (rem' := []) (by kernel_rfl) rfl ?_
      refine QS_nil ?_
      refine den_true rfl ?_
      refine den_seq ?_
      -- region 4
      refine den_region rfl ?_
      refine WL_v (v_assign rfl) rfl ?_
      refine WL_v (v_assign rfl) rfl ?_
      refine WL_nil ?_
      refine den_ret ?_
      exact ends2 Tryz.results38 rfl rfl (by first | exact hl5.trans (hl4.trans (hl8.trans hl41)) | exact hl5.trans (hl4.trans hl8)) (List.Sublist.refl _) ⟨by first | (have hyes : cok xs it (Con.mk d r s) := ⟨by simp_all, by simp_all, hdv, by simp_all⟩; rw [if_pos hyes, decide_eq_true hyes]; simp only [ownV, if_pos hdv]) | (have hno : ¬ cok xs it (Con.mk d r s) := (fun g => by obtain ⟨g1, g2, g3, g4⟩ := g; simp only at g1 g2 g3 g4; first | omega | (rw [if_pos g1] at hz; subst hz; simp_all [ownE])); rw [if_neg hno, decide_eq_false hno]), rfl⟩
    · intro c4; try have c4 := of_decide_eq_false c4
      refine QS_vg (i := 7) rfl rfl rfl (v_move rfl) (by kernel_rfl) (by kernel_rfl) (by kernel_rfl) (rem' := [8, 9, 10, 11, 12, 13, 14, 15, 16, 17, 18, 19, 20, 21]) (by kernel_rfl) rfl ?_
      refine QS_vg (i := 8) rfl rfl rfl (v_neq rfl rfl) (by kernel_rfl) (by kernel_rfl) (by kernel_rfl) (rem' := [9, 10, 11, 12, 13, 14, 15, 16, 17, 18, 19, 20, 21]) (by kernel_rfl) rfl ?_
      refine QS_v (i := 9) rfl (v_pickf rfl rfl) (by kernel_rfl) (by kernel_rfl) (by kernel_rfl) (rem' := [10, 11, 12, 13, 14, 15, 16, 17, 18, 19, 20, 21]) (by kernel_rfl) rfl ?_
      refine QS_v (i := 10) rfl (v_move rfl) (by kernel_rfl) (by kernel_rfl) (by kernel_rfl) (rem' := [11, 12, 13, 14, 15, 16, 17, 18, 19, 20, 21]) (by kernel_rfl) rfl ?_
      refine QS_split (t := 35) rfl ?_ ?_
      · intro c5; try have c5 := of_decide_eq_true c5
        refine QS_skip (i := 11) (j := 10) (t := 35) (b := true) rfl rfl rfl (by kernel_rfl) (by kernel_rfl) (by kernel_rfl) (rem' := [12, 13, 14, 15, 16, 17, 18, 19, 20, 21]) (by kernel_rfl) rfl ?_
        refine QS_skip (i := 12) (j := 10) (t := 35) (b := true) rfl rfl rfl (by kernel_rfl) (by kernel_rfl) (by kernel_rfl) (rem' := [13, 14, 15, 16, 17, 18, 19, 20, 21]) (by kernel_rfl) rfl ?_
        refine QS_skip (i := 13) (j := 10) (t := 35) (b := true) rfl rfl rfl (by kernel_rfl) (by kernel_rfl) (by kernel_rfl) (rem' := [14, 15, 16, 17, 18, 19, 20, 21]) (by kernel_rfl) rfl ?_
        refine QS_skip (i := 14) (j := 10) (t := 35) (b := true) rfl rfl rfl (by kernel_rfl) (by kernel_rfl) (by kernel_rfl) (rem' := [15, 16, 17, 18, 19, 20, 21]) (by kernel_rfl) rfl ?_
        refine QS_skip (i := 15) (j := 10) (t := 35) (b := true) rfl rfl rfl (by kernel_rfl) (by kernel_rfl) (by kernel_rfl) (rem' := [16, 17, 18, 19, 20, 21]) (by kernel_rfl) rfl ?_
        refine QS_skip (i := 16) (j := 10) (t := 35) (b := true) rfl rfl rfl (by kernel_rfl) (by kernel_rfl) (by kernel_rfl) (rem' := [17, 18, 19, 20, 21]) (by kernel_rfl) rfl ?_
        refine QS_skip (i := 17) (j := 10) (t := 35) (b := true) rfl rfl rfl (by kernel_rfl) (by kernel_rfl) (by kernel_rfl) (rem' := [18, 19, 20, 21]) (by kernel_rfl) rfl ?_
        refine QS_skip (i := 18) (j := 10) (t := 35) (b := true) rfl rfl rfl (by kernel_rfl) (by kernel_rfl) (by kernel_rfl) (rem' := [19, 20, 21]) (by kernel_rfl) rfl ?_
        refine QS_skip (i := 19) (j := 10) (t := 35) (b := true) rfl rfl rfl (by kernel_rfl) (by kernel_rfl) (by kernel_rfl) (rem' := [20, 21]) (by kernel_rfl) rfl ?_
        refine QS_skip (i := 20) (j := 10) (t := 35) (b := true) rfl rfl rfl (by kernel_rfl) (by kernel_rfl) (by kernel_rfl) (rem' := [21]) (by kernel_rfl) rfl ?_
        refine QS_v (i := 21) rfl (v_pickt rfl rfl) (by kernel_rfl) (by kernel_rfl) (by kernel_rfl) (rem' := []) (by kernel_rfl) rfl ?_
        refine QS_nil ?_
        refine den_true rfl ?_
        refine den_seq ?_
        -- region 4
        refine den_region rfl ?_
        refine WL_v (v_assign rfl) rfl ?_
        refine WL_v (v_assign rfl) rfl ?_
        refine WL_nil ?_
        refine den_ret ?_
        exact ends2 Tryz.results38 rfl rfl (by first | exact hl5.trans (hl4.trans (hl8.trans hl41)) | exact hl5.trans (hl4.trans hl8)) (List.Sublist.refl _) ⟨by first | (have hyes : cok xs it (Con.mk d r s) := ⟨by simp_all, by simp_all, hdv, by simp_all⟩; rw [if_pos hyes, decide_eq_true hyes]; simp only [ownV, if_pos hdv]) | (have hno : ¬ cok xs it (Con.mk d r s) := (fun g => by obtain ⟨g1, g2, g3, g4⟩ := g; simp only at g1 g2 g3 g4; first | omega | (rw [if_pos g1] at hz; subst hz; simp_all [ownE])); rw [if_neg hno, decide_eq_false hno]), rfl⟩
      · intro c6; try have c6 := of_decide_eq_false c6
        have hdv : dev d := by
          by_cases g : dev d
          · exact g
          · exfalso; simp_all [ownE]
        refine QS_vg (i := 11) rfl rfl rfl (v_faddr Tryz.underlying49 rfl siz3 rfl) (by kernel_rfl) (by kernel_rfl) (by kernel_rfl) (rem' := [12, 13, 14, 15, 16, 17, 18, 19, 20, 21]) (by kernel_rfl) rfl ?_
        refine QS_vg (i := 12) rfl rfl rfl (v_load1 one3 rfl (Kn.per hb8) (show z.cells[1]? = some (.int .i64 z.v) from rfl)) (by kernel_rfl) (by kernel_rfl) (by kernel_rfl) (rem' := [13, 14, 15, 16, 17, 18, 19, 20, 21]) (by kernel_rfl) rfl ?_
        refine QS_vg (i := 13) rfl rfl rfl (v_loadn many26 rfl (Kn.per (hl8 _ _ hb4)) (cut_self rfl)) (by kernel_rfl) (by kernel_rfl) (by kernel_rfl) (rem' := [14, 15, 16, 17, 18, 19, 20, 21]) (by kernel_rfl) rfl ?_
        refine QS_vg (i := 14) rfl rfl rfl (v_faddr Tryz.underlying32 rfl siz3 rfl) (by kernel_rfl) (by kernel_rfl) (by kernel_rfl) (rem' := [15, 16, 17, 18, 19, 20, 21]) (by kernel_rfl) rfl ?_
        refine QS_vg (i := 15) rfl rfl rfl (v_load1 one3 rfl (Kn.per (hl8 _ _ hb5)) (show (Con.mk d r s).cells[0]? = some (.int .i64 d) from rfl)) (by kernel_rfl) (by kernel_rfl) (by kernel_rfl) (rem' := [16, 17, 18, 19, 20, 21]) (by kernel_rfl) rfl ?_
        refine QS_vg (i := 17) rfl rfl rfl (v_faddr Tryz.underlying32 rfl siz30 rfl) (by kernel_rfl) (by kernel_rfl) (by kernel_rfl) (rem' := [16, 18, 19, 20, 21]) (by kernel_rfl) rfl ?_
        refine QS_vg (i := 18) rfl rfl rfl (v_loadn many30 rfl (Kn.per (by first | exact hl41 _ _ (hl8 _ _ hb5) | exact hl8 _ _ hb5)) (show cut 1 2 (Con.mk d r s).cells = some [.int .i64 r, .int .i64 s] from rfl)) (by kernel_rfl) (by kernel_rfl) (by kernel_rfl) (rem' := [16, 19, 20, 21]) (by kernel_rfl) rfl ?_
        refine QS_step (is := [16]) rfl (by kernel_rfl) ?_
        refine qall1 ?_
        refine qs_callpg rfl rfl rfl rfl (rpmessage_fn _ _ _ (dev_ri hdv)) rfl (rem' := [19, 20, 21]) (by kernel_rfl) fun v41 h41 hl41 hbs41 => ?_
        refine QS_step (is := [19]) rfl (by kernel_rfl) ?_
        refine qall1 ?_
        refine qs_callqg rfl rfl rfl rfl (rverify_fn _ _ _ _ _ _ hbs41 (by simp)) rfl (rem' := [20, 21]) (by kernel_rfl) ?_
        first | refine QS_vg (i := 20) rfl rfl rfl (v_notd rfl) (by kernel_rfl) (by kernel_rfl) (by kernel_rfl) (rem' := [21]) (by kernel_rfl) rfl ?_ | refine QS_vg (i := 20) rfl rfl rfl (v_not rfl) (by kernel_rfl) (by kernel_rfl) (by kernel_rfl) (rem' := [21]) (by kernel_rfl) rfl ?_
        refine QS_v (i := 21) rfl (v_pickf rfl rfl) (by kernel_rfl) (by kernel_rfl) (by kernel_rfl) (rem' := []) (by kernel_rfl) rfl ?_
        refine QS_nil ?_
        first | refine den_ifd rfl (fun hv => ?_) (fun hv => ?_) | refine den_if rfl (fun hv => ?_) (fun hv => ?_)
        · skip
          refine den_seq ?_
          -- region 4
          refine den_region rfl ?_
          refine WL_v (v_assign rfl) rfl ?_
          refine WL_v (v_assign rfl) rfl ?_
          refine WL_nil ?_
          refine den_ret ?_
          exact ends2 Tryz.results38 rfl rfl (by first | exact hl5.trans (hl4.trans (hl8.trans hl41)) | exact hl5.trans (hl4.trans hl8)) (List.Sublist.refl _) ⟨by first | (have hyes : cok xs it (Con.mk d r s) := ⟨by simp_all, by simp_all, hdv, by simp_all⟩; rw [if_pos hyes, decide_eq_true hyes]; simp only [ownV, if_pos hdv]) | (have hno : ¬ cok xs it (Con.mk d r s) := (fun g => by obtain ⟨g1, g2, g3, g4⟩ := g; simp only at g1 g2 g3 g4; first | omega | (rw [if_pos g1] at hz; subst hz; simp_all [ownE])); rw [if_neg hno, decide_eq_false hno]), rfl⟩
        · skip
          refine den_skip ?_
          refine den_seq ?_
          -- region 5
          refine den_region rfl ?_
          refine WL_v (v_move rfl) rfl ?_
          refine WL_v (v_assign rfl) rfl ?_
          refine WL_v (v_assign rfl) rfl ?_
          refine WL_nil ?_
          refine den_ret ?_
          exact ends2 Tryz.results38 rfl rfl (by first | exact hl5.trans (hl4.trans (hl8.trans hl41)) | exact hl5.trans (hl4.trans hl8)) (List.Sublist.refl _) ⟨by first | (have hyes : cok xs it (Con.mk d r s) := ⟨by simp_all, by simp_all, hdv, by simp_all⟩; rw [if_pos hyes, decide_eq_true hyes]; simp only [ownV, if_pos hdv]) | (have hno : ¬ cok xs it (Con.mk d r s) := (fun g => by obtain ⟨g1, g2, g3, g4⟩ := g; simp only at g1 g2 g3 g4; first | omega | (rw [if_pos g1] at hz; subst hz; simp_all [ownE])); rw [if_neg hno, decide_eq_false hno]), rfl⟩

theorem rexport_fn (p : Pol) (a b x y : Option Addr) (ca cb cx cy : Nat) (xs : List Lst) (it : Dig) (cs : List Con) (h : Heap) (ha : SlI h a p.le) (hb : SlI h b p.ri) (hx : SlL h x xs) (hy : SlC h y cs) (hcl : cs.length ≤ 1000000) : Fn0 Tryz.prog 15 [.agg ⟨p.cells a b ca cb⟩, .slice x xs.length cx, .agg ⟨dcells it ++ [.slice y cs.length cy]⟩] h (.int .i64 (expE p xs it cs)) := by
  refine Tr_of Tryz.func15 rfl rfl Tryz.ntmps15 rfl [(0, .agg ⟨p.cells a b ca cb⟩), (1, .slice x xs.length cx), (2, .agg ⟨dcells it ++ [.slice y cs.length cy]⟩)] rfl ?_
  intro Lf
  refine den_seq ?_
  -- region 0
  refine den_region rfl ?_
  refine WL_box (zs := p.cells a b ca cb) rfl rfl rfl fun b3 => ?_
  refine WL_box (zs := (dcells it ++ [.slice y cs.length cy])) rfl rfl rfl fun b5 => ?_
  refine WL_freeze fun h5 hl5 hb5 => ?_
  refine WL_v (v_assign rfl) rfl ?_
  refine WL_nil ?_
  refine den_seq ?_
  -- region 1
  refine den_region rfl ?_
  refine WL_v (v_loadn many24 rfl (Kn.own 0 rfl) (p.cutS a b ca cb)) rfl ?_
  refine WL_callq rfl (rcheck46_fn _ _ _ _ _ _ (ha.le hl5) (hb.le hl5)) rfl ?_
  obtain ⟨e, he⟩ : ∃ e, e = polE p := ⟨_, rfl⟩
  rw [← he]
  refine WL_v (v_assign rfl) rfl ?_
  refine WL_nil ?_
  refine den_seq ?_
  refine den_seq ?_
  -- region 2
  refine den_region rfl ?_
  refine WL_v (v_move rfl) rfl ?_
  refine WL_v (v_neq rfl rfl) rfl ?_
  refine WL_nil ?_
  first | refine den_ifd rfl (fun hq => ?_) (fun hq => ?_) | refine den_if rfl (fun hq => ?_) (fun hq => ?_)
  · skip
    have hbad : expE p xs it cs = 460 := if_neg (fun g => hq (he.trans (if_pos g)))
    have he2 : e = 460 := he.trans (if_neg (fun g => hq (he.trans (if_pos g))))
    refine den_seq ?_
    -- region 3
    refine den_region rfl ?_
    refine WL_v (v_move rfl) rfl ?_
    refine WL_v (v_assign rfl) rfl ?_
    refine WL_nil ?_
    refine den_ret ?_
    exact ends1 Tryz.results15 rfl hl5 (.cons _ (List.Sublist.refl _)) ⟨by rw [hbad, he2], rfl⟩
  · skip
    have hgood : p.good := polE_0 (by omega)
    refine den_skip ?_
    refine den_seq ?_
    -- region 4
    refine den_region rfl ?_
    refine WL_buildSlice Tryz.underlying22 zer3 rfl siz3 rfl rfl rfl rfl rfl fun b17 => ?_
    refine WL_v (v_assign rfl) rfl ?_
    refine WL_nil ?_
    refine den_seq ?_
    refine den_seq ?_
    -- region 5
    refine den_region rfl ?_
    refine WL_v (v_assign rfl) rfl ?_
    refine WL_nil ?_
    refine den_block ?_
    refine den_loopI (ι := Nat × Value × Owned) (fun ⟨i, v, L1⟩ => [(1, .slice x xs.length cx), (3, .pointer (some ⟨b3, 0, none⟩)), (5, .pointer (some ⟨b5, 0, none⟩)), (8, v), (9, .int .i64 ((i : Nat) : Int))]) (fun ⟨i, v, L1⟩ h' L' => i ≤ cs.length ∧ Heap.le h5 h' ∧ L' = L1 ++ ((b3, .cells ⟨p.cells a b ca cb⟩ 24 (0, 0)) :: Lf) ∧ OwnS 3 1 v (setI (ows xs it (cs.take i))).length ((setI (ows xs it (cs.take i))).map (Value.int .i64)) L1) (fun ⟨i, v, L1⟩ => cs.length - i) (0, .slice (some ⟨b17, 0, none⟩) 0 0, [(b17, .cells ⟨[]⟩ 3 (0, 0))]) (sub_cons rfl (sub_cons rfl (sub_cons rfl (sub_cons rfl (sub_cons rfl sub_nil))))) ⟨by omega, Heap.le.refl _, rfl, OwnS.full (n := 0) (xs := []) rfl (by decide)⟩ ?_
    rintro ⟨i, v, L1⟩ h1 _ ⟨i1, hle, rfl, ho⟩
    refine den_seq ?_
    refine den_seq ?_
    -- region 6
    refine den_region rfl ?_
    refine WL_v (v_move rfl) rfl ?_
    refine WL_v (v_faddr Tryz.underlying41 rfl siz39 rfl) rfl ?_
    refine WL_v (v_load1 one39 rfl (Kn.per (hle _ _ hb5)) (show (dcells it ++ [.slice y cs.length cy])[32]? = some (.slice y cs.length cy) from rfl)) rfl ?_
    refine WL_v (v_lens Tryz.underlying39 rfl) rfl ?_
    refine WL_v (v_lss rfl rfl) rfl ?_
    refine WL_nil ?_
    first | refine den_ifd rfl (fun hi => ?_) (fun hi => ?_) | refine den_if rfl (fun hi => ?_) (fun hi => ?_)
    · skip
      have hi : i < cs.length := by omega
      obtain ⟨bb, off, all, T, fr, rfl, hbb, hxi⟩ := hy.1 i hi
      have hbb := hle _ _ (hl5 _ _ hbb)
      refine den_skip ?_
      refine den_seq ?_
      refine den_block ?_
      refine den_seq ?_
      -- region 8
      refine den_draw [] (by kernel_rfl) (by kernel_rfl) (NoP.fn) (rem := [0, 1, 2, 3, 4, 5, 6, 7, 8, 9, 10, 11, 12, 13]) (by kernel_rfl) ?_
      refine QS_v (i := 0) rfl (v_move rfl) (by kernel_rfl) (by kernel_rfl) (by kernel_rfl) (rem' := [1, 2, 3, 4, 5, 6, 7, 8, 9, 10, 11, 12, 13]) (by kernel_rfl) rfl ?_
      refine QS_v (i := 1) rfl (v_faddr Tryz.underlying41 rfl siz26 rfl) (by kernel_rfl) (by kernel_rfl) (by kernel_rfl) (rem' := [2, 3, 4, 5, 6, 7, 8, 9, 10, 11, 12, 13]) (by kernel_rfl) rfl ?_
      refine QS_v (i := 2) rfl (v_loadn many26 rfl (Kn.per (hle _ _ hb5)) (cut_left (dcells it) _)) (by kernel_rfl) (by kernel_rfl) (by kernel_rfl) (rem' := [3, 4, 5, 6, 7, 8, 9, 10, 11, 12, 13]) (by kernel_rfl) rfl ?_
      refine QS_v (i := 3) rfl (v_faddr Tryz.underlying41 rfl siz39 rfl) (by kernel_rfl) (by kernel_rfl) (by kernel_rfl) (rem' := [4, 5, 6, 7, 8, 9, 10, 11, 12, 13]) (by kernel_rfl) rfl ?_
      refine QS_v (i := 4) rfl (v_load1 one39 rfl (Kn.per (hle _ _ hb5)) (show (dcells it ++ [.slice (some ⟨bb, off, none⟩) cs.length cy])[32]? = some (.slice (some ⟨bb, off, none⟩) cs.length cy) from rfl)) (by kernel_rfl) (by kernel_rfl) (by kernel_rfl) (rem' := [5, 6, 7, 8, 9, 10, 11, 12, 13]) (by kernel_rfl) rfl ?_
      refine QS_v (i := 5) rfl (v_move rfl) (by kernel_rfl) (by kernel_rfl) (by kernel_rfl) (rem' := [6, 7, 8, 9, 10, 11, 12, 13]) (by kernel_rfl) rfl ?_
      refine QS_v (i := 6) rfl (v_iaddrs Tryz.underlying39 siz32 rfl rfl rfl hi) (by kernel_rfl) (by kernel_rfl) (by kernel_rfl) (rem' := [7, 8, 9, 10, 11, 12, 13]) (by kernel_rfl) rfl ?_
      refine QS_v (i := 7) rfl (v_loadn many32 rfl (Kn.per hbb) hxi) (by kernel_rfl) (by kernel_rfl) (by kernel_rfl) (rem' := [8, 9, 10, 11, 12, 13]) (by kernel_rfl) rfl ?_
      refine QS_step (is := [8]) rfl (by kernel_rfl) ?_
      refine qall1 ?_
      refine qs_callq rfl rfl (rcounts_fn _ _ xs it (cs.getD i conz).d (cs.getD i conz).r (cs.getD i conz).s _ (hx.le (hl5.trans hle))) rfl (rem' := [9, 10, 11, 12, 13]) (by kernel_rfl) ?_
      rw [show Con.mk (cs.getD i conz).d (cs.getD i conz).r (cs.getD i conz).s = (cs.getD i conz) from rfl]
      refine QS_v (i := 9) rfl (v_move rfl) (by kernel_rfl) (by kernel_rfl) (by kernel_rfl) (rem' := [10, 11, 12, 13]) (by kernel_rfl) rfl ?_
      refine QS_v (i := 10) rfl (v_extract rfl rfl) (by kernel_rfl) (by kernel_rfl) (by kernel_rfl) (rem' := [11, 12, 13]) (by kernel_rfl) rfl ?_
      refine QS_v (i := 11) rfl (v_extract rfl rfl) (by kernel_rfl) (by kernel_rfl) (by kernel_rfl) (rem' := [12, 13]) (by kernel_rfl) rfl ?_
      refine QS_v (i := 12) rfl (v_assign rfl) (by kernel_rfl) (by kernel_rfl) (by kernel_rfl) (rem' := [13]) (by kernel_rfl) rfl ?_
      refine QS_v (i := 13) rfl (v_assign rfl) (by kernel_rfl) (by kernel_rfl) (by kernel_rfl) (rem' := []) (by kernel_rfl) rfl ?_
      refine QS_nil ?_
      refine den_seq ?_
      -- region 9
      refine den_region rfl ?_
      refine WL_v (v_move rfl) rfl ?_
      refine WL_v (v_move rfl) rfl ?_
      first | refine WL_split (t := 38) rfl ?_ ?_
      · intro c5; try have c5 := of_decide_eq_true c5
        have hck : cok xs it (cs.getD i conz) := by assumption
        rw [if_pos hck]
        refine WL_vg rfl rfl (v_move rfl) rfl ?_
        refine WL_vg rfl rfl (v_move rfl) rfl ?_
        refine WL_opg (op1_call (L1 := L1) rfl rfl (TrV.of0 (rhaso_fn _ _ _ _ _ (by have := setow_len xs it cs i; omega) ho))) rfl rfl rfl rfl ?_
        rintro _ h41 _ ⟨_, rfl, hl41, rfl, rfl⟩
        first | refine WL_vg rfl rfl (v_notd rfl) rfl ?_ | refine WL_vg rfl rfl (v_not rfl) rfl ?_
        refine WL_v (v_pickt rfl rfl) rfl ?_
        refine WL_nil ?_
        first | refine den_ifd rfl (fun hh => ?_) (fun hh => ?_) | refine den_if rfl (fun hh => ?_) (fun hh => ?_)
        · skip
          -- region 10
          refine den_region rfl ?_
          refine WL_v (v_move rfl) rfl ?_
          refine WL_v (v_move rfl) rfl ?_
          refine WL_buildSlice Tryz.underlying22 zer3 rfl siz3 rfl rfl rfl rfl rfl fun b46 => ?_
          refine WL_freeze fun h46 hl46 hb46 => ?_
          refine WL_append Tryz.underlying22 Tryz.underlying22 (.inr ⟨_, rfl⟩) siz3 byt3 (by decide) zer3 rfl rfl rfl rfl ho (Src.per (n := 1) (us := [.int .i64 (own (cs.getD i conz).d)]) hb46 rfl) rfl (by have := setow_len xs it cs i; omega) rfl fun v2 L2 ho2 => ?_
          refine WL_v (v_assign rfl) rfl ?_
          refine WL_nil ?_
          refine den_blk ?_
          -- region 7
          refine den_region rfl ?_
          refine WL_v (v_move rfl) rfl ?_
          refine WL_v (v_addj (n := 1) rfl rfl (by show _ < 9223372036854775808; omega)) rfl ?_
          refine WL_v (v_assign rfl) rfl ?_
          refine WL_nil ?_
          refine den_again ⟨rfl, (i + 1, _, _), (by show cs.length - (i + 1) < cs.length - i; omega), (sub_cons rfl (sub_cons rfl (sub_cons rfl (sub_cons rfl (sub_cons rfl sub_nil))))), (by first | exact ⟨by omega, hle.trans (hl41.trans hl46), rfl, by rw [ows_yes hi hck, setI_app]; unfold addI; rw [if_neg (by simpa using hh), List.length_append, List.map_append]; exact ho2⟩ | exact ⟨by omega, hle.trans hl41, rfl, by rw [ows_yes hi hck, setI_app]; unfold addI; rw [if_pos (by simpa using hh)]; exact ho⟩ | exact ⟨by omega, hle, rfl, by rw [ows_no hi (by assumption)]; exact ho⟩)⟩
        · skip
          refine den_skip ?_
          refine den_blk ?_
          -- region 7
          refine den_region rfl ?_
          refine WL_v (v_move rfl) rfl ?_
          refine WL_v (v_addj (n := 1) rfl rfl (by show _ < 9223372036854775808; omega)) rfl ?_
          refine WL_v (v_assign rfl) rfl ?_
          refine WL_nil ?_
          refine den_again ⟨rfl, (i + 1, _, _), (by show cs.length - (i + 1) < cs.length - i; omega), (sub_cons rfl (sub_cons rfl (sub_cons rfl (sub_cons rfl (sub_cons rfl sub_nil))))), (by first | exact ⟨by omega, hle.trans (hl41.trans hl46), rfl, by rw [ows_yes hi hck, setI_app]; unfold addI; rw [if_neg (by simpa using hh), List.length_append, List.map_append]; exact ho2⟩ | exact ⟨by omega, hle.trans hl41, rfl, by rw [ows_yes hi hck, setI_app]; unfold addI; rw [if_pos (by simpa using hh)]; exact ho⟩ | exact ⟨by omega, hle, rfl, by rw [ows_no hi (by assumption)]; exact ho⟩)⟩
      · intro c6; try have c6 := of_decide_eq_false c6
        refine WL_skip (j := 1) (t := 38) (b := false) rfl rfl rfl rfl ?_
        refine WL_skip (j := 1) (t := 38) (b := false) rfl rfl rfl rfl ?_
        refine WL_skip (j := 1) (t := 38) (b := false) rfl rfl rfl rfl ?_
        refine WL_skip (j := 1) (t := 38) (b := false) rfl rfl rfl rfl ?_
        refine WL_v (v_pickf rfl rfl) rfl ?_
        refine WL_nil ?_
        refine den_false rfl ?_
        refine den_skip ?_
        refine den_blk ?_
        -- region 7
        refine den_region rfl ?_
        refine WL_v (v_move rfl) rfl ?_
        refine WL_v (v_addj (n := 1) rfl rfl (by show _ < 9223372036854775808; omega)) rfl ?_
        refine WL_v (v_assign rfl) rfl ?_
        refine WL_nil ?_
        refine den_again ⟨rfl, (i + 1, _, _), (by show cs.length - (i + 1) < cs.length - i; omega), (sub_cons rfl (sub_cons rfl (sub_cons rfl (sub_cons rfl (sub_cons rfl sub_nil))))), (by first | exact ⟨by omega, hle.trans (hl41.trans hl46), rfl, by rw [ows_yes hi hck, setI_app]; unfold addI; rw [if_neg (by simpa using hh), List.length_append, List.map_append]; exact ho2⟩ | exact ⟨by omega, hle.trans hl41, rfl, by rw [ows_yes hi hck, setI_app]; unfold addI; rw [if_pos (by simpa using hh)]; exact ho⟩ | exact ⟨by omega, hle, rfl, by rw [ows_no hi (by assumption)]; exact ho⟩)⟩
    · skip
      have hil : i = cs.length := by omega
      subst hil
      rw [List.take_length] at ho
      obtain ⟨ao, co, rfl⟩ := ho.slc
      have hso := setow_len xs it cs cs.length
      rw [List.take_length] at hso
      refine den_exit rfl ?_
      refine den_seq ?_
      refine den_seq ?_
      -- region 11
      refine den_region rfl ?_
      refine WL_v (v_move rfl) rfl ?_
      refine WL_v (v_lens Tryz.underlying22 rfl) rfl ?_
      refine WL_v (v_eql rfl rfl) rfl ?_
      refine WL_v (v_move rfl) rfl ?_
      first | refine WL_split (t := 51) rfl ?_ ?_
      · intro c9; try have c9 := of_decide_eq_true c9
        refine WL_skip (j := 3) (t := 51) (b := true) rfl rfl rfl rfl ?_
        refine WL_skip (j := 3) (t := 51) (b := true) rfl rfl rfl rfl ?_
        refine WL_skip (j := 3) (t := 51) (b := true) rfl rfl rfl rfl ?_
        refine WL_skipu (j := 6) (t := 54) rfl rfl rfl rfl ?_
        refine WL_skipu (j := 6) (t := 54) rfl rfl rfl rfl ?_
        refine WL_skipu (j := 6) (t := 54) rfl rfl rfl rfl ?_
        refine WL_skip (j := 3) (t := 51) (b := true) rfl rfl rfl rfl ?_
        refine WL_v (v_pickt rfl rfl) rfl ?_
        refine WL_nil ?_
        refine den_true rfl ?_
        refine den_seq ?_
        -- region 12
        refine den_region rfl ?_
        refine WL_v (v_assign rfl) rfl ?_
        refine WL_nil ?_
        refine den_ret ?_
        exact ends1 Tryz.results15 rfl (hl5.trans hle) ((List.Sublist.cons _ (List.Sublist.refl _)).trans (List.sublist_append_right _ _)) ⟨by congr 1; unfold expE; rw [if_pos hgood]; first | (rw [if_pos (by first | exact .inl (by omega) | exact .inr ⟨by assumption, by omega⟩)]) | (rw [if_neg (by rintro (g | ⟨g, g2⟩) <;> first | omega | simp_all)]), rfl⟩
      · intro c10; try have c10 := of_decide_eq_false c10
        refine WL_vg rfl rfl (v_faddr Tryz.underlying24 rfl siz4 rfl) rfl ?_
        refine WL_vg rfl rfl (v_load1 one4 rfl (.inr (List.mem_append_right _ (.head _))) (show (p.cells a b ca cb)[1]? = some (.bool p.two) from rfl)) rfl ?_
        refine WL_vg rfl rfl (v_move rfl) rfl ?_
        first | refine WL_split (t := 54) rfl ?_ ?_
        · intro c11; try have c11 := of_decide_eq_true c11
          refine WL_vg rfl rfl (v_move rfl) rfl ?_
          refine WL_vg rfl rfl (v_lens Tryz.underlying22 rfl) rfl ?_
          refine WL_vg rfl rfl (v_lss rfl rfl) rfl ?_
          refine WL_vg rfl rfl (v_pickt rfl rfl) rfl ?_
          refine WL_v (v_pickf rfl rfl) rfl ?_
          refine WL_nil ?_
          first | refine den_ifd rfl (fun hr => ?_) (fun hr => ?_) | refine den_if rfl (fun hr => ?_) (fun hr => ?_)
          · skip
            refine den_seq ?_
            -- region 12
            refine den_region rfl ?_
            refine WL_v (v_assign rfl) rfl ?_
            refine WL_nil ?_
            refine den_ret ?_
            exact ends1 Tryz.results15 rfl (hl5.trans hle) ((List.Sublist.cons _ (List.Sublist.refl _)).trans (List.sublist_append_right _ _)) ⟨by congr 1; unfold expE; rw [if_pos hgood]; first | (rw [if_pos (by first | exact .inl (by omega) | exact .inr ⟨by assumption, by omega⟩)]) | (rw [if_neg (by rintro (g | ⟨g, g2⟩) <;> first | omega | simp_all)]), rfl⟩
          · skip
            refine den_skip ?_
            refine den_seq ?_
            -- region 13
            refine den_region rfl ?_
            refine WL_v (v_assign rfl) rfl ?_
            refine WL_nil ?_
            refine den_ret ?_
            exact ends1 Tryz.results15 rfl (hl5.trans hle) ((List.Sublist.cons _ (List.Sublist.refl _)).trans (List.sublist_append_right _ _)) ⟨by congr 1; unfold expE; rw [if_pos hgood]; first | (rw [if_pos (by first | exact .inl (by omega) | exact .inr ⟨by assumption, by omega⟩)]) | (rw [if_neg (by rintro (g | ⟨g, g2⟩) <;> first | omega | simp_all)]), rfl⟩
        · intro c12; try have c12 := of_decide_eq_false c12
          refine WL_skip (j := 6) (t := 54) (b := false) rfl rfl rfl rfl ?_
          refine WL_skip (j := 6) (t := 54) (b := false) rfl rfl rfl rfl ?_
          refine WL_skip (j := 6) (t := 54) (b := false) rfl rfl rfl rfl ?_
          refine WL_vg rfl rfl (v_pickf rfl rfl) rfl ?_
          refine WL_v (v_pickf rfl rfl) rfl ?_
          refine WL_nil ?_
          refine den_false rfl ?_
          refine den_skip ?_
          refine den_seq ?_
          -- region 13
          refine den_region rfl ?_
          refine WL_v (v_assign rfl) rfl ?_
          refine WL_nil ?_
          refine den_ret ?_
          exact ends1 Tryz.results15 rfl (hl5.trans hle) ((List.Sublist.cons _ (List.Sublist.refl _)).trans (List.sublist_append_right _ _)) ⟨by congr 1; unfold expE; rw [if_pos hgood]; first | (rw [if_pos (by first | exact .inl (by omega) | exact .inr ⟨by assumption, by omega⟩)]) | (rw [if_neg (by rintro (g | ⟨g, g2⟩) <;> first | omega | simp_all)]), rfl⟩

end Go.Proofs.Ch
