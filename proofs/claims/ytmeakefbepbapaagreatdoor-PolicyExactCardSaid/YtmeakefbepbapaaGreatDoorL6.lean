/- Walks of the program's functions, printed by my own generator (layer L6). -/
import Derived.Test.YtmeakefbepbapaaGreatDoorL5
import Derived.Test.YtmeakefbepbapaaGreatDoorS3
namespace Go.Proofs.Ch
open Go Go.Proofs
set_option maxRecDepth 4000
set_option maxHeartbeats 1000000
theorem siz4 : Siz Tryz.prog 4 1 := by show _ = _; kernel_rfl
theorem siz58 : Siz Tryz.prog 58 4 := by show _ = _; kernel_rfl
theorem many58 : Many Tryz.prog 58 4 := Many.of Tryz.underlying58 rfl siz58
theorem zer58 : Zer Tryz.prog 58 (.agg ⟨[.int .i64 0, .int .i64 0, .string ⟨⟨[]⟩⟩, .slice none 0 0]⟩) := by show _ = _; kernel_rfl
theorem siz9 : Siz Tryz.prog 9 1 := by show _ = _; kernel_rfl
theorem one9 : One Tryz.prog 9 := One.of Tryz.underlying9 rfl
theorem siz56 : Siz Tryz.prog 56 1 := by show _ = _; kernel_rfl
theorem one56 : One Tryz.prog 56 := One.of Tryz.underlying56 rfl
theorem zer188 : Zer Tryz.prog 188 (.agg ⟨[.bool false, .bool false, .bool false, .bool false]⟩) := by show _ = _; kernel_rfl
theorem siz188 : Siz Tryz.prog 188 4 := by show _ = _; kernel_rfl
theorem one4 : One Tryz.prog 4 := One.of Tryz.underlying4 rfl
theorem siz95 : Siz Tryz.prog 95 1 := by show _ = _; kernel_rfl
theorem zer146 : Zer Tryz.prog 146 (.agg ⟨[.nilFunc, .nilFunc, .nilFunc, .nilFunc]⟩) := by show _ = _; kernel_rfl
theorem zer96 : Zer Tryz.prog 96 (.pointer none) := by show _ = _; kernel_rfl
theorem siz96 : Siz Tryz.prog 96 1 := by show _ = _; kernel_rfl
theorem one96 : One Tryz.prog 96 := One.of Tryz.underlying96 rfl
theorem siz93 : Siz Tryz.prog 93 1 := by show _ = _; kernel_rfl
theorem one93 : One Tryz.prog 93 := One.of Tryz.underlying93 rfl
theorem uns_pos (m : Nat) (hm : m < 9223372036854775808) (h : Heap) : Fn0 Tryz.prog 88 [.int .i64 (m : Int)] h (.int .u64 ((zig (m : Int) : Nat) : Int)) := by
  refine Tr_of Tryz.func88 rfl rfl Tryz.ntmps88 rfl [(0, .int .i64 (m : Int))] rfl ?_
  intro Lf
  refine den_seq ?_
  -- region 0
  refine den_region rfl ?_
  refine WL_v (v_assign rfl) rfl ?_
  refine WL_nil ?_
  refine den_seq ?_
  -- region 1
  refine den_region rfl ?_
  refine WL_v (v_move rfl) rfl ?_
  refine WL_v (v_convu Tryz.underlying3 Tryz.underlying148 rfl (by omega)) rfl ?_
  refine WL_v (v_shlm (s := 1) rfl rfl) rfl ?_
  refine WL_v (v_move rfl) rfl ?_
  refine WL_v (v_shr (z := 0) rfl rfl (by decide) (shr63_pos hm)) rfl ?_
  refine WL_v (v_conv (z := ((0 : Nat) : Int)) Tryz.underlying3 Tryz.underlying148 rfl rfl) rfl ?_
  refine WL_v (v_xorn (n := 0) rfl rfl rfl (Nat.mod_lt _ (by decide)) (by decide)) rfl ?_
  refine WL_v (v_assign rfl) rfl ?_
  refine WL_nil ?_
  refine den_ret ?_
  exact ends1 Tryz.results88 rfl (Heap.le.refl _) (by simp) ⟨by rw [Nat.xor_zero, zig_pos, Nat.mod_eq_of_lt (by omega), Nat.pow_one, Nat.mul_comm], rfl⟩

theorem uns_neg (m : Nat) (hm : m < 9223372036854775808) (h : Heap) : Fn0 Tryz.prog 88 [.int .i64 (-(m : Int) - 1)] h (.int .u64 ((zig (-(m : Int) - 1) : Nat) : Int)) := by
  refine Tr_of Tryz.func88 rfl rfl Tryz.ntmps88 rfl [(0, .int .i64 (-(m : Int) - 1))] rfl ?_
  intro Lf
  refine den_seq ?_
  -- region 0
  refine den_region rfl ?_
  refine WL_v (v_assign rfl) rfl ?_
  refine WL_nil ?_
  refine den_seq ?_
  -- region 1
  refine den_region rfl ?_
  refine WL_v (v_move rfl) rfl ?_
  refine WL_v (v_conv (z := ((18446744073709551615 - m : Nat) : Int)) Tryz.underlying3 Tryz.underlying148 rfl (wrap_negu hm)) rfl ?_
  refine WL_v (v_shlm (s := 1) rfl rfl) rfl ?_
  refine WL_v (v_move rfl) rfl ?_
  refine WL_v (v_shr (z := -1) rfl rfl (by decide) (shr63_neg hm)) rfl ?_
  refine WL_v (v_conv (z := ((18446744073709551615 : Nat) : Int)) Tryz.underlying3 Tryz.underlying148 rfl rfl) rfl ?_
  refine WL_v (v_xorn (n := 18446744073709551615) rfl rfl rfl (Nat.mod_lt _ (by decide)) (by decide)) rfl ?_
  refine WL_v (v_assign rfl) rfl ?_
  refine WL_nil ?_
  refine den_ret ?_
  exact ends1 Tryz.results88 rfl (Heap.le.refl _) (by simp) ⟨by rw [xor_ones (Nat.mod_lt _ (by decide)), zig_neg, Nat.pow_one]; congr 2; omega, rfl⟩

theorem uns_fn (n : Int) (h1 : -9223372036854775808 ≤ n) (h2 : n < 9223372036854775808) (h : Heap) : Fn0 Tryz.prog 88 [.int .i64 n] h (.int .u64 ((zig n : Nat) : Int)) := by
  by_cases h0 : 0 ≤ n
  · obtain ⟨m, rfl⟩ := int_nat h0
    exact uns_pos m (by omega) h
  · obtain ⟨m, rfl⟩ : ∃ m : Nat, n = -(m : Int) - 1 := ⟨(-(n + 1)).toNat, by omega⟩
    exact uns_neg m (by omega) h

theorem numeral_fn (b : Value) (n u0 : Nat) (xs : List UInt8) (Lb : Owned) (h : Heap) (ho0 : OwnS 5 1 b n (xs.map byteV) Lb) (hu : u0 < 18446744073709551616) (hn : n ≤ 35184372088832) : Tr Tryz.prog 87 [b, .int .u64 (u0 : Int)] h Lb (fun v _ L' => OwnS 5 1 v (n + (num u0).length) ((xs ++ num u0).map byteV) L') := by
  refine Tr_of Tryz.func87 rfl rfl Tryz.ntmps87 rfl [(0, b), (1, .int .u64 (u0 : Int))] rfl ?_
  intro Lf
  have hl10 := num_len10 hu
  refine den_seq ?_
  -- region 0
  refine den_region rfl ?_
  refine WL_v (v_assign rfl) rfl ?_
  refine WL_nil ?_
  refine den_seq ?_
  refine den_block ?_
  refine den_loopI (ι := Value × Nat × List UInt8 × Owned) (fun ⟨v, u, ys, L1⟩ => [(0, v), (1, .int .u64 (u : Int))]) (fun ⟨v, u, ys, L1⟩ h' L' => u < 18446744073709551616 ∧ num u0 = ys ++ num u ∧ Heap.le h h' ∧ L' = L1 ++ Lf ∧ OwnS 5 1 v (n + ys.length) ((xs ++ ys).map byteV) L1) (fun ⟨v, u, ys, L1⟩ => u) (b, u0, [], Lb) (sub_cons rfl (sub_cons rfl sub_nil)) ⟨hu, rfl, Heap.le.refl _, rfl, by simpa using ho0⟩ ?_
  rintro ⟨v, u, ys, L1⟩ hq _ ⟨u1, hys, hle, rfl, ho⟩
  have hyl := congrArg List.length hys
  rw [List.length_append] at hyl
  refine den_seq ?_
  refine den_seq ?_
  -- region 1
  refine den_region rfl ?_
  refine WL_v (v_move rfl) rfl ?_
  refine WL_v (v_geq rfl rfl) rfl ?_
  refine WL_nil ?_
  first | refine den_ifd rfl (fun hge => ?_) (fun hge => ?_) | refine den_if rfl (fun hge => ?_) (fun hge => ?_)
  · skip
    refine den_skip ?_
    refine den_seq ?_
    refine den_block ?_
    -- region 3
    refine den_region rfl ?_
    refine WL_v (v_move rfl) rfl ?_
    refine WL_v (v_move rfl) rfl ?_
    refine WL_v (v_convn Tryz.underlying148 Tryz.underlying5 rfl rfl) rfl ?_
    refine WL_v (v_orn (n := 128) rfl rfl rfl (Nat.mod_lt _ (by decide)) (by decide)) rfl ?_
    rw [or128n u]
    refine WL_buildSlice Tryz.underlying53 zer5 rfl siz5 rfl rfl rfl rfl rfl fun b13 => ?_
    refine WL_freeze fun h13 hl13 hb13 => ?_
    refine WL_append Tryz.underlying53 Tryz.underlying53 (.inr ⟨_, rfl⟩) siz5 byt5 (by decide) zer5 rfl rfl rfl rfl ho (Src.per (n := 1) (us := [byteV (UInt8.ofNat (u % 128 + 128))]) hb13 (by rw [byteV_nat (by omega)]; rfl)) rfl (by omega) rfl fun v2 L2 ho2 => ?_
    refine WL_v (v_assign rfl) rfl ?_
    refine WL_nil ?_
    refine den_blk ?_
    -- region 2
    refine den_region rfl ?_
    refine WL_v (v_move rfl) rfl ?_
    refine WL_v (v_shrn (s := 7) rfl rfl (by show _ < 18446744073709551616; omega)) rfl ?_
    refine WL_v (v_assign rfl) rfl ?_
    refine WL_nil ?_
    refine den_again ⟨rfl, (v2, u / 2 ^ 7, ys ++ [UInt8.ofNat (u % 128 + 128)], L2), (by show u / 2 ^ 7 < u; omega), (sub_cons rfl (sub_cons rfl sub_nil)), ⟨by omega, by rw [hys, num_hi (by omega), List.append_assoc]; rfl, hle.trans hl13, rfl, by rw [← List.append_assoc, List.map_append, List.length_append]; exact ho2⟩⟩
  · skip
    refine den_exit rfl ?_
    refine den_seq ?_
    -- region 4
    refine den_region rfl ?_
    refine WL_v (v_move rfl) rfl ?_
    refine WL_v (v_move rfl) rfl ?_
    refine WL_v (v_convn Tryz.underlying148 Tryz.underlying5 rfl rfl) rfl ?_
    rw [show u % 2 ^ IntKind.u8.bits = u from Nat.mod_eq_of_lt (by show u < 256; omega)]
    refine WL_buildSlice Tryz.underlying53 zer5 rfl siz5 rfl rfl rfl rfl rfl fun b18 => ?_
    refine WL_freeze fun h18 hl18 hb18 => ?_
    refine WL_append Tryz.underlying53 Tryz.underlying53 (.inr ⟨_, rfl⟩) siz5 byt5 (by decide) zer5 rfl rfl rfl rfl ho (Src.per (n := 1) (us := [byteV (UInt8.ofNat u)]) hb18 (by rw [byteV_nat (by omega)]; rfl)) rfl (by omega) rfl fun v2 L2 ho2 => ?_
    refine WL_v (v_assign rfl) rfl ?_
    refine WL_nil ?_
    refine den_ret ?_
    refine ends1 Tryz.results87 rfl (hle.trans hl18) (List.Sublist.refl _) ?_
    rw [hys, num_lo (by omega), ← List.append_assoc, List.map_append, List.length_append]
    exact ho2

theorem formed1 (n : Int) (h : Heap) : Fn0 Tryz.prog 85 [.agg ⟨[.int .i64 1, .int .i64 n, noStr, .slice none 0 0]⟩] h (.tuple ⟨[.int .i64 ((0 : Nat) : Int), .bool true]⟩) := by
  refine Tr_of Tryz.func85 rfl rfl Tryz.ntmps85 rfl [(0, .agg ⟨[.int .i64 1, .int .i64 n, noStr, .slice none 0 0]⟩)] rfl ?_
  intro Lf
  refine den_seq ?_
  -- region 0
  refine den_region rfl ?_
  refine WL_box (zs := [.int .i64 1, .int .i64 n, noStr, .slice none 0 0]) rfl rfl rfl fun b1 => ?_
  refine WL_freeze fun h1 hl1 hb1 => ?_
  refine WL_v (v_assign rfl) rfl ?_
  refine WL_v (v_assign rfl) rfl ?_
  refine WL_nil ?_
  refine den_seq ?_
  -- region 1
  refine den_region rfl ?_
  refine WL_v (v_faddr Tryz.underlying58 rfl siz9 rfl) rfl ?_
  refine WL_v (v_load1 one9 rfl (by first | exact Kn.own 0 rfl | exact Kn.own 1 rfl | exact Kn.own 2 rfl | exact Kn.own 3 rfl | exact Kn.own 4 rfl | exact Kn.own 5 rfl | exact Kn.per ‹_›) rfl) rfl ?_
  refine WL_v (v_sself rfl rfl) rfl ?_
  refine WL_v (v_move rfl) rfl ?_
  refine WL_vg rfl rfl (v_faddr Tryz.underlying58 rfl siz56 rfl) rfl ?_
  refine WL_vg rfl rfl (v_load1 one56 rfl (by first | exact Kn.own 0 rfl | exact Kn.own 1 rfl | exact Kn.own 2 rfl | exact Kn.own 3 rfl | exact Kn.own 4 rfl | exact Kn.own 5 rfl | exact Kn.per ‹_›) rfl) rfl ?_
  refine WL_vg rfl rfl (v_lens Tryz.underlying56 rfl) rfl ?_
  refine WL_vg rfl rfl (OpV.to (v' := .bool true) (v_eql rfl rfl) (by first | rfl | simp)) rfl ?_
  refine WL_v (v_pickt rfl rfl) rfl ?_
  refine WL_v (v_faddr Tryz.underlying58 rfl siz3 rfl) rfl ?_
  refine WL_v (v_load1 one3 rfl (by first | exact Kn.own 0 rfl | exact Kn.own 1 rfl | exact Kn.own 2 rfl | exact Kn.own 3 rfl | exact Kn.own 4 rfl | exact Kn.own 5 rfl | exact Kn.per ‹_›) rfl) rfl ?_
  refine WL_v (v_eql rfl rfl) rfl ?_
  refine WL_v (v_move rfl) rfl ?_
  first | refine WL_split (t := 21) rfl ?_ ?_
  · intro c1; try have c1 := of_decide_eq_true c1
    refine WL_vg rfl rfl (v_faddr Tryz.underlying58 rfl siz56 rfl) rfl ?_
    refine WL_vg rfl rfl (v_load1 one56 rfl (by first | exact Kn.own 0 rfl | exact Kn.own 1 rfl | exact Kn.own 2 rfl | exact Kn.own 3 rfl | exact Kn.own 4 rfl | exact Kn.own 5 rfl | exact Kn.per ‹_›) rfl) rfl ?_
    refine WL_vg rfl rfl (v_lens Tryz.underlying56 rfl) rfl ?_
    refine WL_vg rfl rfl (OpV.to (v' := .bool true) (v_eql rfl rfl) (by first | rfl | simp)) rfl ?_
    refine WL_v (v_pickt rfl rfl) rfl ?_
    refine WL_v (v_faddr Tryz.underlying58 rfl siz3 rfl) rfl ?_
    refine WL_v (v_load1 one3 rfl (by first | exact Kn.own 0 rfl | exact Kn.own 1 rfl | exact Kn.own 2 rfl | exact Kn.own 3 rfl | exact Kn.own 4 rfl | exact Kn.own 5 rfl | exact Kn.per ‹_›) rfl) rfl ?_
    refine WL_v (v_eql rfl rfl) rfl ?_
    refine WL_v (v_move rfl) rfl ?_
    first | refine WL_split (t := 30) rfl ?_ ?_
    · intro c3; try have c3 := of_decide_eq_true c3
      refine WL_vg rfl rfl (v_faddr Tryz.underlying58 rfl siz9 rfl) rfl ?_
      refine WL_vg rfl rfl (v_load1 one9 rfl (by first | exact Kn.own 0 rfl | exact Kn.own 1 rfl | exact Kn.own 2 rfl | exact Kn.own 3 rfl | exact Kn.own 4 rfl | exact Kn.own 5 rfl | exact Kn.per ‹_›) rfl) rfl ?_
      refine WL_vg rfl rfl (v_sself rfl rfl) rfl ?_
      refine WL_v (v_pickt rfl rfl) rfl ?_
      refine WL_v (v_builda Tryz.underlying188 zer188 siz4 rfl rfl) rfl ?_
      refine WL_alloc zer188 rfl rfl fun b4 => ?_
      refine WL_store0 rfl rfl rfl siz188 rfl rfl rfl ?_
      refine WL_nil ?_
      refine den_seq ?_
      refine den_seq ?_
      -- region 2
      refine den_region rfl ?_
      refine WL_v (v_faddr Tryz.underlying58 rfl siz3 rfl) rfl ?_
      refine WL_v (v_load1 one3 rfl (by first | exact Kn.own 0 rfl | exact Kn.own 1 rfl | exact Kn.own 2 rfl | exact Kn.own 3 rfl | exact Kn.own 4 rfl | exact Kn.own 5 rfl | exact Kn.per ‹_›) rfl) rfl ?_
      refine WL_v (OpV.to (v' := .bool false) (v_lss rfl rfl) (by first | rfl | simp)) rfl ?_
      refine WL_v (v_move rfl) rfl ?_
      refine WL_vg rfl rfl (v_faddr Tryz.underlying58 rfl siz3 rfl) rfl ?_
      refine WL_vg rfl rfl (v_load1 one3 rfl (by first | exact Kn.own 0 rfl | exact Kn.own 1 rfl | exact Kn.own 2 rfl | exact Kn.own 3 rfl | exact Kn.own 4 rfl | exact Kn.own 5 rfl | exact Kn.per ‹_›) rfl) rfl ?_
      refine WL_vg rfl rfl (OpV.to (v' := .bool false) (v_gtr rfl rfl) (by first | rfl | simp)) rfl ?_
      refine WL_v (v_pickf rfl rfl) rfl ?_
      refine WL_v (v_move rfl) rfl ?_
      refine WL_vg rfl rfl (v_faddr Tryz.underlying58 rfl siz3 rfl) rfl ?_
      refine WL_vg rfl rfl (v_load1 one3 rfl (by first | exact Kn.own 0 rfl | exact Kn.own 1 rfl | exact Kn.own 2 rfl | exact Kn.own 3 rfl | exact Kn.own 4 rfl | exact Kn.own 5 rfl | exact Kn.per ‹_›) rfl) rfl ?_
      refine WL_vg rfl rfl (v_iaddra (n := 1) Tryz.underlying188 siz4 rfl rfl rfl (by decide)) rfl ?_
      refine WL_vg rfl rfl (OpV.to (v' := .bool true) (v_load1 one4 rfl (by first | exact Kn.own 0 rfl | exact Kn.own 1 rfl | exact Kn.own 2 rfl | exact Kn.own 3 rfl | exact Kn.own 4 rfl | exact Kn.own 5 rfl | exact Kn.per ‹_›) rfl) (by first | rfl | simp)) rfl ?_
      first | refine WL_vg rfl rfl (v_notd rfl) rfl ?_ | refine WL_vg rfl rfl (v_not rfl) rfl ?_
      refine WL_v (v_pickf rfl rfl) rfl ?_
      refine WL_nil ?_
      refine den_false rfl ?_
      refine den_skip ?_
      refine den_seq ?_
      refine den_seq ?_
      -- region 4
      refine den_region rfl ?_
      refine WL_v (v_faddr Tryz.underlying58 rfl siz3 rfl) rfl ?_
      refine WL_v (v_load1 one3 rfl (by first | exact Kn.own 0 rfl | exact Kn.own 1 rfl | exact Kn.own 2 rfl | exact Kn.own 3 rfl | exact Kn.own 4 rfl | exact Kn.own 5 rfl | exact Kn.per ‹_›) rfl) rfl ?_
      refine WL_v (OpV.to (v' := .bool true) (v_lss rfl rfl) (by first | rfl | simp)) rfl ?_
      refine WL_nil ?_
      refine den_true rfl ?_
      refine den_seq ?_
      -- region 5
      refine den_region rfl ?_
      refine WL_v (v_assign rfl) rfl ?_
      refine WL_v (v_assign rfl) rfl ?_
      refine WL_nil ?_
      refine den_ret ?_
      exact ends2 Tryz.results85 rfl rfl hl1 (.cons _ (List.Sublist.refl _)) ⟨rfl, rfl⟩
    · intro c4; try have c4 := of_decide_eq_false c4
      refine WL_skip (j := 21) (t := 30) (b := false) rfl rfl rfl rfl ?_
      refine WL_skip (j := 21) (t := 30) (b := false) rfl rfl rfl rfl ?_
      refine WL_skip (j := 21) (t := 30) (b := false) rfl rfl rfl rfl ?_
      refine WL_v (v_pickf rfl rfl) rfl ?_
      refine WL_v (v_builda Tryz.underlying188 zer188 siz4 rfl rfl) rfl ?_
      refine WL_alloc zer188 rfl rfl fun b4 => ?_
      refine WL_store0 rfl rfl rfl siz188 rfl rfl rfl ?_
      refine WL_nil ?_
      refine den_seq ?_
      refine den_seq ?_
      -- region 2
      refine den_region rfl ?_
      refine WL_v (v_faddr Tryz.underlying58 rfl siz3 rfl) rfl ?_
      refine WL_v (v_load1 one3 rfl (by first | exact Kn.own 0 rfl | exact Kn.own 1 rfl | exact Kn.own 2 rfl | exact Kn.own 3 rfl | exact Kn.own 4 rfl | exact Kn.own 5 rfl | exact Kn.per ‹_›) rfl) rfl ?_
      refine WL_v (OpV.to (v' := .bool false) (v_lss rfl rfl) (by first | rfl | simp)) rfl ?_
      refine WL_v (v_move rfl) rfl ?_
      refine WL_vg rfl rfl (v_faddr Tryz.underlying58 rfl siz3 rfl) rfl ?_
      refine WL_vg rfl rfl (v_load1 one3 rfl (by first | exact Kn.own 0 rfl | exact Kn.own 1 rfl | exact Kn.own 2 rfl | exact Kn.own 3 rfl | exact Kn.own 4 rfl | exact Kn.own 5 rfl | exact Kn.per ‹_›) rfl) rfl ?_
      refine WL_vg rfl rfl (OpV.to (v' := .bool false) (v_gtr rfl rfl) (by first | rfl | simp)) rfl ?_
      refine WL_v (v_pickf rfl rfl) rfl ?_
      refine WL_v (v_move rfl) rfl ?_
      refine WL_vg rfl rfl (v_faddr Tryz.underlying58 rfl siz3 rfl) rfl ?_
      refine WL_vg rfl rfl (v_load1 one3 rfl (by first | exact Kn.own 0 rfl | exact Kn.own 1 rfl | exact Kn.own 2 rfl | exact Kn.own 3 rfl | exact Kn.own 4 rfl | exact Kn.own 5 rfl | exact Kn.per ‹_›) rfl) rfl ?_
      refine WL_vg rfl rfl (v_iaddra (n := 1) Tryz.underlying188 siz4 rfl rfl rfl (by decide)) rfl ?_
      refine WL_vg rfl rfl (OpV.to (v' := .bool true) (v_load1 one4 rfl (by first | exact Kn.own 0 rfl | exact Kn.own 1 rfl | exact Kn.own 2 rfl | exact Kn.own 3 rfl | exact Kn.own 4 rfl | exact Kn.own 5 rfl | exact Kn.per ‹_›) rfl) (by first | rfl | simp)) rfl ?_
      first | refine WL_vg rfl rfl (v_notd rfl) rfl ?_ | refine WL_vg rfl rfl (v_not rfl) rfl ?_
      refine WL_v (v_pickf rfl rfl) rfl ?_
      refine WL_nil ?_
      refine den_false rfl ?_
      refine den_skip ?_
      refine den_seq ?_
      refine den_seq ?_
      -- region 4
      refine den_region rfl ?_
      refine WL_v (v_faddr Tryz.underlying58 rfl siz3 rfl) rfl ?_
      refine WL_v (v_load1 one3 rfl (by first | exact Kn.own 0 rfl | exact Kn.own 1 rfl | exact Kn.own 2 rfl | exact Kn.own 3 rfl | exact Kn.own 4 rfl | exact Kn.own 5 rfl | exact Kn.per ‹_›) rfl) rfl ?_
      refine WL_v (OpV.to (v' := .bool true) (v_lss rfl rfl) (by first | rfl | simp)) rfl ?_
      refine WL_nil ?_
      refine den_true rfl ?_
      refine den_seq ?_
      -- region 5
      refine den_region rfl ?_
      refine WL_v (v_assign rfl) rfl ?_
      refine WL_v (v_assign rfl) rfl ?_
      refine WL_nil ?_
      refine den_ret ?_
      exact ends2 Tryz.results85 rfl rfl hl1 (.cons _ (List.Sublist.refl _)) ⟨rfl, rfl⟩
  · intro c2; try have c2 := of_decide_eq_false c2
    refine WL_skip (j := 12) (t := 21) (b := false) rfl rfl rfl rfl ?_
    refine WL_skip (j := 12) (t := 21) (b := false) rfl rfl rfl rfl ?_
    refine WL_skip (j := 12) (t := 21) (b := false) rfl rfl rfl rfl ?_
    refine WL_skip (j := 12) (t := 21) (b := false) rfl rfl rfl rfl ?_
    refine WL_v (v_pickf rfl rfl) rfl ?_
    refine WL_v (v_faddr Tryz.underlying58 rfl siz3 rfl) rfl ?_
    refine WL_v (v_load1 one3 rfl (by first | exact Kn.own 0 rfl | exact Kn.own 1 rfl | exact Kn.own 2 rfl | exact Kn.own 3 rfl | exact Kn.own 4 rfl | exact Kn.own 5 rfl | exact Kn.per ‹_›) rfl) rfl ?_
    refine WL_v (v_eql rfl rfl) rfl ?_
    refine WL_v (v_move rfl) rfl ?_
    first | refine WL_split (t := 30) rfl ?_ ?_
    · intro c5; try have c5 := of_decide_eq_true c5
      refine WL_vg rfl rfl (v_faddr Tryz.underlying58 rfl siz9 rfl) rfl ?_
      refine WL_vg rfl rfl (v_load1 one9 rfl (by first | exact Kn.own 0 rfl | exact Kn.own 1 rfl | exact Kn.own 2 rfl | exact Kn.own 3 rfl | exact Kn.own 4 rfl | exact Kn.own 5 rfl | exact Kn.per ‹_›) rfl) rfl ?_
      refine WL_vg rfl rfl (v_sself rfl rfl) rfl ?_
      refine WL_v (v_pickt rfl rfl) rfl ?_
      refine WL_v (v_builda Tryz.underlying188 zer188 siz4 rfl rfl) rfl ?_
      refine WL_alloc zer188 rfl rfl fun b4 => ?_
      refine WL_store0 rfl rfl rfl siz188 rfl rfl rfl ?_
      refine WL_nil ?_
      refine den_seq ?_
      refine den_seq ?_
      -- region 2
      refine den_region rfl ?_
      refine WL_v (v_faddr Tryz.underlying58 rfl siz3 rfl) rfl ?_
      refine WL_v (v_load1 one3 rfl (by first | exact Kn.own 0 rfl | exact Kn.own 1 rfl | exact Kn.own 2 rfl | exact Kn.own 3 rfl | exact Kn.own 4 rfl | exact Kn.own 5 rfl | exact Kn.per ‹_›) rfl) rfl ?_
      refine WL_v (OpV.to (v' := .bool false) (v_lss rfl rfl) (by first | rfl | simp)) rfl ?_
      refine WL_v (v_move rfl) rfl ?_
      refine WL_vg rfl rfl (v_faddr Tryz.underlying58 rfl siz3 rfl) rfl ?_
      refine WL_vg rfl rfl (v_load1 one3 rfl (by first | exact Kn.own 0 rfl | exact Kn.own 1 rfl | exact Kn.own 2 rfl | exact Kn.own 3 rfl | exact Kn.own 4 rfl | exact Kn.own 5 rfl | exact Kn.per ‹_›) rfl) rfl ?_
      refine WL_vg rfl rfl (OpV.to (v' := .bool false) (v_gtr rfl rfl) (by first | rfl | simp)) rfl ?_
      refine WL_v (v_pickf rfl rfl) rfl ?_
      refine WL_v (v_move rfl) rfl ?_
      refine WL_vg rfl rfl (v_faddr Tryz.underlying58 rfl siz3 rfl) rfl ?_
      refine WL_vg rfl rfl (v_load1 one3 rfl (by first | exact Kn.own 0 rfl | exact Kn.own 1 rfl | exact Kn.own 2 rfl | exact Kn.own 3 rfl | exact Kn.own 4 rfl | exact Kn.own 5 rfl | exact Kn.per ‹_›) rfl) rfl ?_
      refine WL_vg rfl rfl (v_iaddra (n := 1) Tryz.underlying188 siz4 rfl rfl rfl (by decide)) rfl ?_
      refine WL_vg rfl rfl (OpV.to (v' := .bool true) (v_load1 one4 rfl (by first | exact Kn.own 0 rfl | exact Kn.own 1 rfl | exact Kn.own 2 rfl | exact Kn.own 3 rfl | exact Kn.own 4 rfl | exact Kn.own 5 rfl | exact Kn.per ‹_›) rfl) (by first | rfl | simp)) rfl ?_
      first | refine WL_vg rfl rfl (v_notd rfl) rfl ?_ | refine WL_vg rfl rfl (v_not rfl) rfl ?_
      refine WL_v (v_pickf rfl rfl) rfl ?_
      refine WL_nil ?_
      refine den_false rfl ?_
      refine den_skip ?_
      refine den_seq ?_
      refine den_seq ?_
      -- region 4
      refine den_region rfl ?_
      refine WL_v (v_faddr Tryz.underlying58 rfl siz3 rfl) rfl ?_
      refine WL_v (v_load1 one3 rfl (by first | exact Kn.own 0 rfl | exact Kn.own 1 rfl | exact Kn.own 2 rfl | exact Kn.own 3 rfl | exact Kn.own 4 rfl | exact Kn.own 5 rfl | exact Kn.per ‹_›) rfl) rfl ?_
      refine WL_v (OpV.to (v' := .bool true) (v_lss rfl rfl) (by first | rfl | simp)) rfl ?_
      refine WL_nil ?_
      refine den_true rfl ?_
      refine den_seq ?_
      -- region 5
      refine den_region rfl ?_
      refine WL_v (v_assign rfl) rfl ?_
      refine WL_v (v_assign rfl) rfl ?_
      refine WL_nil ?_
      refine den_ret ?_
      exact ends2 Tryz.results85 rfl rfl hl1 (.cons _ (List.Sublist.refl _)) ⟨rfl, rfl⟩
    · intro c6; try have c6 := of_decide_eq_false c6
      refine WL_skip (j := 21) (t := 30) (b := false) rfl rfl rfl rfl ?_
      refine WL_skip (j := 21) (t := 30) (b := false) rfl rfl rfl rfl ?_
      refine WL_skip (j := 21) (t := 30) (b := false) rfl rfl rfl rfl ?_
      refine WL_v (v_pickf rfl rfl) rfl ?_
      refine WL_v (v_builda Tryz.underlying188 zer188 siz4 rfl rfl) rfl ?_
      refine WL_alloc zer188 rfl rfl fun b4 => ?_
      refine WL_store0 rfl rfl rfl siz188 rfl rfl rfl ?_
      refine WL_nil ?_
      refine den_seq ?_
      refine den_seq ?_
      -- region 2
      refine den_region rfl ?_
      refine WL_v (v_faddr Tryz.underlying58 rfl siz3 rfl) rfl ?_
      refine WL_v (v_load1 one3 rfl (by first | exact Kn.own 0 rfl | exact Kn.own 1 rfl | exact Kn.own 2 rfl | exact Kn.own 3 rfl | exact Kn.own 4 rfl | exact Kn.own 5 rfl | exact Kn.per ‹_›) rfl) rfl ?_
      refine WL_v (OpV.to (v' := .bool false) (v_lss rfl rfl) (by first | rfl | simp)) rfl ?_
      refine WL_v (v_move rfl) rfl ?_
      refine WL_vg rfl rfl (v_faddr Tryz.underlying58 rfl siz3 rfl) rfl ?_
      refine WL_vg rfl rfl (v_load1 one3 rfl (by first | exact Kn.own 0 rfl | exact Kn.own 1 rfl | exact Kn.own 2 rfl | exact Kn.own 3 rfl | exact Kn.own 4 rfl | exact Kn.own 5 rfl | exact Kn.per ‹_›) rfl) rfl ?_
      refine WL_vg rfl rfl (OpV.to (v' := .bool false) (v_gtr rfl rfl) (by first | rfl | simp)) rfl ?_
      refine WL_v (v_pickf rfl rfl) rfl ?_
      refine WL_v (v_move rfl) rfl ?_
      refine WL_vg rfl rfl (v_faddr Tryz.underlying58 rfl siz3 rfl) rfl ?_
      refine WL_vg rfl rfl (v_load1 one3 rfl (by first | exact Kn.own 0 rfl | exact Kn.own 1 rfl | exact Kn.own 2 rfl | exact Kn.own 3 rfl | exact Kn.own 4 rfl | exact Kn.own 5 rfl | exact Kn.per ‹_›) rfl) rfl ?_
      refine WL_vg rfl rfl (v_iaddra (n := 1) Tryz.underlying188 siz4 rfl rfl rfl (by decide)) rfl ?_
      refine WL_vg rfl rfl (OpV.to (v' := .bool true) (v_load1 one4 rfl (by first | exact Kn.own 0 rfl | exact Kn.own 1 rfl | exact Kn.own 2 rfl | exact Kn.own 3 rfl | exact Kn.own 4 rfl | exact Kn.own 5 rfl | exact Kn.per ‹_›) rfl) (by first | rfl | simp)) rfl ?_
      first | refine WL_vg rfl rfl (v_notd rfl) rfl ?_ | refine WL_vg rfl rfl (v_not rfl) rfl ?_
      refine WL_v (v_pickf rfl rfl) rfl ?_
      refine WL_nil ?_
      refine den_false rfl ?_
      refine den_skip ?_
      refine den_seq ?_
      refine den_seq ?_
      -- region 4
      refine den_region rfl ?_
      refine WL_v (v_faddr Tryz.underlying58 rfl siz3 rfl) rfl ?_
      refine WL_v (v_load1 one3 rfl (by first | exact Kn.own 0 rfl | exact Kn.own 1 rfl | exact Kn.own 2 rfl | exact Kn.own 3 rfl | exact Kn.own 4 rfl | exact Kn.own 5 rfl | exact Kn.per ‹_›) rfl) rfl ?_
      refine WL_v (OpV.to (v' := .bool true) (v_lss rfl rfl) (by first | rfl | simp)) rfl ?_
      refine WL_nil ?_
      refine den_true rfl ?_
      refine den_seq ?_
      -- region 5
      refine den_region rfl ?_
      refine WL_v (v_assign rfl) rfl ?_
      refine WL_v (v_assign rfl) rfl ?_
      refine WL_nil ?_
      refine den_ret ?_
      exact ends2 Tryz.results85 rfl rfl hl1 (.cons _ (List.Sublist.refl _)) ⟨rfl, rfl⟩

theorem formed2 (s : ByteArray) (h : Heap) : Fn0 Tryz.prog 85 [.agg ⟨[.int .i64 2, .int .i64 0, .string s, .slice none 0 0]⟩] h (.tuple ⟨[.int .i64 ((0 : Nat) : Int), .bool true]⟩) := by
  refine Tr_of Tryz.func85 rfl rfl Tryz.ntmps85 rfl [(0, .agg ⟨[.int .i64 2, .int .i64 0, .string s, .slice none 0 0]⟩)] rfl ?_
  intro Lf
  refine den_seq ?_
  -- region 0
  refine den_region rfl ?_
  refine WL_box (zs := [.int .i64 2, .int .i64 0, .string s, .slice none 0 0]) rfl rfl rfl fun b1 => ?_
  refine WL_freeze fun h1 hl1 hb1 => ?_
  refine WL_v (v_assign rfl) rfl ?_
  refine WL_v (v_assign rfl) rfl ?_
  refine WL_nil ?_
  refine den_seq ?_
  -- region 1
  refine den_region rfl ?_
  refine WL_v (v_faddr Tryz.underlying58 rfl siz9 rfl) rfl ?_
  refine WL_v (v_load1 one9 rfl (by first | exact Kn.own 0 rfl | exact Kn.own 1 rfl | exact Kn.own 2 rfl | exact Kn.own 3 rfl | exact Kn.own 4 rfl | exact Kn.own 5 rfl | exact Kn.per ‹_›) rfl) rfl ?_
  refine WL_v (v_seql rfl rfl) rfl ?_
  refine WL_v (v_move rfl) rfl ?_
  first | refine WL_split (t := 12) rfl ?_ ?_
  · intro c1; try have c1 := of_decide_eq_true c1
    refine WL_vg rfl rfl (v_faddr Tryz.underlying58 rfl siz56 rfl) rfl ?_
    refine WL_vg rfl rfl (v_load1 one56 rfl (by first | exact Kn.own 0 rfl | exact Kn.own 1 rfl | exact Kn.own 2 rfl | exact Kn.own 3 rfl | exact Kn.own 4 rfl | exact Kn.own 5 rfl | exact Kn.per ‹_›) rfl) rfl ?_
    refine WL_vg rfl rfl (v_lens Tryz.underlying56 rfl) rfl ?_
    refine WL_vg rfl rfl (OpV.to (v' := .bool true) (v_eql rfl rfl) (by first | rfl | simp)) rfl ?_
    refine WL_v (v_pickt rfl rfl) rfl ?_
    refine WL_v (v_faddr Tryz.underlying58 rfl siz3 rfl) rfl ?_
    refine WL_v (v_load1 one3 rfl (by first | exact Kn.own 0 rfl | exact Kn.own 1 rfl | exact Kn.own 2 rfl | exact Kn.own 3 rfl | exact Kn.own 4 rfl | exact Kn.own 5 rfl | exact Kn.per ‹_›) rfl) rfl ?_
    refine WL_v (OpV.to (v' := .bool true) (v_eql rfl rfl) (by first | rfl | simp)) rfl ?_
    refine WL_v (v_move rfl) rfl ?_
    refine WL_vg rfl rfl (v_faddr Tryz.underlying58 rfl siz56 rfl) rfl ?_
    refine WL_vg rfl rfl (v_load1 one56 rfl (by first | exact Kn.own 0 rfl | exact Kn.own 1 rfl | exact Kn.own 2 rfl | exact Kn.own 3 rfl | exact Kn.own 4 rfl | exact Kn.own 5 rfl | exact Kn.per ‹_›) rfl) rfl ?_
    refine WL_vg rfl rfl (v_lens Tryz.underlying56 rfl) rfl ?_
    refine WL_vg rfl rfl (OpV.to (v' := .bool true) (v_eql rfl rfl) (by first | rfl | simp)) rfl ?_
    refine WL_v (v_pickt rfl rfl) rfl ?_
    refine WL_v (v_faddr Tryz.underlying58 rfl siz3 rfl) rfl ?_
    refine WL_v (v_load1 one3 rfl (by first | exact Kn.own 0 rfl | exact Kn.own 1 rfl | exact Kn.own 2 rfl | exact Kn.own 3 rfl | exact Kn.own 4 rfl | exact Kn.own 5 rfl | exact Kn.per ‹_›) rfl) rfl ?_
    refine WL_v (OpV.to (v' := .bool true) (v_eql rfl rfl) (by first | rfl | simp)) rfl ?_
    refine WL_v (v_move rfl) rfl ?_
    refine WL_vg rfl rfl (v_faddr Tryz.underlying58 rfl siz9 rfl) rfl ?_
    refine WL_vg rfl rfl (v_load1 one9 rfl (by first | exact Kn.own 0 rfl | exact Kn.own 1 rfl | exact Kn.own 2 rfl | exact Kn.own 3 rfl | exact Kn.own 4 rfl | exact Kn.own 5 rfl | exact Kn.per ‹_›) rfl) rfl ?_
    refine WL_vg rfl rfl (v_seql rfl rfl) rfl ?_
    refine WL_v (v_pickt rfl rfl) rfl ?_
    refine WL_v (v_builda Tryz.underlying188 zer188 siz4 rfl rfl) rfl ?_
    refine WL_alloc zer188 rfl rfl fun b4 => ?_
    refine WL_store0 rfl rfl rfl siz188 rfl rfl rfl ?_
    refine WL_nil ?_
    refine den_seq ?_
    refine den_seq ?_
    -- region 2
    refine den_region rfl ?_
    refine WL_v (v_faddr Tryz.underlying58 rfl siz3 rfl) rfl ?_
    refine WL_v (v_load1 one3 rfl (by first | exact Kn.own 0 rfl | exact Kn.own 1 rfl | exact Kn.own 2 rfl | exact Kn.own 3 rfl | exact Kn.own 4 rfl | exact Kn.own 5 rfl | exact Kn.per ‹_›) rfl) rfl ?_
    refine WL_v (OpV.to (v' := .bool false) (v_lss rfl rfl) (by first | rfl | simp)) rfl ?_
    refine WL_v (v_move rfl) rfl ?_
    refine WL_vg rfl rfl (v_faddr Tryz.underlying58 rfl siz3 rfl) rfl ?_
    refine WL_vg rfl rfl (v_load1 one3 rfl (by first | exact Kn.own 0 rfl | exact Kn.own 1 rfl | exact Kn.own 2 rfl | exact Kn.own 3 rfl | exact Kn.own 4 rfl | exact Kn.own 5 rfl | exact Kn.per ‹_›) rfl) rfl ?_
    refine WL_vg rfl rfl (OpV.to (v' := .bool false) (v_gtr rfl rfl) (by first | rfl | simp)) rfl ?_
    refine WL_v (v_pickf rfl rfl) rfl ?_
    refine WL_v (v_move rfl) rfl ?_
    refine WL_vg rfl rfl (v_faddr Tryz.underlying58 rfl siz3 rfl) rfl ?_
    refine WL_vg rfl rfl (v_load1 one3 rfl (by first | exact Kn.own 0 rfl | exact Kn.own 1 rfl | exact Kn.own 2 rfl | exact Kn.own 3 rfl | exact Kn.own 4 rfl | exact Kn.own 5 rfl | exact Kn.per ‹_›) rfl) rfl ?_
    refine WL_vg rfl rfl (v_iaddra (n := 2) Tryz.underlying188 siz4 rfl rfl rfl (by decide)) rfl ?_
    refine WL_vg rfl rfl (OpV.to (v' := .bool true) (v_load1 one4 rfl (by first | exact Kn.own 0 rfl | exact Kn.own 1 rfl | exact Kn.own 2 rfl | exact Kn.own 3 rfl | exact Kn.own 4 rfl | exact Kn.own 5 rfl | exact Kn.per ‹_›) rfl) (by first | rfl | simp)) rfl ?_
    first | refine WL_vg rfl rfl (v_notd rfl) rfl ?_ | refine WL_vg rfl rfl (v_not rfl) rfl ?_
    refine WL_v (v_pickf rfl rfl) rfl ?_
    refine WL_nil ?_
    refine den_false rfl ?_
    refine den_skip ?_
    refine den_seq ?_
    refine den_seq ?_
    -- region 4
    refine den_region rfl ?_
    refine WL_v (v_faddr Tryz.underlying58 rfl siz3 rfl) rfl ?_
    refine WL_v (v_load1 one3 rfl (by first | exact Kn.own 0 rfl | exact Kn.own 1 rfl | exact Kn.own 2 rfl | exact Kn.own 3 rfl | exact Kn.own 4 rfl | exact Kn.own 5 rfl | exact Kn.per ‹_›) rfl) rfl ?_
    refine WL_v (OpV.to (v' := .bool true) (v_lss rfl rfl) (by first | rfl | simp)) rfl ?_
    refine WL_nil ?_
    refine den_true rfl ?_
    refine den_seq ?_
    -- region 5
    refine den_region rfl ?_
    refine WL_v (v_assign rfl) rfl ?_
    refine WL_v (v_assign rfl) rfl ?_
    refine WL_nil ?_
    refine den_ret ?_
    exact ends2 Tryz.results85 rfl rfl hl1 (.cons _ (List.Sublist.refl _)) ⟨rfl, rfl⟩
  · intro c2; try have c2 := of_decide_eq_false c2
    refine WL_skip (j := 3) (t := 12) (b := false) rfl rfl rfl rfl ?_
    refine WL_skip (j := 3) (t := 12) (b := false) rfl rfl rfl rfl ?_
    refine WL_skip (j := 3) (t := 12) (b := false) rfl rfl rfl rfl ?_
    refine WL_skip (j := 3) (t := 12) (b := false) rfl rfl rfl rfl ?_
    refine WL_v (v_pickf rfl rfl) rfl ?_
    refine WL_v (v_faddr Tryz.underlying58 rfl siz3 rfl) rfl ?_
    refine WL_v (v_load1 one3 rfl (by first | exact Kn.own 0 rfl | exact Kn.own 1 rfl | exact Kn.own 2 rfl | exact Kn.own 3 rfl | exact Kn.own 4 rfl | exact Kn.own 5 rfl | exact Kn.per ‹_›) rfl) rfl ?_
    refine WL_v (OpV.to (v' := .bool true) (v_eql rfl rfl) (by first | rfl | simp)) rfl ?_
    refine WL_v (v_move rfl) rfl ?_
    refine WL_vg rfl rfl (v_faddr Tryz.underlying58 rfl siz56 rfl) rfl ?_
    refine WL_vg rfl rfl (v_load1 one56 rfl (by first | exact Kn.own 0 rfl | exact Kn.own 1 rfl | exact Kn.own 2 rfl | exact Kn.own 3 rfl | exact Kn.own 4 rfl | exact Kn.own 5 rfl | exact Kn.per ‹_›) rfl) rfl ?_
    refine WL_vg rfl rfl (v_lens Tryz.underlying56 rfl) rfl ?_
    refine WL_vg rfl rfl (OpV.to (v' := .bool true) (v_eql rfl rfl) (by first | rfl | simp)) rfl ?_
    refine WL_v (v_pickt rfl rfl) rfl ?_
    refine WL_v (v_faddr Tryz.underlying58 rfl siz3 rfl) rfl ?_
    refine WL_v (v_load1 one3 rfl (by first | exact Kn.own 0 rfl | exact Kn.own 1 rfl | exact Kn.own 2 rfl | exact Kn.own 3 rfl | exact Kn.own 4 rfl | exact Kn.own 5 rfl | exact Kn.per ‹_›) rfl) rfl ?_
    refine WL_v (OpV.to (v' := .bool true) (v_eql rfl rfl) (by first | rfl | simp)) rfl ?_
    refine WL_v (v_move rfl) rfl ?_
    refine WL_vg rfl rfl (v_faddr Tryz.underlying58 rfl siz9 rfl) rfl ?_
    refine WL_vg rfl rfl (v_load1 one9 rfl (by first | exact Kn.own 0 rfl | exact Kn.own 1 rfl | exact Kn.own 2 rfl | exact Kn.own 3 rfl | exact Kn.own 4 rfl | exact Kn.own 5 rfl | exact Kn.per ‹_›) rfl) rfl ?_
    refine WL_vg rfl rfl (v_seql rfl rfl) rfl ?_
    refine WL_v (v_pickt rfl rfl) rfl ?_
    refine WL_v (v_builda Tryz.underlying188 zer188 siz4 rfl rfl) rfl ?_
    refine WL_alloc zer188 rfl rfl fun b4 => ?_
    refine WL_store0 rfl rfl rfl siz188 rfl rfl rfl ?_
    refine WL_nil ?_
    refine den_seq ?_
    refine den_seq ?_
    -- region 2
    refine den_region rfl ?_
    refine WL_v (v_faddr Tryz.underlying58 rfl siz3 rfl) rfl ?_
    refine WL_v (v_load1 one3 rfl (by first | exact Kn.own 0 rfl | exact Kn.own 1 rfl | exact Kn.own 2 rfl | exact Kn.own 3 rfl | exact Kn.own 4 rfl | exact Kn.own 5 rfl | exact Kn.per ‹_›) rfl) rfl ?_
    refine WL_v (OpV.to (v' := .bool false) (v_lss rfl rfl) (by first | rfl | simp)) rfl ?_
    refine WL_v (v_move rfl) rfl ?_
    refine WL_vg rfl rfl (v_faddr Tryz.underlying58 rfl siz3 rfl) rfl ?_
    refine WL_vg rfl rfl (v_load1 one3 rfl (by first | exact Kn.own 0 rfl | exact Kn.own 1 rfl | exact Kn.own 2 rfl | exact Kn.own 3 rfl | exact Kn.own 4 rfl | exact Kn.own 5 rfl | exact Kn.per ‹_›) rfl) rfl ?_
    refine WL_vg rfl rfl (OpV.to (v' := .bool false) (v_gtr rfl rfl) (by first | rfl | simp)) rfl ?_
    refine WL_v (v_pickf rfl rfl) rfl ?_
    refine WL_v (v_move rfl) rfl ?_
    refine WL_vg rfl rfl (v_faddr Tryz.underlying58 rfl siz3 rfl) rfl ?_
    refine WL_vg rfl rfl (v_load1 one3 rfl (by first | exact Kn.own 0 rfl | exact Kn.own 1 rfl | exact Kn.own 2 rfl | exact Kn.own 3 rfl | exact Kn.own 4 rfl | exact Kn.own 5 rfl | exact Kn.per ‹_›) rfl) rfl ?_
    refine WL_vg rfl rfl (v_iaddra (n := 2) Tryz.underlying188 siz4 rfl rfl rfl (by decide)) rfl ?_
    refine WL_vg rfl rfl (OpV.to (v' := .bool true) (v_load1 one4 rfl (by first | exact Kn.own 0 rfl | exact Kn.own 1 rfl | exact Kn.own 2 rfl | exact Kn.own 3 rfl | exact Kn.own 4 rfl | exact Kn.own 5 rfl | exact Kn.per ‹_›) rfl) (by first | rfl | simp)) rfl ?_
    first | refine WL_vg rfl rfl (v_notd rfl) rfl ?_ | refine WL_vg rfl rfl (v_not rfl) rfl ?_
    refine WL_v (v_pickf rfl rfl) rfl ?_
    refine WL_nil ?_
    refine den_false rfl ?_
    refine den_skip ?_
    refine den_seq ?_
    refine den_seq ?_
    -- region 4
    refine den_region rfl ?_
    refine WL_v (v_faddr Tryz.underlying58 rfl siz3 rfl) rfl ?_
    refine WL_v (v_load1 one3 rfl (by first | exact Kn.own 0 rfl | exact Kn.own 1 rfl | exact Kn.own 2 rfl | exact Kn.own 3 rfl | exact Kn.own 4 rfl | exact Kn.own 5 rfl | exact Kn.per ‹_›) rfl) rfl ?_
    refine WL_v (OpV.to (v' := .bool true) (v_lss rfl rfl) (by first | rfl | simp)) rfl ?_
    refine WL_nil ?_
    refine den_true rfl ?_
    refine den_seq ?_
    -- region 5
    refine den_region rfl ?_
    refine WL_v (v_assign rfl) rfl ?_
    refine WL_v (v_assign rfl) rfl ?_
    refine WL_nil ?_
    refine den_ret ?_
    exact ends2 Tryz.results85 rfl rfl hl1 (.cons _ (List.Sublist.refl _)) ⟨rfl, rfl⟩

theorem formed3 (h : Heap) (l : List V) (a : Option Addr) (cap : Nat) (x : Nat → List Value) (hn : l.length < 9223372036854775808) (hs : Sln h a l.length 4 x) (hd : dmax l < 4611686018427387904) (hx : ∀ i m, l[i]? = some m → VR h (x i) m) (ih : ∀ i m, l[i]? = some m → ∀ h', Heap.le h h' → Fn0 Tryz.prog 85 [.agg ⟨x i⟩] h' (.tuple ⟨[.int .i64 ((m.depth : Nat) : Int), .bool true]⟩)) : Fn0 Tryz.prog 85 [.agg ⟨[.int .i64 3, .int .i64 0, noStr, .slice a l.length cap]⟩] h (.tuple ⟨[.int .i64 ((V.depth (.list l) : Nat) : Int), .bool true]⟩) := by
  refine Tr_of Tryz.func85 rfl rfl Tryz.ntmps85 rfl [(0, .agg ⟨[.int .i64 3, .int .i64 0, noStr, .slice a l.length cap]⟩)] rfl ?_
  intro Lf
  refine den_seq ?_
  -- region 0
  refine den_region rfl ?_
  refine WL_box (zs := [.int .i64 3, .int .i64 0, noStr, .slice a l.length cap]) rfl rfl rfl fun b1 => ?_
  refine WL_freeze fun h1 hl1 hb1 => ?_
  refine WL_v (v_assign rfl) rfl ?_
  refine WL_v (v_assign rfl) rfl ?_
  refine WL_nil ?_
  refine den_seq ?_
  -- region 1
  refine den_region rfl ?_
  refine WL_v (v_faddr Tryz.underlying58 rfl siz9 rfl) rfl ?_
  refine WL_v (v_load1 one9 rfl (by first | exact Kn.own 0 rfl | exact Kn.own 1 rfl | exact Kn.own 2 rfl | exact Kn.own 3 rfl | exact Kn.own 4 rfl | exact Kn.own 5 rfl | exact Kn.per ‹_›) rfl) rfl ?_
  refine WL_v (v_sself rfl rfl) rfl ?_
  refine WL_v (v_move rfl) rfl ?_
  refine WL_vg rfl rfl (v_faddr Tryz.underlying58 rfl siz56 rfl) rfl ?_
  refine WL_vg rfl rfl (v_load1 one56 rfl (by first | exact Kn.own 0 rfl | exact Kn.own 1 rfl | exact Kn.own 2 rfl | exact Kn.own 3 rfl | exact Kn.own 4 rfl | exact Kn.own 5 rfl | exact Kn.per ‹_›) rfl) rfl ?_
  refine WL_vg rfl rfl (v_lens Tryz.underlying56 rfl) rfl ?_
  refine WL_vg rfl rfl (v_eql rfl rfl) rfl ?_
  refine WL_v (v_pickt rfl rfl) rfl ?_
  refine WL_v (v_faddr Tryz.underlying58 rfl siz3 rfl) rfl ?_
  refine WL_v (v_load1 one3 rfl (by first | exact Kn.own 0 rfl | exact Kn.own 1 rfl | exact Kn.own 2 rfl | exact Kn.own 3 rfl | exact Kn.own 4 rfl | exact Kn.own 5 rfl | exact Kn.per ‹_›) rfl) rfl ?_
  refine WL_v (OpV.to (v' := .bool true) (v_eql rfl rfl) (by first | rfl | simp)) rfl ?_
  refine WL_v (v_move rfl) rfl ?_
  refine WL_vg rfl rfl (v_faddr Tryz.underlying58 rfl siz56 rfl) rfl ?_
  refine WL_vg rfl rfl (v_load1 one56 rfl (by first | exact Kn.own 0 rfl | exact Kn.own 1 rfl | exact Kn.own 2 rfl | exact Kn.own 3 rfl | exact Kn.own 4 rfl | exact Kn.own 5 rfl | exact Kn.per ‹_›) rfl) rfl ?_
  refine WL_vg rfl rfl (v_lens Tryz.underlying56 rfl) rfl ?_
  refine WL_vg rfl rfl (v_eql rfl rfl) rfl ?_
  refine WL_v (v_pickt rfl rfl) rfl ?_
  refine WL_v (v_faddr Tryz.underlying58 rfl siz3 rfl) rfl ?_
  refine WL_v (v_load1 one3 rfl (by first | exact Kn.own 0 rfl | exact Kn.own 1 rfl | exact Kn.own 2 rfl | exact Kn.own 3 rfl | exact Kn.own 4 rfl | exact Kn.own 5 rfl | exact Kn.per ‹_›) rfl) rfl ?_
  refine WL_v (OpV.to (v' := .bool true) (v_eql rfl rfl) (by first | rfl | simp)) rfl ?_
  refine WL_v (v_move rfl) rfl ?_
  refine WL_vg rfl rfl (v_faddr Tryz.underlying58 rfl siz9 rfl) rfl ?_
  refine WL_vg rfl rfl (v_load1 one9 rfl (by first | exact Kn.own 0 rfl | exact Kn.own 1 rfl | exact Kn.own 2 rfl | exact Kn.own 3 rfl | exact Kn.own 4 rfl | exact Kn.own 5 rfl | exact Kn.per ‹_›) rfl) rfl ?_
  refine WL_vg rfl rfl (v_sself rfl rfl) rfl ?_
  refine WL_v (v_pickt rfl rfl) rfl ?_
  refine WL_v (v_builda Tryz.underlying188 zer188 siz4 rfl rfl) rfl ?_
  refine WL_alloc zer188 rfl rfl fun b4 => ?_
  refine WL_store0 rfl rfl rfl siz188 rfl rfl rfl ?_
  refine WL_nil ?_
  refine den_seq ?_
  refine den_seq ?_
  -- region 2
  refine den_region rfl ?_
  refine WL_freeze fun hB hlB hbB => ?_
  have hb1 := hlB _ _ hb1
  refine WL_v (v_faddr Tryz.underlying58 rfl siz3 rfl) rfl ?_
  refine WL_v (v_load1 one3 rfl (by first | exact Kn.own 0 rfl | exact Kn.own 1 rfl | exact Kn.own 2 rfl | exact Kn.own 3 rfl | exact Kn.own 4 rfl | exact Kn.own 5 rfl | exact Kn.per ‹_›) rfl) rfl ?_
  refine WL_v (OpV.to (v' := .bool false) (v_lss rfl rfl) (by first | rfl | simp)) rfl ?_
  refine WL_v (v_move rfl) rfl ?_
  refine WL_vg rfl rfl (v_faddr Tryz.underlying58 rfl siz3 rfl) rfl ?_
  refine WL_vg rfl rfl (v_load1 one3 rfl (by first | exact Kn.own 0 rfl | exact Kn.own 1 rfl | exact Kn.own 2 rfl | exact Kn.own 3 rfl | exact Kn.own 4 rfl | exact Kn.own 5 rfl | exact Kn.per ‹_›) rfl) rfl ?_
  refine WL_vg rfl rfl (OpV.to (v' := .bool false) (v_gtr rfl rfl) (by first | rfl | simp)) rfl ?_
  refine WL_v (v_pickf rfl rfl) rfl ?_
  refine WL_v (v_move rfl) rfl ?_
  refine WL_vg rfl rfl (v_faddr Tryz.underlying58 rfl siz3 rfl) rfl ?_
  refine WL_vg rfl rfl (v_load1 one3 rfl (by first | exact Kn.own 0 rfl | exact Kn.own 1 rfl | exact Kn.own 2 rfl | exact Kn.own 3 rfl | exact Kn.own 4 rfl | exact Kn.own 5 rfl | exact Kn.per ‹_›) rfl) rfl ?_
  refine WL_vg rfl rfl (v_iaddra (n := 3) Tryz.underlying188 siz4 rfl rfl rfl (by decide)) rfl ?_
  refine WL_vg rfl rfl (OpV.to (v' := .bool true) (v_load1 one4 rfl (by first | exact Kn.own 0 rfl | exact Kn.own 1 rfl | exact Kn.own 2 rfl | exact Kn.own 3 rfl | exact Kn.own 4 rfl | exact Kn.own 5 rfl | exact Kn.per ‹_›) rfl) (by first | rfl | simp)) rfl ?_
  first | refine WL_vg rfl rfl (v_notd rfl) rfl ?_ | refine WL_vg rfl rfl (v_not rfl) rfl ?_
  refine WL_v (v_pickf rfl rfl) rfl ?_
  refine WL_nil ?_
  refine den_false rfl ?_
  refine den_skip ?_
  refine den_seq ?_
  refine den_seq ?_
  -- region 4
  refine den_region rfl ?_
  refine WL_v (v_faddr Tryz.underlying58 rfl siz3 rfl) rfl ?_
  refine WL_v (v_load1 one3 rfl (by first | exact Kn.own 0 rfl | exact Kn.own 1 rfl | exact Kn.own 2 rfl | exact Kn.own 3 rfl | exact Kn.own 4 rfl | exact Kn.own 5 rfl | exact Kn.per ‹_›) rfl) rfl ?_
  refine WL_v (OpV.to (v' := .bool false) (v_lss rfl rfl) (by first | rfl | simp)) rfl ?_
  refine WL_nil ?_
  refine den_false rfl ?_
  refine den_skip ?_
  refine den_seq ?_
  refine den_seq ?_
  -- region 6
  refine den_region rfl ?_
  refine WL_v (v_faddr Tryz.underlying58 rfl siz56 rfl) rfl ?_
  refine WL_v (v_load1 one56 rfl (by first | exact Kn.own 0 rfl | exact Kn.own 1 rfl | exact Kn.own 2 rfl | exact Kn.own 3 rfl | exact Kn.own 4 rfl | exact Kn.own 5 rfl | exact Kn.per ‹_›) rfl) rfl ?_
  refine WL_v (v_lens Tryz.underlying56 rfl) rfl ?_
  refine WL_v (v_move rfl) rfl ?_
  refine WL_nil ?_
  refine den_block ?_
  refine den_loopI (ι := Nat) (fun i => [(2, .int .i64 ((dmax (l.take i) : Nat) : Int)), (55, .slice a l.length cap), (56, .int .i64 ((l.length : Nat) : Int)), (57, .int .i64 ((i : Nat) : Int))]) (fun i h' L' => i ≤ l.length ∧ Heap.le h1 h' ∧ hB = hB ∧ L' = Lf) (fun i => l.length - i) 0 (sub_cons rfl (sub_cons rfl (sub_cons rfl (sub_cons rfl sub_nil)))) ⟨by omega, hlB, rfl, rfl⟩ ?_
  rintro i hq _ ⟨i1, hle, _, rfl⟩
  refine den_seq ?_
  -- region 7
  refine den_region rfl ?_
  refine WL_v (v_lss rfl rfl) rfl ?_
  refine WL_nil ?_
  refine den_seq ?_
  first | refine den_ifd rfl (fun hi => ?_) (fun hi => ?_) | refine den_if rfl (fun hi => ?_) (fun hi => ?_)
  · skip
    refine den_skip ?_
    refine den_seq ?_
    refine den_block ?_
    refine den_seq ?_
    -- region 8
    refine den_region rfl ?_
    obtain ⟨b, off, all, Tl, frl, rfl, hbl, hcut⟩ := hs i (by omega)
    obtain ⟨m, hm⟩ : ∃ m, l[i]? = some m := ⟨l[i], List.getElem?_eq_getElem (by omega)⟩
    obtain ⟨hx4, hx1⟩ := (hx i m hm).four
    refine WL_v (v_iaddrs Tryz.underlying56 siz58 rfl rfl rfl (by omega)) rfl ?_
    refine WL_v (v_loadn many58 rfl (Kn.per (hle _ _ (hl1 _ _ hbl))) hcut) rfl ?_
    refine WL_alloc zer58 rfl rfl fun b6 => ?_
    refine WL_store0 rfl rfl (us := x i) rfl (by rw [hx4]; exact siz58) (spl_all (by rw [hx4]; rfl)) hx1 rfl ?_
    refine WL_freeze fun h6 hl6 hb6 => ?_
    refine WL_nil ?_
    refine den_seq ?_
    -- region 9
    refine den_region rfl ?_
    refine WL_v (v_loadn many58 rfl (Kn.per hb6) (cut_self hx4)) rfl ?_
    refine WL_callq rfl (ih i m hm _ (hl1.trans (hle.trans hl6))) rfl ?_
    refine WL_v (v_move rfl) rfl ?_
    refine WL_v (v_extract rfl rfl) rfl ?_
    refine WL_v (OpV.to (v' := .bool true) (v_extract rfl rfl) (by first | rfl | simp)) rfl ?_
    refine WL_v (v_assign rfl) rfl ?_
    refine WL_v (v_assign rfl) rfl ?_
    refine WL_nil ?_
    refine den_seq ?_
    refine den_seq ?_
    -- region 10
    refine den_region rfl ?_
    refine WL_v (v_move rfl) rfl ?_
    first | refine WL_v (v_notd rfl) rfl ?_ | refine WL_v (v_not rfl) rfl ?_
    refine WL_nil ?_
    refine den_false rfl ?_
    refine den_skip ?_
    -- region 12
    refine den_region rfl ?_
    refine WL_v (v_move rfl) rfl ?_
    refine WL_v (v_move rfl) rfl ?_
    refine WL_v (v_maxj rfl rfl) rfl ?_
    rw [← dmax_next hm]
    refine WL_v (v_assign rfl) rfl ?_
    refine WL_nil ?_
    refine den_blk ?_
    -- region 13
    refine den_region rfl ?_
    refine WL_v (v_addj (n := 1) rfl rfl (by show _ < 9223372036854775808; omega)) rfl ?_
    refine WL_v (v_move rfl) rfl ?_
    refine WL_nil ?_
    refine den_again ⟨rfl, (i + 1), (by show l.length - (i + 1) < l.length - i; omega), (sub_cons rfl (sub_cons rfl (sub_cons rfl (sub_cons rfl sub_nil)))), ⟨by omega, hle.trans hl6, rfl, rfl⟩⟩
  · skip
    have hin : i = l.length := by omega
    subst hin
    rw [List.take_length]
    refine den_exit rfl ?_
    refine den_seq ?_
    -- region 14
    refine den_region rfl ?_
    refine WL_v (v_move rfl) rfl ?_
    refine WL_v (v_addj (n := 1) rfl rfl (by show _ < 9223372036854775808; omega)) rfl ?_
    refine WL_v (v_assign rfl) rfl ?_
    refine WL_v (v_assign rfl) rfl ?_
    refine WL_nil ?_
    refine den_ret ?_
    refine ends2 Tryz.results85 rfl rfl (hl1.trans hle) (List.Sublist.refl _) ⟨?_, rfl⟩
    rw [V.depth]

theorem formed_fn {h : Heap} {cs : List Value} {m : V} (v : VR h cs m) (hd : m.depth < 4611686018427387904) : ∀ h', Heap.le h h' → Fn0 Tryz.prog 85 [.agg ⟨cs⟩] h' (.tuple ⟨[.int .i64 ((m.depth : Nat) : Int), .bool true]⟩) := by
  induction v with
  | int n h1 h2 => intro h' _; have := formed1 n h'; rwa [V.depth]
  | text s => intro h' _; have := formed2 s h'; rwa [V.depth]
  | list l a cap x hn hs hx ih =>
    intro h' hl
    have hd' : dmax l < 4611686018427387904 := by rw [V.depth] at hd; omega
    refine formed3 h' l a cap x hn (hs.le hl) hd' (fun i m hm => (hx i m hm).le hl) (fun i m hm h2 hl2 => ih i m hm (Nat.lt_of_le_of_lt (dmax_mem hm) hd') h2 (hl.trans hl2))

theorem vcheck_fn (cs : List Value) (m : V) (h : Heap) (v : VR h cs m) (hd : m.depth < 4611686018427387904) : Fn0 Tryz.prog 40 [.agg ⟨cs⟩] h (.int .i64 (if m.depth ≤ 16 then 0 else 2)) := by
  refine Tr_of Tryz.func40 rfl rfl Tryz.ntmps40 rfl [(0, .agg ⟨cs⟩)] rfl ?_
  intro Lf
  obtain ⟨hx4, hx1⟩ := v.four
  refine den_seq ?_
  -- region 0
  refine den_region rfl ?_
  refine WL_box (zs := cs) rfl rfl rfl fun b1 => ?_
  refine WL_freeze fun h1 hl1 hb1 => ?_
  refine WL_v (v_assign rfl) rfl ?_
  refine WL_nil ?_
  refine den_seq ?_
  -- region 1
  refine den_region rfl ?_
  refine WL_v (v_loadn many58 rfl (Kn.per hb1) (cut_self hx4)) rfl ?_
  refine WL_callq rfl (formed_fn v hd _ hl1) rfl ?_
  refine WL_v (v_move rfl) rfl ?_
  refine WL_v (v_extract rfl rfl) rfl ?_
  refine WL_v (OpV.to (v' := .bool true) (v_extract rfl rfl) (by first | rfl | simp)) rfl ?_
  refine WL_v (v_assign rfl) rfl ?_
  refine WL_v (v_assign rfl) rfl ?_
  refine WL_nil ?_
  refine den_seq ?_
  refine den_block ?_
  refine den_seq ?_
  -- region 2
  refine den_region rfl ?_
  refine WL_v (v_move rfl) rfl ?_
  first | refine WL_v (v_notd rfl) rfl ?_ | refine WL_v (v_not rfl) rfl ?_
  refine WL_v (v_assign rfl) rfl ?_
  refine WL_nil ?_
  refine den_false rfl ?_
  refine den_seq ?_
  -- region 4
  refine den_region rfl ?_
  refine WL_v (v_move rfl) rfl ?_
  refine WL_v (v_gtr rfl rfl) rfl ?_
  refine WL_v (v_assign rfl) rfl ?_
  refine WL_nil ?_
  first | refine den_ifd rfl (fun hgt => ?_) (fun hgt => ?_) | refine den_if rfl (fun hgt => ?_) (fun hgt => ?_)
  · skip
    refine den_seq ?_
    -- region 5
    refine den_region rfl ?_
    refine WL_v (v_assign rfl) rfl ?_
    refine WL_nil ?_
    refine den_ret ?_
    exact ends1 Tryz.results40 rfl hl1 (by simp) ⟨by first | rw [if_neg (by omega)] | rw [if_pos (by omega)], rfl⟩
  · skip
    refine den_skip ?_
    refine den_blk ?_
    refine den_seq ?_
    -- region 6
    refine den_region rfl ?_
    refine WL_v (v_assign rfl) rfl ?_
    refine WL_nil ?_
    refine den_ret ?_
    exact ends1 Tryz.results40 rfl hl1 (by simp) ⟨by first | rw [if_neg (by omega)] | rw [if_pos (by omega)], rfl⟩

/-- the writer: what is called for each kind -/
def Wr (b3 b1 : Nat) (h : Heap) : Prop := h b3 = some (.cells ⟨[.nilFunc, .func (.func 86) ⟨[]⟩ ⟨[]⟩, .func (.func 89) ⟨[]⟩ ⟨[]⟩, .func (.func 90) ⟨[]⟩ ⟨[.pointer (some ⟨b1, 0, none⟩)]⟩]⟩ 146 (0, 0)) ∧ h b1 = some (.cells ⟨[.pointer (some ⟨b3, 0, none⟩)]⟩ 96 (0, 0))
theorem Wr.le {b3 b1 : Nat} {h h' : Heap} (w : Wr b3 b1 h) (hl : Heap.le h h') : Wr b3 b1 h' := ⟨hl _ _ w.1, hl _ _ w.2⟩
theorem writer_fn (h : Heap) : Fnp Tryz.prog 41 [] h (fun v h' => ∃ b3 b1, v = .pointer (some ⟨b3, 0, none⟩) ∧ Wr b3 b1 h') := by
  refine Tr_of Tryz.func41 rfl rfl Tryz.ntmps41 rfl [] rfl ?_
  intro Lf
  refine den_seq ?_
  -- region 0
  refine den_region rfl ?_
  refine WL_v (v_assign rfl) rfl ?_
  refine WL_nil ?_
  refine den_seq ?_
  -- region 1
  refine den_region rfl ?_
  refine WL_v (v_builda Tryz.underlying146 zer146 siz95 rfl rfl) rfl ?_
  refine WL_box (zs := [.nilFunc, .nilFunc, .nilFunc, .nilFunc]) rfl rfl rfl fun b3 => ?_
  refine WL_alloc zer96 rfl rfl fun b1 => ?_
  refine WL_store0 rfl rfl rfl siz96 rfl rfl rfl ?_
  refine WL_nil ?_
  refine den_seq ?_
  -- region 2
  refine den_region rfl ?_
  refine WL_v (v_load1 one96 rfl (by first | exact Kn.own 0 rfl | exact Kn.own 1 rfl | exact Kn.own 2 rfl | exact Kn.own 3 rfl | exact Kn.own 4 rfl | exact Kn.own 5 rfl | exact Kn.per ‹_›) rfl) rfl ?_
  first | refine WL_v (v_nilfunc rfl) rfl ?_ | refine WL_v (v_nilyield rfl) rfl ?_ | refine WL_v (v_nilptr rfl) rfl ?_
  refine WL_v (v_iaddra (n := 1) Tryz.underlying146 siz95 rfl rfl rfl (by decide)) rfl ?_
  refine WL_v (v_faddr Tryz.underlying95 rfl siz93 rfl) rfl ?_
  refine WL_store1 rfl rfl rfl siz93 rfl rfl rfl ?_
  refine WL_nil ?_
  refine den_seq ?_
  -- region 3
  refine den_region rfl ?_
  refine WL_v (v_load1 one96 rfl (by first | exact Kn.own 0 rfl | exact Kn.own 1 rfl | exact Kn.own 2 rfl | exact Kn.own 3 rfl | exact Kn.own 4 rfl | exact Kn.own 5 rfl | exact Kn.per ‹_›) rfl) rfl ?_
  first | refine WL_v (v_nilfunc rfl) rfl ?_ | refine WL_v (v_nilyield rfl) rfl ?_ | refine WL_v (v_nilptr rfl) rfl ?_
  refine WL_v (v_iaddra (n := 2) Tryz.underlying146 siz95 rfl rfl rfl (by decide)) rfl ?_
  refine WL_v (v_faddr Tryz.underlying95 rfl siz93 rfl) rfl ?_
  refine WL_store1 rfl rfl rfl siz93 rfl rfl rfl ?_
  refine WL_nil ?_
  refine den_seq ?_
  -- region 4
  refine den_region rfl ?_
  refine WL_v (v_load1 one96 rfl (by first | exact Kn.own 0 rfl | exact Kn.own 1 rfl | exact Kn.own 2 rfl | exact Kn.own 3 rfl | exact Kn.own 4 rfl | exact Kn.own 5 rfl | exact Kn.per ‹_›) rfl) rfl ?_
  refine WL_v (v_func rfl rfl) rfl ?_
  first | refine WL_v (v_nilfunc rfl) rfl ?_ | refine WL_v (v_nilyield rfl) rfl ?_ | refine WL_v (v_nilptr rfl) rfl ?_
  refine WL_v (v_iaddra (n := 3) Tryz.underlying146 siz95 rfl rfl rfl (by decide)) rfl ?_
  refine WL_v (v_faddr Tryz.underlying95 rfl siz93 rfl) rfl ?_
  refine WL_store1 rfl rfl rfl siz93 rfl rfl rfl ?_
  refine WL_nil ?_
  refine den_seq ?_
  -- region 5
  refine den_region rfl ?_
  refine WL_freeze fun h1 hl1 hb1 => ?_
  refine WL_freeze fun h3 hl3 hb3 => ?_
  have hb1 := hl3 _ _ hb1
  refine WL_v (v_load1 one96 rfl (by first | exact Kn.own 0 rfl | exact Kn.own 1 rfl | exact Kn.own 2 rfl | exact Kn.own 3 rfl | exact Kn.own 4 rfl | exact Kn.own 5 rfl | exact Kn.per ‹_›) rfl) rfl ?_
  refine WL_v (v_assign rfl) rfl ?_
  refine WL_nil ?_
  refine den_ret ?_
  exact ends1 Tryz.results41 rfl (hl1.trans hl3) (by simp) ⟨⟨b3, b1, rfl, hb3, hb1⟩, rfl⟩

theorem write1 (n : Int) (h1 : -9223372036854775808 ≤ n) (h2 : n < 9223372036854775808) (b : Value) (k : Nat) (xs : List UInt8) (Lb : Owned) (h : Heap) (ho0 : OwnS 5 1 b k (xs.map byteV) Lb) (hk : k ≤ 17592186044416) : Tr Tryz.prog 86 [b, .agg ⟨[.int .i64 1, .int .i64 n, noStr, .slice none 0 0]⟩] h Lb (fun v _ L' => OwnS 5 1 v (k + (V.enc (.int n)).length) ((xs ++ V.enc (.int n)).map byteV) L') := by
  refine Tr_of Tryz.func86 rfl rfl Tryz.ntmps86 rfl [(0, b), (1, .agg ⟨[.int .i64 1, .int .i64 n, noStr, .slice none 0 0]⟩)] rfl ?_
  intro Lf
  refine den_seq ?_
  -- region 0
  refine den_region rfl ?_
  refine WL_box (zs := [.int .i64 1, .int .i64 n, noStr, .slice none 0 0]) rfl rfl rfl fun b3 => ?_
  refine WL_freeze fun hA hlA hb3 => ?_
  refine WL_v (v_assign rfl) rfl ?_
  refine WL_nil ?_
  refine den_seq ?_
  -- region 1
  refine den_draw0 [] (by kernel_rfl) (by kernel_rfl) (NoP.fn) (rem := [0, 1, 2, 3, 4, 5, 6, 7]) (by kernel_rfl) ?_
  refine QB_v (i := 0) rfl (v_move rfl) (by kernel_rfl) (by kernel_rfl) (by kernel_rfl) (rem' := [1, 2, 3, 4, 5, 6, 7]) (by kernel_rfl) rfl ?_
  refine QB_v (i := 3) rfl (v_faddr Tryz.underlying58 rfl siz3 rfl) (by kernel_rfl) (by kernel_rfl) (by kernel_rfl) (rem' := [1, 2, 4, 5, 6, 7]) (by kernel_rfl) rfl ?_
  refine QB_v (i := 4) rfl (v_load1 one3 rfl (Kn.per ‹_›) rfl) (by kernel_rfl) (by kernel_rfl) (by kernel_rfl) (rem' := [1, 2, 5, 6, 7]) (by kernel_rfl) rfl ?_
  refine QB_step (is := [1]) rfl (by kernel_rfl) ?_
  refine qall1 ?_
  refine qb_newp (g := fun b => .slice (some ⟨b, 0, none⟩) 1 1) rfl (o_buildSlice Tryz.underlying53 zer5 rfl siz5 rfl rfl rfl rfl) rfl (rem' := [2, 5, 6, 7]) (by kernel_rfl) fun b6 h6 hl6 hb6 => ?_
  refine QB_step (is := [2]) rfl (by kernel_rfl) ?_
  refine qall1 ?_
  refine qb_e rfl rfl (op1_append Tryz.underlying53 Tryz.underlying53 (.inr ⟨_, rfl⟩) siz5 byt5 (by decide) zer5 rfl rfl rfl rfl ho0 (Src.per (n := 1) (us := [byteV 1]) hb6 rfl) rfl (by omega)) rfl (rem' := [5, 6, 7]) (by kernel_rfl) ?_
  rintro v7 _ _ ⟨L7, rfl, rfl, ho7⟩
  refine ⟨Heap.le.refl _, ?_⟩
  rw [show xs.map byteV ++ [byteV 1] = (xs ++ [1]).map byteV from by rw [List.map_append]; rfl] at ho7
  refine QB_step (is := [5]) rfl (by kernel_rfl) ?_
  refine qall1 ?_
  refine qb_e rfl rfl (op1_call (L1 := []) rfl rfl (TrV.of0 (uns_fn n h1 h2 _))) rfl (rem' := [6, 7]) (by kernel_rfl) ?_
  rintro _ h10 _ ⟨_, rfl, hle10, rfl, rfl⟩
  refine ⟨hle10, ?_⟩
  refine QB_step (is := [6]) rfl (by kernel_rfl) ?_
  refine qall1 ?_
  refine qb_e rfl rfl (op1_call (L1 := L7) rfl rfl (TrV.of0 (numeral_fn _ _ (zig n) (xs ++ [1]) L7 _ ho7 (zig_lt h1 h2) (by omega)))) rfl (rem' := [7]) (by kernel_rfl) ?_
  rintro v11 h11 _ ⟨L11, rfl, hle11, ho11⟩
  refine ⟨hle11, ?_⟩
  refine QB_v (i := 7) rfl (v_assign rfl) (by kernel_rfl) (by kernel_rfl) (by kernel_rfl) (rem' := []) (by kernel_rfl) rfl ?_
  refine QB_nil ?_
  refine den_ret ?_
  refine ends1 Tryz.results86 rfl (hlA.trans (hl6.trans (hle10.trans hle11))) (List.Sublist.refl _) ?_
  rw [V.enc, List.length_cons, List.append_cons, show k + ((num (zig n)).length + 1) = k + 1 + (num (zig n)).length from by omega]
  exact ho11

theorem write2 (s : ByteArray) (b : Value) (k : Nat) (xs : List UInt8) (Lb : Owned) (h : Heap) (ho0 : OwnS 5 1 b k (xs.map byteV) Lb) (hk : k + s.size ≤ 17592186044416) : Tr Tryz.prog 89 [b, .agg ⟨[.int .i64 2, .int .i64 0, .string s, .slice none 0 0]⟩] h Lb (fun v _ L' => OwnS 5 1 v (k + (V.enc (.text s)).length) ((xs ++ V.enc (.text s)).map byteV) L') := by
  refine Tr_of Tryz.func89 rfl rfl Tryz.ntmps89 rfl [(0, b), (1, .agg ⟨[.int .i64 2, .int .i64 0, .string s, .slice none 0 0]⟩)] rfl ?_
  intro Lf
  refine den_seq ?_
  -- region 0
  refine den_region rfl ?_
  refine WL_box (zs := [.int .i64 2, .int .i64 0, .string s, .slice none 0 0]) rfl rfl rfl fun b3 => ?_
  refine WL_freeze fun hA hlA hb3 => ?_
  refine WL_v (v_assign rfl) rfl ?_
  refine WL_nil ?_
  refine den_seq ?_
  -- region 1
  refine den_draw0 [] (by kernel_rfl) (by kernel_rfl) (NoP.fn) (rem := [0, 1, 2, 3, 4, 5, 6, 7, 8, 9, 10, 11]) (by kernel_rfl) ?_
  refine QB_v (i := 0) rfl (v_move rfl) (by kernel_rfl) (by kernel_rfl) (by kernel_rfl) (rem' := [1, 2, 3, 4, 5, 6, 7, 8, 9, 10, 11]) (by kernel_rfl) rfl ?_
  refine QB_v (i := 3) rfl (v_faddr Tryz.underlying58 rfl siz9 rfl) (by kernel_rfl) (by kernel_rfl) (by kernel_rfl) (rem' := [1, 2, 4, 5, 6, 7, 8, 9, 10, 11]) (by kernel_rfl) rfl ?_
  refine QB_v (i := 4) rfl (v_load1 one9 rfl (Kn.per ‹_›) rfl) (by kernel_rfl) (by kernel_rfl) (by kernel_rfl) (rem' := [1, 2, 5, 6, 7, 8, 9, 10, 11]) (by kernel_rfl) rfl ?_
  refine QB_v (i := 5) rfl (v_lenstr Tryz.underlying9 rfl) (by kernel_rfl) (by kernel_rfl) (by kernel_rfl) (rem' := [1, 2, 6, 7, 8, 9, 10, 11]) (by kernel_rfl) rfl ?_
  refine QB_v (i := 6) rfl (v_convu Tryz.underlying3 Tryz.underlying148 rfl (by omega)) (by kernel_rfl) (by kernel_rfl) (by kernel_rfl) (rem' := [1, 2, 7, 8, 9, 10, 11]) (by kernel_rfl) rfl ?_
  refine QB_v (i := 8) rfl (v_faddr Tryz.underlying58 rfl siz9 rfl) (by kernel_rfl) (by kernel_rfl) (by kernel_rfl) (rem' := [1, 2, 7, 9, 10, 11]) (by kernel_rfl) rfl ?_
  refine QB_v (i := 9) rfl (v_load1 one9 rfl (Kn.per (by first | assumption | exact hle11 _ _ ‹_›)) rfl) (by kernel_rfl) (by kernel_rfl) (by kernel_rfl) (rem' := [1, 2, 7, 10, 11]) (by kernel_rfl) rfl ?_
  refine QB_step (is := [1]) rfl (by kernel_rfl) ?_
  refine qall1 ?_
  refine qb_newp (g := fun b => .slice (some ⟨b, 0, none⟩) 1 1) rfl (o_buildSlice Tryz.underlying53 zer5 rfl siz5 rfl rfl rfl rfl) rfl (rem' := [2, 7, 10, 11]) (by kernel_rfl) fun b6 h6 hl6 hb6 => ?_
  refine QB_step (is := [2]) rfl (by kernel_rfl) ?_
  refine qall1 ?_
  refine qb_e rfl rfl (op1_append Tryz.underlying53 Tryz.underlying53 (.inr ⟨_, rfl⟩) siz5 byt5 (by decide) zer5 rfl rfl rfl rfl ho0 (Src.per (n := 1) (us := [byteV 2]) hb6 rfl) rfl (by omega)) rfl (rem' := [7, 10, 11]) (by kernel_rfl) ?_
  rintro v7 _ _ ⟨L7, rfl, rfl, ho7⟩
  refine ⟨Heap.le.refl _, ?_⟩
  rw [show xs.map byteV ++ [byteV 2] = (xs ++ [2]).map byteV from by rw [List.map_append]; rfl] at ho7
  refine QB_step (is := [7]) rfl (by kernel_rfl) ?_
  refine qall1 ?_
  have hl10 := num_len10 (u := s.size) (by omega)
  refine qb_e rfl rfl (op1_call (L1 := L7) rfl rfl (TrV.of0 (numeral_fn _ _ (s.size) (xs ++ [2]) L7 _ ho7 (by omega) (by omega)))) rfl (rem' := [10, 11]) (by kernel_rfl) ?_
  rintro v11 h11 _ ⟨L11, rfl, hle11, ho11⟩
  refine ⟨hle11, ?_⟩
  refine QB_step (is := [10]) rfl (by kernel_rfl) ?_
  refine qall1 ?_
  refine qb_e rfl rfl (op1_append Tryz.underlying53 Tryz.underlying9 (.inl rfl) siz5 byt5 (by decide) zer5 rfl rfl rfl rfl ho11 Src.str (bytes_one _) (by omega)) rfl (rem' := [11]) (by kernel_rfl) ?_
  rintro v14 _ _ ⟨L14, rfl, rfl, ho14⟩
  refine ⟨Heap.le.refl _, ?_⟩
  refine QB_v (i := 11) rfl (v_assign rfl) (by kernel_rfl) (by kernel_rfl) (by kernel_rfl) (rem' := []) (by kernel_rfl) rfl ?_
  refine QB_nil ?_
  refine den_ret ?_
  refine ends1 Tryz.results89 rfl (hlA.trans (hl6.trans hle11)) (List.Sublist.refl _) ?_
  rw [V.enc, List.length_cons, List.append_cons, List.length_append, show k + ((num s.size).length + s.data.toList.length + 1) = k + 1 + (num s.size).length + s.size from by simp; omega, ← List.append_assoc, List.map_append]
  exact ho14

def wrV (b1 : Nat) : V → Value
  | .int _ => .func (.func 86) ⟨[]⟩ ⟨[]⟩
  | .text _ => .func (.func 89) ⟨[]⟩ ⟨[]⟩
  | .list _ => .func (.func 90) ⟨[]⟩ ⟨[.pointer (some ⟨b1, 0, none⟩)]⟩
theorem wrV_get (b1 : Nat) (m : V) : ([.nilFunc, .func (.func 86) ⟨[]⟩ ⟨[]⟩, .func (.func 89) ⟨[]⟩ ⟨[]⟩, .func (.func 90) ⟨[]⟩ ⟨[.pointer (some ⟨b1, 0, none⟩)]⟩] : List Value)[m.kind]? = some (wrV b1 m) := by cases m <;> rfl
/-- the writing of a value -/
def WrC (b1 : Nat) (cs : List Value) (m : V) (h : Heap) : Prop := ∀ (b : Value) (k : Nat) (xs : List UInt8) (Lb : Owned) (h2 : Heap), Heap.le h h2 → OwnS 5 1 b k (xs.map byteV) Lb → k + m.enc.length ≤ 17592186044416 → TrV Tryz.prog (wrV b1 m) [b, .agg ⟨cs⟩] h2 Lb (fun v _ L' => OwnS 5 1 v (k + m.enc.length) ((xs ++ m.enc).map byteV) L')
theorem write3 (l : List V) (a : Option Addr) (cap : Nat) (x : Nat → List Value) (b3 b1 : Nat) (b : Value) (k : Nat) (xs : List UInt8) (Lb : Owned) (h : Heap) (hn : l.length < 9223372036854775808) (hs : Sln h a l.length 4 x) (hx : ∀ i m, l[i]? = some m → VR h (x i) m) (hw : Wr b3 b1 h) (ih : ∀ i m, l[i]? = some m → WrC b1 (x i) m h) (ho0 : OwnS 5 1 b k (xs.map byteV) Lb) (hk : k + (V.enc (.list l)).length ≤ 17592186044416) : Tr Tryz.prog 90 [b, .agg ⟨[.int .i64 3, .int .i64 0, noStr, .slice a l.length cap]⟩, .pointer (some ⟨b1, 0, none⟩)] h Lb (fun v _ L' => OwnS 5 1 v (k + (V.enc (.list l)).length) ((xs ++ V.enc (.list l)).map byteV) L') := by
  refine Tr_of Tryz.func90 rfl rfl Tryz.ntmps90 rfl [(0, b), (1, .agg ⟨[.int .i64 3, .int .i64 0, noStr, .slice a l.length cap]⟩), (2, .pointer (some ⟨b1, 0, none⟩))] rfl ?_
  intro Lf
  rw [V.enc, List.length_cons, List.length_append] at hk
  refine den_seq ?_
  -- region 0
  refine den_region rfl ?_
  refine WL_box (zs := [.int .i64 3, .int .i64 0, noStr, .slice a l.length cap]) rfl rfl rfl fun b4 => ?_
  refine WL_freeze fun hA hlA hb4 => ?_
  refine WL_v (v_assign rfl) rfl ?_
  refine WL_nil ?_
  refine den_seq ?_
  -- region 1
  refine den_draw0 [] (by kernel_rfl) (by kernel_rfl) (NoP.fn) (rem := [0, 1, 2, 3, 4, 5, 6, 7, 8]) (by kernel_rfl) ?_
  refine QB_v (i := 0) rfl (v_move rfl) (by kernel_rfl) (by kernel_rfl) (by kernel_rfl) (rem' := [1, 2, 3, 4, 5, 6, 7, 8]) (by kernel_rfl) rfl ?_
  refine QB_v (i := 3) rfl (v_faddr Tryz.underlying58 rfl siz56 rfl) (by kernel_rfl) (by kernel_rfl) (by kernel_rfl) (rem' := [1, 2, 4, 5, 6, 7, 8]) (by kernel_rfl) rfl ?_
  refine QB_v (i := 4) rfl (v_load1 one56 rfl (Kn.per ‹_›) rfl) (by kernel_rfl) (by kernel_rfl) (by kernel_rfl) (rem' := [1, 2, 5, 6, 7, 8]) (by kernel_rfl) rfl ?_
  refine QB_v (i := 5) rfl (v_lens Tryz.underlying56 rfl) (by kernel_rfl) (by kernel_rfl) (by kernel_rfl) (rem' := [1, 2, 6, 7, 8]) (by kernel_rfl) rfl ?_
  refine QB_v (i := 6) rfl (v_convu Tryz.underlying3 Tryz.underlying148 rfl (by omega)) (by kernel_rfl) (by kernel_rfl) (by kernel_rfl) (rem' := [1, 2, 7, 8]) (by kernel_rfl) rfl ?_
  refine QB_step (is := [1]) rfl (by kernel_rfl) ?_
  refine qall1 ?_
  refine qb_newp (g := fun b => .slice (some ⟨b, 0, none⟩) 1 1) rfl (o_buildSlice Tryz.underlying53 zer5 rfl siz5 rfl rfl rfl rfl) rfl (rem' := [2, 7, 8]) (by kernel_rfl) fun b9 h9 hl9 hb9 => ?_
  refine QB_step (is := [2]) rfl (by kernel_rfl) ?_
  refine qall1 ?_
  refine qb_e rfl rfl (op1_append Tryz.underlying53 Tryz.underlying53 (.inr ⟨_, rfl⟩) siz5 byt5 (by decide) zer5 rfl rfl rfl rfl ho0 (Src.per (n := 1) (us := [byteV 3]) hb9 rfl) rfl (by omega)) rfl (rem' := [7, 8]) (by kernel_rfl) ?_
  rintro v10 _ _ ⟨L10, rfl, rfl, ho10⟩
  refine ⟨Heap.le.refl _, ?_⟩
  rw [show xs.map byteV ++ [byteV 3] = (xs ++ [3]).map byteV from by rw [List.map_append]; rfl] at ho10
  refine QB_step (is := [7]) rfl (by kernel_rfl) ?_
  refine qall1 ?_
  have hl10 := num_len10 (u := l.length) (by omega)
  refine qb_e rfl rfl (op1_call (L1 := L10) rfl rfl (TrV.of0 (numeral_fn _ _ l.length (xs ++ [3]) L10 _ ho10 (by omega) (by omega)))) rfl (rem' := [8]) (by kernel_rfl) ?_
  rintro v15 h15 _ ⟨L15, rfl, hle15, ho15⟩
  refine ⟨hle15, ?_⟩
  refine QB_v (i := 8) rfl (v_assign rfl) (by kernel_rfl) (by kernel_rfl) (by kernel_rfl) (rem' := []) (by kernel_rfl) rfl ?_
  refine QB_nil ?_
  refine den_seq ?_
  refine den_seq ?_
  -- region 2
  refine den_region rfl ?_
  refine WL_v (v_faddr Tryz.underlying58 rfl siz56 rfl) rfl ?_
  refine WL_v (v_load1 one56 rfl (Kn.per (hle15 _ _ (hl9 _ _ hb4))) rfl) rfl ?_
  refine WL_v (v_lens Tryz.underlying56 rfl) rfl ?_
  refine WL_v (v_move rfl) rfl ?_
  refine WL_nil ?_
  refine den_block ?_
  refine den_loopI (ι := Nat × Value × Owned) (fun ⟨i, v, L1⟩ => [(0, v), (2, .pointer (some ⟨b1, 0, none⟩)), (17, .slice a l.length cap), (18, .int .i64 ((l.length : Nat) : Int)), (19, .int .i64 ((i : Nat) : Int))]) (fun ⟨i, v, L1⟩ h' L' => i ≤ l.length ∧ Heap.le h h' ∧ L' = L1 ++ Lf ∧ OwnS 5 1 v (k + 1 + (num l.length).length + (encs (l.take i)).length) ((xs ++ [3] ++ num l.length ++ encs (l.take i)).map byteV) L1) (fun ⟨i, v, L1⟩ => l.length - i) (0, v15, L15) (sub_cons rfl (sub_cons rfl (sub_cons rfl (sub_cons rfl (sub_cons rfl sub_nil))))) ⟨by omega, hlA.trans (hl9.trans hle15), rfl, by simpa [encs] using ho15⟩ ?_
  rintro ⟨i, v, L1⟩ hq _ ⟨i1, hle, rfl, ho⟩
  refine den_seq ?_
  -- region 3
  refine den_region rfl ?_
  refine WL_v (v_lss rfl rfl) rfl ?_
  refine WL_nil ?_
  refine den_seq ?_
  first | refine den_ifd rfl (fun hi => ?_) (fun hi => ?_) | refine den_if rfl (fun hi => ?_) (fun hi => ?_)
  · skip
    refine den_skip ?_
    refine den_seq ?_
    refine den_block ?_
    refine den_seq ?_
    -- region 4
    refine den_region rfl ?_
    obtain ⟨bb, off, all, Tl, frl, rfl, hbl, hcut⟩ := hs i (by omega)
    obtain ⟨m, hm⟩ : ∃ m, l[i]? = some m := ⟨l[i], List.getElem?_eq_getElem (by omega)⟩
    obtain ⟨hx4, hx1⟩ := (hx i m hm).four
    have hek := encs_len_le (l := l) (i := i + 1)
    rw [encs_next hm, List.length_append] at hek
    refine WL_v (v_iaddrs Tryz.underlying56 siz58 rfl rfl rfl (by omega)) rfl ?_
    refine WL_v (v_loadn many58 rfl (Kn.per (hle _ _ hbl)) hcut) rfl ?_
    refine WL_alloc zer58 rfl rfl fun b7 => ?_
    refine WL_store0 rfl rfl (us := x i) rfl (by rw [hx4]; exact siz58) (spl_all (by rw [hx4]; rfl)) hx1 rfl ?_
    refine WL_freeze fun h7 hl7 hb7 => ?_
    have hw7 := (hw.le hle).le hl7
    refine WL_nil ?_
    -- region 5
    refine den_draw0 [] (by kernel_rfl) (by kernel_rfl) (NoP.fn) (rem := [0, 1, 2, 3, 4, 5, 6, 7, 8, 9, 10]) (by kernel_rfl) ?_
    refine QB_v (i := 0) rfl (v_load1 one96 rfl (Kn.per hw7.2) rfl) (by kernel_rfl) (by kernel_rfl) (by kernel_rfl) (rem' := [1, 2, 3, 4, 5, 6, 7, 8, 9, 10]) (by kernel_rfl) rfl ?_
    refine QB_v (i := 1) rfl (v_faddr Tryz.underlying58 rfl siz3 rfl) (by kernel_rfl) (by kernel_rfl) (by kernel_rfl) (rem' := [2, 3, 4, 5, 6, 7, 8, 9, 10]) (by kernel_rfl) rfl ?_
    refine QB_v (i := 2) rfl (v_load1 one3 rfl (Kn.per hb7) (hx i m hm).kind) (by kernel_rfl) (by kernel_rfl) (by kernel_rfl) (rem' := [3, 4, 5, 6, 7, 8, 9, 10]) (by kernel_rfl) rfl ?_
    first | refine QB_v (i := 3) rfl (v_nilfunc rfl) (by kernel_rfl) (by kernel_rfl) (by kernel_rfl) (rem' := [4, 5, 6, 7, 8, 9, 10]) (by kernel_rfl) rfl ?_ | refine QB_v (i := 3) rfl (v_nilyield rfl) (by kernel_rfl) (by kernel_rfl) (by kernel_rfl) (rem' := [4, 5, 6, 7, 8, 9, 10]) (by kernel_rfl) rfl ?_ | refine QB_v (i := 3) rfl (v_nilptr rfl) (by kernel_rfl) (by kernel_rfl) (by kernel_rfl) (rem' := [4, 5, 6, 7, 8, 9, 10]) (by kernel_rfl) rfl ?_
    refine QB_v (i := 4) rfl (v_iaddra (n := m.kind) Tryz.underlying146 siz95 rfl rfl rfl (kind_lt m)) (by kernel_rfl) (by kernel_rfl) (by kernel_rfl) (rem' := [5, 6, 7, 8, 9, 10]) (by kernel_rfl) rfl ?_
    refine QB_v (i := 5) rfl (v_faddr Tryz.underlying95 rfl siz93 rfl) (by kernel_rfl) (by kernel_rfl) (by kernel_rfl) (rem' := [6, 7, 8, 9, 10]) (by kernel_rfl) rfl ?_
    refine QB_v (i := 6) rfl (v_load1 one93 rfl (Kn.per hw7.1) (by rw [Nat.zero_add, Nat.mul_one]; exact wrV_get b1 m)) (by kernel_rfl) (by kernel_rfl) (by kernel_rfl) (rem' := [7, 8, 9, 10]) (by kernel_rfl) rfl ?_
    refine QB_v (i := 7) rfl (v_move rfl) (by kernel_rfl) (by kernel_rfl) (by kernel_rfl) (rem' := [8, 9, 10]) (by kernel_rfl) rfl ?_
    refine QB_v (i := 8) rfl (v_loadn many58 rfl (Kn.per hb7) (cut_self hx4)) (by kernel_rfl) (by kernel_rfl) (by kernel_rfl) (rem' := [9, 10]) (by kernel_rfl) rfl ?_
    refine QB_step (is := [9]) rfl (by kernel_rfl) ?_
    refine qall1 ?_
    refine qb_e rfl rfl (op1_call (L1 := L1) rfl rfl (ih i m hm _ _ _ _ _ (hle.trans hl7) ho (by omega))) rfl (rem' := [10]) (by kernel_rfl) ?_
    rintro v32 h32 _ ⟨L32, rfl, hle32, ho32⟩
    refine ⟨hle32, ?_⟩
    refine QB_v (i := 10) rfl (v_assign rfl) (by kernel_rfl) (by kernel_rfl) (by kernel_rfl) (rem' := []) (by kernel_rfl) rfl ?_
    refine QB_nil ?_
    refine den_blk ?_
    -- region 6
    refine den_region rfl ?_
    refine WL_v (v_addj (n := 1) rfl rfl (by omega)) rfl ?_
    refine WL_v (v_move rfl) rfl ?_
    refine WL_nil ?_
    refine den_again ⟨rfl, (i + 1, v32, L32), (by show l.length - (i + 1) < l.length - i; omega), (sub_cons rfl (sub_cons rfl (sub_cons rfl (sub_cons rfl (sub_cons rfl sub_nil))))), ⟨by omega, (hle.trans hl7).trans hle32, rfl, by rw [encs_next hm, List.length_append, ← List.append_assoc, ← Nat.add_assoc]; exact ho32⟩⟩
  · skip
    have hin : i = l.length := by omega
    subst hin
    rw [List.take_length] at ho
    refine den_exit rfl ?_
    refine den_seq ?_
    -- region 7
    refine den_region rfl ?_
    refine WL_v (v_move rfl) rfl ?_
    refine WL_v (v_assign rfl) rfl ?_
    refine WL_nil ?_
    refine den_ret ?_
    refine ends1 Tryz.results90 rfl hle (List.Sublist.refl _) ?_
    rw [V.enc, List.length_cons, List.length_append, List.append_cons, ← List.append_assoc, show k + ((num l.length).length + (encs l).length + 1) = k + 1 + (num l.length).length + (encs l).length from by omega]
    exact ho

theorem WrC.le {b1 : Nat} {cs : List Value} {m : V} {h h' : Heap} (w : WrC b1 cs m h) (hl : Heap.le h h') : WrC b1 cs m h' := fun b k xs Lb h2 hl2 ho hk => w b k xs Lb h2 (hl.trans hl2) ho hk
theorem write_fn {h : Heap} {cs : List Value} {m : V} (v : VR h cs m) (b3 b1 : Nat) (hw : Wr b3 b1 h) : WrC b1 cs m h := by
  induction v with
  | int n h1 h2 => exact fun b k xs Lb h2' hl ho hk => TrV.of (fi := []) (ca := []) (write1 n h1 h2 b k xs Lb h2' ho (by omega)) rfl
  | text s =>
    intro b k xs Lb h2' hl ho hk
    refine TrV.of (fi := []) (ca := []) (write2 s b k xs Lb h2' ho ?_) rfl
    rw [V.enc, List.length_cons, List.length_append, sz_list] at hk
    omega
  | list l a cap x hn hs hx ih =>
    exact fun b k xs Lb h2' hl ho hk => TrV.of (fi := []) (ca := [.pointer (some ⟨b1, 0, none⟩)]) (write3 l a cap x b3 b1 b k xs Lb h2' hn (hs.le hl) (fun i m hm => (hx i m hm).le hl) (hw.le hl) (fun i m hm => (ih i m hm).le hl) ho hk) rfl
theorem encode_fn (cs : List Value) (m : V) (h : Heap) (v : VR h cs m) (hd : m.depth ≤ 16) (hk : m.enc.length ≤ 17592186044416) : Tr Tryz.prog 18 [.agg ⟨cs⟩] h [] (fun r _ L' => ∃ v, r = .tuple ⟨[v, .int .i64 0]⟩ ∧ OwnS 5 1 v m.enc.length (m.enc.map byteV) L') := by
  refine Tr_of Tryz.func18 rfl rfl Tryz.ntmps18 rfl [(0, .agg ⟨cs⟩)] rfl ?_
  intro Lf
  obtain ⟨hx4, hx1⟩ := v.four
  refine den_seq ?_
  -- region 0
  refine den_region rfl ?_
  refine WL_box (zs := cs) rfl rfl rfl fun b1 => ?_
  refine WL_freeze fun h1 hl1 hb1 => ?_
  refine WL_v (v_assign rfl) rfl ?_
  refine WL_v (v_assign rfl) rfl ?_
  refine WL_nil ?_
  refine den_seq ?_
  refine den_seq ?_
  -- region 1
  refine den_region rfl ?_
  refine WL_v (v_loadn many58 rfl (Kn.per hb1) (cut_self hx4)) rfl ?_
  refine WL_callq rfl (vcheck_fn _ _ _ (v.le hl1) (by omega)) rfl ?_
  refine WL_v (v_assign rfl) rfl ?_
  rw [if_pos hd]
  refine WL_nil ?_
  refine den_seq ?_
  -- region 2
  refine den_region rfl ?_
  refine WL_v (v_move rfl) rfl ?_
  refine WL_v (OpV.to (v' := .bool false) (v_neq rfl rfl) (by first | rfl | simp)) rfl ?_
  refine WL_nil ?_
  refine den_false rfl ?_
  refine den_skip ?_
  refine den_seq ?_
  -- region 4
  refine den_draw0 [] (by kernel_rfl) (by kernel_rfl) (NoP.fn) (rem := [0, 1, 2, 3, 4, 5, 6, 7, 8, 9, 10]) (by kernel_rfl) ?_
  refine QB_v (i := 1) rfl (v_faddr Tryz.underlying58 rfl siz3 rfl) (by kernel_rfl) (by kernel_rfl) (by kernel_rfl) (rem' := [0, 2, 3, 4, 5, 6, 7, 8, 9, 10]) (by kernel_rfl) rfl ?_
  refine QB_v (i := 2) rfl (v_load1 one3 rfl (Kn.per ‹_›) v.kind) (by kernel_rfl) (by kernel_rfl) (by kernel_rfl) (rem' := [0, 3, 4, 5, 6, 7, 8, 9, 10]) (by kernel_rfl) rfl ?_
  refine QB_v (i := 7) rfl (v_loadn many58 rfl (Kn.per (by first | assumption | exact hle10 _ _ hb1)) (cut_self hx4)) (by kernel_rfl) (by kernel_rfl) (by kernel_rfl) (rem' := [0, 3, 4, 5, 6, 8, 9, 10]) (by kernel_rfl) rfl ?_
  refine QB_step (is := [0]) rfl (by kernel_rfl) ?_
  refine qall1 ?_
  refine qb_e rfl rfl (op1_call (L1 := []) rfl rfl (TrV.of0 (writer_fn _))) rfl (rem' := [3, 4, 5, 6, 8, 9, 10]) (by kernel_rfl) ?_
  rintro _ h10 _ ⟨_, rfl, hle10, ⟨b3, bw, rfl, hw⟩, rfl⟩
  refine ⟨hle10, ?_⟩
  first | refine QB_v (i := 3) rfl (v_nilfunc rfl) (by kernel_rfl) (by kernel_rfl) (by kernel_rfl) (rem' := [4, 5, 6, 8, 9, 10]) (by kernel_rfl) rfl ?_ | refine QB_v (i := 3) rfl (v_nilyield rfl) (by kernel_rfl) (by kernel_rfl) (by kernel_rfl) (rem' := [4, 5, 6, 8, 9, 10]) (by kernel_rfl) rfl ?_ | refine QB_v (i := 3) rfl (v_nilptr rfl) (by kernel_rfl) (by kernel_rfl) (by kernel_rfl) (rem' := [4, 5, 6, 8, 9, 10]) (by kernel_rfl) rfl ?_
  refine QB_v (i := 4) rfl (v_iaddra (n := m.kind) Tryz.underlying146 siz95 rfl rfl rfl (kind_lt m)) (by kernel_rfl) (by kernel_rfl) (by kernel_rfl) (rem' := [5, 6, 8, 9, 10]) (by kernel_rfl) rfl ?_
  refine QB_v (i := 5) rfl (v_faddr Tryz.underlying95 rfl siz93 rfl) (by kernel_rfl) (by kernel_rfl) (by kernel_rfl) (rem' := [6, 8, 9, 10]) (by kernel_rfl) rfl ?_
  refine QB_v (i := 6) rfl (v_load1 one93 rfl (Kn.per hw.1) (by rw [Nat.zero_add, Nat.mul_one]; exact wrV_get bw m)) (by kernel_rfl) (by kernel_rfl) (by kernel_rfl) (rem' := [8, 9, 10]) (by kernel_rfl) rfl ?_
  refine QB_step (is := [8]) rfl (by kernel_rfl) ?_
  refine qall1 ?_
  refine qb_e rfl rfl (op1_call (L1 := []) rfl rfl (write_fn (v.le (hl1.trans hle10)) b3 bw hw _ 0 [] [] _ (Heap.le.refl _) OwnS.nil (by omega))) rfl (rem' := [9, 10]) (by kernel_rfl) ?_
  rintro v18 h18 _ ⟨L18, rfl, hle18, ho18⟩
  refine ⟨hle18, ?_⟩
  refine QB_v (i := 9) rfl (v_assign rfl) (by kernel_rfl) (by kernel_rfl) (by kernel_rfl) (rem' := [10]) (by kernel_rfl) rfl ?_
  refine QB_v (i := 10) rfl (v_assign rfl) (by kernel_rfl) (by kernel_rfl) (by kernel_rfl) (rem' := []) (by kernel_rfl) rfl ?_
  refine QB_nil ?_
  refine den_ret ?_
  exact ends2 Tryz.results18 rfl rfl (hl1.trans (hle10.trans hle18)) (List.Sublist.refl _) ⟨_, rfl, by simpa using ho18⟩

end Go.Proofs.Ch
