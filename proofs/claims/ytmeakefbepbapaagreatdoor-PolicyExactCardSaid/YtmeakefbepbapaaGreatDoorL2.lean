/- Walks of the program's functions, printed by my own generator (layer L2). -/
import Derived.Test.YtmeakefbepbapaaGreatDoorL1
namespace Go.Proofs.Ch
open Go Go.Proofs
set_option maxRecDepth 4000
set_option maxHeartbeats 1000000
theorem one148 : One Tryz.prog 148 := One.of Tryz.underlying148 rfl
theorem zer148 : Zer Tryz.prog 148 (.int .u64 0) := by show _ = _; kernel_rfl
theorem siz148 : Siz Tryz.prog 148 1 := by show _ = _; kernel_rfl
theorem siz5 : Siz Tryz.prog 5 1 := by show _ = _; kernel_rfl
theorem one5 : One Tryz.prog 5 := One.of Tryz.underlying5 rfl
theorem siz26 : Siz Tryz.prog 26 32 := by show _ = _; kernel_rfl
theorem many26 : Many Tryz.prog 26 32 := Many.of Tryz.underlying26 rfl siz26
theorem one3 : One Tryz.prog 3 := One.of Tryz.underlying3 rfl
theorem siz3 : Siz Tryz.prog 3 1 := by show _ = _; kernel_rfl
theorem zer3 : Zer Tryz.prog 3 (.int .i64 0) := by show _ = _; kernel_rfl
theorem gdigits_iter (k b : Nat) (hk : k < 18446744073709551616) (h : Heap) (hb : h b = some (.cells ⟨[.int .u64 (k : Int)]⟩ 148 (0, 0))) : Iter Tryz.prog 147 [] [.pointer (some ⟨b, 0, none⟩)] [] (nlen k) (fun i args _ => args = [.bool (decide (k / 2 ^ (nlen k - 1 - i) % 2 = 1))]) h := by
  intro y Sx X hS hY h0 M0 hle0 hS0
  refine Tr_of Tryz.func147 rfl rfl Tryz.ntmps147 rfl [(0, y), (1, .pointer (some ⟨b, 0, none⟩))] rfl ?_
  intro Lf
  have hb := hle0 _ _ hb
  have hn := nlen_bound 64 k hk
  refine den_seq ?_
  -- region 0
  refine den_region rfl ?_
  refine WL_v (v_load1 one148 rfl (by first | exact Kn.own 0 rfl | exact Kn.own 1 rfl | exact Kn.own 2 rfl | exact Kn.own 3 rfl | exact Kn.own 4 rfl | exact Kn.own 5 rfl | exact Kn.per ‹_›) rfl) rfl ?_
  refine WL_callq rfl (len64_fn _ (by omega) _) rfl ?_
  refine WL_v (v_sub rfl rfl (wrap_i64 (by omega) (by omega))) rfl ?_
  refine WL_v (v_assign rfl) rfl ?_
  refine WL_nil ?_
  refine den_block ?_
  refine den_loopI (ι := Int) (fun z => [(0, y), (1, .pointer (some ⟨b, 0, none⟩)), (3, .int .i64 z)]) (fun z h' L' => -1 ≤ z ∧ z < (nlen k : Int) ∧ Heap.le h0 h' ∧ ∃ M, L' = M ++ Lf ∧ Sx (nlen k - 1 - z).toNat h' M) (fun z => (z + 1).toNat) ((nlen k : Nat) - 1 : Int) (sub_cons rfl (sub_cons rfl (sub_cons rfl sub_nil))) ⟨by omega, by omega, Heap.le.refl _, M0, by rw [List.append_nil], by rw [show ((nlen k : Int) - 1 - ((nlen k : Int) - 1)).toNat = 0 from by omega]; exact hS0⟩ ?_
  rintro z h1 _ ⟨z1, z2, hle1, M, rfl, hM⟩
  have hb1 := hle1 _ _ hb
  refine den_seq ?_
  refine den_seq ?_
  -- region 1
  refine den_region rfl ?_
  refine WL_v (v_move rfl) rfl ?_
  refine WL_v (v_geq rfl rfl) rfl ?_
  refine WL_nil ?_
  first | refine den_ifd rfl (fun hz => ?_) (fun hz => ?_) | refine den_if rfl (fun hz => ?_) (fun hz => ?_)
  · skip
    obtain ⟨j, rfl⟩ := int_nat hz
    refine den_skip ?_
    refine den_seq ?_
    refine den_block ?_
    refine den_seq ?_
    -- region 3
    refine den_region rfl ?_
    refine WL_v (v_move rfl) rfl ?_
    refine WL_v (v_load1 one148 rfl (by first | exact Kn.own 0 rfl | exact Kn.own 1 rfl | exact Kn.own 2 rfl | exact Kn.own 3 rfl | exact Kn.own 4 rfl | exact Kn.own 5 rfl | exact Kn.per ‹_›) rfl) rfl ?_
    refine WL_v (v_move rfl) rfl ?_
    refine WL_v (v_shrn (s := j) rfl rfl (by show _ < 18446744073709551616; omega)) rfl ?_
    refine WL_v (v_low 1 rfl rfl rfl (by show _ < 18446744073709551616; exact Nat.lt_of_le_of_lt (Nat.div_le_self _ _) hk) (by decide) rfl) rfl ?_
    rw [Nat.pow_one]
    refine WL_v (v_eql (n := 1) rfl rfl) rfl ?_
    rw [dec_one]
    refine WL_call (L1 := M) rfl rfl (hY (nlen k - 1 - j) _ _ _ (by omega) (hle0.trans hle1) (by show _ = _; rw [show nlen k - 1 - (nlen k - 1 - j) = j from by omega]) (by rw [show ((nlen k : Int) - 1 - (j : Int)).toNat = nlen k - 1 - j from by omega] at hM; exact hM)) rfl fun v h2 M2 hle2 hv => ?_
    obtain ⟨go, rfl, hyes, hno⟩ := yv hv
    refine WL_v (v_not rfl) rfl ?_
    refine WL_nil ?_
    first | refine den_ifd rfl (fun hgo => ?_) (fun hgo => ?_) | refine den_if rfl (fun hgo => ?_) (fun hgo => ?_)
    · skip
      refine den_ret ?_
      exact ends0 Tryz.results147 (hle1.trans hle2) (List.Sublist.refl _) (.inr (hno (by simpa using hgo)))
    · skip
      refine den_skip ?_
      refine den_blk ?_
      -- region 2
      refine den_region rfl ?_
      refine WL_v (v_move rfl) rfl ?_
      refine WL_v (v_sub rfl rfl (wrap_i64 (by omega) (by omega))) rfl ?_
      refine WL_v (v_assign rfl) rfl ?_
      refine WL_nil ?_
      refine den_again ⟨rfl, ((j : Int) - 1), (by show ((j : Int) - 1 + 1).toNat < ((j : Int) + 1).toNat; omega), (sub_cons rfl (sub_cons rfl (sub_cons rfl sub_nil))), ⟨by omega, by omega, hle1.trans hle2, M2, rfl, by rw [show ((nlen k : Int) - 1 - ((j : Int) - 1)).toNat = (nlen k - 1 - j) + 1 from by omega]; exact hyes (by simpa using hgo)⟩⟩
  · skip
    refine den_exit rfl ?_
    refine den_nil ?_
    exact ends0 Tryz.results147 hle1 (List.Sublist.refl _) (.inl (by rw [show ((nlen k : Int) - 1 - z).toNat = nlen k from by omega] at hM; exact hM))

theorem gdigits_fn (k : Nat) (h : Heap) : Fnp Tryz.prog 122 [.int .u64 (k : Int)] h (fun v h' => ∃ b, v = .func (.func 147) ⟨[]⟩ ⟨[.pointer (some ⟨b, 0, none⟩)]⟩ ∧ h' b = some (.cells ⟨[.int .u64 (k : Int)]⟩ 148 (0, 0))) := by
  refine Tr_of Tryz.func122 rfl rfl Tryz.ntmps122 rfl [(0, .int .u64 (k : Int))] rfl ?_
  intro Lf
  refine den_seq ?_
  -- region 0
  refine den_region rfl ?_
  refine WL_box rfl rfl rfl fun b1 => ?_
  refine WL_v (v_assign rfl) rfl ?_
  refine WL_nil ?_
  refine den_seq ?_
  -- region 1
  refine den_region rfl ?_
  refine WL_freeze fun h1 hl1 hb1 => ?_
  refine WL_v (v_func rfl rfl) rfl ?_
  refine WL_v (v_assign rfl) rfl ?_
  refine WL_nil ?_
  refine den_ret ?_
  exact ends1 Tryz.results122 rfl hl1 (by simp) ⟨⟨b1, rfl, hb1⟩, rfl⟩

theorem times_fn (a b : Nat) (ha : a < 4611686018427377339) (hb : b < 4611686018427377339) (h : Heap) : Fn0 Tryz.prog 97 [.int .u64 (a : Int), .int .u64 (b : Int)] h (.int .u64 ((a * b % 4611686018427377339 : Nat) : Int)) := by
  refine Tr_of Tryz.func97 rfl rfl Tryz.ntmps97 rfl [(0, .int .u64 (a : Int)), (1, .int .u64 (b : Int))] rfl ?_
  intro Lf
  have hlt := hi_lt ha hb (by decide)
  refine den_seq ?_
  -- region 0
  refine den_region rfl ?_
  refine WL_v (v_assign rfl) rfl ?_
  refine WL_nil ?_
  refine den_seq ?_
  -- region 1
  refine den_region rfl ?_
  refine WL_v (v_move rfl) rfl ?_
  refine WL_v (v_move rfl) rfl ?_
  refine WL_callq rfl (mul64_fn _ _ (by omega) (by omega) _) rfl ?_
  refine WL_v (v_move rfl) rfl ?_
  refine WL_v (v_extract rfl rfl) rfl ?_
  refine WL_v (v_extract rfl rfl) rfl ?_
  refine WL_v (v_assign rfl) rfl ?_
  refine WL_v (v_assign rfl) rfl ?_
  refine WL_nil ?_
  refine den_seq ?_
  -- region 2
  refine den_region rfl ?_
  refine WL_v (v_move rfl) rfl ?_
  refine WL_v (v_move rfl) rfl ?_
  refine WL_callq rfl (div64_fn _ _ 4611686018427377339 (by assumption) (by omega) (by decide) _) rfl ?_
  refine WL_v (v_move rfl) rfl ?_
  refine WL_v (v_extract rfl rfl) rfl ?_
  refine WL_v (v_extract rfl rfl) rfl ?_
  refine WL_v (v_assign rfl) rfl ?_
  refine WL_v (v_assign rfl) rfl ?_
  rw [times_val]
  refine WL_nil ?_
  refine den_seq ?_
  -- region 3
  refine den_region rfl ?_
  refine WL_v (v_move rfl) rfl ?_
  refine WL_v (v_assign rfl) rfl ?_
  refine WL_nil ?_
  refine den_ret ?_
  exact ends1 Tryz.results97 rfl (Heap.le.refl _) (by simp) ⟨rfl, rfl⟩

theorem fprod_fn (a b : Nat) (ha : a < 2305843009213688669) (hb : b < 2305843009213688669) (h : Heap) : Fn0 Tryz.prog 107 [.int .i64 (a : Int), .int .i64 (b : Int)] h (.int .i64 ((a * b % 2305843009213688669 : Nat) : Int)) := by
  refine Tr_of Tryz.func107 rfl rfl Tryz.ntmps107 rfl [(0, .int .i64 (a : Int)), (1, .int .i64 (b : Int))] rfl ?_
  intro Lf
  have hlt := hi_lt ha hb (by decide)
  refine den_seq ?_
  -- region 0
  refine den_region rfl ?_
  refine WL_v (v_assign rfl) rfl ?_
  refine WL_nil ?_
  refine den_seq ?_
  -- region 1
  refine den_region rfl ?_
  refine WL_v (v_move rfl) rfl ?_
  refine WL_v (v_conv Tryz.underlying3 Tryz.underlying148 rfl (wrap_u64 (by omega) (by omega))) rfl ?_
  refine WL_v (v_move rfl) rfl ?_
  refine WL_v (v_conv Tryz.underlying3 Tryz.underlying148 rfl (wrap_u64 (by omega) (by omega))) rfl ?_
  refine WL_callq rfl (mul64_fn _ _ (by omega) (by omega) _) rfl ?_
  refine WL_v (v_move rfl) rfl ?_
  refine WL_v (v_extract rfl rfl) rfl ?_
  refine WL_v (v_extract rfl rfl) rfl ?_
  refine WL_v (v_assign rfl) rfl ?_
  refine WL_v (v_assign rfl) rfl ?_
  refine WL_nil ?_
  refine den_seq ?_
  -- region 2
  refine den_region rfl ?_
  refine WL_v (v_move rfl) rfl ?_
  refine WL_v (v_move rfl) rfl ?_
  refine WL_callq rfl (div64_fn _ _ 2305843009213688669 (by assumption) (by omega) (by decide) _) rfl ?_
  refine WL_v (v_move rfl) rfl ?_
  refine WL_v (v_extract rfl rfl) rfl ?_
  refine WL_v (v_extract rfl rfl) rfl ?_
  refine WL_v (v_assign rfl) rfl ?_
  refine WL_v (v_assign rfl) rfl ?_
  rw [times_val]
  have hr : a * b % 2305843009213688669 < 2305843009213688669 := Nat.mod_lt _ (by decide)
  refine WL_nil ?_
  refine den_seq ?_
  -- region 3
  refine den_region rfl ?_
  refine WL_v (v_move rfl) rfl ?_
  refine WL_v (v_conv Tryz.underlying148 Tryz.underlying3 rfl (wrap_i64 (by omega) (by omega))) rfl ?_
  refine WL_v (v_assign rfl) rfl ?_
  refine WL_nil ?_
  refine den_ret ?_
  exact ends1 Tryz.results107 rfl (Heap.le.refl _) (by simp) ⟨rfl, rfl⟩

theorem gpower_fn (a k : Nat) (ha : a < 4611686018427377339) (hk : k < 18446744073709551616) (h : Heap) : Fn0 Tryz.prog 94 [.int .u64 (a : Int), .int .u64 (k : Int)] h (.int .u64 ((mpow 4611686018427377339 a k : Nat) : Int)) := by
  refine Tr_of Tryz.func94 rfl rfl Tryz.ntmps94 rfl [(0, .int .u64 (a : Int)), (1, .int .u64 (k : Int))] rfl ?_
  intro Lf
  refine den_seq ?_
  -- region 0
  refine den_region rfl ?_
  refine WL_box rfl rfl rfl fun b2 => ?_
  refine WL_v (v_assign rfl) rfl ?_
  refine WL_nil ?_
  refine den_seq ?_
  -- region 1
  refine den_region rfl ?_
  refine WL_freeze fun h1 hl1 hb2 => ?_
  refine WL_alloc zer148 rfl rfl fun b5 => ?_
  refine WL_store0 rfl rfl rfl siz148 rfl rfl rfl ?_
  refine WL_nil ?_
  refine den_seq ?_
  refine den_seq ?_
  -- region 2
  refine den_region rfl ?_
  refine WL_v (v_move rfl) rfl ?_
  refine WL_callp rfl (gdigits_fn _ _) rfl fun v hh hle hg => ?_
  obtain ⟨bk, rfl, hbk⟩ := hg
  refine WL_nil ?_
  refine den_block ?_
  have hb2 := hle _ _ hb2
  refine den_each (Lb := [(b5, (.cells ⟨[.int .u64 ((1 : Nat) : Int)]⟩ 148 (0, 0)))]) (Lc := []) (gdigits_iter k bk hk _ hbk) (fun i h' L' => L' = [(b5, (.cells ⟨[.int .u64 ((mpow 4611686018427377339 a (k / 2 ^ (nlen k - i)) : Nat) : Int)]⟩ 148 (0, 0)))] ∧ Heap.le hh h') (fun c h' L' => False) rfl rfl (by kernel_rfl) (fun i args hq hx => by rw [hx]; rfl) (fun _ _ _ _ hl x => ⟨x.1, x.2.trans hl⟩) ⟨by rw [show k / 2 ^ (nlen k - 0) = 0 from nlen_top k, mpow_zero (by decide)], Heap.le.refl _⟩ ?_ ?_ ?_
  · intro lp i args hq L1 r1 Lx hi hleq hitem hinv hrec
    obtain ⟨rfl, hle1⟩ := hinv
    subst hitem
    have hb2 := hle1 _ _ hb2
    -- region 3
    refine den_region rfl ?_
    refine WL_v (v_assign rfl) rfl ?_
    refine WL_nil ?_
    refine den_again ⟨_, rfl, Heap.le.refl _, fun r2 hrec2 => ?_⟩
    refine den_block ?_
    refine den_seq ?_
    -- region 4
    refine den_region rfl ?_
    refine WL_v (v_load1 one148 rfl (by first | exact Kn.own 0 rfl | exact Kn.own 1 rfl | exact Kn.own 2 rfl | exact Kn.own 3 rfl | exact Kn.own 4 rfl | exact Kn.own 5 rfl | exact Kn.per ‹_›) rfl) rfl ?_
    refine WL_v (v_load1 one148 rfl (by first | exact Kn.own 0 rfl | exact Kn.own 1 rfl | exact Kn.own 2 rfl | exact Kn.own 3 rfl | exact Kn.own 4 rfl | exact Kn.own 5 rfl | exact Kn.per ‹_›) rfl) rfl ?_
    refine WL_callq rfl (times_fn _ _ (by first | exact mpow_lt (by decide) | exact Nat.mod_lt _ (by decide) | omega) (by first | exact mpow_lt (by decide) | omega) _) rfl ?_
    refine WL_store1 rfl rfl rfl siz148 rfl rfl rfl ?_
    refine WL_nil ?_
    refine den_seq ?_
    -- region 5
    refine den_region rfl ?_
    refine WL_v (v_move rfl) rfl ?_
    refine WL_nil ?_
    first | refine den_ifd rfl (fun hbit => ?_) (fun hbit => ?_) | refine den_if rfl (fun hbit => ?_) (fun hbit => ?_)
    · skip
      -- region 6
      refine den_region rfl ?_
      refine WL_v (v_load1 one148 rfl (by first | exact Kn.own 0 rfl | exact Kn.own 1 rfl | exact Kn.own 2 rfl | exact Kn.own 3 rfl | exact Kn.own 4 rfl | exact Kn.own 5 rfl | exact Kn.per ‹_›) rfl) rfl ?_
      refine WL_v (v_load1 one148 rfl (by first | exact Kn.own 0 rfl | exact Kn.own 1 rfl | exact Kn.own 2 rfl | exact Kn.own 3 rfl | exact Kn.own 4 rfl | exact Kn.own 5 rfl | exact Kn.per ‹_›) rfl) rfl ?_
      refine WL_callq rfl (times_fn _ _ (by first | exact mpow_lt (by decide) | exact Nat.mod_lt _ (by decide) | omega) (by first | exact mpow_lt (by decide) | omega) _) rfl ?_
      refine WL_store1 rfl rfl rfl siz148 rfl rfl rfl ?_
      refine WL_nil ?_
      refine den_blk ?_
      refine den_nil ?_
      refine ⟨r2, [_], rfl, hrec2, Heap.le.refl _, ?_, hle1⟩
      first | rw [← mpow_bit hi, if_pos hbit] | rw [← mpow_bit hi, if_neg hbit]
    · skip
      refine den_skip ?_
      refine den_blk ?_
      refine den_nil ?_
      refine ⟨r2, [_], rfl, hrec2, Heap.le.refl _, ?_, hle1⟩
      first | rw [← mpow_bit hi, if_pos hbit] | rw [← mpow_bit hi, if_neg hbit]
  · intro D hd Ld hled hI
    obtain ⟨rfl, hle1⟩ := hI
    refine den_blk ?_
    refine den_seq ?_
    -- region 7
    refine den_region rfl ?_
    refine WL_v (v_load1 one148 rfl (by first | exact Kn.own 0 rfl | exact Kn.own 1 rfl | exact Kn.own 2 rfl | exact Kn.own 3 rfl | exact Kn.own 4 rfl | exact Kn.own 5 rfl | exact Kn.per ‹_›) rfl) rfl ?_
    refine WL_v (v_assign rfl) rfl ?_
    refine WL_nil ?_
    refine den_ret ?_
    refine ends_mark (A := [_]) ?_
    refine ends1 Tryz.results94 rfl (hl1.trans (hle.trans hle1)) (by simp) ⟨?_, rfl⟩
    rw [show nlen k - nlen k = 0 from Nat.sub_self _, Nat.pow_zero, Nat.div_one]
  · intro D c hd Ld hled hX
    exact hX.elim

theorem gcheck_fn (a : Int) (h : Heap) : Fn0 Tryz.prog 44 [.int .i64 a] h (.int .i64 (if GC a then 0 else 40)) := by
  refine Tr_of Tryz.func44 rfl rfl Tryz.ntmps44 rfl [(0, .int .i64 a)] rfl ?_
  intro Lf
  refine den_seq ?_
  -- region 0
  refine den_region rfl ?_
  refine WL_v (v_assign rfl) rfl ?_
  refine WL_nil ?_
  refine den_seq ?_
  refine den_seq ?_
  -- region 1
  refine den_region rfl ?_
  refine WL_v (v_move rfl) rfl ?_
  refine WL_v (v_lss rfl rfl) rfl ?_
  refine WL_v (v_move rfl) rfl ?_
  first | refine WL_split (t := 5) rfl ?_ ?_
  · intro c1; try have c1 := of_decide_eq_true c1
    refine WL_skip (j := 2) (t := 5) (b := true) rfl rfl rfl rfl ?_
    refine WL_skip (j := 2) (t := 5) (b := true) rfl rfl rfl rfl ?_
    refine WL_v (v_pickt rfl rfl) rfl ?_
    refine WL_v (v_move rfl) rfl ?_
    refine WL_skip (j := 6) (t := 9) (b := true) rfl rfl rfl rfl ?_
    refine WL_skip (j := 6) (t := 9) (b := true) rfl rfl rfl rfl ?_
    refine WL_skip (j := 6) (t := 9) (b := true) rfl rfl rfl rfl ?_
    refine WL_skip (j := 6) (t := 9) (b := true) rfl rfl rfl rfl ?_
    refine WL_v (v_pickt rfl rfl) rfl ?_
    refine WL_nil ?_
    refine den_true rfl ?_
    refine den_seq ?_
    -- region 2
    refine den_region rfl ?_
    refine WL_v (v_assign rfl) rfl ?_
    refine WL_nil ?_
    refine den_ret ?_
    exact ends1 Tryz.results44 rfl (Heap.le.refl _) (by simp) ⟨by first | rw [if_neg (fun g : GC a => by obtain ⟨g1, g2, g3⟩ := g; omega)] | rw [if_pos (show GC a from ⟨by omega, by omega, by omega⟩)], rfl⟩
  · intro c2; try have c2 := of_decide_eq_false c2
    refine WL_vg rfl rfl (v_move rfl) rfl ?_
    refine WL_vg rfl rfl (v_geq rfl rfl) rfl ?_
    refine WL_v (v_pickf rfl rfl) rfl ?_
    refine WL_v (v_move rfl) rfl ?_
    first | refine WL_split (t := 9) rfl ?_ ?_
    · intro c3; try have c3 := of_decide_eq_true c3
      refine WL_skip (j := 6) (t := 9) (b := true) rfl rfl rfl rfl ?_
      refine WL_skip (j := 6) (t := 9) (b := true) rfl rfl rfl rfl ?_
      refine WL_skip (j := 6) (t := 9) (b := true) rfl rfl rfl rfl ?_
      refine WL_skip (j := 6) (t := 9) (b := true) rfl rfl rfl rfl ?_
      refine WL_v (v_pickt rfl rfl) rfl ?_
      refine WL_nil ?_
      refine den_true rfl ?_
      refine den_seq ?_
      -- region 2
      refine den_region rfl ?_
      refine WL_v (v_assign rfl) rfl ?_
      refine WL_nil ?_
      refine den_ret ?_
      exact ends1 Tryz.results44 rfl (Heap.le.refl _) (by simp) ⟨by first | rw [if_neg (fun g : GC a => by obtain ⟨g1, g2, g3⟩ := g; omega)] | rw [if_pos (show GC a from ⟨by omega, by omega, by omega⟩)], rfl⟩
    · intro c4; try have c4 := of_decide_eq_false c4
      refine WL_vg rfl rfl (v_move rfl) rfl ?_
      refine WL_vg rfl rfl (v_convz Tryz.underlying3 Tryz.underlying148 rfl (by omega) (by omega)) rfl ?_
      refine WL_callqg rfl rfl rfl (gpower_fn _ 2305843009213688669 (by omega) (by decide) _) rfl ?_
      refine WL_vg rfl rfl (v_neq rfl rfl) rfl ?_
      refine WL_v (v_pickf rfl rfl) rfl ?_
      refine WL_nil ?_
      first | refine den_ifd rfl (fun c5 => ?_) (fun c6 => ?_) | refine den_if rfl (fun c5 => ?_) (fun c6 => ?_)
      · skip
        refine den_seq ?_
        -- region 2
        refine den_region rfl ?_
        refine WL_v (v_assign rfl) rfl ?_
        refine WL_nil ?_
        refine den_ret ?_
        exact ends1 Tryz.results44 rfl (Heap.le.refl _) (by simp) ⟨by first | rw [if_neg (fun g : GC a => by obtain ⟨g1, g2, g3⟩ := g; omega)] | rw [if_pos (show GC a from ⟨by omega, by omega, by omega⟩)], rfl⟩
      · skip
        refine den_skip ?_
        refine den_seq ?_
        -- region 3
        refine den_region rfl ?_
        refine WL_v (v_assign rfl) rfl ?_
        refine WL_nil ?_
        refine den_ret ?_
        exact ends1 Tryz.results44 rfl (Heap.le.refl _) (by simp) ⟨by first | rw [if_neg (fun g : GC a => by obtain ⟨g1, g2, g3⟩ := g; omega)] | rw [if_pos (show GC a from ⟨by omega, by omega, by omega⟩)], rfl⟩

theorem gexp_fn (a k : Int) (h : Heap) : Fn0 Tryz.prog 47 [.int .i64 a, .int .i64 k] h (.tuple ⟨[.int .i64 (gexpV a k), .int .i64 (gexpE a k)]⟩) := by
  refine Tr_of Tryz.func47 rfl rfl Tryz.ntmps47 rfl [(0, .int .i64 a), (1, .int .i64 k)] rfl ?_
  intro Lf
  refine den_seq ?_
  -- region 0
  refine den_region rfl ?_
  refine WL_v (v_assign rfl) rfl ?_
  refine WL_v (v_assign rfl) rfl ?_
  refine WL_nil ?_
  refine den_seq ?_
  refine den_seq ?_
  -- region 1
  refine den_region rfl ?_
  refine WL_v (v_move rfl) rfl ?_
  refine WL_callq rfl (gcheck_fn _ _) rfl ?_
  refine WL_v (v_assign rfl) rfl ?_
  obtain ⟨c, hc⟩ : ∃ c, c = (if GC a then (0 : Int) else 40) := ⟨_, rfl⟩
  rw [← hc]
  refine WL_nil ?_
  refine den_seq ?_
  -- region 2
  refine den_region rfl ?_
  refine WL_v (v_move rfl) rfl ?_
  refine WL_v (v_neq rfl rfl) rfl ?_
  refine WL_nil ?_
  first | refine den_ifd rfl (fun c1 => ?_) (fun c2 => ?_) | refine den_if rfl (fun c1 => ?_) (fun c2 => ?_)
  · skip
    have hx : ¬ GC a := fun g => by rw [if_pos g] at hc; omega
    rw [if_neg hx] at hc; subst hc
    refine den_seq ?_
    -- region 3
    refine den_region rfl ?_
    refine WL_v (v_move rfl) rfl ?_
    refine WL_v (v_assign rfl) rfl ?_
    refine WL_v (v_assign rfl) rfl ?_
    refine WL_nil ?_
    refine den_ret ?_
    exact ends2 Tryz.results47 rfl rfl (Heap.le.refl _) (by simp) ⟨by unfold gexpV gexpE; first | rw [if_neg (fun g => hx g.1), if_pos hx] | rw [if_neg (fun g => by have := g.2; omega), if_neg (fun g => g hx), if_neg (by omega)] | rw [if_pos ⟨hx, by omega, by omega⟩, if_neg (fun g => g hx), if_pos (by omega)], rfl⟩
  · skip
    have hx : GC a := by by_cases g : GC a; exact g; rw [if_neg g] at hc; omega
    refine den_skip ?_
    refine den_seq ?_
    refine den_seq ?_
    -- region 4
    refine den_region rfl ?_
    refine WL_v (v_move rfl) rfl ?_
    refine WL_v (v_lss rfl rfl) rfl ?_
    refine WL_v (v_move rfl) rfl ?_
    first | refine WL_split (t := 14) rfl ?_ ?_
    · intro c3; try have c3 := of_decide_eq_true c3
      refine WL_skip (j := 2) (t := 14) (b := true) rfl rfl rfl rfl ?_
      refine WL_skip (j := 2) (t := 14) (b := true) rfl rfl rfl rfl ?_
      refine WL_v (v_pickt rfl rfl) rfl ?_
      refine WL_nil ?_
      refine den_true rfl ?_
      refine den_seq ?_
      -- region 5
      refine den_region rfl ?_
      refine WL_v (v_assign rfl) rfl ?_
      refine WL_v (v_assign rfl) rfl ?_
      refine WL_nil ?_
      refine den_ret ?_
      exact ends2 Tryz.results47 rfl rfl (Heap.le.refl _) (by simp) ⟨by unfold gexpV gexpE; first | rw [if_neg (fun g => hx g.1), if_pos hx] | rw [if_neg (fun g => by have := g.2; omega), if_neg (fun g => g hx), if_neg (by omega)] | rw [if_pos ⟨hx, by omega, by omega⟩, if_neg (fun g => g hx), if_pos (by omega)], rfl⟩
    · intro c4; try have c4 := of_decide_eq_false c4
      refine WL_vg rfl rfl (v_move rfl) rfl ?_
      refine WL_vg rfl rfl (v_geq rfl rfl) rfl ?_
      refine WL_v (v_pickf rfl rfl) rfl ?_
      refine WL_nil ?_
      first | refine den_ifd rfl (fun c5 => ?_) (fun c6 => ?_) | refine den_if rfl (fun c5 => ?_) (fun c6 => ?_)
      · skip
        refine den_seq ?_
        -- region 5
        refine den_region rfl ?_
        refine WL_v (v_assign rfl) rfl ?_
        refine WL_v (v_assign rfl) rfl ?_
        refine WL_nil ?_
        refine den_ret ?_
        exact ends2 Tryz.results47 rfl rfl (Heap.le.refl _) (by simp) ⟨by unfold gexpV gexpE; first | rw [if_neg (fun g => hx g.1), if_pos hx] | rw [if_neg (fun g => by have := g.2; omega), if_neg (fun g => g hx), if_neg (by omega)] | rw [if_pos ⟨hx, by omega, by omega⟩, if_neg (fun g => g hx), if_pos (by omega)], rfl⟩
      · skip
        refine den_skip ?_
        refine den_seq ?_
        -- region 6
        refine den_region rfl ?_
        refine WL_v (v_move rfl) rfl ?_
        refine WL_v (v_convz Tryz.underlying3 Tryz.underlying148 rfl (by have := hx.1; omega) (by have := hx.2.1; omega)) rfl ?_
        refine WL_v (v_move rfl) rfl ?_
        refine WL_v (v_convz Tryz.underlying3 Tryz.underlying148 rfl (by omega) (by omega)) rfl ?_
        refine WL_callq rfl (gpower_fn _ _ (by have := hx.2.1; have := hx.1; omega) (by omega) _) rfl ?_
        refine WL_v (v_convj Tryz.underlying148 Tryz.underlying3 rfl (by have := mpow_lt (m := 4611686018427377339) (a := a.toNat) (k := k.toNat) (by decide); omega)) rfl ?_
        refine WL_v (v_assign rfl) rfl ?_
        refine WL_v (v_assign rfl) rfl ?_
        refine WL_nil ?_
        refine den_ret ?_
        exact ends2 Tryz.results47 rfl rfl (Heap.le.refl _) (by simp) ⟨by unfold gexpV gexpE; first | rw [if_neg (fun g => hx g.1), if_pos hx] | rw [if_neg (fun g => by have := g.2; omega), if_neg (fun g => g hx), if_neg (by omega)] | rw [if_pos ⟨hx, by omega, by omega⟩, if_neg (fun g => g hx), if_pos (by omega)], rfl⟩

theorem gbase_fn (k : Int) (h : Heap) : Fn0 Tryz.prog 46 [.int .i64 k] h (.tuple ⟨[.int .i64 (gexpV 4 k), .int .i64 (gexpE 4 k)]⟩) := by
  refine Tr_of Tryz.func46 rfl rfl Tryz.ntmps46 rfl [(0, .int .i64 k)] rfl ?_
  intro Lf
  refine den_seq ?_
  -- region 0
  refine den_region rfl ?_
  refine WL_v (v_assign rfl) rfl ?_
  refine WL_v (v_assign rfl) rfl ?_
  refine WL_nil ?_
  refine den_seq ?_
  -- region 1
  refine den_region rfl ?_
  refine WL_v (v_move rfl) rfl ?_
  refine WL_callq rfl (gexp_fn _ _ _) rfl ?_
  refine WL_v (v_extract rfl rfl) rfl ?_
  refine WL_v (v_extract rfl rfl) rfl ?_
  refine WL_v (v_assign rfl) rfl ?_
  refine WL_v (v_assign rfl) rfl ?_
  refine WL_nil ?_
  refine den_ret ?_
  exact ends2 Tryz.results46 rfl rfl (Heap.le.refl _) (by simp) ⟨rfl, rfl⟩

theorem rest1_fn (c n m b4 b3 : Nat) (hc : c < 256) (hn : n < m) (hm : m < 18446744073709551616) (h : Heap) (hb : h b3 = some (.cells ⟨[.int .u64 (m : Int)]⟩ 148 (0, 0))) : Tr Tryz.prog 149 [.int .u8 (c : Int), .pointer (some ⟨b4, 0, none⟩), .pointer (some ⟨b3, 0, none⟩)] h [(b4, .cells ⟨[.int .u64 (n : Int)]⟩ 148 (0, 0))] (fun _ _ L' => L' = [(b4, .cells ⟨[.int .u64 (((n * 256 + c) % m : Nat) : Int)]⟩ 148 (0, 0))]) := by
  refine Tr_of Tryz.func149 rfl rfl Tryz.ntmps149 rfl [(0, .int .u8 (c : Int)), (1, .pointer (some ⟨b4, 0, none⟩)), (2, .pointer (some ⟨b3, 0, none⟩))] rfl ?_
  intro Lf
  -- region 0
  refine den_region rfl ?_
  refine WL_v (v_load1 one148 rfl (by first | exact Kn.own 0 rfl | exact Kn.own 1 rfl | exact Kn.own 2 rfl | exact Kn.own 3 rfl | exact Kn.own 4 rfl | exact Kn.own 5 rfl | exact Kn.per ‹_›) rfl) rfl ?_
  refine WL_v (v_shrn (s := 56) rfl rfl (by show _ < 18446744073709551616; omega)) rfl ?_
  refine WL_v (v_load1 one148 rfl (by first | exact Kn.own 0 rfl | exact Kn.own 1 rfl | exact Kn.own 2 rfl | exact Kn.own 3 rfl | exact Kn.own 4 rfl | exact Kn.own 5 rfl | exact Kn.per ‹_›) rfl) rfl ?_
  refine WL_v (v_shlm (s := 8) rfl rfl) rfl ?_
  refine WL_v (v_move rfl) rfl ?_
  refine WL_v (v_convu Tryz.underlying5 Tryz.underlying148 rfl (by omega)) rfl ?_
  refine WL_v (v_orn rfl rfl rfl (Nat.mod_lt _ (by decide)) (by show _ < 18446744073709551616; omega)) rfl ?_
  refine WL_v (v_load1 one148 rfl (by first | exact Kn.own 0 rfl | exact Kn.own 1 rfl | exact Kn.own 2 rfl | exact Kn.own 3 rfl | exact Kn.own 4 rfl | exact Kn.own 5 rfl | exact Kn.per ‹_›) rfl) rfl ?_
  have orl := or_lt (n := n) hc
  refine WL_callq rfl (div64_fn _ _ _ (Nat.lt_of_le_of_lt (Nat.div_le_self _ _) hn) orl hm _) rfl ?_
  refine WL_v (v_move rfl) rfl ?_
  refine WL_v (v_extract rfl rfl) rfl ?_
  refine WL_v (v_extract rfl rfl) rfl ?_
  refine WL_store0 rfl rfl rfl siz148 rfl rfl rfl ?_
  rw [fold_val (by omega) hc]
  refine WL_nil ?_
  refine den_nil ?_
  exact ends0 Tryz.results149 (Heap.le.refl _) (List.Sublist.refl _) rfl

theorem rest_fn (d : Dig) (m : Nat) (hm0 : 0 < m) (hm : m < 18446744073709551616) (h : Heap) : Fn0 Tryz.prog 124 [.agg ⟨dcells d⟩, .int .u64 (m : Int)] h (.int .u64 ((rst (dn d) m 32 : Nat) : Int)) := by
  refine Tr_of Tryz.func124 rfl rfl Tryz.ntmps124 rfl [(0, .agg ⟨dcells d⟩), (1, .int .u64 (m : Int))] rfl ?_
  intro Lf
  refine den_seq ?_
  -- region 0
  refine den_region rfl ?_
  refine WL_box rfl rfl rfl fun b2 => ?_
  refine WL_box rfl rfl rfl fun b3 => ?_
  refine WL_freeze fun h1 hl1 hb3 => ?_
  refine WL_freeze fun h2 hl2 hb2 => ?_
  have hb3 := hl2 _ _ hb3
  refine WL_alloc zer148 rfl rfl fun b4 => ?_
  refine WL_nil ?_
  refine den_seq ?_
  -- region 1
  refine den_region rfl ?_
  refine WL_v (v_func rfl rfl) rfl ?_
  refine WL_v (v_assign rfl) rfl ?_
  refine WL_nil ?_
  refine den_seq ?_
  refine den_seq ?_
  -- region 2
  refine den_region rfl ?_
  refine WL_v (v_loadn many26 rfl (by first | exact Kn.own 0 rfl | exact Kn.own 1 rfl | exact Kn.own 2 rfl | exact Kn.own 3 rfl | exact Kn.own 4 rfl | exact Kn.own 5 rfl | exact Kn.per ‹_›) rfl) rfl ?_
  refine WL_v (v_move rfl) rfl ?_
  refine WL_nil ?_
  refine den_block ?_
  refine den_loopI (ι := Nat) (fun i => [(4, .pointer (some ⟨b4, 0, none⟩)), (5, .func (.func 149) ⟨[]⟩ ⟨[.pointer (some ⟨b4, 0, none⟩), .pointer (some ⟨b3, 0, none⟩)]⟩), (9, .agg ⟨dcells d⟩), (10, .int .i64 (i : Int))]) (fun i h' L' => i ≤ 32 ∧ Heap.le h2 h' ∧ L' = [(b4, .cells ⟨[.int .u64 ((rst (dn d) m i : Nat) : Int)]⟩ 148 (0, 0))] ++ Lf) (fun i => 32 - i) 0 (sub_cons rfl (sub_cons rfl (sub_cons rfl (sub_cons rfl sub_nil)))) ⟨by omega, Heap.le.refl _, rfl⟩ ?_
  rintro i hq _ ⟨i1, hle1, rfl⟩
  have hb3 := hle1 _ _ hb3
  refine den_seq ?_
  -- region 3
  refine den_region rfl ?_
  refine WL_v (v_lss rfl rfl) rfl ?_
  refine WL_nil ?_
  refine den_seq ?_
  first | refine den_ifd rfl (fun hi => ?_) (fun hi => ?_) | refine den_if rfl (fun hi => ?_) (fun hi => ?_)
  · skip
    refine den_skip ?_
    refine den_seq ?_
    refine den_block ?_
    refine den_seq ?_
    -- region 4
    refine den_region rfl ?_
    refine WL_v (v_index1 Tryz.underlying26 siz5 one5 rfl rfl (by omega) (by omega) (by rw [Int.toNat_natCast, Nat.mul_one]; exact dcells_get d (by omega))) rfl ?_
    refine WL_v (v_assign rfl) rfl ?_
    refine WL_nil ?_
    -- region 5
    refine den_region rfl ?_
    refine WL_v (v_move rfl) rfl ?_
    refine WL_v (v_move rfl) rfl ?_
    refine WL_call (L1 := [(b4, .cells ⟨[.int .u64 ((rst (dn d) m i : Nat) : Int)]⟩ 148 (0, 0))]) rfl rfl (TrV.of (rest1_fn _ _ _ _ _ (dn_lt d i) (rst_lt hm0 i) hm _ hb3) rfl) rfl ?_
    rintro _ hr _ hle3 rfl
    refine WL_nil ?_
    refine den_blk ?_
    -- region 6
    refine den_region rfl ?_
    refine WL_v (v_addj (n := 1) rfl rfl (by omega)) rfl ?_
    refine WL_v (v_move rfl) rfl ?_
    refine WL_nil ?_
    refine den_again ⟨rfl, (i + 1), (by show 32 - (i + 1) < 32 - i; omega), (sub_cons rfl (sub_cons rfl (sub_cons rfl (sub_cons rfl sub_nil)))), ⟨by omega, hle1.trans hle3, rfl⟩⟩
  · skip
    have hi32 : i = 32 := by omega
    subst hi32
    refine den_exit rfl ?_
    refine den_seq ?_
    -- region 7
    refine den_region rfl ?_
    refine WL_v (v_load1 one148 rfl (by first | exact Kn.own 0 rfl | exact Kn.own 1 rfl | exact Kn.own 2 rfl | exact Kn.own 3 rfl | exact Kn.own 4 rfl | exact Kn.own 5 rfl | exact Kn.per ‹_›) rfl) rfl ?_
    refine WL_store0 rfl rfl rfl siz148 rfl rfl rfl ?_
    refine WL_nil ?_
    refine den_ret ?_
    exact endsr1 Tryz.results124 (rv_1 one148 rfl (by first | exact Kn.own 0 rfl | exact Kn.own 1 rfl | exact Kn.own 2 rfl | exact Kn.own 3 rfl | exact Kn.own 4 rfl | exact Kn.own 5 rfl | exact Kn.per ‹_›) rfl) ((hl1.trans hl2).trans hle1) (by simp) ⟨rfl, rfl⟩

theorem indexI_fn (a : Option Addr) (n cap : Nat) (x : Nat → Value) (p : Nat → Bool) (fv : Value) (h : Heap) (hn : n < 9223372036854775808) (hs : Sl1 h a n x) (hf : ∀ i h', i < n → Heap.le h h' → TrV Tryz.prog fv [x i] h' [] (fun v _ L' => v = .bool (p i) ∧ L' = [])) : Fn0 Tryz.prog 78 [.slice a n cap, fv] h (.int .i64 (findI p n)) := by
  refine Tr_of Tryz.func78 rfl rfl Tryz.ntmps78 rfl [(0, .slice a n cap), (1, fv)] rfl ?_
  intro Lf
  refine den_seq ?_
  -- region 0
  refine den_region rfl ?_
  refine WL_v (v_assign rfl) rfl ?_
  refine WL_nil ?_
  refine den_seq ?_
  refine den_seq ?_
  -- region 1
  refine den_region rfl ?_
  refine WL_v (v_move rfl) rfl ?_
  refine WL_v (v_lens Tryz.underlying22 rfl) rfl ?_
  refine WL_v (v_move rfl) rfl ?_
  refine WL_nil ?_
  refine den_block ?_
  refine den_loopI (ι := Nat) (fun i => [(0, .slice a n cap), (1, fv), (7, .int .i64 (n : Int)), (8, .int .i64 (i : Int))]) (fun i h' L' => i ≤ n ∧ Heap.le h h' ∧ L' = Lf ∧ ∀ j, j < i → p j = false) (fun i => n - i) 0 (sub_cons rfl (sub_cons rfl (sub_cons rfl (sub_cons rfl sub_nil)))) ⟨by omega, Heap.le.refl _, rfl, fun j hj => absurd hj (by omega)⟩ ?_
  rintro i hq _ ⟨i1, hle1, rfl, hall⟩
  refine den_seq ?_
  -- region 2
  refine den_region rfl ?_
  refine WL_v (v_lss rfl rfl) rfl ?_
  refine WL_nil ?_
  refine den_seq ?_
  first | refine den_ifd rfl (fun hi => ?_) (fun hi => ?_) | refine den_if rfl (fun hi => ?_) (fun hi => ?_)
  · skip
    have hi : i < n := by omega
    obtain ⟨bb, off, all, T, fr, rfl, hbk, hxi⟩ := hs i hi
    refine den_skip ?_
    refine den_seq ?_
    refine den_block ?_
    refine den_seq ?_
    -- region 3
    refine den_region rfl ?_
    refine WL_v (v_move rfl) rfl ?_
    refine WL_v (v_assign rfl) rfl ?_
    refine WL_nil ?_
    refine den_seq ?_
    -- region 4
    refine den_region rfl ?_
    refine WL_v (v_move rfl) rfl ?_
    refine WL_v (v_move rfl) rfl ?_
    refine WL_v (v_move rfl) rfl ?_
    refine WL_v (v_iaddrs Tryz.underlying22 siz3 rfl rfl rfl hi) rfl ?_
    refine WL_v (v_load1 one3 rfl (Kn.per (hle1 _ _ hbk)) hxi) rfl ?_
    refine WL_call (L1 := []) rfl rfl (hf i _ hi hle1) rfl ?_
    rintro _ hr _ hle2 ⟨rfl, rfl⟩
    refine WL_nil ?_
    first | refine den_ifd rfl (fun hyes => ?_) (fun hno => ?_) | refine den_if rfl (fun hyes => ?_) (fun hno => ?_)
    · skip
      refine den_seq ?_
      -- region 5
      refine den_region rfl ?_
      refine WL_v (v_move rfl) rfl ?_
      refine WL_v (v_assign rfl) rfl ?_
      refine WL_nil ?_
      refine den_ret ?_
      exact ends1 Tryz.results78 rfl (hle1.trans hle2) (by simp) ⟨by rw [findI_some hi hyes hall], rfl⟩
    · skip
      refine den_skip ?_
      refine den_blk ?_
      -- region 6
      refine den_region rfl ?_
      refine WL_v (v_addj (n := 1) rfl rfl (by show _ < 9223372036854775808; omega)) rfl ?_
      refine WL_v (v_move rfl) rfl ?_
      refine WL_nil ?_
      refine den_again ⟨rfl, (i + 1), (by show n - (i + 1) < n - i; omega), (sub_cons rfl (sub_cons rfl (sub_cons rfl (sub_cons rfl sub_nil)))), ⟨by omega, hle1.trans hle2, rfl, fun j hj => by rcases Nat.lt_succ_iff_lt_or_eq.1 hj with g | rfl; exact hall j g; exact hno⟩⟩
  · skip
    refine den_exit rfl ?_
    refine den_seq ?_
    -- region 7
    refine den_region rfl ?_
    refine WL_v (v_assign rfl) rfl ?_
    refine WL_nil ?_
    refine den_ret ?_
    exact ends1 Tryz.results78 rfl hle1 (by simp) ⟨by rw [findI_none (fun j hj => hall j (by omega))], rfl⟩

theorem containsI_fn (a : Option Addr) (n cap : Nat) (x : Nat → Value) (p : Nat → Bool) (fv : Value) (h : Heap) (hn : n < 9223372036854775808) (hs : Sl1 h a n x) (hf : ∀ i h', i < n → Heap.le h h' → TrV Tryz.prog fv [x i] h' [] (fun v _ L' => v = .bool (p i) ∧ L' = [])) : Fn0 Tryz.prog 31 [.slice a n cap, fv] h (.bool ((List.range n).any p)) := by
  refine Tr_of Tryz.func31 rfl rfl Tryz.ntmps31 rfl [(0, .slice a n cap), (1, fv)] rfl ?_
  intro Lf
  refine den_seq ?_
  -- region 0
  refine den_region rfl ?_
  refine WL_v (v_assign rfl) rfl ?_
  refine WL_nil ?_
  refine den_seq ?_
  -- region 1
  refine den_region rfl ?_
  refine WL_v (v_move rfl) rfl ?_
  refine WL_v (v_move rfl) rfl ?_
  refine WL_callq rfl (indexI_fn _ _ _ _ _ _ _ hn hs hf) rfl ?_
  refine WL_v (v_geq rfl rfl) rfl ?_
  refine WL_v (v_assign rfl) rfl ?_
  refine WL_nil ?_
  refine den_ret ?_
  exact ends1 Tryz.results31 rfl (Heap.le.refl _) (by simp) ⟨by rw [findI_any], rfl⟩

theorem fout1_fn (a : Int) (h : Heap) : Fn0 Tryz.prog 123 [.int .i64 a] h (.bool (outI a)) := by
  refine Tr_of Tryz.func123 rfl rfl Tryz.ntmps123 rfl [(0, .int .i64 a)] rfl ?_
  intro Lf
  refine den_seq ?_
  -- region 0
  refine den_region rfl ?_
  refine WL_v (v_assign rfl) rfl ?_
  refine WL_nil ?_
  refine den_seq ?_
  -- region 1
  refine den_region rfl ?_
  refine WL_v (v_move rfl) rfl ?_
  refine WL_v (v_lss rfl rfl) rfl ?_
  refine WL_v (v_move rfl) rfl ?_
  first | refine WL_split (t := 5) rfl ?_ ?_
  · intro c1; try have c1 := of_decide_eq_true c1
    refine WL_skip (j := 2) (t := 5) (b := true) rfl rfl rfl rfl ?_
    refine WL_skip (j := 2) (t := 5) (b := true) rfl rfl rfl rfl ?_
    refine WL_v (v_pickt rfl rfl) rfl ?_
    refine WL_v (v_assign rfl) rfl ?_
    refine WL_nil ?_
    refine den_ret ?_
    exact ends1 Tryz.results123 rfl (Heap.le.refl _) (by simp) ⟨by congr 1; unfold outI; first | exact (decide_eq_true (Or.inl ‹_›)).symm | (congr 1; exact propext ⟨fun g => Or.inr g, fun g => g.elim (fun x => absurd x ‹_›) id⟩), rfl⟩
  · intro c2; try have c2 := of_decide_eq_false c2
    refine WL_vg rfl rfl (v_move rfl) rfl ?_
    refine WL_vg rfl rfl (v_geq rfl rfl) rfl ?_
    refine WL_v (v_pickf rfl rfl) rfl ?_
    refine WL_v (v_assign rfl) rfl ?_
    refine WL_nil ?_
    refine den_ret ?_
    exact ends1 Tryz.results123 rfl (Heap.le.refl _) (by simp) ⟨by congr 1; unfold outI; first | exact (decide_eq_true (Or.inl ‹_›)).symm | (congr 1; exact propext ⟨fun g => Or.inr g, fun g => g.elim (fun x => absurd x ‹_›) id⟩), rfl⟩

theorem fout_fn (xs : List Int) (b cap : Nat) (T : TypeId) (fr : Nat × Nat) (h : Heap) (hn : xs.length < 9223372036854775808) (hb : h b = some (.cells ⟨xs.map (Value.int .i64)⟩ T fr)) : Fn0 Tryz.prog 95 [.slice (some ⟨b, 0, none⟩) xs.length cap] h (.bool (xs.any outI)) := by
  refine Tr_of Tryz.func95 rfl rfl Tryz.ntmps95 rfl [(0, .slice (some ⟨b, 0, none⟩) xs.length cap)] rfl ?_
  intro Lf
  refine den_seq ?_
  -- region 0
  refine den_region rfl ?_
  refine WL_v (v_assign rfl) rfl ?_
  refine WL_nil ?_
  refine den_seq ?_
  -- region 1
  refine den_region rfl ?_
  refine WL_v (v_move rfl) rfl ?_
  refine WL_callq rfl (containsI_fn _ _ _ (fun i => (xs.map (Value.int .i64)).getD i (.int .i64 0)) (fun i => outI (xs.getD i 0)) _ _ hn (Sl1.of hb (by simp)) (fun i h' hi _ => by rw [map_getD]; exact TrV.of0 (fout1_fn _ _))) rfl ?_
  refine WL_v (v_assign rfl) rfl ?_
  refine WL_nil ?_
  refine den_ret ?_
  exact ends1 Tryz.results95 rfl (Heap.le.refl _) (by simp) ⟨by rw [any_range_getD], rfl⟩





theorem fmul_fn (a b : Int) (h : Heap) : Fn0 Tryz.prog 64 [.int .i64 a, .int .i64 b] h (.tuple ⟨[.int .i64 (fmulV a b), .int .i64 (fokE a b)]⟩) := by
  refine Tr_of Tryz.func64 rfl rfl Tryz.ntmps64 rfl [(0, .int .i64 a), (1, .int .i64 b)] rfl ?_
  intro Lf
  refine den_seq ?_
  -- region 0
  refine den_region rfl ?_
  refine WL_v (v_assign rfl) rfl ?_
  refine WL_v (v_assign rfl) rfl ?_
  refine WL_nil ?_
  refine den_seq ?_
  refine den_seq ?_
  -- region 1
  refine den_region rfl ?_
  refine WL_v (v_move rfl) rfl ?_
  refine WL_v (v_move rfl) rfl ?_
  refine WL_buildSlice Tryz.underlying22 zer3 rfl siz3 rfl rfl rfl rfl rfl fun b8 => ?_
  refine WL_freeze fun h8 hl8 hb8 => ?_
  refine WL_callq rfl (fout_fn [a, b] _ _ _ _ _ (by simp) ‹_›) rfl ?_
  refine WL_nil ?_
  first | refine den_ifd rfl (fun ho => ?_) (fun ho => ?_) | refine den_if rfl (fun ho => ?_) (fun ho => ?_)
  · skip
    rw [outI2] at ho
    refine den_seq ?_
    -- region 2
    refine den_region rfl ?_
    refine WL_v (v_assign rfl) rfl ?_
    refine WL_v (v_assign rfl) rfl ?_
    refine WL_nil ?_
    refine den_ret ?_
    exact ends2 Tryz.results64 rfl rfl hl8 (by simp) ⟨by unfold fmulV fokE; first | rw [if_neg (fun g => by omega), if_neg (fun g => by omega)] | (rw [if_pos (by omega), if_pos (by omega)]; rfl), rfl⟩
  · skip
    rw [outI2f] at ho
    refine den_skip ?_
    refine den_seq ?_
    -- region 3
    refine den_region rfl ?_
    refine WL_v (v_move rfl) rfl ?_
    refine WL_v (v_move rfl) rfl ?_
    obtain ⟨m, rfl⟩ := int_nat (by omega : 0 ≤ a)
    obtain ⟨n, rfl⟩ := int_nat (by omega : 0 ≤ b)
    refine WL_callq rfl (fprod_fn _ _ (by omega) (by omega) _) rfl ?_
    refine WL_v (v_assign rfl) rfl ?_
    refine WL_v (v_assign rfl) rfl ?_
    refine WL_nil ?_
    refine den_ret ?_
    exact ends2 Tryz.results64 rfl rfl hl8 (by simp) ⟨by unfold fmulV fokE; first | rw [if_neg (fun g => by omega), if_neg (fun g => by omega)] | (rw [if_pos (by omega), if_pos (by omega)]; rfl), rfl⟩

theorem fadd_fn (a b : Int) (h : Heap) : Fn0 Tryz.prog 65 [.int .i64 a, .int .i64 b] h (.tuple ⟨[.int .i64 (faddV a b), .int .i64 (fokE a b)]⟩) := by
  refine Tr_of Tryz.func65 rfl rfl Tryz.ntmps65 rfl [(0, .int .i64 a), (1, .int .i64 b)] rfl ?_
  intro Lf
  refine den_seq ?_
  -- region 0
  refine den_region rfl ?_
  refine WL_v (v_assign rfl) rfl ?_
  refine WL_v (v_assign rfl) rfl ?_
  refine WL_nil ?_
  refine den_seq ?_
  refine den_seq ?_
  -- region 1
  refine den_region rfl ?_
  refine WL_v (v_move rfl) rfl ?_
  refine WL_v (v_move rfl) rfl ?_
  refine WL_buildSlice Tryz.underlying22 zer3 rfl siz3 rfl rfl rfl rfl rfl fun b8 => ?_
  refine WL_freeze fun h8 hl8 hb8 => ?_
  refine WL_callq rfl (fout_fn [a, b] _ _ _ _ _ (by simp) ‹_›) rfl ?_
  refine WL_nil ?_
  first | refine den_ifd rfl (fun ho => ?_) (fun ho => ?_) | refine den_if rfl (fun ho => ?_) (fun ho => ?_)
  · skip
    rw [outI2] at ho
    refine den_seq ?_
    -- region 2
    refine den_region rfl ?_
    refine WL_v (v_assign rfl) rfl ?_
    refine WL_v (v_assign rfl) rfl ?_
    refine WL_nil ?_
    refine den_ret ?_
    exact ends2 Tryz.results65 rfl rfl hl8 (by simp) ⟨by unfold faddV fokE; first | rw [if_neg (fun g => by omega), if_neg (fun g => by omega)] | (rw [if_pos (by omega), if_pos (by omega)]; rfl), rfl⟩
  · skip
    rw [outI2f] at ho
    refine den_skip ?_
    refine den_seq ?_
    -- region 3
    refine den_region rfl ?_
    obtain ⟨m, rfl⟩ := int_nat (by omega : 0 ≤ a)
    obtain ⟨n, rfl⟩ := int_nat (by omega : 0 ≤ b)
    refine WL_v (v_move rfl) rfl ?_
    refine WL_v (v_move rfl) rfl ?_
    refine WL_v (v_addj rfl rfl (by show _ < 9223372036854775808; omega)) rfl ?_
    refine WL_v (v_remn (n := 2305843009213688669) rfl rfl (by omega)) rfl ?_
    refine WL_v (v_assign rfl) rfl ?_
    refine WL_v (v_assign rfl) rfl ?_
    refine WL_nil ?_
    refine den_ret ?_
    exact ends2 Tryz.results65 rfl rfl hl8 (by simp) ⟨by unfold faddV fokE; first | rw [if_neg (fun g => by omega), if_neg (fun g => by omega)] | (rw [if_pos (by omega), if_pos (by omega)]; rfl), rfl⟩


theorem fcheck_fn (a : Int) (h : Heap) : Fn0 Tryz.prog 45 [.int .i64 a] h (.int .i64 (if outI a then 1 else 0)) := by
  refine Tr_of Tryz.func45 rfl rfl Tryz.ntmps45 rfl [(0, .int .i64 a)] rfl ?_
  intro Lf
  refine den_seq ?_
  -- region 0
  refine den_region rfl ?_
  refine WL_v (v_assign rfl) rfl ?_
  refine WL_nil ?_
  refine den_seq ?_
  refine den_seq ?_
  -- region 1
  refine den_region rfl ?_
  refine WL_v (v_move rfl) rfl ?_
  refine WL_buildSlice Tryz.underlying22 zer3 rfl siz3 rfl rfl rfl rfl rfl fun b4 => ?_
  refine WL_freeze fun h4 hl4 hb4 => ?_
  refine WL_callq rfl (fout_fn [a] _ _ _ _ _ (by simp) ‹_›) rfl ?_
  refine WL_nil ?_
  first | refine den_ifd rfl (fun ho => ?_) (fun ho => ?_) | refine den_if rfl (fun ho => ?_) (fun ho => ?_)
  · skip
    rw [out1] at ho
    refine den_seq ?_
    -- region 2
    refine den_region rfl ?_
    refine WL_v (v_assign rfl) rfl ?_
    refine WL_nil ?_
    refine den_ret ?_
    exact ends1 Tryz.results45 rfl hl4 (by simp) ⟨by rw [ho]; rfl, rfl⟩
  · skip
    rw [out1] at ho
    refine den_skip ?_
    refine den_seq ?_
    -- region 3
    refine den_region rfl ?_
    refine WL_v (v_assign rfl) rfl ?_
    refine WL_nil ?_
    refine den_ret ?_
    exact ends1 Tryz.results45 rfl hl4 (by simp) ⟨by rw [ho]; rfl, rfl⟩

end Go.Proofs.Ch
