/- Walks of the program's functions, printed by my own generator (layer L10). -/
import Derived.Test.YtmeakefbepbapaaGreatDoorL9
namespace Go.Proofs.Ch
open Go Go.Proofs
set_option maxRecDepth 4000
set_option maxHeartbeats 1000000
theorem plc30 : Plc Tryz.prog (match Tryz.prog.underlying 30 with | some (.struct fs) => fs | _ => #[]) [(0, 1), (1, 1)] := fun _ => by kernel_rfl
theorem rbytes_fn (n : Int) (h : Heap) : Tr Tryz.prog 69 [.int .i64 n] h [] (fun v _ L' => OwnS 5 1 v 8 ((u8s n).map byteV) L') := by
  refine Tr_of Tryz.func69 rfl rfl Tryz.ntmps69 rfl [(0, .int .i64 n)] rfl ?_
  intro Lf
  refine den_seq ?_
  -- region 0
  refine den_region rfl ?_
  refine WL_v (v_assign rfl) rfl ?_
  refine WL_nil ?_
  refine den_seq ?_
  -- region 1
  refine den_region rfl ?_
  refine WL_buildSlice Tryz.underlying53 zer5 rfl siz5 rfl rfl rfl rfl rfl fun b5 => ?_
  refine WL_v (v_assign rfl) rfl ?_
  refine WL_nil ?_
  refine den_seq ?_
  refine den_seq ?_
  -- region 2
  refine den_region rfl ?_
  refine WL_v (v_assign rfl) rfl ?_
  refine WL_nil ?_
  refine den_block ?_
  refine den_loopI (ι := Nat × Value × Owned) (fun ⟨m, v, L1⟩ => [(0, .int .i64 n), (3, v), (4, .int .i64 ((m : Int) - 1))]) (fun ⟨m, v, L1⟩ h' L' => m ≤ 8 ∧ Heap.le h h' ∧ L' = L1 ++ Lf ∧ OwnS 5 1 v (0 + (8 - m)) (([] ++ u8p (uu n) (8 - m)).map byteV) L1) (fun ⟨m, v, L1⟩ => m) (8, .slice (some ⟨b5, 0, none⟩) 0 0, [(b5, .cells ⟨[]⟩ 5 (0, 0))]) (sub_cons rfl (sub_cons rfl (sub_cons rfl sub_nil))) ⟨by omega, Heap.le.refl _, rfl, OwnS.full (n := 0) (xs := []) rfl (by decide)⟩ ?_
  rintro ⟨m, v, L1⟩ hq _ ⟨m1, hle, rfl, ho⟩
  refine den_seq ?_
  refine den_seq ?_
  -- region 3
  refine den_region rfl ?_
  refine WL_v (v_move rfl) rfl ?_
  refine WL_v (v_geq rfl rfl) rfl ?_
  refine WL_nil ?_
  first | refine den_ifd rfl (fun hm => ?_) (fun hm => ?_) | refine den_if rfl (fun hm => ?_) (fun hm => ?_)
  · skip
    obtain ⟨m, rfl⟩ : ∃ m1, m = m1 + 1 := ⟨m - 1, by omega⟩
    refine den_skip ?_
    refine den_seq ?_
    refine den_block ?_
    -- region 5
    refine den_region rfl ?_
    refine WL_v (v_move rfl) rfl ?_
    refine WL_v (v_move rfl) rfl ?_
    refine WL_v (v_convuu Tryz.underlying3 Tryz.underlying148 rfl) rfl ?_
    refine WL_v (OpV.to (v' := .int .i64 (m : Int)) (v_move rfl) (by congr 1; omega)) rfl ?_
    refine WL_v (v_mulj (m := 8) rfl rfl (by omega)) rfl ?_
    refine WL_v (v_shrn (s := 8 * m) rfl rfl (by have := uu_lt n; show _ < 18446744073709551616; omega)) rfl ?_
    refine WL_v (v_conv64_8 Tryz.underlying148 Tryz.underlying5 rfl) rfl ?_
    refine WL_buildSlice Tryz.underlying53 zer5 rfl siz5 rfl rfl rfl rfl rfl fun b17 => ?_
    refine WL_freeze fun h17 hl17 hb17 => ?_
    refine WL_append Tryz.underlying53 Tryz.underlying53 (.inr ⟨_, rfl⟩) siz5 byt5 (by decide) zer5 rfl rfl rfl rfl ho (Src.per (n := 1) (us := [byteV (byteAt (uu n) m)]) hb17 rfl) rfl (by omega) rfl fun v3 L3 ho3 => ?_
    refine WL_v (v_assign rfl) rfl ?_
    refine WL_nil ?_
    refine den_blk ?_
    -- region 4
    refine den_region rfl ?_
    refine WL_v (v_move rfl) rfl ?_
    refine WL_v (v_sub (z := (m : Int) - 1) rfl rfl (by rw [show (((m + 1 : Nat) : Int) - 1) - 1 = (m : Int) - 1 from by omega]; exact wrap_i64 (by omega) (by omega))) rfl ?_
    refine WL_v (v_assign rfl) rfl ?_
    refine WL_nil ?_
    refine den_again ⟨rfl, (m, v3, L3), (by show m < m + 1; omega), (sub_cons rfl (sub_cons rfl (sub_cons rfl sub_nil))), ⟨by omega, hle.trans hl17, rfl, u8_step (by omega) ho3⟩⟩
  · skip
    have hm0 : m = 0 := by omega
    subst hm0
    refine den_exit rfl ?_
    refine den_seq ?_
    -- region 6
    refine den_region rfl ?_
    refine WL_v (v_move rfl) rfl ?_
    refine WL_v (v_assign rfl) rfl ?_
    refine WL_nil ?_
    refine den_ret ?_
    exact ends1 Tryz.results69 rfl hle (List.Sublist.refl _) ho

theorem rprivate_fn (x : Int) (h : Heap) : Fn0 Tryz.prog 66 [.int .i64 x] h (.bool (decide (isPr x))) := by
  refine Tr_of Tryz.func66 rfl rfl Tryz.ntmps66 rfl [(0, .int .i64 x)] rfl ?_
  intro Lf
  refine den_seq ?_
  -- region 0
  refine den_region rfl ?_
  refine WL_v (v_assign rfl) rfl ?_
  refine WL_nil ?_
  refine den_seq ?_
  -- region 1
  refine den_region rfl ?_
  refine WL_v (v_move rfl) rfl ?_
  refine WL_v (v_geq rfl rfl) rfl ?_
  refine WL_v (v_move rfl) rfl ?_
  first | refine WL_split (t := 5) rfl ?_ ?_
  · intro c1; try have c1 := of_decide_eq_true c1
    refine WL_vg rfl rfl (v_move rfl) rfl ?_
    refine WL_vg rfl rfl (v_lss rfl rfl) rfl ?_
    refine WL_v (v_pickt rfl rfl) rfl ?_
    refine WL_v (v_assign rfl) rfl ?_
    refine WL_nil ?_
    refine den_ret ?_
    exact ends1 Tryz.results66 rfl (Heap.le.refl _) (by simp) ⟨by congr 1; first | exact (decide_eq_false (fun g => by have := g.1; omega)).symm | (rw [decide_eq_decide]; exact ⟨fun g => ⟨by omega, g⟩, fun g => g.2⟩), rfl⟩
  · intro c2; try have c2 := of_decide_eq_false c2
    refine WL_skip (j := 2) (t := 5) (b := false) rfl rfl rfl rfl ?_
    refine WL_skip (j := 2) (t := 5) (b := false) rfl rfl rfl rfl ?_
    refine WL_v (v_pickf rfl rfl) rfl ?_
    refine WL_v (v_assign rfl) rfl ?_
    refine WL_nil ?_
    refine den_ret ?_
    exact ends1 Tryz.results66 rfl (Heap.le.refl _) (by simp) ⟨by congr 1; first | exact (decide_eq_false (fun g => by have := g.1; omega)).symm | (rw [decide_eq_decide]; exact ⟨fun g => ⟨by omega, g⟩, fun g => g.2⟩), rfl⟩

theorem rpublic_fn (x : Int) (h : Heap) : Fn0 Tryz.prog 27 [.int .i64 x] h (.tuple ⟨[.int .i64 (if isPr x then gexpV 4 x else 0), .int .i64 (if isPr x then 0 else 50)]⟩) := by
  refine Tr_of Tryz.func27 rfl rfl Tryz.ntmps27 rfl [(0, .int .i64 x)] rfl ?_
  intro Lf
  refine den_seq ?_
  -- region 0
  refine den_region rfl ?_
  refine WL_v (v_assign rfl) rfl ?_
  refine WL_v (v_assign rfl) rfl ?_
  refine WL_nil ?_
  refine den_seq ?_
  refine den_seq ?_
  -- region 1
  refine den_region rfl ?_
  refine WL_v (v_move rfl) rfl ?_
  refine WL_callq rfl (rprivate_fn _ _) rfl ?_
  first | refine WL_v (v_notd rfl) rfl ?_ | refine WL_v (v_not rfl) rfl ?_
  refine WL_nil ?_
  first | refine den_ifd rfl (fun hx => ?_) (fun hx => ?_) | refine den_if rfl (fun hx => ?_) (fun hx => ?_)
  · skip
    refine den_seq ?_
    -- region 2
    refine den_region rfl ?_
    refine WL_v (v_assign rfl) rfl ?_
    refine WL_v (v_assign rfl) rfl ?_
    refine WL_nil ?_
    refine den_ret ?_
    exact ends2 Tryz.results27 rfl rfl (Heap.le.refl _) (by simp) ⟨by first | rw [if_neg hx, if_neg hx] | rw [if_pos hx, if_pos hx, gexpE4 (by have := hx.1; omega) hx.2], rfl⟩
  · skip
    have hx := Decidable.of_not_not hx
    refine den_skip ?_
    refine den_seq ?_
    -- region 3
    refine den_region rfl ?_
    refine WL_v (v_move rfl) rfl ?_
    refine WL_callq rfl (rbase_fn _ _) rfl ?_
    refine WL_v (v_extract rfl rfl) rfl ?_
    refine WL_v (v_extract rfl rfl) rfl ?_
    refine WL_v (v_assign rfl) rfl ?_
    refine WL_v (v_assign rfl) rfl ?_
    refine WL_nil ?_
    refine den_ret ?_
    exact ends2 Tryz.results27 rfl rfl (Heap.le.refl _) (by simp) ⟨by first | rw [if_neg hx, if_neg hx] | rw [if_pos hx, if_pos hx, gexpE4 (by have := hx.1; omega) hx.2], rfl⟩

theorem rchal_fn (p r : Int) (xv : Value) (xs : List UInt8) (h : Heap) (hv : Bs h xv xs) (hn : xs.length ≤ 1099511627) : Fn0 Tryz.prog 71 [.int .i64 p, .int .i64 r, xv] h (.int .i64 ((sgC p r xs : Nat) : Int)) := by
  refine Tr_of Tryz.func71 rfl rfl Tryz.ntmps71 rfl [(0, .int .i64 p), (1, .int .i64 r), (2, xv)] rfl ?_
  intro Lf
  refine den_seq ?_
  -- region 0
  refine den_region rfl ?_
  refine WL_v (v_assign rfl) rfl ?_
  refine WL_nil ?_
  refine den_seq ?_
  -- region 1
  refine den_region rfl ?_
  refine WL_v (v_move rfl) rfl ?_
  refine WL_callf (L1 := []) rfl (rbytes_fn _ _) rfl ?_
  rintro v8 h8 L8 hl8 ho8
  refine WL_v (v_move rfl) rfl ?_
  refine WL_callf (L1 := []) rfl (rbytes_fn _ _) rfl ?_
  rintro v10 h10 L10 hl10 ho10
  refine WL_freezeS ho10 fun h11 hl11 hbs10 => ?_
  refine WL_append Tryz.underlying53 Tryz.underlying53 (.inr ⟨_, rfl⟩) siz5 byt5 (by decide) zer5 rfl rfl rfl rfl ho8 hbs10.src (bytes_one _) (by rw [u8s_len]; omega) rfl fun v11 L11 ho11 => ?_
  refine WL_v (v_move rfl) rfl ?_
  refine WL_append Tryz.underlying53 Tryz.underlying53 (.inr ⟨_, rfl⟩) siz5 byt5 (by decide) zer5 rfl rfl rfl rfl ho11 (hv.le (hl8.trans (hl10.trans hl11))).src (bytes_one _) (by rw [u8s_len]; omega) rfl fun v13 L13 ho13 => ?_
  rw [← List.map_append, ← List.map_append, List.append_assoc] at ho13
  refine WL_freezeS ho13 fun h14 hl14 hbs => ?_
  refine WL_callq rfl (rscalar_fn _ _ _ _ (by decide) hbs (by rw [List.length_append, List.length_append, u8s_len, u8s_len]; omega)) rfl ?_
  rw [show scal _ (u8s r ++ (u8s p ++ xs)) = sgC p r xs from rfl]
  refine WL_v (v_assign rfl) rfl ?_
  refine WL_nil ?_
  refine den_ret ?_
  exact ends1 Tryz.results71 rfl (hl8.trans (hl10.trans (hl11.trans hl14))) (by simp) ⟨rfl, rfl⟩

theorem rsign_fn (x : Int) (xv : Value) (xs : List UInt8) (h : Heap) (hv : Bs h xv xs) (hn : xs.length ≤ 1099511627) : Fn0 Tryz.prog 28 [.int .i64 x, xv] h (.tuple ⟨[.agg ⟨[.int .i64 (if isPr x then sgR x xs else 0), .int .i64 (if isPr x then sgS x xs else 0)]⟩, .int .i64 (if isPr x then 0 else 50)]⟩) := by
  refine Tr_of Tryz.func28 rfl rfl Tryz.ntmps28 rfl [(0, .int .i64 x), (1, xv)] rfl ?_
  intro Lf
  refine den_seq ?_
  -- region 0
  refine den_region rfl ?_
  refine WL_alloc zer30 rfl rfl fun b4 => ?_
  refine WL_v (v_assign rfl) rfl ?_
  refine WL_nil ?_
  refine den_seq ?_
  -- region 1
  refine den_region rfl ?_
  refine WL_v (v_move rfl) rfl ?_
  refine WL_callq rfl (rpublic_fn _ _) rfl ?_
  refine WL_v (v_move rfl) rfl ?_
  refine WL_v (v_extract rfl rfl) rfl ?_
  refine WL_v (v_extract rfl rfl) rfl ?_
  refine WL_v (v_assign rfl) rfl ?_
  refine WL_v (v_assign rfl) rfl ?_
  refine WL_nil ?_
  refine den_seq ?_
  refine den_seq ?_
  -- region 2
  refine den_region rfl ?_
  refine WL_v (v_move rfl) rfl ?_
  refine WL_v (v_neq rfl rfl) rfl ?_
  refine WL_nil ?_
  first | refine den_ifd rfl (fun hE => ?_) (fun hE => ?_) | refine den_if rfl (fun hE => ?_) (fun hE => ?_)
  · skip
    have hx : ¬ isPr x := fun g => by rw [if_pos g] at hE; exact hE rfl
    refine den_seq ?_
    -- region 3
    refine den_region rfl ?_
    refine WL_v (v_builds Tryz.underlying30 zer30 plc30 rfl rfl rfl) rfl ?_
    refine WL_v (v_move rfl) rfl ?_
    refine WL_store0 rfl rfl rfl siz30 rfl rfl rfl ?_
    refine WL_v (v_assign rfl) rfl ?_
    refine WL_nil ?_
    refine den_ret ?_
    exact endsr2 Tryz.results28 (rv_n many30 rfl (by first | exact Kn.own 0 rfl | exact Kn.own 1 rfl | exact Kn.own 2 rfl | exact Kn.own 3 rfl | exact Kn.own 4 rfl | exact Kn.own 5 rfl | exact Kn.per ‹_›) rfl) (rv_t rfl) (by first | exact Heap.le.refl _ | exact hl25.trans hl27) (by simp) ⟨by first | rw [if_neg hx, if_neg hx, if_neg hx] | rfl, rfl⟩
  · skip
    have hx : isPr x := by by_cases g : isPr x; exact g; rw [if_neg g] at hE; omega
    simp only [if_pos hx]
    refine den_skip ?_
    refine den_seq ?_
    -- region 4
    refine den_region rfl ?_
    refine WL_v (v_move rfl) rfl ?_
    refine WL_callf (L1 := []) rfl (rbytes_fn _ _) rfl ?_
    rintro v25 h25 L25 hl25 ho25
    refine WL_v (v_move rfl) rfl ?_
    refine WL_append Tryz.underlying53 Tryz.underlying53 (.inr ⟨_, rfl⟩) siz5 byt5 (by decide) zer5 rfl rfl rfl rfl ho25 (hv.le hl25).src (bytes_one _) (by omega) rfl fun v27 L27 ho27 => ?_
    rw [← List.map_append] at ho27
    refine WL_freezeS ho27 fun h27 hl27 hbs => ?_
    refine WL_callq rfl (rscalar_fn _ _ _ _ (by decide) hbs (by rw [List.length_append, u8s_len]; omega)) rfl ?_
    rw [show scal _ (u8s x ++ xs) = sgK x xs from rfl]
    refine WL_v (v_assign rfl) rfl ?_
    refine WL_nil ?_
    refine den_seq ?_
    -- region 5
    refine den_region rfl ?_
    refine WL_v (v_move rfl) rfl ?_
    refine WL_callq rfl (rbase_fn _ _) rfl ?_
    refine WL_v (v_move rfl) rfl ?_
    refine WL_v (v_extract rfl rfl) rfl ?_
    refine WL_v (v_extract rfl rfl) rfl ?_
    refine WL_v (v_assign rfl) rfl ?_
    refine WL_v (v_assign rfl) rfl ?_
    refine WL_nil ?_
    refine den_seq ?_
    -- region 6
    refine den_region rfl ?_
    refine WL_v (v_move rfl) rfl ?_
    refine WL_v (v_move rfl) rfl ?_
    refine WL_v (v_move rfl) rfl ?_
    refine WL_callq rfl (rchal_fn _ _ _ _ _ (hv.le (hl25.trans hl27)) hn) rfl ?_
    refine WL_v (v_move rfl) rfl ?_
    refine WL_callq rfl (rmul_fn _ _ _) rfl ?_
    refine WL_v (v_move rfl) rfl ?_
    refine WL_v (v_extract rfl rfl) rfl ?_
    refine WL_v (v_extract rfl rfl) rfl ?_
    refine WL_v (v_assign rfl) rfl ?_
    refine WL_v (v_assign rfl) rfl ?_
    refine WL_nil ?_
    refine den_seq ?_
    -- region 7
    refine den_region rfl ?_
    refine WL_v (v_move rfl) rfl ?_
    refine WL_v (v_move rfl) rfl ?_
    refine WL_callq rfl (radd_fn _ _ _) rfl ?_
    refine WL_v (v_move rfl) rfl ?_
    refine WL_v (v_extract rfl rfl) rfl ?_
    refine WL_v (v_extract rfl rfl) rfl ?_
    refine WL_v (v_assign rfl) rfl ?_
    refine WL_v (v_assign rfl) rfl ?_
    refine WL_nil ?_
    refine den_seq ?_
    -- region 8
    refine den_region rfl ?_
    refine WL_v (v_move rfl) rfl ?_
    refine WL_v (v_move rfl) rfl ?_
    refine WL_v (v_builds Tryz.underlying30 zer30 plc30 rfl rfl rfl) rfl ?_
    refine WL_store0 rfl rfl rfl siz30 rfl rfl rfl ?_
    refine WL_v (v_assign rfl) rfl ?_
    refine WL_nil ?_
    refine den_ret ?_
    exact endsr2 Tryz.results28 (rv_n many30 rfl (by first | exact Kn.own 0 rfl | exact Kn.own 1 rfl | exact Kn.own 2 rfl | exact Kn.own 3 rfl | exact Kn.own 4 rfl | exact Kn.own 5 rfl | exact Kn.per ‹_›) rfl) (rv_t rfl) (by first | exact Heap.le.refl _ | exact hl25.trans hl27) (by simp) ⟨by first | rw [if_neg hx, if_neg hx, if_neg hx] | rfl, rfl⟩

end Go.Proofs.Ch
