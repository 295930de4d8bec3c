/- Walks of the program's functions, printed by my own generator (layer L3). -/
import Derived.Test.YtmeakefbepbapaaGreatDoorL2
namespace Go.Proofs.Ch
open Go Go.Proofs
set_option maxRecDepth 4000
set_option maxHeartbeats 1000000

theorem rsum3_fn (a b : Nat) (ha : a ≤ 2305843009213688669) (hb : b ≤ 2305843009213688669) (h : Heap) : Fn0 Tryz.prog 112 [.int .i64 (a : Int), .int .i64 (b : Int)] h (.int .i64 (((a + b) % 2305843009213688669 : Nat) : Int)) := by
  refine Tr_of Tryz.func112 rfl rfl Tryz.ntmps112 rfl [(0, .int .i64 (a : Int)), (1, .int .i64 (b : Int))] rfl ?_
  intro Lf
  refine den_seq ?_
  -- region 0
  refine den_region rfl ?_
  refine WL_v (v_assign rfl) rfl ?_
  refine WL_nil ?_
  refine den_seq ?_
  -- region 1
  refine den_region rfl ?_
  refine WL_v (v_move rfl) rfl ?_
  refine WL_v (v_move rfl) rfl ?_
  refine WL_v (v_addj rfl rfl (by show _ < 9223372036854775808; omega)) rfl ?_
  refine WL_v (v_remn (n := 2305843009213688669) rfl rfl (by omega)) rfl ?_
  refine WL_v (v_assign rfl) rfl ?_
  refine WL_nil ?_
  refine den_ret ?_
  exact ends1 Tryz.results112 rfl (Heap.le.refl _) (by simp) ⟨rfl, rfl⟩

theorem rsum4_fn (a b m : Nat) (ha : a < m) (hb : b < m) (hm : m < 4611686018427387904) (h : Heap) : Fn0 Tryz.prog 164 [.int .i64 (a : Int), .int .i64 (b : Int), .int .i64 (m : Int)] h (.int .i64 (((a + b) % m : Nat) : Int)) := by
  refine Tr_of Tryz.func164 rfl rfl Tryz.ntmps164 rfl [(0, .int .i64 (a : Int)), (1, .int .i64 (b : Int)), (2, .int .i64 (m : Int))] rfl ?_
  intro Lf
  refine den_seq ?_
  -- region 0
  refine den_region rfl ?_
  refine WL_v (v_assign rfl) rfl ?_
  refine WL_nil ?_
  refine den_seq ?_
  -- region 1
  refine den_region rfl ?_
  refine WL_v (v_move rfl) rfl ?_
  refine WL_v (v_move rfl) rfl ?_
  refine WL_v (v_addj rfl rfl (by show _ < 9223372036854775808; omega)) rfl ?_
  refine WL_v (v_assign rfl) rfl ?_
  refine WL_nil ?_
  refine den_seq ?_
  refine den_seq ?_
  -- region 2
  refine den_region rfl ?_
  refine WL_v (v_move rfl) rfl ?_
  refine WL_v (v_move rfl) rfl ?_
  refine WL_v (v_geq rfl rfl) rfl ?_
  refine WL_nil ?_
  first | refine den_ifd rfl (fun c1 => ?_) (fun c2 => ?_) | refine den_if rfl (fun c1 => ?_) (fun c2 => ?_)
  · skip
    refine den_seq ?_
    -- region 3
    refine den_region rfl ?_
    refine WL_v (v_move rfl) rfl ?_
    refine WL_v (v_move rfl) rfl ?_
    refine WL_v (v_subj rfl rfl (by omega) (by show _ < 9223372036854775808; omega)) rfl ?_
    refine WL_v (v_assign rfl) rfl ?_
    refine WL_nil ?_
    refine den_ret ?_
    exact ends1 Tryz.results164 rfl (Heap.le.refl _) (by simp) ⟨by rw [← sum_mod ha hb]; first | rw [if_pos (by omega)] | rw [if_neg (by omega)], rfl⟩
  · skip
    refine den_skip ?_
    refine den_seq ?_
    -- region 4
    refine den_region rfl ?_
    refine WL_v (v_move rfl) rfl ?_
    refine WL_v (v_assign rfl) rfl ?_
    refine WL_nil ?_
    refine den_ret ?_
    exact ends1 Tryz.results164 rfl (Heap.le.refl _) (by simp) ⟨by rw [← sum_mod ha hb]; first | rw [if_pos (by omega)] | rw [if_neg (by omega)], rfl⟩

theorem rprod3_fn (a0 b0  : Nat) (ha : a0 < 2305843009213688669) (hb : b0 < 4611686018427387904) (h : Heap) : Fn0 Tryz.prog 111 [.int .i64 (a0 : Int), .int .i64 (b0 : Int)] h (.int .i64 ((a0 * b0 % 2305843009213688669 : Nat) : Int)) := by
  refine Tr_of Tryz.func111 rfl rfl Tryz.ntmps111 rfl [(0, .int .i64 (a0 : Int)), (1, .int .i64 (b0 : Int))] rfl ?_
  intro Lf
  refine den_seq ?_
  -- region 0
  refine den_region rfl ?_
  refine WL_v (v_assign rfl) rfl ?_
  refine WL_nil ?_
  refine den_seq ?_
  -- region 1
  refine den_region rfl ?_
  refine WL_v (v_assign rfl) rfl ?_
  refine WL_nil ?_
  refine den_seq ?_
  refine den_block ?_
  refine den_loopI (ι := Nat × Nat × Nat) (fun ⟨a, b, c⟩ => [(0, .int .i64 ((a : Nat) : Int)), (1, .int .i64 ((b : Nat) : Int)), (5, .int .i64 ((c : Nat) : Int))]) (fun ⟨a, b, c⟩ h' L' => h = h' ∧ Lf = L' ∧ c < 2305843009213688669 ∧ a < 2305843009213688669 ∧ b < 4611686018427387904 ∧ (c + a * b) % 2305843009213688669 = a0 * b0 % 2305843009213688669) (fun ⟨a, b, c⟩ => b) (a0, b0, 0) (sub_cons rfl (sub_cons rfl (sub_cons rfl sub_nil))) ⟨rfl, rfl, by omega, ha, hb, by rw [Nat.zero_add]⟩ ?_
  rintro ⟨a, b, c⟩ _ _ ⟨rfl, rfl, ic, ia, ib, iv⟩
  have m1 : (a + a) % 2305843009213688669 < 2305843009213688669 := Nat.mod_lt _ (by omega)
  have m2 : (c + a) % 2305843009213688669 < 2305843009213688669 := Nat.mod_lt _ (by omega)
  refine den_seq ?_
  refine den_seq ?_
  -- region 2
  refine den_region rfl ?_
  refine WL_v (v_move rfl) rfl ?_
  refine WL_v (v_gtr rfl rfl) rfl ?_
  refine WL_nil ?_
  first | refine den_ifd rfl (fun hgt => ?_) (fun hgt => ?_) | refine den_if rfl (fun hgt => ?_) (fun hgt => ?_)
  · skip
    refine den_skip ?_
    refine den_block ?_
    refine den_seq ?_
    refine den_seq ?_
    -- region 3
    refine den_region rfl ?_
    refine WL_v (v_move rfl) rfl ?_
    refine WL_v (v_remn (n := 2) rfl rfl (by omega)) rfl ?_
    refine WL_v (v_eql rfl rfl) rfl ?_
    refine WL_nil ?_
    first | refine den_ifd rfl (fun hodd => ?_) (fun hodd => ?_) | refine den_if rfl (fun hodd => ?_) (fun hodd => ?_)
    · skip
      -- region 4
      refine den_region rfl ?_
      refine WL_v (v_move rfl) rfl ?_
      refine WL_v (v_move rfl) rfl ?_
      refine WL_callq rfl (rsum3_fn _ _ (by omega) (by omega) _) rfl ?_
      refine WL_v (v_assign rfl) rfl ?_
      refine WL_nil ?_
      refine den_seq ?_
      -- region 5
      refine den_region rfl ?_
      refine WL_v (v_move rfl) rfl ?_
      refine WL_v (v_move rfl) rfl ?_
      refine WL_callq rfl (rsum3_fn _ _ (by omega) (by omega) _) rfl ?_
      refine WL_v (v_assign rfl) rfl ?_
      refine WL_nil ?_
      -- region 6
      refine den_region rfl ?_
      refine WL_v (v_move rfl) rfl ?_
      refine WL_v (v_quoj (n := 2) rfl rfl (by omega) (by show _ < 9223372036854775808; omega)) rfl ?_
      refine WL_v (v_assign rfl) rfl ?_
      refine WL_nil ?_
      refine den_blk ?_
      refine den_again ⟨rfl, (_, _, _), (by show b / 2 < b; omega), (sub_cons rfl (sub_cons rfl (sub_cons rfl sub_nil))), ⟨rfl, rfl, by omega, m1, by omega, by rw [← iv, ← prod_step (m := 2305843009213688669) (a := a) (b := b) (c := c) (by omega)]; first | rw [if_pos (by omega)] | rw [if_neg (by omega)]⟩⟩
    · skip
      refine den_skip ?_
      refine den_seq ?_
      -- region 5
      refine den_region rfl ?_
      refine WL_v (v_move rfl) rfl ?_
      refine WL_v (v_move rfl) rfl ?_
      refine WL_callq rfl (rsum3_fn _ _ (by omega) (by omega) _) rfl ?_
      refine WL_v (v_assign rfl) rfl ?_
      refine WL_nil ?_
      -- region 6
      refine den_region rfl ?_
      refine WL_v (v_move rfl) rfl ?_
      refine WL_v (v_quoj (n := 2) rfl rfl (by omega) (by show _ < 9223372036854775808; omega)) rfl ?_
      refine WL_v (v_assign rfl) rfl ?_
      refine WL_nil ?_
      refine den_blk ?_
      refine den_again ⟨rfl, (_, _, _), (by show b / 2 < b; omega), (sub_cons rfl (sub_cons rfl (sub_cons rfl sub_nil))), ⟨rfl, rfl, by omega, m1, by omega, by rw [← iv, ← prod_step (m := 2305843009213688669) (a := a) (b := b) (c := c) (by omega)]; first | rw [if_pos (by omega)] | rw [if_neg (by omega)]⟩⟩
  · skip
    have hb0 : b = 0 := by omega
    subst hb0
    refine den_exit rfl ?_
    refine den_seq ?_
    -- region 7
    refine den_region rfl ?_
    refine WL_v (v_move rfl) rfl ?_
    refine WL_v (v_assign rfl) rfl ?_
    refine WL_nil ?_
    refine den_ret ?_
    exact ends1 Tryz.results111 rfl (Heap.le.refl _) (by simp) ⟨by rw [← iv, Nat.mul_zero, Nat.add_zero, Nat.mod_eq_of_lt ic], rfl⟩

theorem rprod4_fn (a0 b0 m : Nat) (ha : a0 < m) (hb : b0 < 4611686018427387904) (hm : m < 4611686018427387904) (h : Heap) : Fn0 Tryz.prog 140 [.int .i64 (a0 : Int), .int .i64 (b0 : Int), .int .i64 (m : Int)] h (.int .i64 ((a0 * b0 % m : Nat) : Int)) := by
  refine Tr_of Tryz.func140 rfl rfl Tryz.ntmps140 rfl [(0, .int .i64 (a0 : Int)), (1, .int .i64 (b0 : Int)), (2, .int .i64 (m : Int))] rfl ?_
  intro Lf
  refine den_seq ?_
  -- region 0
  refine den_region rfl ?_
  refine WL_v (v_assign rfl) rfl ?_
  refine WL_nil ?_
  refine den_seq ?_
  -- region 1
  refine den_region rfl ?_
  refine WL_v (v_assign rfl) rfl ?_
  refine WL_nil ?_
  refine den_seq ?_
  refine den_block ?_
  refine den_loopI (ι := Nat × Nat × Nat) (fun ⟨a, b, c⟩ => [(0, .int .i64 ((a : Nat) : Int)), (1, .int .i64 ((b : Nat) : Int)), (2, .int .i64 ((m : Nat) : Int)), (7, .int .i64 ((c : Nat) : Int))]) (fun ⟨a, b, c⟩ h' L' => h = h' ∧ Lf = L' ∧ c < m ∧ a < m ∧ b < 4611686018427387904 ∧ (c + a * b) % m = a0 * b0 % m) (fun ⟨a, b, c⟩ => b) (a0, b0, 0) (sub_cons rfl (sub_cons rfl (sub_cons rfl (sub_cons rfl sub_nil)))) ⟨rfl, rfl, by omega, ha, hb, by rw [Nat.zero_add]⟩ ?_
  rintro ⟨a, b, c⟩ _ _ ⟨rfl, rfl, ic, ia, ib, iv⟩
  have m1 : (a + a) % m < m := Nat.mod_lt _ (by omega)
  have m2 : (c + a) % m < m := Nat.mod_lt _ (by omega)
  refine den_seq ?_
  refine den_seq ?_
  -- region 2
  refine den_region rfl ?_
  refine WL_v (v_move rfl) rfl ?_
  refine WL_v (v_gtr rfl rfl) rfl ?_
  refine WL_nil ?_
  first | refine den_ifd rfl (fun hgt => ?_) (fun hgt => ?_) | refine den_if rfl (fun hgt => ?_) (fun hgt => ?_)
  · skip
    refine den_skip ?_
    refine den_block ?_
    refine den_seq ?_
    refine den_seq ?_
    -- region 3
    refine den_region rfl ?_
    refine WL_v (v_move rfl) rfl ?_
    refine WL_v (v_remn (n := 2) rfl rfl (by omega)) rfl ?_
    refine WL_v (v_eql rfl rfl) rfl ?_
    refine WL_nil ?_
    first | refine den_ifd rfl (fun hodd => ?_) (fun hodd => ?_) | refine den_if rfl (fun hodd => ?_) (fun hodd => ?_)
    · skip
      -- region 4
      refine den_region rfl ?_
      refine WL_v (v_move rfl) rfl ?_
      refine WL_v (v_move rfl) rfl ?_
      refine WL_v (v_move rfl) rfl ?_
      refine WL_callq rfl (rsum4_fn _ _ _ (by omega) (by omega) hm _) rfl ?_
      refine WL_v (v_assign rfl) rfl ?_
      refine WL_nil ?_
      refine den_seq ?_
      -- region 5
      refine den_region rfl ?_
      refine WL_v (v_move rfl) rfl ?_
      refine WL_v (v_move rfl) rfl ?_
      refine WL_v (v_move rfl) rfl ?_
      refine WL_callq rfl (rsum4_fn _ _ _ (by omega) (by omega) hm _) rfl ?_
      refine WL_v (v_assign rfl) rfl ?_
      refine WL_nil ?_
      -- region 6
      refine den_region rfl ?_
      refine WL_v (v_move rfl) rfl ?_
      refine WL_v (v_quoj (n := 2) rfl rfl (by omega) (by show _ < 9223372036854775808; omega)) rfl ?_
      refine WL_v (v_assign rfl) rfl ?_
      refine WL_nil ?_
      refine den_blk ?_
      refine den_again ⟨rfl, (_, _, _), (by show b / 2 < b; omega), (sub_cons rfl (sub_cons rfl (sub_cons rfl (sub_cons rfl sub_nil)))), ⟨rfl, rfl, by omega, m1, by omega, by rw [← iv, ← prod_step (m := m) (a := a) (b := b) (c := c) (by omega)]; first | rw [if_pos (by omega)] | rw [if_neg (by omega)]⟩⟩
    · skip
      refine den_skip ?_
      refine den_seq ?_
      -- region 5
      refine den_region rfl ?_
      refine WL_v (v_move rfl) rfl ?_
      refine WL_v (v_move rfl) rfl ?_
      refine WL_v (v_move rfl) rfl ?_
      refine WL_callq rfl (rsum4_fn _ _ _ (by omega) (by omega) hm _) rfl ?_
      refine WL_v (v_assign rfl) rfl ?_
      refine WL_nil ?_
      -- region 6
      refine den_region rfl ?_
      refine WL_v (v_move rfl) rfl ?_
      refine WL_v (v_quoj (n := 2) rfl rfl (by omega) (by show _ < 9223372036854775808; omega)) rfl ?_
      refine WL_v (v_assign rfl) rfl ?_
      refine WL_nil ?_
      refine den_blk ?_
      refine den_again ⟨rfl, (_, _, _), (by show b / 2 < b; omega), (sub_cons rfl (sub_cons rfl (sub_cons rfl (sub_cons rfl sub_nil)))), ⟨rfl, rfl, by omega, m1, by omega, by rw [← iv, ← prod_step (m := m) (a := a) (b := b) (c := c) (by omega)]; first | rw [if_pos (by omega)] | rw [if_neg (by omega)]⟩⟩
  · skip
    have hb0 : b = 0 := by omega
    subst hb0
    refine den_exit rfl ?_
    refine den_seq ?_
    -- region 7
    refine den_region rfl ?_
    refine WL_v (v_move rfl) rfl ?_
    refine WL_v (v_assign rfl) rfl ?_
    refine WL_nil ?_
    refine den_ret ?_
    exact ends1 Tryz.results140 rfl (Heap.le.refl _) (by simp) ⟨by rw [← iv, Nat.mul_zero, Nat.add_zero, Nat.mod_eq_of_lt ic], rfl⟩


theorem rpow4_fn (a0 k0 : Nat) (ha : a0 < 4611686018427377339) (hk : k0 < 4611686018427387904) (h : Heap) : Fn0 Tryz.prog 139 [.int .i64 (a0 : Int), .int .i64 (k0 : Int)] h (.int .i64 ((mpow 4611686018427377339 a0 k0 : Nat) : Int)) := by
  refine Tr_of Tryz.func139 rfl rfl Tryz.ntmps139 rfl [(0, .int .i64 (a0 : Int)), (1, .int .i64 (k0 : Int))] rfl ?_
  intro Lf
  refine den_seq ?_
  -- region 0
  refine den_region rfl ?_
  refine WL_v (v_assign rfl) rfl ?_
  refine WL_nil ?_
  refine den_seq ?_
  -- region 1
  refine den_region rfl ?_
  refine WL_v (v_assign rfl) rfl ?_
  refine WL_nil ?_
  refine den_seq ?_
  refine den_block ?_
  refine den_loopI (ι := Nat × Nat × Nat) (fun ⟨a, k, c⟩ => [(0, .int .i64 ((a : Nat) : Int)), (1, .int .i64 ((k : Nat) : Int)), (5, .int .i64 ((c : Nat) : Int))]) (fun ⟨a, k, c⟩ h' L' => h = h' ∧ Lf = L' ∧ c < 4611686018427377339 ∧ a < 4611686018427377339 ∧ k < 4611686018427387904 ∧ c * mpow 4611686018427377339 a k % 4611686018427377339 = mpow 4611686018427377339 a0 k0) (fun ⟨a, k, c⟩ => k) (a0, k0, 1) (sub_cons rfl (sub_cons rfl (sub_cons rfl sub_nil))) ⟨rfl, rfl, by omega, ha, hk, by rw [Nat.one_mul, Nat.mod_eq_of_lt (mpow_lt (by decide))]⟩ ?_
  rintro ⟨a, k, c⟩ _ _ ⟨rfl, rfl, ic, ia, ik, iv⟩
  have m1 : a * a % 4611686018427377339 < 4611686018427377339 := Nat.mod_lt _ (by omega)
  have m2 : c * a % 4611686018427377339 < 4611686018427377339 := Nat.mod_lt _ (by omega)
  refine den_seq ?_
  refine den_seq ?_
  -- region 2
  refine den_region rfl ?_
  refine WL_v (v_move rfl) rfl ?_
  refine WL_v (v_gtr rfl rfl) rfl ?_
  refine WL_nil ?_
  first | refine den_ifd rfl (fun hgt => ?_) (fun hgt => ?_) | refine den_if rfl (fun hgt => ?_) (fun hgt => ?_)
  · skip
    refine den_skip ?_
    refine den_block ?_
    refine den_seq ?_
    refine den_seq ?_
    -- region 3
    refine den_region rfl ?_
    refine WL_v (v_move rfl) rfl ?_
    refine WL_v (v_remn (n := 2) rfl rfl (by omega)) rfl ?_
    refine WL_v (v_eql rfl rfl) rfl ?_
    refine WL_nil ?_
    first | refine den_ifd rfl (fun hodd => ?_) (fun hodd => ?_) | refine den_if rfl (fun hodd => ?_) (fun hodd => ?_)
    · skip
      -- region 4
      refine den_region rfl ?_
      refine WL_v (v_move rfl) rfl ?_
      refine WL_v (v_move rfl) rfl ?_
      refine WL_callq rfl (rprod4_fn _ _ 4611686018427377339 (by omega) (by omega) (by decide) _) rfl ?_
      refine WL_v (v_assign rfl) rfl ?_
      refine WL_nil ?_
      refine den_seq ?_
      -- region 5
      refine den_region rfl ?_
      refine WL_v (v_move rfl) rfl ?_
      refine WL_v (v_move rfl) rfl ?_
      refine WL_callq rfl (rprod4_fn _ _ 4611686018427377339 (by omega) (by omega) (by decide) _) rfl ?_
      refine WL_v (v_assign rfl) rfl ?_
      refine WL_nil ?_
      -- region 6
      refine den_region rfl ?_
      refine WL_v (v_move rfl) rfl ?_
      refine WL_v (v_quoj (n := 2) rfl rfl (by omega) (by show _ < 9223372036854775808; omega)) rfl ?_
      refine WL_v (v_assign rfl) rfl ?_
      refine WL_nil ?_
      refine den_blk ?_
      refine den_again ⟨rfl, (_, _, _), (by show k / 2 < k; omega), (sub_cons rfl (sub_cons rfl (sub_cons rfl sub_nil))), ⟨rfl, rfl, by omega, m1, by omega, by rw [← iv, ← pow_step (m := 4611686018427377339) (a := a) (k := k) (c := c)]; first | rw [if_pos (by omega)] | rw [if_neg (by omega)]⟩⟩
    · skip
      refine den_skip ?_
      refine den_seq ?_
      -- region 5
      refine den_region rfl ?_
      refine WL_v (v_move rfl) rfl ?_
      refine WL_v (v_move rfl) rfl ?_
      refine WL_callq rfl (rprod4_fn _ _ 4611686018427377339 (by omega) (by omega) (by decide) _) rfl ?_
      refine WL_v (v_assign rfl) rfl ?_
      refine WL_nil ?_
      -- region 6
      refine den_region rfl ?_
      refine WL_v (v_move rfl) rfl ?_
      refine WL_v (v_quoj (n := 2) rfl rfl (by omega) (by show _ < 9223372036854775808; omega)) rfl ?_
      refine WL_v (v_assign rfl) rfl ?_
      refine WL_nil ?_
      refine den_blk ?_
      refine den_again ⟨rfl, (_, _, _), (by show k / 2 < k; omega), (sub_cons rfl (sub_cons rfl (sub_cons rfl sub_nil))), ⟨rfl, rfl, by omega, m1, by omega, by rw [← iv, ← pow_step (m := 4611686018427377339) (a := a) (k := k) (c := c)]; first | rw [if_pos (by omega)] | rw [if_neg (by omega)]⟩⟩
  · skip
    have hk0 : k = 0 := by omega
    subst hk0
    refine den_exit rfl ?_
    refine den_seq ?_
    -- region 7
    refine den_region rfl ?_
    refine WL_v (v_move rfl) rfl ?_
    refine WL_v (v_assign rfl) rfl ?_
    refine WL_nil ?_
    refine den_ret ?_
    exact ends1 Tryz.results139 rfl (Heap.le.refl _) (by simp) ⟨by rw [← iv, mpow_zero (by decide), Nat.mul_one, Nat.mod_eq_of_lt ic], rfl⟩

theorem rscal3_fn (a : Int) (h : Heap) : Fn0 Tryz.prog 110 [.int .i64 a] h (.bool (!outI a)) := by
  refine Tr_of Tryz.func110 rfl rfl Tryz.ntmps110 rfl [(0, .int .i64 a)] rfl ?_
  intro Lf
  refine den_seq ?_
  -- region 0
  refine den_region rfl ?_
  refine WL_v (v_assign rfl) rfl ?_
  refine WL_nil ?_
  refine den_seq ?_
  -- region 1
  refine den_region rfl ?_
  refine WL_v (v_move rfl) rfl ?_
  refine WL_v (v_geq rfl rfl) rfl ?_
  refine WL_v (v_move rfl) rfl ?_
  first | refine WL_split (t := 5) rfl ?_ ?_
  · intro c1; try have c1 := of_decide_eq_true c1
    refine WL_vg rfl rfl (v_move rfl) rfl ?_
    refine WL_vg rfl rfl (v_lss rfl rfl) rfl ?_
    refine WL_v (v_pickt rfl rfl) rfl ?_
    refine WL_v (v_assign rfl) rfl ?_
    refine WL_nil ?_
    refine den_ret ?_
    exact ends1 Tryz.results110 rfl (Heap.le.refl _) (by simp) ⟨by congr 1; rw [not_dec]; first | (rw [decide_eq_false (p := 0 ≤ a) ‹_›]; rfl) | (rw [decide_eq_true (p := 0 ≤ a) ‹_›]; rfl), rfl⟩
  · intro c2; try have c2 := of_decide_eq_false c2
    refine WL_skip (j := 2) (t := 5) (b := false) rfl rfl rfl rfl ?_
    refine WL_skip (j := 2) (t := 5) (b := false) rfl rfl rfl rfl ?_
    refine WL_v (v_pickf rfl rfl) rfl ?_
    refine WL_v (v_assign rfl) rfl ?_
    refine WL_nil ?_
    refine den_ret ?_
    exact ends1 Tryz.results110 rfl (Heap.le.refl _) (by simp) ⟨by congr 1; rw [not_dec]; first | (rw [decide_eq_false (p := 0 ≤ a) ‹_›]; rfl) | (rw [decide_eq_true (p := 0 ≤ a) ‹_›]; rfl), rfl⟩

theorem rscal4_fn (a : Int) (h : Heap) : Fn0 Tryz.prog 138 [.int .i64 a] h (.bool (!outI a)) := by
  refine Tr_of Tryz.func138 rfl rfl Tryz.ntmps138 rfl [(0, .int .i64 a)] rfl ?_
  intro Lf
  refine den_seq ?_
  -- region 0
  refine den_region rfl ?_
  refine WL_v (v_assign rfl) rfl ?_
  refine WL_nil ?_
  refine den_seq ?_
  -- region 1
  refine den_region rfl ?_
  refine WL_v (v_move rfl) rfl ?_
  refine WL_v (v_geq rfl rfl) rfl ?_
  refine WL_v (v_move rfl) rfl ?_
  first | refine WL_split (t := 5) rfl ?_ ?_
  · intro c1; try have c1 := of_decide_eq_true c1
    refine WL_vg rfl rfl (v_move rfl) rfl ?_
    refine WL_vg rfl rfl (v_lss rfl rfl) rfl ?_
    refine WL_v (v_pickt rfl rfl) rfl ?_
    refine WL_v (v_assign rfl) rfl ?_
    refine WL_nil ?_
    refine den_ret ?_
    exact ends1 Tryz.results138 rfl (Heap.le.refl _) (by simp) ⟨by congr 1; rw [not_dec]; first | (rw [decide_eq_false (p := 0 ≤ a) ‹_›]; rfl) | (rw [decide_eq_true (p := 0 ≤ a) ‹_›]; rfl), rfl⟩
  · intro c2; try have c2 := of_decide_eq_false c2
    refine WL_skip (j := 2) (t := 5) (b := false) rfl rfl rfl rfl ?_
    refine WL_skip (j := 2) (t := 5) (b := false) rfl rfl rfl rfl ?_
    refine WL_v (v_pickf rfl rfl) rfl ?_
    refine WL_v (v_assign rfl) rfl ?_
    refine WL_nil ?_
    refine den_ret ?_
    exact ends1 Tryz.results138 rfl (Heap.le.refl _) (by simp) ⟨by congr 1; rw [not_dec]; first | (rw [decide_eq_false (p := 0 ≤ a) ‹_›]; rfl) | (rw [decide_eq_true (p := 0 ≤ a) ‹_›]; rfl), rfl⟩

theorem rmul_fn (a b : Int) (h : Heap) : Fn0 Tryz.prog 70 [.int .i64 a, .int .i64 b] h (.tuple ⟨[.int .i64 (fmulV a b), .int .i64 (fokE a b)]⟩) := by
  refine Tr_of Tryz.func70 rfl rfl Tryz.ntmps70 rfl [(0, .int .i64 a), (1, .int .i64 b)] rfl ?_
  intro Lf
  refine den_seq ?_
  -- region 0
  refine den_region rfl ?_
  refine WL_v (v_assign rfl) rfl ?_
  refine WL_v (v_assign rfl) rfl ?_
  refine WL_nil ?_
  refine den_seq ?_
  refine den_seq ?_
  -- region 1
  refine den_region rfl ?_
  refine WL_v (v_move rfl) rfl ?_
  refine WL_callq rfl (rscal3_fn _ _) rfl ?_
  first | refine WL_v (v_notd rfl) rfl ?_ | refine WL_v (v_not rfl) rfl ?_
  refine WL_v (v_move rfl) rfl ?_
  first | refine WL_split (t := 9) rfl ?_ ?_
  · intro c1; try have c1 := of_decide_eq_true c1
    refine WL_skip (j := 3) (t := 9) (b := true) rfl rfl rfl rfl ?_
    refine WL_skip (j := 3) (t := 9) (b := true) rfl rfl rfl rfl ?_
    refine WL_skip (j := 3) (t := 9) (b := true) rfl rfl rfl rfl ?_
    refine WL_v (v_pickt rfl rfl) rfl ?_
    refine WL_nil ?_
    refine den_true rfl ?_
    refine den_seq ?_
    -- region 2
    refine den_region rfl ?_
    refine WL_v (v_assign rfl) rfl ?_
    refine WL_v (v_assign rfl) rfl ?_
    refine WL_nil ?_
    refine den_ret ?_
    exact ends2 Tryz.results70 rfl rfl (Heap.le.refl _) (by simp) ⟨by first | exact fmul_e (Or.inl (nn_t c1)) | exact fmul_e (Or.inr (nn_t ho)) | exact fmul_k ga.2 gb.2, rfl⟩
  · intro c2; try have c2 := of_decide_eq_false c2
    refine WL_vg rfl rfl (v_move rfl) rfl ?_
    refine WL_callqg rfl rfl rfl (rscal3_fn _ _) rfl ?_
    first | refine WL_vg rfl rfl (v_notd rfl) rfl ?_ | refine WL_vg rfl rfl (v_not rfl) rfl ?_
    refine WL_v (v_pickf rfl rfl) rfl ?_
    refine WL_nil ?_
    first | refine den_ifd rfl (fun ho => ?_) (fun ho => ?_) | refine den_if rfl (fun ho => ?_) (fun ho => ?_)
    · skip
      refine den_seq ?_
      -- region 2
      refine den_region rfl ?_
      refine WL_v (v_assign rfl) rfl ?_
      refine WL_v (v_assign rfl) rfl ?_
      refine WL_nil ?_
      refine den_ret ?_
      exact ends2 Tryz.results70 rfl rfl (Heap.le.refl _) (by simp) ⟨by first | exact fmul_e (Or.inl (nn_t c1)) | exact fmul_e (Or.inr (nn_t ho)) | exact fmul_k ga.2 gb.2, rfl⟩
    · skip
      refine den_skip ?_
      refine den_seq ?_
      -- region 3
      refine den_region rfl ?_
      have ga := outI_f (nn_f c2)
      have gb := outI_f (nn_f ho)
      refine WL_v (v_move rfl) rfl ?_
      refine WL_v (v_move rfl) rfl ?_
      obtain ⟨m, rfl⟩ := int_nat (by omega : 0 ≤ a)
      obtain ⟨n, rfl⟩ := int_nat (by omega : 0 ≤ b)
      refine WL_callq rfl (rprod3_fn _ _ (by omega) (by omega) _) rfl ?_
      refine WL_v (v_assign rfl) rfl ?_
      refine WL_v (v_assign rfl) rfl ?_
      refine WL_nil ?_
      refine den_ret ?_
      exact ends2 Tryz.results70 rfl rfl (Heap.le.refl _) (by simp) ⟨by first | exact fmul_e (Or.inl (nn_t c1)) | exact fmul_e (Or.inr (nn_t ho)) | exact fmul_k ga.2 gb.2, rfl⟩

theorem radd_fn (a b : Int) (h : Heap) : Fn0 Tryz.prog 72 [.int .i64 a, .int .i64 b] h (.tuple ⟨[.int .i64 (faddV a b), .int .i64 (fokE a b)]⟩) := by
  refine Tr_of Tryz.func72 rfl rfl Tryz.ntmps72 rfl [(0, .int .i64 a), (1, .int .i64 b)] rfl ?_
  intro Lf
  refine den_seq ?_
  -- region 0
  refine den_region rfl ?_
  refine WL_v (v_assign rfl) rfl ?_
  refine WL_v (v_assign rfl) rfl ?_
  refine WL_nil ?_
  refine den_seq ?_
  refine den_seq ?_
  -- region 1
  refine den_region rfl ?_
  refine WL_v (v_move rfl) rfl ?_
  refine WL_callq rfl (rscal3_fn _ _) rfl ?_
  first | refine WL_v (v_notd rfl) rfl ?_ | refine WL_v (v_not rfl) rfl ?_
  refine WL_v (v_move rfl) rfl ?_
  first | refine WL_split (t := 9) rfl ?_ ?_
  · intro c1; try have c1 := of_decide_eq_true c1
    refine WL_skip (j := 3) (t := 9) (b := true) rfl rfl rfl rfl ?_
    refine WL_skip (j := 3) (t := 9) (b := true) rfl rfl rfl rfl ?_
    refine WL_skip (j := 3) (t := 9) (b := true) rfl rfl rfl rfl ?_
    refine WL_v (v_pickt rfl rfl) rfl ?_
    refine WL_nil ?_
    refine den_true rfl ?_
    refine den_seq ?_
    -- region 2
    refine den_region rfl ?_
    refine WL_v (v_assign rfl) rfl ?_
    refine WL_v (v_assign rfl) rfl ?_
    refine WL_nil ?_
    refine den_ret ?_
    exact ends2 Tryz.results72 rfl rfl (Heap.le.refl _) (by simp) ⟨by first | exact fadd_e (Or.inl (nn_t c1)) | exact fadd_e (Or.inr (nn_t ho)) | exact fadd_k ga.2 gb.2, rfl⟩
  · intro c2; try have c2 := of_decide_eq_false c2
    refine WL_vg rfl rfl (v_move rfl) rfl ?_
    refine WL_callqg rfl rfl rfl (rscal3_fn _ _) rfl ?_
    first | refine WL_vg rfl rfl (v_notd rfl) rfl ?_ | refine WL_vg rfl rfl (v_not rfl) rfl ?_
    refine WL_v (v_pickf rfl rfl) rfl ?_
    refine WL_nil ?_
    first | refine den_ifd rfl (fun ho => ?_) (fun ho => ?_) | refine den_if rfl (fun ho => ?_) (fun ho => ?_)
    · skip
      refine den_seq ?_
      -- region 2
      refine den_region rfl ?_
      refine WL_v (v_assign rfl) rfl ?_
      refine WL_v (v_assign rfl) rfl ?_
      refine WL_nil ?_
      refine den_ret ?_
      exact ends2 Tryz.results72 rfl rfl (Heap.le.refl _) (by simp) ⟨by first | exact fadd_e (Or.inl (nn_t c1)) | exact fadd_e (Or.inr (nn_t ho)) | exact fadd_k ga.2 gb.2, rfl⟩
    · skip
      refine den_skip ?_
      refine den_seq ?_
      -- region 3
      refine den_region rfl ?_
      have ga := outI_f (nn_f c2)
      have gb := outI_f (nn_f ho)
      refine WL_v (v_move rfl) rfl ?_
      refine WL_v (v_move rfl) rfl ?_
      obtain ⟨m, rfl⟩ := int_nat (by omega : 0 ≤ a)
      obtain ⟨n, rfl⟩ := int_nat (by omega : 0 ≤ b)
      refine WL_callq rfl (rsum3_fn _ _ (by omega) (by omega) _) rfl ?_
      refine WL_v (v_assign rfl) rfl ?_
      refine WL_v (v_assign rfl) rfl ?_
      refine WL_nil ?_
      refine den_ret ?_
      exact ends2 Tryz.results72 rfl rfl (Heap.le.refl _) (by simp) ⟨by first | exact fadd_e (Or.inl (nn_t c1)) | exact fadd_e (Or.inr (nn_t ho)) | exact fadd_k ga.2 gb.2, rfl⟩


theorem rcheck_fn (a : Int) (h : Heap) : Fn0 Tryz.prog 117 [.int .i64 a] h (.int .i64 (if GC a then 0 else 40)) := by
  refine Tr_of Tryz.func117 rfl rfl Tryz.ntmps117 rfl [(0, .int .i64 a)] rfl ?_
  intro Lf
  refine den_seq ?_
  -- region 0
  refine den_region rfl ?_
  refine WL_v (v_assign rfl) rfl ?_
  refine WL_nil ?_
  refine den_seq ?_
  refine den_seq ?_
  -- region 1
  refine den_region rfl ?_
  refine WL_v (v_move rfl) rfl ?_
  refine WL_v (v_lss rfl rfl) rfl ?_
  refine WL_v (v_move rfl) rfl ?_
  first | refine WL_split (t := 5) rfl ?_ ?_
  · intro c1; try have c1 := of_decide_eq_true c1
    refine WL_skip (j := 2) (t := 5) (b := true) rfl rfl rfl rfl ?_
    refine WL_skip (j := 2) (t := 5) (b := true) rfl rfl rfl rfl ?_
    refine WL_v (v_pickt rfl rfl) rfl ?_
    refine WL_v (v_move rfl) rfl ?_
    refine WL_skip (j := 6) (t := 9) (b := true) rfl rfl rfl rfl ?_
    refine WL_skip (j := 6) (t := 9) (b := true) rfl rfl rfl rfl ?_
    refine WL_skip (j := 6) (t := 9) (b := true) rfl rfl rfl rfl ?_
    refine WL_v (v_pickt rfl rfl) rfl ?_
    refine WL_nil ?_
    refine den_true rfl ?_
    refine den_seq ?_
    -- region 2
    refine den_region rfl ?_
    refine WL_v (v_assign rfl) rfl ?_
    refine WL_nil ?_
    refine den_ret ?_
    exact ends1 Tryz.results117 rfl (Heap.le.refl _) (by simp) ⟨by first | rw [if_neg (fun g : GC a => by obtain ⟨g1, g2, g3⟩ := g; omega)] | rw [if_neg (gc_nat_f ‹_›)] | rw [if_pos (gc_nat (by omega) (by omega) ‹_›)], rfl⟩
  · intro c2; try have c2 := of_decide_eq_false c2
    refine WL_vg rfl rfl (v_move rfl) rfl ?_
    refine WL_vg rfl rfl (v_geq rfl rfl) rfl ?_
    refine WL_v (v_pickf rfl rfl) rfl ?_
    refine WL_v (v_move rfl) rfl ?_
    first | refine WL_split (t := 9) rfl ?_ ?_
    · intro c3; try have c3 := of_decide_eq_true c3
      refine WL_skip (j := 6) (t := 9) (b := true) rfl rfl rfl rfl ?_
      refine WL_skip (j := 6) (t := 9) (b := true) rfl rfl rfl rfl ?_
      refine WL_skip (j := 6) (t := 9) (b := true) rfl rfl rfl rfl ?_
      refine WL_v (v_pickt rfl rfl) rfl ?_
      refine WL_nil ?_
      refine den_true rfl ?_
      refine den_seq ?_
      -- region 2
      refine den_region rfl ?_
      refine WL_v (v_assign rfl) rfl ?_
      refine WL_nil ?_
      refine den_ret ?_
      exact ends1 Tryz.results117 rfl (Heap.le.refl _) (by simp) ⟨by first | rw [if_neg (fun g : GC a => by obtain ⟨g1, g2, g3⟩ := g; omega)] | rw [if_neg (gc_nat_f ‹_›)] | rw [if_pos (gc_nat (by omega) (by omega) ‹_›)], rfl⟩
    · intro c4; try have c4 := of_decide_eq_false c4
      refine WL_vg rfl rfl (v_move rfl) rfl ?_
      obtain ⟨m, rfl⟩ := int_nat (by omega : 0 ≤ a)
      refine WL_callqg rfl rfl rfl (rpow4_fn m 2305843009213688669 (by omega) (by decide) _) rfl ?_
      refine WL_vg rfl rfl (v_neq rfl rfl) rfl ?_
      refine WL_v (v_pickf rfl rfl) rfl ?_
      refine WL_nil ?_
      first | refine den_ifd rfl (fun c5 => ?_) (fun c6 => ?_) | refine den_if rfl (fun c5 => ?_) (fun c6 => ?_)
      · skip
        refine den_seq ?_
        -- region 2
        refine den_region rfl ?_
        refine WL_v (v_assign rfl) rfl ?_
        refine WL_nil ?_
        refine den_ret ?_
        exact ends1 Tryz.results117 rfl (Heap.le.refl _) (by simp) ⟨by first | rw [if_neg (fun g : GC a => by obtain ⟨g1, g2, g3⟩ := g; omega)] | rw [if_neg (gc_nat_f ‹_›)] | rw [if_pos (gc_nat (by omega) (by omega) ‹_›)], rfl⟩
      · skip
        refine den_skip ?_
        refine den_seq ?_
        -- region 3
        refine den_region rfl ?_
        refine WL_v (v_assign rfl) rfl ?_
        refine WL_nil ?_
        refine den_ret ?_
        exact ends1 Tryz.results117 rfl (Heap.le.refl _) (by simp) ⟨by first | rw [if_neg (fun g : GC a => by obtain ⟨g1, g2, g3⟩ := g; omega)] | rw [if_neg (gc_nat_f ‹_›)] | rw [if_pos (gc_nat (by omega) (by omega) ‹_›)], rfl⟩

theorem rexp_fn (a k : Int) (h : Heap) : Fn0 Tryz.prog 108 [.int .i64 a, .int .i64 k] h (.tuple ⟨[.int .i64 (gexpV a k), .int .i64 (gexpE a k)]⟩) := by
  refine Tr_of Tryz.func108 rfl rfl Tryz.ntmps108 rfl [(0, .int .i64 a), (1, .int .i64 k)] rfl ?_
  intro Lf
  refine den_seq ?_
  -- region 0
  refine den_region rfl ?_
  refine WL_v (v_assign rfl) rfl ?_
  refine WL_v (v_assign rfl) rfl ?_
  refine WL_nil ?_
  refine den_seq ?_
  -- region 1
  refine den_region rfl ?_
  refine WL_v (v_move rfl) rfl ?_
  refine WL_callq rfl (rcheck_fn _ _) rfl ?_
  refine WL_v (v_assign rfl) rfl ?_
  obtain ⟨c, hc⟩ : ∃ c, c = (if GC a then (0 : Int) else 40) := ⟨_, rfl⟩
  rw [← hc]
  refine WL_nil ?_
  refine den_seq ?_
  refine den_seq ?_
  -- region 2
  refine den_region rfl ?_
  refine WL_v (v_move rfl) rfl ?_
  refine WL_v (v_neq rfl rfl) rfl ?_
  refine WL_nil ?_
  first | refine den_ifd rfl (fun c1 => ?_) (fun c2 => ?_) | refine den_if rfl (fun c1 => ?_) (fun c2 => ?_)
  · skip
    have hx : ¬ GC a := fun g => by rw [if_pos g] at hc; omega
    rw [if_neg hx] at hc; subst hc
    refine den_seq ?_
    -- region 3
    refine den_region rfl ?_
    refine WL_v (v_move rfl) rfl ?_
    refine WL_v (v_assign rfl) rfl ?_
    refine WL_v (v_assign rfl) rfl ?_
    refine WL_nil ?_
    refine den_ret ?_
    exact ends2 Tryz.results108 rfl rfl (Heap.le.refl _) (by simp) ⟨by unfold gexpV gexpE; first | rw [if_neg (fun g => hx g.1), if_pos hx] | rw [if_neg (fun g => by have := g.2; omega), if_neg (fun g => g hx), if_neg (by omega)] | (rw [if_pos ⟨hx, gk⟩, if_neg (fun g => g hx), if_pos gk]; rfl), rfl⟩
  · skip
    have hx : GC a := by by_cases g : GC a; exact g; rw [if_neg g] at hc; omega
    refine den_skip ?_
    refine den_seq ?_
    refine den_seq ?_
    -- region 4
    refine den_region rfl ?_
    refine WL_v (v_move rfl) rfl ?_
    refine WL_callq rfl (rscal4_fn _ _) rfl ?_
    first | refine WL_v (v_notd rfl) rfl ?_ | refine WL_v (v_not rfl) rfl ?_
    refine WL_nil ?_
    first | refine den_ifd rfl (fun ho => ?_) (fun ho => ?_) | refine den_if rfl (fun ho => ?_) (fun ho => ?_)
    · skip
      have gk := outI_t (nn_t ho)
      refine den_seq ?_
      -- region 5
      refine den_region rfl ?_
      refine WL_v (v_assign rfl) rfl ?_
      refine WL_v (v_assign rfl) rfl ?_
      refine WL_nil ?_
      refine den_ret ?_
      exact ends2 Tryz.results108 rfl rfl (Heap.le.refl _) (by simp) ⟨by unfold gexpV gexpE; first | rw [if_neg (fun g => hx g.1), if_pos hx] | rw [if_neg (fun g => by have := g.2; omega), if_neg (fun g => g hx), if_neg (by omega)] | (rw [if_pos ⟨hx, gk⟩, if_neg (fun g => g hx), if_pos gk]; rfl), rfl⟩
    · skip
      have gk := outI_f (nn_f ho)
      refine den_skip ?_
      refine den_seq ?_
      -- region 6
      refine den_region rfl ?_
      refine WL_v (v_move rfl) rfl ?_
      refine WL_v (v_move rfl) rfl ?_
      obtain ⟨m, rfl⟩ := int_nat (by have := hx.1; omega : 0 ≤ a)
      obtain ⟨n, rfl⟩ := int_nat gk.1
      refine WL_callq rfl (rpow4_fn m n (by have := hx.2.1; omega) (by omega) _) rfl ?_
      refine WL_v (v_assign rfl) rfl ?_
      refine WL_v (v_assign rfl) rfl ?_
      refine WL_nil ?_
      refine den_ret ?_
      exact ends2 Tryz.results108 rfl rfl (Heap.le.refl _) (by simp) ⟨by unfold gexpV gexpE; first | rw [if_neg (fun g => hx g.1), if_pos hx] | rw [if_neg (fun g => by have := g.2; omega), if_neg (fun g => g hx), if_neg (by omega)] | (rw [if_pos ⟨hx, gk⟩, if_neg (fun g => g hx), if_pos gk]; rfl), rfl⟩

theorem rbase_fn (k : Int) (h : Heap) : Fn0 Tryz.prog 67 [.int .i64 k] h (.tuple ⟨[.int .i64 (gexpV 4 k), .int .i64 (gexpE 4 k)]⟩) := by
  refine Tr_of Tryz.func67 rfl rfl Tryz.ntmps67 rfl [(0, .int .i64 k)] rfl ?_
  intro Lf
  refine den_seq ?_
  -- region 0
  refine den_region rfl ?_
  refine WL_v (v_assign rfl) rfl ?_
  refine WL_v (v_assign rfl) rfl ?_
  refine WL_nil ?_
  refine den_seq ?_
  -- region 1
  refine den_region rfl ?_
  refine WL_v (v_move rfl) rfl ?_
  refine WL_callq rfl (rexp_fn _ _ _) rfl ?_
  refine WL_v (v_extract rfl rfl) rfl ?_
  refine WL_v (v_extract rfl rfl) rfl ?_
  refine WL_v (v_assign rfl) rfl ?_
  refine WL_v (v_assign rfl) rfl ?_
  refine WL_nil ?_
  refine den_ret ?_
  exact ends2 Tryz.results67 rfl rfl (Heap.le.refl _) (by simp) ⟨rfl, rfl⟩

theorem rrest_fn (d : Dig) (m : Nat) (hm0 : 256 < m) (hm : m < 4611686018427387904) (h : Heap) : Fn0 Tryz.prog 109 [.agg ⟨dcells d⟩, .int .i64 (m : Int)] h (.int .i64 ((rst (dn d) m 32 : Nat) : Int)) := by
  refine Tr_of Tryz.func109 rfl rfl Tryz.ntmps109 rfl [(0, .agg ⟨dcells d⟩), (1, .int .i64 (m : Int))] rfl ?_
  intro Lf
  refine den_seq ?_
  -- region 0
  refine den_region rfl ?_
  refine WL_box rfl rfl rfl fun b2 => ?_
  refine WL_v (v_assign rfl) rfl ?_
  refine WL_nil ?_
  refine den_seq ?_
  -- region 1
  refine den_region rfl ?_
  refine WL_freeze fun h1 hl1 hb2 => ?_
  refine WL_v (v_assign rfl) rfl ?_
  refine WL_nil ?_
  refine den_seq ?_
  refine den_seq ?_
  -- region 2
  refine den_region rfl ?_
  refine WL_v (v_assign rfl) rfl ?_
  refine WL_nil ?_
  refine den_block ?_
  refine den_loopI (ι := Nat) (fun i => [(1, .int .i64 ((m : Nat) : Int)), (2, .pointer (some ⟨b2, 0, none⟩)), (5, .int .i64 ((rst (dn d) m i : Nat) : Int)), (6, .int .i64 ((i : Nat) : Int))]) (fun i h' L' => i ≤ 32 ∧ h1 = h' ∧ Lf = L') (fun i => 32 - i) 0 (sub_cons rfl (sub_cons rfl (sub_cons rfl (sub_cons rfl sub_nil)))) ⟨by omega, rfl, rfl⟩ ?_
  rintro i _ _ ⟨i1, rfl, rfl⟩
  have r1 := rst_lt (f := dn d) (m := m) (by omega) i
  have r2 := dn_lt d i
  have r3 : 256 * rst (dn d) m i % m < m := Nat.mod_lt _ (by omega)
  refine den_seq ?_
  refine den_seq ?_
  -- region 3
  refine den_region rfl ?_
  refine WL_v (v_move rfl) rfl ?_
  refine WL_v (v_lss rfl rfl) rfl ?_
  refine WL_nil ?_
  first | refine den_ifd rfl (fun hi => ?_) (fun hi => ?_) | refine den_if rfl (fun hi => ?_) (fun hi => ?_)
  · skip
    refine den_skip ?_
    refine den_seq ?_
    refine den_block ?_
    -- region 5
    refine den_draw [] (by kernel_rfl) (by kernel_rfl) (NoP.fn) (rem := [0, 1, 2, 3, 4, 5, 6, 7, 8, 9, 10]) (by kernel_rfl) ?_
    refine QS_v (i := 0) rfl (v_move rfl) (by kernel_rfl) (by kernel_rfl) (by kernel_rfl) (rem' := [1, 2, 3, 4, 5, 6, 7, 8, 9, 10]) (by kernel_rfl) rfl ?_
    refine QS_v (i := 1) rfl (v_move rfl) (by kernel_rfl) (by kernel_rfl) (by kernel_rfl) (rem' := [2, 3, 4, 5, 6, 7, 8, 9, 10]) (by kernel_rfl) rfl ?_
    refine QS_v (i := 3) rfl (v_move rfl) (by kernel_rfl) (by kernel_rfl) (by kernel_rfl) (rem' := [2, 4, 5, 6, 7, 8, 9, 10]) (by kernel_rfl) rfl ?_
    refine QS_v (i := 4) rfl (v_iaddra Tryz.underlying26 siz5 rfl rfl rfl (by omega)) (by kernel_rfl) (by kernel_rfl) (by kernel_rfl) (rem' := [2, 5, 6, 7, 8, 9, 10]) (by kernel_rfl) rfl ?_
    refine QS_v (i := 5) rfl (v_load1 one5 rfl (Kn.per hb2) (by rw [Nat.zero_add, Nat.mul_one]; exact dcells_get d (by omega))) (by kernel_rfl) (by kernel_rfl) (by kernel_rfl) (rem' := [2, 6, 7, 8, 9, 10]) (by kernel_rfl) rfl ?_
    refine QS_v (i := 6) rfl (v_convj Tryz.underlying5 Tryz.underlying3 rfl (by omega)) (by kernel_rfl) (by kernel_rfl) (by kernel_rfl) (rem' := [2, 7, 8, 9, 10]) (by kernel_rfl) rfl ?_
    refine QS_v (i := 8) rfl (v_move rfl) (by kernel_rfl) (by kernel_rfl) (by kernel_rfl) (rem' := [2, 7, 9, 10]) (by kernel_rfl) rfl ?_
    refine QS_step (is := [2]) rfl (by kernel_rfl) ?_
    refine qall1 ?_
    refine qs_callq rfl rfl (rprod4_fn 256 _ _ (by omega) (by omega) hm _) rfl (rem' := [7, 9, 10]) (by kernel_rfl) ?_
    refine QS_v (i := 7) rfl (v_addj rfl rfl (by show _ < 9223372036854775808; omega)) (by kernel_rfl) (by kernel_rfl) (by kernel_rfl) (rem' := [9, 10]) (by kernel_rfl) rfl ?_
    refine QS_v (i := 9) rfl (v_remn rfl rfl (by omega)) (by kernel_rfl) (by kernel_rfl) (by kernel_rfl) (rem' := [10]) (by kernel_rfl) rfl ?_
    refine QS_v (i := 10) rfl (v_assign rfl) (by kernel_rfl) (by kernel_rfl) (by kernel_rfl) (rem' := []) (by kernel_rfl) rfl ?_
    rw [rst_ref]
    refine QS_nil ?_
    refine den_blk ?_
    -- region 4
    refine den_region rfl ?_
    refine WL_v (v_move rfl) rfl ?_
    refine WL_v (v_addj (n := 1) rfl rfl (by show _ < 9223372036854775808; omega)) rfl ?_
    refine WL_v (v_assign rfl) rfl ?_
    refine WL_nil ?_
    refine den_again ⟨rfl, (i + 1), (by show 32 - (i + 1) < 32 - i; omega), (sub_cons rfl (sub_cons rfl (sub_cons rfl (sub_cons rfl sub_nil)))), ⟨by omega, rfl, rfl⟩⟩
  · skip
    have hi32 : i = 32 := by omega
    subst hi32
    refine den_exit rfl ?_
    refine den_seq ?_
    -- region 6
    refine den_region rfl ?_
    refine WL_v (v_move rfl) rfl ?_
    refine WL_v (v_assign rfl) rfl ?_
    refine WL_nil ?_
    refine den_ret ?_
    exact ends1 Tryz.results109 rfl hl1 (by simp) ⟨rfl, rfl⟩

end Go.Proofs.Ch
