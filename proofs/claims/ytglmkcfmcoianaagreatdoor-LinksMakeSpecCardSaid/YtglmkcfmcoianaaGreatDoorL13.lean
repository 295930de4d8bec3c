/- Walks of the program's functions, printed by my own generator (layer L13). -/
import Derived.Test.YtglmkcfmcoianaaGreatDoorL12
namespace Go.Proofs.Ch
open Go Go.Proofs
set_option maxRecDepth 4000
set_option maxHeartbeats 1000000
theorem zer32 : Zer Tryz.prog 32 (.int .i64 0) := by show _ = _; kernel_rfl
theorem siz32 : Siz Tryz.prog 32 1 := by show _ = _; kernel_rfl
theorem one32 : One Tryz.prog 32 := One.of Tryz.underlying32 rfl
theorem xpriv_fn (x : Int) (h : Heap) : Fn0 Tryz.prog 55 [.int .i64 x] h (.bool (decide (isPr x))) := by
  refine Tr_of Tryz.func55 rfl rfl Tryz.ntmps55 rfl [(0, .int .i64 x)] rfl ?_
  intro Lf
  refine den_seq ?_
  -- region 0
  refine den_region rfl ?_
  refine WL_v (v_assign rfl) rfl ?_
  refine WL_nil ?_
  refine den_seq ?_
  -- region 1
  refine den_region rfl ?_
  refine WL_v (v_move rfl) rfl ?_
  refine WL_v (v_geq rfl rfl) rfl ?_
  refine WL_v (v_move rfl) rfl ?_
  first | refine WL_split (t := 5) rfl ?_ ?_
  · intro c1; try have c1 := of_decide_eq_true c1
    refine WL_vg rfl rfl (v_move rfl) rfl ?_
    refine WL_vg rfl rfl (v_lss rfl rfl) rfl ?_
    refine WL_v (v_pickt rfl rfl) rfl ?_
    refine WL_v (v_assign rfl) rfl ?_
    refine WL_nil ?_
    refine den_ret ?_
    exact ends1 Tryz.results55 rfl (Heap.le.refl _) (by simp) ⟨by congr 1; first | exact (decide_eq_false (fun g => by have := g.1; omega)).symm | (rw [decide_eq_decide]; exact ⟨fun g => ⟨by omega, g⟩, fun g => g.2⟩), rfl⟩
  · intro c2; try have c2 := of_decide_eq_false c2
    refine WL_skip (j := 2) (t := 5) (b := false) rfl rfl rfl rfl ?_
    refine WL_skip (j := 2) (t := 5) (b := false) rfl rfl rfl rfl ?_
    refine WL_v (v_pickf rfl rfl) rfl ?_
    refine WL_v (v_assign rfl) rfl ?_
    refine WL_nil ?_
    refine den_ret ?_
    exact ends1 Tryz.results55 rfl (Heap.le.refl _) (by simp) ⟨by congr 1; first | exact (decide_eq_false (fun g => by have := g.1; omega)).symm | (rw [decide_eq_decide]; exact ⟨fun g => ⟨by omega, g⟩, fun g => g.2⟩), rfl⟩

theorem demand_fn (e : Int) (h : Heap) : Fn0 Tryz.prog 54 [.bool true, .int .i64 e] h (.tuple ⟨[]⟩) := by
  refine Tr_of Tryz.func54 rfl rfl Tryz.ntmps54 rfl [(0, .bool true), (1, .int .i64 e)] rfl ?_
  intro Lf
  refine den_seq ?_
  -- region 0
  refine den_region rfl ?_
  refine WL_v (v_move rfl) rfl ?_
  refine WL_v (OpV.to (v' := .bool false) (v_not rfl) (by first | rfl | simp)) rfl ?_
  refine WL_nil ?_
  refine den_false rfl ?_
  refine den_skip ?_
  refine den_nil ?_
  exact ends0 Tryz.results54  (Heap.le.refl _) (by simp) ⟨rfl, rfl⟩

theorem must_fn (n : Int) (h : Heap) : Fn0 Tryz.prog 56 [.int .i64 n, .int .i64 0] h (.int .i64 n) := by
  refine Tr_of Tryz.func56 rfl rfl Tryz.ntmps56 rfl [(0, .int .i64 n), (1, .int .i64 0)] rfl ?_
  intro Lf
  refine den_seq ?_
  -- region 0
  refine den_region rfl ?_
  refine WL_v (v_assign rfl) rfl ?_
  refine WL_nil ?_
  refine den_seq ?_
  refine den_seq ?_
  -- region 1
  refine den_region rfl ?_
  refine WL_v (v_move rfl) rfl ?_
  refine WL_v (OpV.to (v' := .bool false) (v_neq rfl rfl) (by first | rfl | simp)) rfl ?_
  refine WL_nil ?_
  refine den_false rfl ?_
  refine den_skip ?_
  refine den_seq ?_
  -- region 3
  refine den_region rfl ?_
  refine WL_v (v_move rfl) rfl ?_
  refine WL_v (v_assign rfl) rfl ?_
  refine WL_nil ?_
  refine den_ret ?_
  exact ends1 Tryz.results56 rfl (Heap.le.refl _) (by simp) ⟨rfl, rfl⟩

theorem caught_fn (b : Nat) (h : Heap) : Fn0 Tryz.prog 53 [.nilIface, .pointer (some ⟨b, 0, none⟩)] h (.tuple ⟨[]⟩) := by
  refine Tr_of Tryz.func53 rfl rfl Tryz.ntmps53 rfl [(0, .nilIface), (1, .pointer (some ⟨b, 0, none⟩))] rfl ?_
  intro Lf
  refine den_seq ?_
  -- region 0
  refine den_region rfl ?_
  refine WL_v (v_move rfl) rfl ?_
  refine WL_nil ?_
  refine den_block ?_
  refine den_seq ?_
  -- region 3
  refine den_region rfl ?_
  refine WL_v (v_ifnil Tryz.underlying20 rfl) rfl ?_
  refine WL_nil ?_
  refine den_true rfl ?_
  -- region 4
  refine den_region rfl ?_
  refine WL_v (v_assign rfl) rfl ?_
  refine WL_nil ?_
  refine den_blk ?_
  refine den_nil ?_
  exact ends0 Tryz.results53  (Heap.le.refl _) (by simp) ⟨rfl, rfl⟩

theorem pfac1_trd (b : Nat) (h : Heap) : TrD Tryz.prog 52 [.pointer (some ⟨b, 0, none⟩)] h [] (fun _ _ L' => L' = []) := by
  refine TrD_of Tryz.func52 rfl rfl Tryz.ntmps52 rfl [(0, .pointer (some ⟨b, 0, none⟩))] rfl rfl rfl ?_
  intro Lf
  refine WL_callq rfl (caught_fn _ _) rfl ?_
  refine WL_nil ?_
  exact ⟨rfl, ends0 Tryz.results52 (Heap.le.refl _) (List.Sublist.refl _) rfl⟩
noncomputable def pfN (x y : Int) : Int := fmulV y ((mpow 2305843009213688669 x.toNat 2305843009213688667 : Nat) : Int)
theorem pfac_fn (x y : Int) (h : Heap) (hx : isPr x) (hy : isPr y) : Fn0 Tryz.prog 22 [.int .i64 x, .int .i64 y] h (.tuple ⟨[.int .i64 (pfN x y), .int .i64 0]⟩) := by
  refine Tr_of Tryz.func22 rfl rfl Tryz.ntmps22 rfl [(0, .int .i64 x), (1, .int .i64 y)] rfl ?_
  intro Lf
  refine den_seq ?_
  -- region 0
  refine den_region rfl ?_
  refine WL_v (v_assign rfl) rfl ?_
  refine WL_alloc zer32 rfl rfl fun b5 => ?_
  refine WL_nil ?_
  refine den_seq ?_
  -- region 1
  refine den_region rfl ?_
  refine WL_v (v_func rfl rfl) rfl ?_
  refine WL_defer rfl rfl rfl rfl ?_
  refine WL_nil ?_
  refine den_seq ?_
  -- region 2
  refine den_region rfl ?_
  refine WL_v (v_move rfl) rfl ?_
  refine WL_callq rfl (xpriv_fn _ _) rfl ?_
  rw [show decide (isPr x) = true from decide_eq_true hx]
  refine WL_v (OpV.to (v' := .bool true) (v_move rfl) (by first | rfl | simp)) rfl ?_
  refine WL_vg rfl rfl (v_move rfl) rfl ?_
  refine WL_callqg rfl rfl rfl (xpriv_fn _ _) rfl ?_
  rw [show decide (isPr y) = true from decide_eq_true hy]
  refine WL_v (v_pickt rfl rfl) rfl ?_
  refine WL_callq rfl (demand_fn _ _) rfl ?_
  refine WL_nil ?_
  refine den_seq ?_
  -- region 3
  refine den_region rfl ?_
  refine WL_v (v_move rfl) rfl ?_
  refine WL_v (v_move rfl) rfl ?_
  refine WL_callq rfl (finv_fn _ _ hx.1 hx.2) rfl ?_
  refine WL_v (v_extract rfl rfl) rfl ?_
  refine WL_v (v_extract rfl rfl) rfl ?_
  refine WL_callq rfl (must_fn _ _) rfl ?_
  refine WL_callq rfl (fmul_fn _ _ _) rfl ?_
  rw [fokE0 ⟨by have := hy.1; omega, hy.2⟩ ⟨by omega, by have := mpow_lt (m := 2305843009213688669) (a := x.toNat) (k := 2305843009213688667) (by decide); omega⟩]
  refine WL_v (v_extract rfl rfl) rfl ?_
  refine WL_v (v_extract rfl rfl) rfl ?_
  refine WL_callq rfl (must_fn _ _) rfl ?_
  refine WL_v (v_assign rfl) rfl ?_
  refine WL_store0 rfl rfl rfl siz32 rfl rfl rfl ?_
  refine WL_nil ?_
  refine den_ret ?_
  refine ends_defer (L1 := []) (vs := []) (ca := [.pointer (some ⟨b5, 0, none⟩)]) (pfac1_trd b5 _) ?_
  rintro _ hd _ hld rfl
  exact endsr2 Tryz.results22 (rv_t rfl) (rv_1 one32 rfl (Kn.own 0 rfl) rfl) hld (.cons _ (List.Sublist.refl _)) ⟨rfl, rfl⟩

theorem r11priv_fn (x : Int) (h : Heap) : Fn0 Tryz.prog 61 [.int .i64 x] h (.bool (decide (isPr x))) := by
  refine Tr_of Tryz.func61 rfl rfl Tryz.ntmps61 rfl [(0, .int .i64 x)] rfl ?_
  intro Lf
  refine den_seq ?_
  -- region 0
  refine den_region rfl ?_
  refine WL_v (v_assign rfl) rfl ?_
  refine WL_nil ?_
  refine den_seq ?_
  -- region 1
  refine den_region rfl ?_
  refine WL_v (v_move rfl) rfl ?_
  refine WL_v (v_geq rfl rfl) rfl ?_
  refine WL_v (v_move rfl) rfl ?_
  first | refine WL_split (t := 5) rfl ?_ ?_
  · intro c1; try have c1 := of_decide_eq_true c1
    refine WL_vg rfl rfl (v_move rfl) rfl ?_
    refine WL_vg rfl rfl (v_lss rfl rfl) rfl ?_
    refine WL_v (v_pickt rfl rfl) rfl ?_
    refine WL_v (v_assign rfl) rfl ?_
    refine WL_nil ?_
    refine den_ret ?_
    exact ends1 Tryz.results61 rfl (Heap.le.refl _) (by simp) ⟨by congr 1; first | exact (decide_eq_false (fun g => by have := g.1; omega)).symm | (rw [decide_eq_decide]; exact ⟨fun g => ⟨by omega, g⟩, fun g => g.2⟩), rfl⟩
  · intro c2; try have c2 := of_decide_eq_false c2
    refine WL_skip (j := 2) (t := 5) (b := false) rfl rfl rfl rfl ?_
    refine WL_skip (j := 2) (t := 5) (b := false) rfl rfl rfl rfl ?_
    refine WL_v (v_pickf rfl rfl) rfl ?_
    refine WL_v (v_assign rfl) rfl ?_
    refine WL_nil ?_
    refine den_ret ?_
    exact ends1 Tryz.results61 rfl (Heap.le.refl _) (by simp) ⟨by congr 1; first | exact (decide_eq_false (fun g => by have := g.1; omega)).symm | (rw [decide_eq_decide]; exact ⟨fun g => ⟨by omega, g⟩, fun g => g.2⟩), rfl⟩

theorem rpfac_fn (x y : Int) (h : Heap) (hx : isPr x) (hy : isPr y) : Fn0 Tryz.prog 25 [.int .i64 x, .int .i64 y] h (.tuple ⟨[.int .i64 (pfN x y), .int .i64 0]⟩) := by
  refine Tr_of Tryz.func25 rfl rfl Tryz.ntmps25 rfl [(0, .int .i64 x), (1, .int .i64 y)] rfl ?_
  intro Lf
  refine den_seq ?_
  -- region 0
  refine den_region rfl ?_
  refine WL_v (v_assign rfl) rfl ?_
  refine WL_v (v_assign rfl) rfl ?_
  refine WL_nil ?_
  refine den_seq ?_
  refine den_seq ?_
  -- region 1
  refine den_region rfl ?_
  refine WL_v (v_move rfl) rfl ?_
  refine WL_callq rfl (r11priv_fn _ _) rfl ?_
  rw [show decide (isPr x) = true from decide_eq_true hx]
  refine WL_v (OpV.to (v' := .bool false) (v_not rfl) (by first | rfl | simp)) rfl ?_
  refine WL_v (v_move rfl) rfl ?_
  refine WL_vg rfl rfl (v_move rfl) rfl ?_
  refine WL_callqg rfl rfl rfl (r11priv_fn _ _) rfl ?_
  rw [show decide (isPr y) = true from decide_eq_true hy]
  refine WL_vg rfl rfl (OpV.to (v' := .bool false) (v_not rfl) (by first | rfl | simp)) rfl ?_
  refine WL_v (v_pickf rfl rfl) rfl ?_
  refine WL_nil ?_
  refine den_false rfl ?_
  refine den_skip ?_
  refine den_seq ?_
  -- region 3
  refine den_region rfl ?_
  refine WL_v (v_move rfl) rfl ?_
  refine WL_callq rfl (rinv_fn _ _ hx.1 hx.2) rfl ?_
  refine WL_v (v_move rfl) rfl ?_
  refine WL_v (v_extract rfl rfl) rfl ?_
  refine WL_v (v_extract rfl rfl) rfl ?_
  refine WL_v (v_assign rfl) rfl ?_
  refine WL_v (v_assign rfl) rfl ?_
  refine WL_nil ?_
  refine den_seq ?_
  -- region 4
  refine den_region rfl ?_
  refine WL_v (v_move rfl) rfl ?_
  refine WL_v (v_move rfl) rfl ?_
  refine WL_callq rfl (rmul_fn _ _ _) rfl ?_
  refine WL_v (v_move rfl) rfl ?_
  refine WL_v (v_extract rfl rfl) rfl ?_
  refine WL_v (v_extract rfl rfl) rfl ?_
  refine WL_v (v_assign rfl) rfl ?_
  refine WL_v (v_assign rfl) rfl ?_
  refine WL_nil ?_
  refine den_seq ?_
  -- region 5
  refine den_region rfl ?_
  refine WL_v (v_move rfl) rfl ?_
  refine WL_v (v_assign rfl) rfl ?_
  refine WL_v (v_assign rfl) rfl ?_
  refine WL_nil ?_
  refine den_ret ?_
  exact ends2 Tryz.results25 rfl rfl (Heap.le.refl _) (by simp) ⟨rfl, rfl⟩

end Go.Proofs.Ch
