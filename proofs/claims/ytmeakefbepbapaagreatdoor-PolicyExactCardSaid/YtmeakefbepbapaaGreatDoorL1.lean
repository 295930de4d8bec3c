/- Walks of the program's functions, printed by my own generator (layer L1). -/
import Derived.Test.YtmeakefbepbapaaGreatDoorS3
import Derived.Test.YtmeakefbepbapaaGreatDoorS2
import Derived.Test.YtmeakefbepbapaaGreatDoorProg
import Derived.KernelRfl
namespace Go.Proofs.Ch
open Go Go.Proofs
set_option maxRecDepth 4000
set_option maxHeartbeats 1000000

def len8tab : ByteArray := ⟨#[0, 1, 2, 2, 3, 3, 3, 3, 4, 4, 4, 4, 4, 4, 4, 4, 5, 5, 5, 5, 5, 5, 5, 5, 5, 5, 5, 5, 5, 5, 5, 5, 6, 6, 6, 6, 6, 6, 6, 6, 6, 6, 6, 6, 6, 6, 6, 6, 6, 6, 6, 6, 6, 6, 6, 6, 6, 6, 6, 6, 6, 6, 6, 6, 7, 7, 7, 7, 7, 7, 7, 7, 7, 7, 7, 7, 7, 7, 7, 7, 7, 7, 7, 7, 7, 7, 7, 7, 7, 7, 7, 7, 7, 7, 7, 7, 7, 7, 7, 7, 7, 7, 7, 7, 7, 7, 7, 7, 7, 7, 7, 7, 7, 7, 7, 7, 7, 7, 7, 7, 7, 7, 7, 7, 7, 7, 7, 7, 8, 8, 8, 8, 8, 8, 8, 8, 8, 8, 8, 8, 8, 8, 8, 8, 8, 8, 8, 8, 8, 8, 8, 8, 8, 8, 8, 8, 8, 8, 8, 8, 8, 8, 8, 8, 8, 8, 8, 8, 8, 8, 8, 8, 8, 8, 8, 8, 8, 8, 8, 8, 8, 8, 8, 8, 8, 8, 8, 8, 8, 8, 8, 8, 8, 8, 8, 8, 8, 8, 8, 8, 8, 8, 8, 8, 8, 8, 8, 8, 8, 8, 8, 8, 8, 8, 8, 8, 8, 8, 8, 8, 8, 8, 8, 8, 8, 8, 8, 8, 8, 8, 8, 8, 8, 8, 8, 8, 8, 8, 8, 8, 8, 8, 8, 8, 8, 8, 8, 8, 8, 8, 8, 8, 8, 8, 8, 8]⟩
theorem len8_all : ∀ n : Fin 256, len8tab[n.val]? = some (UInt8.ofNat (nlen n.val)) := by decide +kernel
theorem len8_get (n : Nat) (h : n < 256) : len8tab[n]? = some (UInt8.ofNat (nlen n)) := len8_all ⟨n, h⟩
theorem mul64_fn (a b : Nat) (ha : a < 18446744073709551616) (hb : b < 18446744073709551616) (h : Heap) : Fn0 Tryz.prog 125 [.int .u64 (a : Int), .int .u64 (b : Int)] h (.tuple ⟨[.int .u64 ((a * b / 18446744073709551616 : Nat) : Int), .int .u64 ((a * b % 18446744073709551616 : Nat) : Int)]⟩) := by
  refine Tr_of Tryz.func125 rfl rfl Tryz.ntmps125 rfl [(0, .int .u64 (a : Int)), (1, .int .u64 (b : Int))] rfl ?_
  intro Lf
  obtain ⟨m1, m2, m3, m4, m5, m6, m7, m8, m9, m10⟩ := mul64_bounds a b ha hb
  refine den_seq ?_
  -- region 0
  refine den_region rfl ?_
  refine WL_v (v_assign rfl) rfl ?_
  refine WL_v (v_assign rfl) rfl ?_
  refine WL_nil ?_
  refine den_seq ?_
  -- region 1
  refine den_region rfl ?_
  refine WL_v (v_move rfl) rfl ?_
  refine WL_v (v_low 32 rfl rfl rfl (by show _ < 18446744073709551616; omega) (by decide) rfl) rfl ?_
  refine WL_v (v_assign rfl) rfl ?_
  refine WL_nil ?_
  refine den_seq ?_
  -- region 2
  refine den_region rfl ?_
  refine WL_v (v_move rfl) rfl ?_
  refine WL_v (v_shrn (s := 32) rfl rfl (by show _ < 18446744073709551616; omega)) rfl ?_
  refine WL_v (v_assign rfl) rfl ?_
  refine WL_nil ?_
  refine den_seq ?_
  -- region 3
  refine den_region rfl ?_
  refine WL_v (v_move rfl) rfl ?_
  refine WL_v (v_low 32 rfl rfl rfl (by show _ < 18446744073709551616; omega) (by decide) rfl) rfl ?_
  refine WL_v (v_assign rfl) rfl ?_
  refine WL_nil ?_
  refine den_seq ?_
  -- region 4
  refine den_region rfl ?_
  refine WL_v (v_move rfl) rfl ?_
  refine WL_v (v_shrn (s := 32) rfl rfl (by show _ < 18446744073709551616; omega)) rfl ?_
  refine WL_v (v_assign rfl) rfl ?_
  refine WL_nil ?_
  refine den_seq ?_
  -- region 5
  refine den_region rfl ?_
  refine WL_v (v_move rfl) rfl ?_
  refine WL_v (v_move rfl) rfl ?_
  refine WL_v (v_muln rfl rfl rfl (by show _ < 18446744073709551616; exact m1)) rfl ?_
  refine WL_v (v_assign rfl) rfl ?_
  refine WL_nil ?_
  refine den_seq ?_
  -- region 6
  refine den_region rfl ?_
  refine WL_v (v_move rfl) rfl ?_
  refine WL_v (v_move rfl) rfl ?_
  refine WL_v (v_muln rfl rfl rfl (by show _ < 18446744073709551616; exact m2)) rfl ?_
  refine WL_v (v_move rfl) rfl ?_
  refine WL_v (v_shrn rfl rfl m1) rfl ?_
  refine WL_v (v_addn rfl rfl rfl m3) rfl ?_
  refine WL_v (v_assign rfl) rfl ?_
  refine WL_nil ?_
  refine den_seq ?_
  -- region 7
  refine den_region rfl ?_
  refine WL_v (v_move rfl) rfl ?_
  refine WL_v (v_low 32 rfl rfl rfl m3 (by decide) rfl) rfl ?_
  refine WL_v (v_assign rfl) rfl ?_
  refine WL_nil ?_
  refine den_seq ?_
  -- region 8
  refine den_region rfl ?_
  refine WL_v (v_move rfl) rfl ?_
  refine WL_v (v_shrn rfl rfl m3) rfl ?_
  refine WL_v (v_assign rfl) rfl ?_
  refine WL_nil ?_
  refine den_seq ?_
  -- region 9
  refine den_region rfl ?_
  refine WL_v (v_move rfl) rfl ?_
  refine WL_v (v_move rfl) rfl ?_
  refine WL_v (v_move rfl) rfl ?_
  refine WL_v (v_muln rfl rfl rfl (by show _ < 18446744073709551616; exact m4)) rfl ?_
  refine WL_v (v_addn rfl rfl rfl m5) rfl ?_
  refine WL_v (v_assign rfl) rfl ?_
  refine WL_nil ?_
  refine den_seq ?_
  -- region 10
  refine den_region rfl ?_
  refine WL_v (v_move rfl) rfl ?_
  refine WL_v (v_move rfl) rfl ?_
  refine WL_v (v_muln rfl rfl rfl (by show _ < 18446744073709551616; exact m6)) rfl ?_
  refine WL_v (v_move rfl) rfl ?_
  refine WL_v (v_addn rfl rfl rfl m7) rfl ?_
  refine WL_v (v_move rfl) rfl ?_
  refine WL_v (v_shrn rfl rfl m5) rfl ?_
  refine WL_v (v_addn rfl rfl rfl m8) rfl ?_
  refine WL_v (v_assign rfl) rfl ?_
  refine WL_nil ?_
  refine den_seq ?_
  -- region 11
  refine den_region rfl ?_
  refine WL_v (v_move rfl) rfl ?_
  refine WL_v (v_move rfl) rfl ?_
  refine WL_v (v_mulw rfl rfl rfl) rfl ?_
  refine WL_v (v_assign rfl) rfl ?_
  refine WL_nil ?_
  refine den_ret ?_
  exact ends2 Tryz.results125 rfl rfl (Heap.le.refl _) (by simp) ⟨by rw [m9]; rfl, rfl⟩

theorem len64_fn (a : Nat) (ha : a < 18446744073709551616) (h : Heap) : Fn0 Tryz.prog 148 [.int .u64 (a : Int)] h (.int .i64 ((nlen a : Nat) : Int)) := by
  refine Tr_of Tryz.func148 rfl rfl Tryz.ntmps148 rfl [(0, .int .u64 (a : Int))] rfl ?_
  intro Lf
  refine den_seq ?_
  -- region 0
  refine den_region rfl ?_
  refine WL_v (v_assign rfl) rfl ?_
  refine WL_nil ?_
  refine den_seq ?_
  refine den_seq ?_
  -- region 1
  refine den_region rfl ?_
  refine WL_v (v_move rfl) rfl ?_
  refine WL_v (v_geq rfl rfl) rfl ?_
  refine WL_nil ?_
  first | refine den_ifd rfl (fun c1 => ?_) (fun c2 => ?_) | refine den_if rfl (fun c1 => ?_) (fun c2 => ?_)
  · skip
    refine den_seq ?_
    -- region 2
    refine den_region rfl ?_
    refine WL_v (v_move rfl) rfl ?_
    refine WL_v (v_shrn (s := 32) rfl rfl (by show _ < 18446744073709551616; omega)) rfl ?_
    refine WL_v (v_assign rfl) rfl ?_
    refine WL_nil ?_
    -- region 3
    refine den_region rfl ?_
    refine WL_v (v_assign rfl) rfl ?_
    refine WL_nil ?_
    refine den_seq ?_
    refine den_seq ?_
    -- region 4
    refine den_region rfl ?_
    refine WL_v (v_move rfl) rfl ?_
    refine WL_v (v_geq rfl rfl) rfl ?_
    refine WL_nil ?_
    first | refine den_ifd rfl (fun c3 => ?_) (fun c4 => ?_) | refine den_if rfl (fun c3 => ?_) (fun c4 => ?_)
    · skip
      refine den_seq ?_
      -- region 5
      refine den_region rfl ?_
      refine WL_v (v_move rfl) rfl ?_
      refine WL_v (v_shrn (s := 16) rfl rfl (by show _ < 18446744073709551616; omega)) rfl ?_
      refine WL_v (v_assign rfl) rfl ?_
      refine WL_nil ?_
      -- region 6
      refine den_region rfl ?_
      refine WL_v (v_move rfl) rfl ?_
      refine WL_v (v_add rfl rfl (wrap_i64 (by omega) (by omega))) rfl ?_
      refine WL_v (v_assign rfl) rfl ?_
      refine WL_nil ?_
      refine den_seq ?_
      refine den_seq ?_
      -- region 7
      refine den_region rfl ?_
      refine WL_v (v_move rfl) rfl ?_
      refine WL_v (v_geq rfl rfl) rfl ?_
      refine WL_nil ?_
      first | refine den_ifd rfl (fun c5 => ?_) (fun c6 => ?_) | refine den_if rfl (fun c5 => ?_) (fun c6 => ?_)
      · skip
        refine den_seq ?_
        -- region 8
        refine den_region rfl ?_
        refine WL_v (v_move rfl) rfl ?_
        refine WL_v (v_shrn (s := 8) rfl rfl (by show _ < 18446744073709551616; omega)) rfl ?_
        refine WL_v (v_assign rfl) rfl ?_
        refine WL_nil ?_
        -- region 9
        refine den_region rfl ?_
        refine WL_v (v_move rfl) rfl ?_
        refine WL_v (v_add rfl rfl (wrap_i64 (by omega) (by omega))) rfl ?_
        refine WL_v (v_assign rfl) rfl ?_
        refine WL_nil ?_
        refine den_seq ?_
        -- region 10
        refine den_region rfl ?_
        refine WL_v (v_move rfl) rfl ?_
        refine WL_v (v_move rfl) rfl ?_
        refine WL_v (v_conv Tryz.underlying148 Tryz.underlying5 rfl (wrap_u8 (by omega) (by omega))) rfl ?_
        refine WL_v (v_indexstrn Tryz.underlying9 rfl rfl rfl (len8_get _ (by omega)) (nlen_256 (by omega))) rfl ?_
        refine WL_v (v_conv Tryz.underlying5 Tryz.underlying3 rfl (nlen_i64 (by omega))) rfl ?_
        refine WL_v (v_add rfl rfl (nlen_add (by omega) (by omega) (by omega))) rfl ?_
        refine WL_v (v_assign rfl) rfl ?_
        refine WL_nil ?_
        refine den_ret ?_
        refine ends1 Tryz.results148 rfl (Heap.le.refl _) (List.Sublist.refl _) ⟨congrArg (Value.int .i64) ?_, rfl⟩
        first | (rw [len64_1 (a := a) (by omega), len64_2 (a := (a / 2 ^ 32)) (by omega), len64_3 (a := ((a / 2 ^ 32) / 2 ^ 16)) (by omega)]; omega) | (rw [len64_1 (a := a) (by omega), len64_2 (a := (a / 2 ^ 32)) (by omega)]; omega) | (rw [len64_1 (a := a) (by omega), len64_3 (a := (a / 2 ^ 32)) (by omega)]; omega) | (rw [len64_2 (a := a) (by omega), len64_3 (a := (a / 2 ^ 16)) (by omega)]; omega) | (rw [len64_1 (a := a) (by omega)]; omega) | (rw [len64_2 (a := a) (by omega)]; omega) | (rw [len64_3 (a := a) (by omega)]; omega) | omega
      · skip
        refine den_skip ?_
        refine den_seq ?_
        -- region 10
        refine den_region rfl ?_
        refine WL_v (v_move rfl) rfl ?_
        refine WL_v (v_move rfl) rfl ?_
        refine WL_v (v_conv Tryz.underlying148 Tryz.underlying5 rfl (wrap_u8 (by omega) (by omega))) rfl ?_
        refine WL_v (v_indexstrn Tryz.underlying9 rfl rfl rfl (len8_get _ (by omega)) (nlen_256 (by omega))) rfl ?_
        refine WL_v (v_conv Tryz.underlying5 Tryz.underlying3 rfl (nlen_i64 (by omega))) rfl ?_
        refine WL_v (v_add rfl rfl (nlen_add (by omega) (by omega) (by omega))) rfl ?_
        refine WL_v (v_assign rfl) rfl ?_
        refine WL_nil ?_
        refine den_ret ?_
        refine ends1 Tryz.results148 rfl (Heap.le.refl _) (List.Sublist.refl _) ⟨congrArg (Value.int .i64) ?_, rfl⟩
        first | (rw [len64_1 (a := a) (by omega), len64_2 (a := (a / 2 ^ 32)) (by omega), len64_3 (a := ((a / 2 ^ 32) / 2 ^ 16)) (by omega)]; omega) | (rw [len64_1 (a := a) (by omega), len64_2 (a := (a / 2 ^ 32)) (by omega)]; omega) | (rw [len64_1 (a := a) (by omega), len64_3 (a := (a / 2 ^ 32)) (by omega)]; omega) | (rw [len64_2 (a := a) (by omega), len64_3 (a := (a / 2 ^ 16)) (by omega)]; omega) | (rw [len64_1 (a := a) (by omega)]; omega) | (rw [len64_2 (a := a) (by omega)]; omega) | (rw [len64_3 (a := a) (by omega)]; omega) | omega
    · skip
      refine den_skip ?_
      refine den_seq ?_
      refine den_seq ?_
      -- region 7
      refine den_region rfl ?_
      refine WL_v (v_move rfl) rfl ?_
      refine WL_v (v_geq rfl rfl) rfl ?_
      refine WL_nil ?_
      first | refine den_ifd rfl (fun c7 => ?_) (fun c8 => ?_) | refine den_if rfl (fun c7 => ?_) (fun c8 => ?_)
      · skip
        refine den_seq ?_
        -- region 8
        refine den_region rfl ?_
        refine WL_v (v_move rfl) rfl ?_
        refine WL_v (v_shrn (s := 8) rfl rfl (by show _ < 18446744073709551616; omega)) rfl ?_
        refine WL_v (v_assign rfl) rfl ?_
        refine WL_nil ?_
        -- region 9
        refine den_region rfl ?_
        refine WL_v (v_move rfl) rfl ?_
        refine WL_v (v_add rfl rfl (wrap_i64 (by omega) (by omega))) rfl ?_
        refine WL_v (v_assign rfl) rfl ?_
        refine WL_nil ?_
        refine den_seq ?_
        -- region 10
        refine den_region rfl ?_
        refine WL_v (v_move rfl) rfl ?_
        refine WL_v (v_move rfl) rfl ?_
        refine WL_v (v_conv Tryz.underlying148 Tryz.underlying5 rfl (wrap_u8 (by omega) (by omega))) rfl ?_
        refine WL_v (v_indexstrn Tryz.underlying9 rfl rfl rfl (len8_get _ (by omega)) (nlen_256 (by omega))) rfl ?_
        refine WL_v (v_conv Tryz.underlying5 Tryz.underlying3 rfl (nlen_i64 (by omega))) rfl ?_
        refine WL_v (v_add rfl rfl (nlen_add (by omega) (by omega) (by omega))) rfl ?_
        refine WL_v (v_assign rfl) rfl ?_
        refine WL_nil ?_
        refine den_ret ?_
        refine ends1 Tryz.results148 rfl (Heap.le.refl _) (List.Sublist.refl _) ⟨congrArg (Value.int .i64) ?_, rfl⟩
        first | (rw [len64_1 (a := a) (by omega), len64_2 (a := (a / 2 ^ 32)) (by omega), len64_3 (a := ((a / 2 ^ 32) / 2 ^ 16)) (by omega)]; omega) | (rw [len64_1 (a := a) (by omega), len64_2 (a := (a / 2 ^ 32)) (by omega)]; omega) | (rw [len64_1 (a := a) (by omega), len64_3 (a := (a / 2 ^ 32)) (by omega)]; omega) | (rw [len64_2 (a := a) (by omega), len64_3 (a := (a / 2 ^ 16)) (by omega)]; omega) | (rw [len64_1 (a := a) (by omega)]; omega) | (rw [len64_2 (a := a) (by omega)]; omega) | (rw [len64_3 (a := a) (by omega)]; omega) | omega
      · skip
        refine den_skip ?_
        refine den_seq ?_
        -- region 10
        refine den_region rfl ?_
        refine WL_v (v_move rfl) rfl ?_
        refine WL_v (v_move rfl) rfl ?_
        refine WL_v (v_conv Tryz.underlying148 Tryz.underlying5 rfl (wrap_u8 (by omega) (by omega))) rfl ?_
        refine WL_v (v_indexstrn Tryz.underlying9 rfl rfl rfl (len8_get _ (by omega)) (nlen_256 (by omega))) rfl ?_
        refine WL_v (v_conv Tryz.underlying5 Tryz.underlying3 rfl (nlen_i64 (by omega))) rfl ?_
        refine WL_v (v_add rfl rfl (nlen_add (by omega) (by omega) (by omega))) rfl ?_
        refine WL_v (v_assign rfl) rfl ?_
        refine WL_nil ?_
        refine den_ret ?_
        refine ends1 Tryz.results148 rfl (Heap.le.refl _) (List.Sublist.refl _) ⟨congrArg (Value.int .i64) ?_, rfl⟩
        first | (rw [len64_1 (a := a) (by omega), len64_2 (a := (a / 2 ^ 32)) (by omega), len64_3 (a := ((a / 2 ^ 32) / 2 ^ 16)) (by omega)]; omega) | (rw [len64_1 (a := a) (by omega), len64_2 (a := (a / 2 ^ 32)) (by omega)]; omega) | (rw [len64_1 (a := a) (by omega), len64_3 (a := (a / 2 ^ 32)) (by omega)]; omega) | (rw [len64_2 (a := a) (by omega), len64_3 (a := (a / 2 ^ 16)) (by omega)]; omega) | (rw [len64_1 (a := a) (by omega)]; omega) | (rw [len64_2 (a := a) (by omega)]; omega) | (rw [len64_3 (a := a) (by omega)]; omega) | omega
  · skip
    refine den_skip ?_
    refine den_seq ?_
    refine den_seq ?_
    -- region 4
    refine den_region rfl ?_
    refine WL_v (v_move rfl) rfl ?_
    refine WL_v (v_geq rfl rfl) rfl ?_
    refine WL_nil ?_
    first | refine den_ifd rfl (fun c9 => ?_) (fun c10 => ?_) | refine den_if rfl (fun c9 => ?_) (fun c10 => ?_)
    · skip
      refine den_seq ?_
      -- region 5
      refine den_region rfl ?_
      refine WL_v (v_move rfl) rfl ?_
      refine WL_v (v_shrn (s := 16) rfl rfl (by show _ < 18446744073709551616; omega)) rfl ?_
      refine WL_v (v_assign rfl) rfl ?_
      refine WL_nil ?_
      -- region 6
      refine den_region rfl ?_
      refine WL_v (v_move rfl) rfl ?_
      refine WL_v (v_add rfl rfl (wrap_i64 (by omega) (by omega))) rfl ?_
      refine WL_v (v_assign rfl) rfl ?_
      refine WL_nil ?_
      refine den_seq ?_
      refine den_seq ?_
      -- region 7
      refine den_region rfl ?_
      refine WL_v (v_move rfl) rfl ?_
      refine WL_v (v_geq rfl rfl) rfl ?_
      refine WL_nil ?_
      first | refine den_ifd rfl (fun c11 => ?_) (fun c12 => ?_) | refine den_if rfl (fun c11 => ?_) (fun c12 => ?_)
      · skip
        refine den_seq ?_
        -- region 8
        refine den_region rfl ?_
        refine WL_v (v_move rfl) rfl ?_
        refine WL_v (v_shrn (s := 8) rfl rfl (by show _ < 18446744073709551616; omega)) rfl ?_
        refine WL_v (v_assign rfl) rfl ?_
        refine WL_nil ?_
        -- region 9
        refine den_region rfl ?_
        refine WL_v (v_move rfl) rfl ?_
        refine WL_v (v_add rfl rfl (wrap_i64 (by omega) (by omega))) rfl ?_
        refine WL_v (v_assign rfl) rfl ?_
        refine WL_nil ?_
        refine den_seq ?_
        -- region 10
        refine den_region rfl ?_
        refine WL_v (v_move rfl) rfl ?_
        refine WL_v (v_move rfl) rfl ?_
        refine WL_v (v_conv Tryz.underlying148 Tryz.underlying5 rfl (wrap_u8 (by omega) (by omega))) rfl ?_
        refine WL_v (v_indexstrn Tryz.underlying9 rfl rfl rfl (len8_get _ (by omega)) (nlen_256 (by omega))) rfl ?_
        refine WL_v (v_conv Tryz.underlying5 Tryz.underlying3 rfl (nlen_i64 (by omega))) rfl ?_
        refine WL_v (v_add rfl rfl (nlen_add (by omega) (by omega) (by omega))) rfl ?_
        refine WL_v (v_assign rfl) rfl ?_
        refine WL_nil ?_
        refine den_ret ?_
        refine ends1 Tryz.results148 rfl (Heap.le.refl _) (List.Sublist.refl _) ⟨congrArg (Value.int .i64) ?_, rfl⟩
        first | (rw [len64_1 (a := a) (by omega), len64_2 (a := (a / 2 ^ 32)) (by omega), len64_3 (a := ((a / 2 ^ 32) / 2 ^ 16)) (by omega)]; omega) | (rw [len64_1 (a := a) (by omega), len64_2 (a := (a / 2 ^ 32)) (by omega)]; omega) | (rw [len64_1 (a := a) (by omega), len64_3 (a := (a / 2 ^ 32)) (by omega)]; omega) | (rw [len64_2 (a := a) (by omega), len64_3 (a := (a / 2 ^ 16)) (by omega)]; omega) | (rw [len64_1 (a := a) (by omega)]; omega) | (rw [len64_2 (a := a) (by omega)]; omega) | (rw [len64_3 (a := a) (by omega)]; omega) | omega
      · skip
        refine den_skip ?_
        refine den_seq ?_
        -- region 10
        refine den_region rfl ?_
        refine WL_v (v_move rfl) rfl ?_
        refine WL_v (v_move rfl) rfl ?_
        refine WL_v (v_conv Tryz.underlying148 Tryz.underlying5 rfl (wrap_u8 (by omega) (by omega))) rfl ?_
        refine WL_v (v_indexstrn Tryz.underlying9 rfl rfl rfl (len8_get _ (by omega)) (nlen_256 (by omega))) rfl ?_
        refine WL_v (v_conv Tryz.underlying5 Tryz.underlying3 rfl (nlen_i64 (by omega))) rfl ?_
        refine WL_v (v_add rfl rfl (nlen_add (by omega) (by omega) (by omega))) rfl ?_
        refine WL_v (v_assign rfl) rfl ?_
        refine WL_nil ?_
        refine den_ret ?_
        refine ends1 Tryz.results148 rfl (Heap.le.refl _) (List.Sublist.refl _) ⟨congrArg (Value.int .i64) ?_, rfl⟩
        first | (rw [len64_1 (a := a) (by omega), len64_2 (a := (a / 2 ^ 32)) (by omega), len64_3 (a := ((a / 2 ^ 32) / 2 ^ 16)) (by omega)]; omega) | (rw [len64_1 (a := a) (by omega), len64_2 (a := (a / 2 ^ 32)) (by omega)]; omega) | (rw [len64_1 (a := a) (by omega), len64_3 (a := (a / 2 ^ 32)) (by omega)]; omega) | (rw [len64_2 (a := a) (by omega), len64_3 (a := (a / 2 ^ 16)) (by omega)]; omega) | (rw [len64_1 (a := a) (by omega)]; omega) | (rw [len64_2 (a := a) (by omega)]; omega) | (rw [len64_3 (a := a) (by omega)]; omega) | omega
    · skip
      refine den_skip ?_
      refine den_seq ?_
      refine den_seq ?_
      -- region 7
      refine den_region rfl ?_
      refine WL_v (v_move rfl) rfl ?_
      refine WL_v (v_geq rfl rfl) rfl ?_
      refine WL_nil ?_
      first | refine den_ifd rfl (fun c13 => ?_) (fun c14 => ?_) | refine den_if rfl (fun c13 => ?_) (fun c14 => ?_)
      · skip
        refine den_seq ?_
        -- region 8
        refine den_region rfl ?_
        refine WL_v (v_move rfl) rfl ?_
        refine WL_v (v_shrn (s := 8) rfl rfl (by show _ < 18446744073709551616; omega)) rfl ?_
        refine WL_v (v_assign rfl) rfl ?_
        refine WL_nil ?_
        -- region 9
        refine den_region rfl ?_
        refine WL_v (v_move rfl) rfl ?_
        refine WL_v (v_add rfl rfl (wrap_i64 (by omega) (by omega))) rfl ?_
        refine WL_v (v_assign rfl) rfl ?_
        refine WL_nil ?_
        refine den_seq ?_
        -- region 10
        refine den_region rfl ?_
        refine WL_v (v_move rfl) rfl ?_
        refine WL_v (v_move rfl) rfl ?_
        refine WL_v (v_conv Tryz.underlying148 Tryz.underlying5 rfl (wrap_u8 (by omega) (by omega))) rfl ?_
        refine WL_v (v_indexstrn Tryz.underlying9 rfl rfl rfl (len8_get _ (by omega)) (nlen_256 (by omega))) rfl ?_
        refine WL_v (v_conv Tryz.underlying5 Tryz.underlying3 rfl (nlen_i64 (by omega))) rfl ?_
        refine WL_v (v_add rfl rfl (nlen_add (by omega) (by omega) (by omega))) rfl ?_
        refine WL_v (v_assign rfl) rfl ?_
        refine WL_nil ?_
        refine den_ret ?_
        refine ends1 Tryz.results148 rfl (Heap.le.refl _) (List.Sublist.refl _) ⟨congrArg (Value.int .i64) ?_, rfl⟩
        first | (rw [len64_1 (a := a) (by omega), len64_2 (a := (a / 2 ^ 32)) (by omega), len64_3 (a := ((a / 2 ^ 32) / 2 ^ 16)) (by omega)]; omega) | (rw [len64_1 (a := a) (by omega), len64_2 (a := (a / 2 ^ 32)) (by omega)]; omega) | (rw [len64_1 (a := a) (by omega), len64_3 (a := (a / 2 ^ 32)) (by omega)]; omega) | (rw [len64_2 (a := a) (by omega), len64_3 (a := (a / 2 ^ 16)) (by omega)]; omega) | (rw [len64_1 (a := a) (by omega)]; omega) | (rw [len64_2 (a := a) (by omega)]; omega) | (rw [len64_3 (a := a) (by omega)]; omega) | omega
      · skip
        refine den_skip ?_
        refine den_seq ?_
        -- region 10
        refine den_region rfl ?_
        refine WL_v (v_move rfl) rfl ?_
        refine WL_v (v_move rfl) rfl ?_
        refine WL_v (v_conv Tryz.underlying148 Tryz.underlying5 rfl (wrap_u8 (by omega) (by omega))) rfl ?_
        refine WL_v (v_indexstrn Tryz.underlying9 rfl rfl rfl (len8_get _ (by omega)) (nlen_256 (by omega))) rfl ?_
        refine WL_v (v_conv Tryz.underlying5 Tryz.underlying3 rfl (nlen_i64 (by omega))) rfl ?_
        refine WL_v (v_add rfl rfl (nlen_add (by omega) (by omega) (by omega))) rfl ?_
        refine WL_v (v_assign rfl) rfl ?_
        refine WL_nil ?_
        refine den_ret ?_
        refine ends1 Tryz.results148 rfl (Heap.le.refl _) (List.Sublist.refl _) ⟨congrArg (Value.int .i64) ?_, rfl⟩
        first | (rw [len64_1 (a := a) (by omega), len64_2 (a := (a / 2 ^ 32)) (by omega), len64_3 (a := ((a / 2 ^ 32) / 2 ^ 16)) (by omega)]; omega) | (rw [len64_1 (a := a) (by omega), len64_2 (a := (a / 2 ^ 32)) (by omega)]; omega) | (rw [len64_1 (a := a) (by omega), len64_3 (a := (a / 2 ^ 32)) (by omega)]; omega) | (rw [len64_2 (a := a) (by omega), len64_3 (a := (a / 2 ^ 16)) (by omega)]; omega) | (rw [len64_1 (a := a) (by omega)]; omega) | (rw [len64_2 (a := a) (by omega)]; omega) | (rw [len64_3 (a := a) (by omega)]; omega) | omega

theorem lz64_fn (a : Nat) (ha : a < 18446744073709551616) (h : Heap) : Fn0 Tryz.prog 150 [.int .u64 (a : Int)] h (.int .i64 ((64 - nlen a : Nat) : Int)) := by
  refine Tr_of Tryz.func150 rfl rfl Tryz.ntmps150 rfl [(0, .int .u64 (a : Int))] rfl ?_
  intro Lf
  have hn : nlen a ≤ 64 := nlen_bound 64 a ha
  refine den_seq ?_
  -- region 0
  refine den_region rfl ?_
  refine WL_v (v_assign rfl) rfl ?_
  refine WL_nil ?_
  refine den_seq ?_
  -- region 1
  refine den_region rfl ?_
  refine WL_v (v_move rfl) rfl ?_
  refine WL_callq rfl (len64_fn _ (by omega) _) rfl ?_
  refine WL_v (v_sub rfl rfl (wrap_i64 (by omega) (by omega))) rfl ?_
  refine WL_v (v_assign rfl) rfl ?_
  refine WL_nil ?_
  refine den_ret ?_
  exact ends1 Tryz.results150 rfl (Heap.le.refl _) (by simp) ⟨by rw [Int.ofNat_sub hn]; rfl, rfl⟩

theorem div64_fn (a b c : Nat) (ha : a < c) (hb : b < 18446744073709551616) (hc : c < 18446744073709551616) (h : Heap) : Fn0 Tryz.prog 126 [.int .u64 (a : Int), .int .u64 (b : Int), .int .u64 (c : Int)] h (.tuple ⟨[.int .u64 (((a * 18446744073709551616 + b) / c : Nat) : Int), .int .u64 (((a * 18446744073709551616 + b) % c : Nat) : Int)]⟩) := by
  refine Tr_of Tryz.func126 rfl rfl Tryz.ntmps126 rfl [(0, .int .u64 (a : Int)), (1, .int .u64 (b : Int)), (2, .int .u64 (c : Int))] rfl ?_
  intro Lf
  refine den_seq ?_
  -- region 0
  refine den_region rfl ?_
  refine WL_v (v_assign rfl) rfl ?_
  refine WL_v (v_assign rfl) rfl ?_
  refine WL_nil ?_
  refine den_seq ?_
  refine den_seq ?_
  -- region 1
  refine den_region rfl ?_
  refine WL_v (v_move rfl) rfl ?_
  refine WL_v (v_eql rfl rfl) rfl ?_
  refine WL_nil ?_
  first | refine den_ifd rfl (fun c1 => ?_) (fun c2 => ?_) | refine den_if rfl (fun c1 => ?_) (fun c2 => ?_)
  · skip
    exact absurd ‹_› (by omega)
  · skip
    refine den_skip ?_
    refine den_seq ?_
    refine den_seq ?_
    -- region 3
    refine den_region rfl ?_
    refine WL_v (v_move rfl) rfl ?_
    refine WL_v (v_move rfl) rfl ?_
    refine WL_v (v_leq rfl rfl) rfl ?_
    refine WL_nil ?_
    first | refine den_ifd rfl (fun c3 => ?_) (fun c4 => ?_) | refine den_if rfl (fun c3 => ?_) (fun c4 => ?_)
    · skip
      exact absurd ‹_› (by omega)
    · skip
      refine den_skip ?_
      refine den_seq ?_
      refine den_seq ?_
      -- region 5
      refine den_region rfl ?_
      refine WL_v (v_move rfl) rfl ?_
      refine WL_v (v_eql rfl rfl) rfl ?_
      refine WL_nil ?_
      first | refine den_ifd rfl (fun c5 => ?_) (fun c6 => ?_) | refine den_if rfl (fun c5 => ?_) (fun c6 => ?_)
      · skip
        refine den_seq ?_
        -- region 6
        refine den_draw [] (by kernel_rfl) (by kernel_rfl) (NoP.fn) (rem := [0, 1, 2, 3, 4, 5, 6, 7]) (by kernel_rfl) ?_
        refine QS_v (i := 0) rfl (v_move rfl) (by kernel_rfl) (by kernel_rfl) (by kernel_rfl) (rem' := [1, 2, 3, 4, 5, 6, 7]) (by kernel_rfl) rfl ?_
        refine QS_v (i := 1) rfl (v_move rfl) (by kernel_rfl) (by kernel_rfl) (by kernel_rfl) (rem' := [2, 3, 4, 5, 6, 7]) (by kernel_rfl) rfl ?_
        refine QS_v (i := 2) rfl (v_quon rfl rfl rfl (by omega) (by show _ < 18446744073709551616; omega)) (by kernel_rfl) (by kernel_rfl) (by kernel_rfl) (rem' := [3, 4, 5, 6, 7]) (by kernel_rfl) rfl ?_
        refine QS_v (i := 3) rfl (v_move rfl) (by kernel_rfl) (by kernel_rfl) (by kernel_rfl) (rem' := [4, 5, 6, 7]) (by kernel_rfl) rfl ?_
        refine QS_v (i := 4) rfl (v_move rfl) (by kernel_rfl) (by kernel_rfl) (by kernel_rfl) (rem' := [5, 6, 7]) (by kernel_rfl) rfl ?_
        refine QS_v (i := 5) rfl (v_remn rfl rfl (by omega)) (by kernel_rfl) (by kernel_rfl) (by kernel_rfl) (rem' := [6, 7]) (by kernel_rfl) rfl ?_
        refine QS_v (i := 6) rfl (v_assign rfl) (by kernel_rfl) (by kernel_rfl) (by kernel_rfl) (rem' := [7]) (by kernel_rfl) rfl ?_
        refine QS_v (i := 7) rfl (v_assign rfl) (by kernel_rfl) (by kernel_rfl) (by kernel_rfl) (rem' := []) (by kernel_rfl) rfl ?_
        refine QS_nil ?_
        refine den_ret ?_
        exact ends2 Tryz.results126 rfl rfl (Heap.le.refl _) (List.Sublist.refl _) ⟨div_low (by omega), rfl⟩
      · skip
        refine den_skip ?_
        refine den_seq ?_
        -- region 7
        refine den_region rfl ?_
        refine WL_v (v_move rfl) rfl ?_
        refine WL_callq rfl (lz64_fn _ (by omega) _) rfl ?_
        obtain ⟨hs, hY2, hY1⟩ := norm_y (c := c) (by omega) hc
        have hlz := nlen_bound 64 c hc
        refine WL_v (v_conv Tryz.underlying3 Tryz.underlying189 rfl (wrap_u64 (by omega) (by omega))) rfl ?_
        refine WL_v (v_assign rfl) rfl ?_
        obtain ⟨s, hse⟩ : ∃ s, s = 64 - nlen c := ⟨_, rfl⟩
        rw [← hse] at hs hY1 hY2 ⊢
        refine WL_nil ?_
        refine den_seq ?_
        -- region 8
        refine den_region rfl ?_
        refine WL_v (v_move rfl) rfl ?_
        refine WL_v (v_move rfl) rfl ?_
        refine WL_v (v_shlx rfl rfl hY2) rfl ?_
        refine WL_v (v_assign rfl) rfl ?_
        obtain ⟨Y, hYe⟩ : ∃ Y, Y = c * 2 ^ s := ⟨_, rfl⟩
        have nu := norm_u (a := a) (b := b) ha hb hs hY2
        have nd := norm_dividend (hi := a) (lo := b) hs hb
        rw [← hYe] at hY1 hY2 nu ⊢
        obtain ⟨nu1, nu2, nu3, nu4⟩ := nu
        refine WL_nil ?_
        refine den_seq ?_
        -- region 9
        refine den_region rfl ?_
        refine WL_v (v_move rfl) rfl ?_
        refine WL_v (v_shrn (s := 32) rfl rfl (by exact hY2)) rfl ?_
        refine WL_v (v_assign rfl) rfl ?_
        refine WL_nil ?_
        refine den_seq ?_
        -- region 10
        refine den_region rfl ?_
        refine WL_v (v_move rfl) rfl ?_
        refine WL_v (v_low 32 rfl rfl rfl (by exact hY2) (by decide) rfl) rfl ?_
        refine WL_v (v_assign rfl) rfl ?_
        refine WL_nil ?_
        refine den_seq ?_
        -- region 11
        refine den_region rfl ?_
        refine WL_v (v_move rfl) rfl ?_
        refine WL_v (v_move rfl) rfl ?_
        refine WL_v (v_shlm rfl rfl) rfl ?_
        refine WL_v (v_move rfl) rfl ?_
        refine WL_v (v_move rfl) rfl ?_
        refine WL_v (v_subn (m := 64) rfl rfl rfl (by omega) (by show _ < 18446744073709551616; omega)) rfl ?_
        refine WL_v (v_shrn rfl rfl hb) rfl ?_
        refine WL_v (v_orn rfl rfl rfl (Nat.mod_lt _ (by decide)) nu4) rfl ?_
        refine WL_v (v_assign rfl) rfl ?_
        rw [nu1]
        obtain ⟨U, hUe⟩ : ∃ U, U = a * 2 ^ s + b / 2 ^ (64 - s) := ⟨_, rfl⟩
        rw [← hUe] at nu2 nd ⊢
        refine WL_nil ?_
        refine den_seq ?_
        -- region 12
        refine den_region rfl ?_
        refine WL_v (v_move rfl) rfl ?_
        refine WL_v (v_move rfl) rfl ?_
        refine WL_v (v_shlm rfl rfl) rfl ?_
        refine WL_v (v_assign rfl) rfl ?_
        have hL : b * 2 ^ s % 18446744073709551616 < 18446744073709551616 := Nat.mod_lt _ (by decide)
        obtain ⟨Lo, hLe⟩ : ∃ Lo, Lo = b * 2 ^ s % 18446744073709551616 := ⟨_, rfl⟩
        rw [← hLe] at nd hL ⊢
        have nn := dnorm (u1 := Lo / 2 ^ 32) hY1 hY2 nu2 (by omega)
        refine WL_nil ?_
        refine den_seq ?_
        -- region 13
        refine den_region rfl ?_
        refine WL_v (v_move rfl) rfl ?_
        refine WL_v (v_shrn (s := 32) rfl rfl (by exact hL)) rfl ?_
        refine WL_v (v_assign rfl) rfl ?_
        refine WL_nil ?_
        refine den_seq ?_
        -- region 14
        refine den_region rfl ?_
        refine WL_v (v_move rfl) rfl ?_
        refine WL_v (v_low 32 rfl rfl rfl (by exact hL) (by decide) rfl) rfl ?_
        refine WL_v (v_assign rfl) rfl ?_
        refine WL_nil ?_
        refine den_seq ?_
        -- region 15
        refine den_region rfl ?_
        refine WL_v (v_move rfl) rfl ?_
        refine WL_v (v_move rfl) rfl ?_
        refine WL_v (v_quon rfl rfl rfl (by have := nn.y1lo; omega) (by show _ < 18446744073709551616; omega)) rfl ?_
        refine WL_v (v_assign rfl) rfl ?_
        refine WL_nil ?_
        refine den_seq ?_
        -- region 16
        refine den_region rfl ?_
        refine WL_v (v_move rfl) rfl ?_
        refine WL_v (v_move rfl) rfl ?_
        refine WL_v (v_move rfl) rfl ?_
        refine WL_v (v_muln rfl rfl rfl (by show _ < 18446744073709551616; exact Nat.lt_of_le_of_lt (Nat.div_mul_le_self _ _) (by omega))) rfl ?_
        refine WL_v (v_subn rfl rfl rfl (Nat.div_mul_le_self _ _) (by show _ < 18446744073709551616; omega)) rfl ?_
        refine WL_v (v_assign rfl) rfl ?_
        refine WL_nil ?_
        refine den_seq ?_
        refine den_cut (ι := Unit) (fun _ => [(2, .int .u64 ((Y : Nat) : Int)), (8, .int .u64 ((s : Nat) : Int)), (9, .int .u64 ((Y / 2 ^ 32 : Nat) : Int)), (10, .int .u64 ((Y % 2 ^ 32 : Nat) : Int)), (11, .int .u64 ((U : Nat) : Int)), (13, .int .u64 ((Lo / 2 ^ 32 : Nat) : Int)), (14, .int .u64 ((Lo % 2 ^ 32 : Nat) : Int)), (15, .int .u64 ((((U * 4294967296 + Lo / 2 ^ 32) / Y) : Nat) : Int))]) (fun _ h' L' => h = h' ∧ Lf = L') ?_ ?_
        · refine den_block ?_
          refine den_loopI (ι := Nat × Nat) (fun ⟨q, r⟩ => [(2, .int .u64 ((Y : Nat) : Int)), (8, .int .u64 ((s : Nat) : Int)), (9, .int .u64 ((Y / 2 ^ 32 : Nat) : Int)), (10, .int .u64 ((Y % 2 ^ 32 : Nat) : Int)), (11, .int .u64 ((U : Nat) : Int)), (13, .int .u64 ((Lo / 2 ^ 32 : Nat) : Int)), (14, .int .u64 ((Lo % 2 ^ 32 : Nat) : Int)), (15, .int .u64 ((q : Nat) : Int)), (16, .int .u64 ((r : Nat) : Int))]) (fun ⟨q, r⟩ h' L' => h = h' ∧ Lf = L' ∧ DInv (Y / 2 ^ 32) (Y % 2 ^ 32) U (Lo / 2 ^ 32) q r) (fun ⟨q, r⟩ => q) (U / (Y / 2 ^ 32), U - U / (Y / 2 ^ 32) * (Y / 2 ^ 32)) (sub_cons rfl (sub_cons rfl (sub_cons rfl (sub_cons rfl (sub_cons rfl (sub_cons rfl (sub_cons rfl (sub_cons rfl (sub_cons rfl sub_nil))))))))) ⟨rfl, rfl, nn.start⟩ ?_
          rintro ⟨q, r⟩ _ _ ⟨rfl, rfl, iv⟩
          have iv1 := iv.rlt
          have iv2 := iv.le
          have iv3 : q < 4294967296 → q * (Y % 2 ^ 32) < 18446744073709551616 := fun hq => q_small hq (Nat.mod_lt _ (by decide))
          refine den_seq ?_
          refine den_seq ?_
          -- region 17
          refine den_region rfl ?_
          refine WL_v (v_move rfl) rfl ?_
          refine WL_v (v_geq rfl rfl) rfl ?_
          refine WL_v (v_move rfl) rfl ?_
          first | refine WL_split (t := 69) rfl ?_ ?_
          · intro c7; try have c7 := of_decide_eq_true c7
            refine WL_skip (j := 2) (t := 69) (b := true) rfl rfl rfl rfl ?_
            refine WL_skip (j := 2) (t := 69) (b := true) rfl rfl rfl rfl ?_
            refine WL_skip (j := 2) (t := 69) (b := true) rfl rfl rfl rfl ?_
            refine WL_skip (j := 2) (t := 69) (b := true) rfl rfl rfl rfl ?_
            refine WL_skip (j := 2) (t := 69) (b := true) rfl rfl rfl rfl ?_
            refine WL_skip (j := 2) (t := 69) (b := true) rfl rfl rfl rfl ?_
            refine WL_skip (j := 2) (t := 69) (b := true) rfl rfl rfl rfl ?_
            refine WL_skip (j := 2) (t := 69) (b := true) rfl rfl rfl rfl ?_
            refine WL_v (v_pickt rfl rfl) rfl ?_
            refine WL_nil ?_
            refine den_true rfl ?_
            refine den_skip ?_
            refine den_block ?_
            refine den_seq ?_
            -- region 18
            refine den_region rfl ?_
            have nx := iv.next nn (by omega)
            refine WL_v (v_move rfl) rfl ?_
            refine WL_v (v_subn (n := 1) rfl rfl rfl (by omega) (by show _ < 18446744073709551616; omega)) rfl ?_
            refine WL_v (v_assign rfl) rfl ?_
            refine WL_nil ?_
            refine den_seq ?_
            -- region 19
            refine den_region rfl ?_
            refine WL_v (v_move rfl) rfl ?_
            refine WL_v (v_move rfl) rfl ?_
            refine WL_v (v_addn rfl rfl rfl (by show _ < 18446744073709551616; omega)) rfl ?_
            refine WL_v (v_assign rfl) rfl ?_
            refine WL_nil ?_
            refine den_seq ?_
            -- region 20
            refine den_region rfl ?_
            refine WL_v (v_move rfl) rfl ?_
            refine WL_v (v_geq rfl rfl) rfl ?_
            refine WL_nil ?_
            first | refine den_ifd rfl (fun c9 => ?_) (fun c10 => ?_) | refine den_if rfl (fun c9 => ?_) (fun c10 => ?_)
            · skip
              have qe := digit_break nn (by omega) (by omega) nx.2.2 nx.2.1
              rw [dsplit] at qe
              refine den_exit rfl ?_
              rw [← qe]
              exact den_again ⟨rfl, (), (sub_cons rfl (sub_cons rfl (sub_cons rfl (sub_cons rfl (sub_cons rfl (sub_cons rfl (sub_cons rfl (sub_cons rfl sub_nil)))))))), ⟨rfl, rfl⟩⟩
            · skip
              refine den_skip ?_
              refine den_blk ?_
              refine den_again ⟨rfl, (q - 1, r + Y / 2 ^ 32), (by have := nx.1; show q - 1 < q; omega), (sub_cons rfl (sub_cons rfl (sub_cons rfl (sub_cons rfl (sub_cons rfl (sub_cons rfl (sub_cons rfl (sub_cons rfl (sub_cons rfl sub_nil))))))))), ⟨rfl, rfl, ⟨nx.2.1, by omega, nx.2.2, by omega⟩⟩⟩
          · intro c8; try have c8 := of_decide_eq_false c8
            refine WL_vg rfl rfl (v_move rfl) rfl ?_
            refine WL_vg rfl rfl (v_move rfl) rfl ?_
            refine WL_vg rfl rfl (v_muln rfl rfl rfl (by show _ < 18446744073709551616; exact iv3 (by omega))) rfl ?_
            refine WL_vg rfl rfl (v_move rfl) rfl ?_
            refine WL_vg rfl rfl (v_muln (m := 4294967296) rfl rfl rfl (by show _ < 18446744073709551616; omega)) rfl ?_
            refine WL_vg rfl rfl (v_move rfl) rfl ?_
            refine WL_vg rfl rfl (v_addn rfl rfl rfl (by show _ < 18446744073709551616; omega)) rfl ?_
            refine WL_vg rfl rfl (v_gtr rfl rfl) rfl ?_
            refine WL_v (v_pickf rfl rfl) rfl ?_
            refine WL_nil ?_
            first | refine den_ifd rfl (fun c11 => ?_) (fun c12 => ?_) | refine den_if rfl (fun c11 => ?_) (fun c12 => ?_)
            · skip
              refine den_skip ?_
              refine den_block ?_
              refine den_seq ?_
              -- region 18
              refine den_region rfl ?_
              have nx := iv.next nn (by omega)
              refine WL_v (v_move rfl) rfl ?_
              refine WL_v (v_subn (n := 1) rfl rfl rfl (by omega) (by show _ < 18446744073709551616; omega)) rfl ?_
              refine WL_v (v_assign rfl) rfl ?_
              refine WL_nil ?_
              refine den_seq ?_
              -- region 19
              refine den_region rfl ?_
              refine WL_v (v_move rfl) rfl ?_
              refine WL_v (v_move rfl) rfl ?_
              refine WL_v (v_addn rfl rfl rfl (by show _ < 18446744073709551616; omega)) rfl ?_
              refine WL_v (v_assign rfl) rfl ?_
              refine WL_nil ?_
              refine den_seq ?_
              -- region 20
              refine den_region rfl ?_
              refine WL_v (v_move rfl) rfl ?_
              refine WL_v (v_geq rfl rfl) rfl ?_
              refine WL_nil ?_
              first | refine den_ifd rfl (fun c13 => ?_) (fun c14 => ?_) | refine den_if rfl (fun c13 => ?_) (fun c14 => ?_)
              · skip
                have qe := digit_break nn (by omega) (by omega) nx.2.2 nx.2.1
                rw [dsplit] at qe
                refine den_exit rfl ?_
                rw [← qe]
                exact den_again ⟨rfl, (), (sub_cons rfl (sub_cons rfl (sub_cons rfl (sub_cons rfl (sub_cons rfl (sub_cons rfl (sub_cons rfl (sub_cons rfl sub_nil)))))))), ⟨rfl, rfl⟩⟩
              · skip
                refine den_skip ?_
                refine den_blk ?_
                refine den_again ⟨rfl, (q - 1, r + Y / 2 ^ 32), (by have := nx.1; show q - 1 < q; omega), (sub_cons rfl (sub_cons rfl (sub_cons rfl (sub_cons rfl (sub_cons rfl (sub_cons rfl (sub_cons rfl (sub_cons rfl (sub_cons rfl sub_nil))))))))), ⟨rfl, rfl, ⟨nx.2.1, by omega, nx.2.2, by omega⟩⟩⟩
            · skip
              have qe := digit_of nn iv.ge iv.eq (by omega)
              rw [dsplit] at qe
              refine den_exit rfl ?_
              rw [← qe]
              exact den_again ⟨rfl, (), (sub_cons rfl (sub_cons rfl (sub_cons rfl (sub_cons rfl (sub_cons rfl (sub_cons rfl (sub_cons rfl (sub_cons rfl sub_nil)))))))), ⟨rfl, rfl⟩⟩
        · skip
          rintro _ _ _ ⟨rfl, rfl⟩
          refine den_seq ?_
          -- region 21
          refine den_region rfl ?_
          refine WL_v (v_move rfl) rfl ?_
          refine WL_v (v_mulm (n := 4294967296) rfl rfl) rfl ?_
          refine WL_v (v_move rfl) rfl ?_
          refine WL_v (v_addm rfl rfl) rfl ?_
          refine WL_v (v_move rfl) rfl ?_
          refine WL_v (v_move rfl) rfl ?_
          refine WL_v (v_mulm rfl rfl) rfl ?_
          refine WL_v (v_subm rfl rfl (Nat.mod_lt _ (by decide))) rfl ?_
          refine WL_v (v_assign rfl) rfl ?_
          rw [rest_wrap (y := Y) rfl (by omega) hY2]
          have nv : (U * 4294967296 + Lo / 2 ^ 32) % Y < Y := Nat.mod_lt _ (by omega)
          obtain ⟨V, hVe⟩ : ∃ V, V = (U * 4294967296 + Lo / 2 ^ 32) % Y := ⟨_, rfl⟩
          rw [← hVe] at nv ⊢
          have nm := dnorm (u1 := Lo % 2 ^ 32) hY1 hY2 nv (by omega)
          refine WL_nil ?_
          refine den_seq ?_
          -- region 22
          refine den_region rfl ?_
          refine WL_v (v_move rfl) rfl ?_
          refine WL_v (v_move rfl) rfl ?_
          refine WL_v (v_quon rfl rfl rfl (by have := nn.y1lo; omega) (by show _ < 18446744073709551616; omega)) rfl ?_
          refine WL_v (v_assign rfl) rfl ?_
          refine WL_nil ?_
          refine den_seq ?_
          -- region 23
          refine den_region rfl ?_
          refine WL_v (v_move rfl) rfl ?_
          refine WL_v (v_move rfl) rfl ?_
          refine WL_v (v_move rfl) rfl ?_
          refine WL_v (v_muln rfl rfl rfl (by show _ < 18446744073709551616; exact Nat.lt_of_le_of_lt (Nat.div_mul_le_self _ _) (by omega))) rfl ?_
          refine WL_v (v_subn rfl rfl rfl (Nat.div_mul_le_self _ _) (by show _ < 18446744073709551616; omega)) rfl ?_
          refine WL_v (v_assign rfl) rfl ?_
          refine WL_nil ?_
          refine den_seq ?_
          refine den_cut (ι := Unit) (fun _ => [(2, .int .u64 ((Y : Nat) : Int)), (8, .int .u64 ((s : Nat) : Int)), (14, .int .u64 ((Lo % 2 ^ 32 : Nat) : Int)), (15, .int .u64 ((((U * 4294967296 + Lo / 2 ^ 32) / Y) : Nat) : Int)), (17, .int .u64 ((V : Nat) : Int)), (18, .int .u64 ((((V * 4294967296 + Lo % 2 ^ 32) / Y) : Nat) : Int))]) (fun _ h' L' => h = h' ∧ Lf = L') ?_ ?_
          · refine den_block ?_
            refine den_loopI (ι := Nat × Nat) (fun ⟨q, r⟩ => [(2, .int .u64 ((Y : Nat) : Int)), (8, .int .u64 ((s : Nat) : Int)), (9, .int .u64 ((Y / 2 ^ 32 : Nat) : Int)), (10, .int .u64 ((Y % 2 ^ 32 : Nat) : Int)), (14, .int .u64 ((Lo % 2 ^ 32 : Nat) : Int)), (15, .int .u64 ((((U * 4294967296 + Lo / 2 ^ 32) / Y) : Nat) : Int)), (17, .int .u64 ((V : Nat) : Int)), (18, .int .u64 ((q : Nat) : Int)), (16, .int .u64 ((r : Nat) : Int))]) (fun ⟨q, r⟩ h' L' => h = h' ∧ Lf = L' ∧ DInv (Y / 2 ^ 32) (Y % 2 ^ 32) V (Lo % 2 ^ 32) q r) (fun ⟨q, r⟩ => q) (V / (Y / 2 ^ 32), V - V / (Y / 2 ^ 32) * (Y / 2 ^ 32)) (sub_cons rfl (sub_cons rfl (sub_cons rfl (sub_cons rfl (sub_cons rfl (sub_cons rfl (sub_cons rfl (sub_cons rfl (sub_cons rfl sub_nil))))))))) ⟨rfl, rfl, nm.start⟩ ?_
            rintro ⟨q, r⟩ _ _ ⟨rfl, rfl, iv⟩
            have iv1 := iv.rlt
            have iv2 := iv.le
            have iv3 : q < 4294967296 → q * (Y % 2 ^ 32) < 18446744073709551616 := fun hq => q_small hq (Nat.mod_lt _ (by decide))
            refine den_seq ?_
            refine den_seq ?_
            -- region 24
            refine den_region rfl ?_
            refine WL_v (v_move rfl) rfl ?_
            refine WL_v (v_geq rfl rfl) rfl ?_
            refine WL_v (v_move rfl) rfl ?_
            first | refine WL_split (t := 104) rfl ?_ ?_
            · intro c15; try have c15 := of_decide_eq_true c15
              refine WL_skip (j := 2) (t := 104) (b := true) rfl rfl rfl rfl ?_
              refine WL_skip (j := 2) (t := 104) (b := true) rfl rfl rfl rfl ?_
              refine WL_skip (j := 2) (t := 104) (b := true) rfl rfl rfl rfl ?_
              refine WL_skip (j := 2) (t := 104) (b := true) rfl rfl rfl rfl ?_
              refine WL_skip (j := 2) (t := 104) (b := true) rfl rfl rfl rfl ?_
              refine WL_skip (j := 2) (t := 104) (b := true) rfl rfl rfl rfl ?_
              refine WL_skip (j := 2) (t := 104) (b := true) rfl rfl rfl rfl ?_
              refine WL_skip (j := 2) (t := 104) (b := true) rfl rfl rfl rfl ?_
              refine WL_v (v_pickt rfl rfl) rfl ?_
              refine WL_nil ?_
              refine den_true rfl ?_
              refine den_skip ?_
              refine den_block ?_
              refine den_seq ?_
              -- region 25
              refine den_region rfl ?_
              have nx := iv.next nm (by omega)
              refine WL_v (v_move rfl) rfl ?_
              refine WL_v (v_subn (n := 1) rfl rfl rfl (by omega) (by show _ < 18446744073709551616; omega)) rfl ?_
              refine WL_v (v_assign rfl) rfl ?_
              refine WL_nil ?_
              refine den_seq ?_
              -- region 26
              refine den_region rfl ?_
              refine WL_v (v_move rfl) rfl ?_
              refine WL_v (v_move rfl) rfl ?_
              refine WL_v (v_addn rfl rfl rfl (by show _ < 18446744073709551616; omega)) rfl ?_
              refine WL_v (v_assign rfl) rfl ?_
              refine WL_nil ?_
              refine den_seq ?_
              -- region 27
              refine den_region rfl ?_
              refine WL_v (v_move rfl) rfl ?_
              refine WL_v (v_geq rfl rfl) rfl ?_
              refine WL_nil ?_
              first | refine den_ifd rfl (fun c17 => ?_) (fun c18 => ?_) | refine den_if rfl (fun c17 => ?_) (fun c18 => ?_)
              · skip
                have qe := digit_break nm (by omega) (by omega) nx.2.2 nx.2.1
                rw [dsplit] at qe
                refine den_exit rfl ?_
                rw [← qe]
                exact den_again ⟨rfl, (), (sub_cons rfl (sub_cons rfl (sub_cons rfl (sub_cons rfl (sub_cons rfl (sub_cons rfl sub_nil)))))), ⟨rfl, rfl⟩⟩
              · skip
                refine den_skip ?_
                refine den_blk ?_
                refine den_again ⟨rfl, (q - 1, r + Y / 2 ^ 32), (by have := nx.1; show q - 1 < q; omega), (sub_cons rfl (sub_cons rfl (sub_cons rfl (sub_cons rfl (sub_cons rfl (sub_cons rfl (sub_cons rfl (sub_cons rfl (sub_cons rfl sub_nil))))))))), ⟨rfl, rfl, ⟨nx.2.1, by omega, nx.2.2, by omega⟩⟩⟩
            · intro c16; try have c16 := of_decide_eq_false c16
              refine WL_vg rfl rfl (v_move rfl) rfl ?_
              refine WL_vg rfl rfl (v_move rfl) rfl ?_
              refine WL_vg rfl rfl (v_muln rfl rfl rfl (by show _ < 18446744073709551616; exact iv3 (by omega))) rfl ?_
              refine WL_vg rfl rfl (v_move rfl) rfl ?_
              refine WL_vg rfl rfl (v_muln (m := 4294967296) rfl rfl rfl (by show _ < 18446744073709551616; omega)) rfl ?_
              refine WL_vg rfl rfl (v_move rfl) rfl ?_
              refine WL_vg rfl rfl (v_addn rfl rfl rfl (by show _ < 18446744073709551616; omega)) rfl ?_
              refine WL_vg rfl rfl (v_gtr rfl rfl) rfl ?_
              refine WL_v (v_pickf rfl rfl) rfl ?_
              refine WL_nil ?_
              first | refine den_ifd rfl (fun c19 => ?_) (fun c20 => ?_) | refine den_if rfl (fun c19 => ?_) (fun c20 => ?_)
              · skip
                refine den_skip ?_
                refine den_block ?_
                refine den_seq ?_
                -- region 25
                refine den_region rfl ?_
                have nx := iv.next nm (by omega)
                refine WL_v (v_move rfl) rfl ?_
                refine WL_v (v_subn (n := 1) rfl rfl rfl (by omega) (by show _ < 18446744073709551616; omega)) rfl ?_
                refine WL_v (v_assign rfl) rfl ?_
                refine WL_nil ?_
                refine den_seq ?_
                -- region 26
                refine den_region rfl ?_
                refine WL_v (v_move rfl) rfl ?_
                refine WL_v (v_move rfl) rfl ?_
                refine WL_v (v_addn rfl rfl rfl (by show _ < 18446744073709551616; omega)) rfl ?_
                refine WL_v (v_assign rfl) rfl ?_
                refine WL_nil ?_
                refine den_seq ?_
                -- region 27
                refine den_region rfl ?_
                refine WL_v (v_move rfl) rfl ?_
                refine WL_v (v_geq rfl rfl) rfl ?_
                refine WL_nil ?_
                first | refine den_ifd rfl (fun c21 => ?_) (fun c22 => ?_) | refine den_if rfl (fun c21 => ?_) (fun c22 => ?_)
                · skip
                  have qe := digit_break nm (by omega) (by omega) nx.2.2 nx.2.1
                  rw [dsplit] at qe
                  refine den_exit rfl ?_
                  rw [← qe]
                  exact den_again ⟨rfl, (), (sub_cons rfl (sub_cons rfl (sub_cons rfl (sub_cons rfl (sub_cons rfl (sub_cons rfl sub_nil)))))), ⟨rfl, rfl⟩⟩
                · skip
                  refine den_skip ?_
                  refine den_blk ?_
                  refine den_again ⟨rfl, (q - 1, r + Y / 2 ^ 32), (by have := nx.1; show q - 1 < q; omega), (sub_cons rfl (sub_cons rfl (sub_cons rfl (sub_cons rfl (sub_cons rfl (sub_cons rfl (sub_cons rfl (sub_cons rfl (sub_cons rfl sub_nil))))))))), ⟨rfl, rfl, ⟨nx.2.1, by omega, nx.2.2, by omega⟩⟩⟩
              · skip
                have qe := digit_of nm iv.ge iv.eq (by omega)
                rw [dsplit] at qe
                refine den_exit rfl ?_
                rw [← qe]
                exact den_again ⟨rfl, (), (sub_cons rfl (sub_cons rfl (sub_cons rfl (sub_cons rfl (sub_cons rfl (sub_cons rfl sub_nil)))))), ⟨rfl, rfl⟩⟩
          · skip
            rintro _ _ _ ⟨rfl, rfl⟩
            refine den_seq ?_
            -- region 28
            refine den_region rfl ?_
            refine WL_v (v_move rfl) rfl ?_
            refine WL_v (v_mulm (n := 4294967296) rfl rfl) rfl ?_
            refine WL_v (v_move rfl) rfl ?_
            refine WL_v (v_addm rfl rfl) rfl ?_
            refine WL_v (v_move rfl) rfl ?_
            refine WL_v (v_mulm (n := 4294967296) rfl rfl) rfl ?_
            refine WL_v (v_move rfl) rfl ?_
            refine WL_v (v_addm rfl rfl) rfl ?_
            refine WL_v (v_move rfl) rfl ?_
            refine WL_v (v_move rfl) rfl ?_
            refine WL_v (v_mulm rfl rfl) rfl ?_
            refine WL_v (v_subm rfl rfl (Nat.mod_lt _ (by decide))) rfl ?_
            refine WL_v (v_move rfl) rfl ?_
            refine WL_v (v_shrn rfl rfl (Nat.mod_lt _ (by decide))) rfl ?_
            refine WL_v (v_assign rfl) rfl ?_
            refine WL_v (v_assign rfl) rfl ?_
            refine WL_nil ?_
            refine den_ret ?_
            exact ends2 Tryz.results126 rfl rfl (Heap.le.refl _) (List.Sublist.refl _) ⟨div_final hYe ha hb hs nd hL hVe hY2 hY1, rfl⟩

theorem len_fn (a : Nat) (ha : a < 18446744073709551616) (h : Heap) : Fn0 Tryz.prog 267 [.int .u64 (a : Int)] h (.int .i64 ((nlen a : Nat) : Int)) := by
  refine Tr_of Tryz.func267 rfl rfl Tryz.ntmps267 rfl [(0, .int .u64 (a : Int))] rfl ?_
  intro Lf
  refine den_seq ?_
  -- region 0
  refine den_region rfl ?_
  refine WL_v (v_assign rfl) rfl ?_
  refine WL_nil ?_
  refine den_seq ?_
  refine den_false rfl ?_
  refine den_skip ?_
  refine den_seq ?_
  -- region 2
  refine den_region rfl ?_
  refine WL_v (v_move rfl) rfl ?_
  refine WL_callq rfl (len64_fn _ (by omega) _) rfl ?_
  refine WL_v (v_assign rfl) rfl ?_
  refine WL_nil ?_
  refine den_ret ?_
  exact ends1 Tryz.results267 rfl (Heap.le.refl _) (by simp) ⟨rfl, rfl⟩

theorem rotl_fn (a : UInt32) (n : Nat) (hn : 1 ≤ n) (hn2 : n ≤ 31) (h : Heap) : Fn0 Tryz.prog 120 [w32 a, .int .i64 (-(n : Int))] h (w32 (ror32 a n)) := by
  refine Tr_of Tryz.func120 rfl rfl Tryz.ntmps120 rfl [(0, w32 a), (1, .int .i64 (-(n : Int)))] rfl ?_
  intro Lf
  refine den_seq ?_
  -- region 0
  refine den_region rfl ?_
  refine WL_v (v_assign rfl) rfl ?_
  refine WL_nil ?_
  refine den_seq ?_
  -- region 1
  refine den_region rfl ?_
  refine WL_v (v_move rfl) rfl ?_
  refine WL_v (v_conv Tryz.underlying3 Tryz.underlying189 rfl (wrap_neg hn hn2)) rfl ?_
  refine WL_v (v_low 5 rfl rfl rfl (by show _ < 18446744073709551616; omega) (by decide) rfl) rfl ?_
  rw [low_neg hn hn2]
  refine WL_v (v_assign rfl) rfl ?_
  refine WL_nil ?_
  refine den_seq ?_
  -- region 2
  refine den_region rfl ?_
  refine WL_v (v_move rfl) rfl ?_
  refine WL_v (v_move rfl) rfl ?_
  refine WL_v (v_shl32 rfl rfl (by omega)) rfl ?_
  refine WL_v (v_move rfl) rfl ?_
  refine WL_v (v_move rfl) rfl ?_
  refine WL_v (v_subn (m := 32) rfl rfl rfl (by omega) (by show _ < 18446744073709551616; omega)) rfl ?_
  rw [show 32 - (32 - n) = n from by omega]
  refine WL_v (v_shr32 rfl rfl (by omega)) rfl ?_
  refine WL_v (v_or32 rfl rfl) rfl ?_
  refine WL_v (v_assign rfl) rfl ?_
  refine WL_nil ?_
  refine den_ret ?_
  exact ends1 Tryz.results120 rfl (Heap.le.refl _) (by simp) ⟨rfl, rfl⟩

end Go.Proofs.Ch
