/- Walks of the program's functions, printed by my own generator (layer L8). -/
import Derived.Test.YtmeakefbepbapaaGreatDoorL7
namespace Go.Proofs.Ch
open Go Go.Proofs
set_option maxRecDepth 4000
set_option maxHeartbeats 1000000

/-- the scalar of bytes under a tag -/
noncomputable def scal (tag xs : List UInt8) : Nat := 1 + rst (dn (tagged tag xs)) 2305843009213688668 32
theorem gscalar_fn (tag : ByteArray) (v : Value) (xs : List UInt8) (h : Heap) (ht : tag.size ≤ 1048576) (hv : Bs h v xs) (hn : xs.length ≤ 549755813888) (hG : Gl h) : Fn0 Tryz.prog 96 [.string tag, v] h (.int .i64 ((scal tag.data.toList xs : Nat) : Int)) := by
  refine Tr_of Tryz.func96 rfl rfl Tryz.ntmps96 rfl [(0, .string tag), (1, v)] rfl ?_
  intro Lf
  have hr := rst_lt (f := dn (tagged tag.data.toList xs)) (m := 2305843009213688668) (by decide) 32
  refine den_seq ?_
  -- region 0
  refine den_region rfl ?_
  refine WL_v (v_assign rfl) rfl ?_
  refine WL_nil ?_
  refine den_seq ?_
  -- region 1
  refine den_region rfl ?_
  refine WL_v (v_move rfl) rfl ?_
  refine WL_v (v_move rfl) rfl ?_
  refine WL_callq rfl (tagged_fn _ _ _ _ ht hv hn hG) rfl ?_
  refine WL_callq rfl (rest_fn _ 2305843009213688668 (by decide) (by decide) _) rfl ?_
  refine WL_v (v_convj Tryz.underlying148 Tryz.underlying3 rfl (by omega)) rfl ?_
  refine WL_v (v_addj (m := 1) rfl rfl (by omega)) rfl ?_
  refine WL_v (v_assign rfl) rfl ?_
  refine WL_nil ?_
  refine den_ret ?_
  exact ends1 Tryz.results96 rfl (Heap.le.refl _) (by simp) ⟨rfl, rfl⟩

theorem rscalar_fn (tag : ByteArray) (v : Value) (xs : List UInt8) (h : Heap) (ht : tag.size ≤ 1048576) (hv : Bs h v xs) (hn : xs.length ≤ 549755813888) : Fn0 Tryz.prog 68 [.string tag, v] h (.int .i64 ((scal tag.data.toList xs : Nat) : Int)) := by
  refine Tr_of Tryz.func68 rfl rfl Tryz.ntmps68 rfl [(0, .string tag), (1, v)] rfl ?_
  intro Lf
  have hr := rst_lt (f := dn (tagged tag.data.toList xs)) (m := 2305843009213688668) (by decide) 32
  refine den_seq ?_
  -- region 0
  refine den_region rfl ?_
  refine WL_v (v_assign rfl) rfl ?_
  refine WL_nil ?_
  refine den_seq ?_
  -- region 1
  refine den_region rfl ?_
  refine WL_v (v_move rfl) rfl ?_
  refine WL_v (v_move rfl) rfl ?_
  refine WL_callq rfl (rtagged_fn _ _ _ _ ht hv hn) rfl ?_
  refine WL_callq rfl (rrest_fn _ 2305843009213688668 (by decide) (by decide) _) rfl ?_
  refine WL_v (v_addj (m := 1) rfl rfl (by omega)) rfl ?_
  refine WL_v (v_assign rfl) rfl ?_
  refine WL_nil ?_
  refine den_ret ?_
  exact ends1 Tryz.results68 rfl (Heap.le.refl _) (by simp) ⟨rfl, rfl⟩

end Go.Proofs.Ch
