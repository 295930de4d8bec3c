/- Walks of the program's functions, printed by my own generator (layer L11). -/
import Derived.Test.YtglmkcfmcoianaaGreatDoorL10
import Derived.Test.YtglmkcfmcoianaaGreatDoorBu
namespace Go.Proofs.Ch
open Go Go.Proofs
set_option maxRecDepth 4000
set_option maxHeartbeats 1000000
theorem siz181 : Siz Tryz.prog 181 1 := by show _ = _; kernel_rfl
theorem tgf_fn (b n : Nat) (h : Heap) (hn : 0 < n) (hn2 : n ≤ 1000) : Tr Tryz.prog 173 [.pointer (some ⟨b, 0, none⟩), .int .i64 ((n : Nat) : Int)] h [(b, .cells ⟨[.slice none 0 0, .int .i64 0, .int .i8 0]⟩ 185 (0, 0))] (fun v _ L' => v = .tuple ⟨[.int .i64 0, .bool false]⟩ ∧ L' = [(b, .cells ⟨[.slice none 0 0, .int .i64 0, .int .i8 0]⟩ 185 (0, 0))]) := by
  refine Tr_of Tryz.func173 rfl rfl Tryz.ntmps173 rfl [(0, .pointer (some ⟨b, 0, none⟩)), (1, .int .i64 ((n : Nat) : Int))] rfl ?_
  intro Lf
  refine den_seq ?_
  -- region 0
  refine den_region rfl ?_
  refine WL_v (v_assign rfl) rfl ?_
  refine WL_v (v_assign rfl) rfl ?_
  refine WL_nil ?_
  refine den_seq ?_
  refine den_seq ?_
  -- region 1
  refine den_region rfl ?_
  refine WL_v (v_move rfl) rfl ?_
  first | refine WL_v (v_nilfunc rfl) rfl ?_ | refine WL_v (v_nilyield rfl) rfl ?_ | refine WL_v (v_nilptr rfl) rfl ?_
  refine WL_v (v_faddr Tryz.underlying183 rfl siz55 rfl) rfl ?_
  refine WL_v (v_load1 one55 rfl (by first | exact Kn.own 0 rfl | exact Kn.own 1 rfl | exact Kn.own 2 rfl | exact Kn.own 3 rfl | exact Kn.own 4 rfl | exact Kn.own 5 rfl | exact Kn.per ‹_›) rfl) rfl ?_
  refine WL_v (v_lens Tryz.underlying55 rfl) rfl ?_
  refine WL_v (v_assign rfl) rfl ?_
  refine WL_nil ?_
  refine den_seq ?_
  -- region 2
  refine den_region rfl ?_
  refine WL_v (v_move rfl) rfl ?_
  refine WL_v (v_move rfl) rfl ?_
  first | refine WL_v (v_nilfunc rfl) rfl ?_ | refine WL_v (v_nilyield rfl) rfl ?_ | refine WL_v (v_nilptr rfl) rfl ?_
  refine WL_v (v_faddr Tryz.underlying183 rfl siz55 rfl) rfl ?_
  refine WL_v (v_load1 one55 rfl (by first | exact Kn.own 0 rfl | exact Kn.own 1 rfl | exact Kn.own 2 rfl | exact Kn.own 3 rfl | exact Kn.own 4 rfl | exact Kn.own 5 rfl | exact Kn.per ‹_›) rfl) rfl ?_
  refine WL_v (v_cap Tryz.underlying55 rfl) rfl ?_
  refine WL_v (v_move rfl) rfl ?_
  refine WL_v (v_subj (m := 0) (n := 0) rfl rfl (by omega) (by omega)) rfl ?_
  refine WL_v (v_leq rfl rfl) rfl ?_
  refine WL_nil ?_
  first | refine den_ifd rfl (fun hle => ?_) (fun hle => ?_) | refine den_if rfl (fun hle => ?_) (fun hle => ?_)
  · skip
    omega
  · skip
    refine den_skip ?_
    refine den_seq ?_
    -- region 5
    refine den_region rfl ?_
    refine WL_v (v_assign rfl) rfl ?_
    refine WL_v (v_assign rfl) rfl ?_
    refine WL_nil ?_
    refine den_ret ?_
    exact ends2 Tryz.results173 rfl rfl (Heap.le.refl _) (List.Sublist.refl _) ⟨rfl, rfl⟩

theorem tgt_fn (b bb l n cap : Nat) (h : Heap) (hn : l + n ≤ cap) (hc : cap ≤ 1000) : Tr Tryz.prog 173 [.pointer (some ⟨b, 0, none⟩), .int .i64 ((n : Nat) : Int)] h [(b, .cells ⟨[.slice (some ⟨bb, 0, none⟩) l cap, .int .i64 0, .int .i8 0]⟩ 185 (0, 0))] (fun v _ L' => v = .tuple ⟨[.int .i64 (l : Int), .bool true]⟩ ∧ L' = [(b, .cells ⟨[.slice (some ⟨bb, 0, none⟩) (l + n) cap, .int .i64 0, .int .i8 0]⟩ 185 (0, 0))]) := by
  refine Tr_of Tryz.func173 rfl rfl Tryz.ntmps173 rfl [(0, .pointer (some ⟨b, 0, none⟩)), (1, .int .i64 ((n : Nat) : Int))] rfl ?_
  intro Lf
  refine den_seq ?_
  -- region 0
  refine den_region rfl ?_
  refine WL_v (v_assign rfl) rfl ?_
  refine WL_v (v_assign rfl) rfl ?_
  refine WL_nil ?_
  refine den_seq ?_
  refine den_seq ?_
  -- region 1
  refine den_region rfl ?_
  refine WL_v (v_move rfl) rfl ?_
  first | refine WL_v (v_nilfunc rfl) rfl ?_ | refine WL_v (v_nilyield rfl) rfl ?_ | refine WL_v (v_nilptr rfl) rfl ?_
  refine WL_v (v_faddr Tryz.underlying183 rfl siz55 rfl) rfl ?_
  refine WL_v (v_load1 one55 rfl (by first | exact Kn.own 0 rfl | exact Kn.own 1 rfl | exact Kn.own 2 rfl | exact Kn.own 3 rfl | exact Kn.own 4 rfl | exact Kn.own 5 rfl | exact Kn.per ‹_›) rfl) rfl ?_
  refine WL_v (v_lens Tryz.underlying55 rfl) rfl ?_
  refine WL_v (v_assign rfl) rfl ?_
  refine WL_nil ?_
  refine den_seq ?_
  -- region 2
  refine den_region rfl ?_
  refine WL_v (v_move rfl) rfl ?_
  refine WL_v (v_move rfl) rfl ?_
  first | refine WL_v (v_nilfunc rfl) rfl ?_ | refine WL_v (v_nilyield rfl) rfl ?_ | refine WL_v (v_nilptr rfl) rfl ?_
  refine WL_v (v_faddr Tryz.underlying183 rfl siz55 rfl) rfl ?_
  refine WL_v (v_load1 one55 rfl (by first | exact Kn.own 0 rfl | exact Kn.own 1 rfl | exact Kn.own 2 rfl | exact Kn.own 3 rfl | exact Kn.own 4 rfl | exact Kn.own 5 rfl | exact Kn.per ‹_›) rfl) rfl ?_
  refine WL_v (v_cap Tryz.underlying55 rfl) rfl ?_
  refine WL_v (v_move rfl) rfl ?_
  refine WL_v (v_subj rfl rfl (by omega) (by show _ < 9223372036854775808; omega)) rfl ?_
  refine WL_v (v_leq rfl rfl) rfl ?_
  refine WL_nil ?_
  first | refine den_ifd rfl (fun hle => ?_) (fun hle => ?_) | refine den_if rfl (fun hle => ?_) (fun hle => ?_)
  · skip
    refine den_seq ?_
    -- region 3
    refine den_region rfl ?_
    refine WL_v (v_move rfl) rfl ?_
    refine WL_v (v_move rfl) rfl ?_
    first | refine WL_v (v_nilfunc rfl) rfl ?_ | refine WL_v (v_nilyield rfl) rfl ?_ | refine WL_v (v_nilptr rfl) rfl ?_
    refine WL_v (v_faddr Tryz.underlying183 rfl siz55 rfl) rfl ?_
    refine WL_v (v_load1 one55 rfl (by first | exact Kn.own 0 rfl | exact Kn.own 1 rfl | exact Kn.own 2 rfl | exact Kn.own 3 rfl | exact Kn.own 4 rfl | exact Kn.own 5 rfl | exact Kn.per ‹_›) rfl) rfl ?_
    refine WL_v (v_move rfl) rfl ?_
    refine WL_v (v_move rfl) rfl ?_
    refine WL_v (v_addj rfl rfl (by show _ < 9223372036854775808; omega)) rfl ?_
    refine WL_v (v_slices0 Tryz.underlying55 siz5 rfl (Bnd.some rfl rfl) (by omega)) rfl ?_
    first | refine WL_v (v_nilfunc rfl) rfl ?_ | refine WL_v (v_nilyield rfl) rfl ?_ | refine WL_v (v_nilptr rfl) rfl ?_
    refine WL_v (v_faddr Tryz.underlying183 rfl siz55 rfl) rfl ?_
    refine WL_store0 rfl rfl rfl siz55 rfl rfl rfl ?_
    refine WL_nil ?_
    refine den_seq ?_
    -- region 4
    refine den_region rfl ?_
    refine WL_v (v_move rfl) rfl ?_
    refine WL_v (v_assign rfl) rfl ?_
    refine WL_v (v_assign rfl) rfl ?_
    refine WL_nil ?_
    refine den_ret ?_
    exact ends2 Tryz.results173 rfl rfl (Heap.le.refl _) (List.Sublist.refl _) ⟨rfl, rfl⟩
  · skip
    omega

theorem blen_fn (b : Nat) (h : Heap) : Tr Tryz.prog 206 [.pointer (some ⟨b, 0, none⟩)] h [(b, .cells ⟨[.slice none 0 0, .int .i64 0, .int .i8 0]⟩ 185 (0, 0))] (fun v _ L' => v = .int .i64 0 ∧ L' = [(b, .cells ⟨[.slice none 0 0, .int .i64 0, .int .i8 0]⟩ 185 (0, 0))]) := by
  refine Tr_of Tryz.func206 rfl rfl Tryz.ntmps206 rfl [(0, .pointer (some ⟨b, 0, none⟩))] rfl ?_
  intro Lf
  refine den_seq ?_
  -- region 0
  refine den_region rfl ?_
  refine WL_v (v_assign rfl) rfl ?_
  refine WL_nil ?_
  refine den_seq ?_
  -- region 1
  refine den_draw [] (by kernel_rfl) (by kernel_rfl) (NoP.fn) (rem := [0, 1, 2, 3, 4, 5, 6, 7, 8, 9, 10]) (by kernel_rfl) ?_
  refine QS_v (i := 0) rfl (v_move rfl) (by kernel_rfl) (by kernel_rfl) (by kernel_rfl) (rem' := [1, 2, 3, 4, 5, 6, 7, 8, 9, 10]) (by kernel_rfl) rfl ?_
  first | refine QS_v (i := 1) rfl (v_nilfunc rfl) (by kernel_rfl) (by kernel_rfl) (by kernel_rfl) (rem' := [2, 3, 4, 5, 6, 7, 8, 9, 10]) (by kernel_rfl) rfl ?_ | refine QS_v (i := 1) rfl (v_nilyield rfl) (by kernel_rfl) (by kernel_rfl) (by kernel_rfl) (rem' := [2, 3, 4, 5, 6, 7, 8, 9, 10]) (by kernel_rfl) rfl ?_ | refine QS_v (i := 1) rfl (v_nilptr rfl) (by kernel_rfl) (by kernel_rfl) (by kernel_rfl) (rem' := [2, 3, 4, 5, 6, 7, 8, 9, 10]) (by kernel_rfl) rfl ?_
  refine QS_v (i := 2) rfl (v_faddr Tryz.underlying183 rfl siz55 rfl) (by kernel_rfl) (by kernel_rfl) (by kernel_rfl) (rem' := [3, 4, 5, 6, 7, 8, 9, 10]) (by kernel_rfl) rfl ?_
  refine QS_v (i := 3) rfl (v_load1 one55 rfl (by first | exact Kn.own 0 rfl | exact Kn.own 1 rfl | exact Kn.own 2 rfl | exact Kn.own 3 rfl | exact Kn.own 4 rfl | exact Kn.own 5 rfl | exact Kn.per ‹_›) rfl) (by kernel_rfl) (by kernel_rfl) (by kernel_rfl) (rem' := [4, 5, 6, 7, 8, 9, 10]) (by kernel_rfl) rfl ?_
  refine QS_v (i := 4) rfl (v_lens Tryz.underlying55 rfl) (by kernel_rfl) (by kernel_rfl) (by kernel_rfl) (rem' := [5, 6, 7, 8, 9, 10]) (by kernel_rfl) rfl ?_
  refine QS_v (i := 5) rfl (v_move rfl) (by kernel_rfl) (by kernel_rfl) (by kernel_rfl) (rem' := [6, 7, 8, 9, 10]) (by kernel_rfl) rfl ?_
  first | refine QS_v (i := 6) rfl (v_nilfunc rfl) (by kernel_rfl) (by kernel_rfl) (by kernel_rfl) (rem' := [7, 8, 9, 10]) (by kernel_rfl) rfl ?_ | refine QS_v (i := 6) rfl (v_nilyield rfl) (by kernel_rfl) (by kernel_rfl) (by kernel_rfl) (rem' := [7, 8, 9, 10]) (by kernel_rfl) rfl ?_ | refine QS_v (i := 6) rfl (v_nilptr rfl) (by kernel_rfl) (by kernel_rfl) (by kernel_rfl) (rem' := [7, 8, 9, 10]) (by kernel_rfl) rfl ?_
  refine QS_v (i := 7) rfl (v_faddr Tryz.underlying183 rfl siz3 rfl) (by kernel_rfl) (by kernel_rfl) (by kernel_rfl) (rem' := [8, 9, 10]) (by kernel_rfl) rfl ?_
  refine QS_v (i := 8) rfl (v_load1 one3 rfl (by first | exact Kn.own 0 rfl | exact Kn.own 1 rfl | exact Kn.own 2 rfl | exact Kn.own 3 rfl | exact Kn.own 4 rfl | exact Kn.own 5 rfl | exact Kn.per ‹_›) rfl) (by kernel_rfl) (by kernel_rfl) (by kernel_rfl) (rem' := [9, 10]) (by kernel_rfl) rfl ?_
  refine QS_v (i := 9) rfl (v_subj (m := 0) (n := 0) rfl rfl (by omega) (by omega)) (by kernel_rfl) (by kernel_rfl) (by kernel_rfl) (rem' := [10]) (by kernel_rfl) rfl ?_
  refine QS_v (i := 10) rfl (v_assign rfl) (by kernel_rfl) (by kernel_rfl) (by kernel_rfl) (rem' := []) (by kernel_rfl) rfl ?_
  refine QS_nil ?_
  refine den_ret ?_
  exact ends1 Tryz.results206 rfl (Heap.le.refl _) (List.Sublist.refl _) ⟨rfl, rfl⟩

theorem bgrow_fn (b n : Nat) (h : Heap) (hn : 0 < n) (hn2 : n ≤ 64) : Tr Tryz.prog 174 [.pointer (some ⟨b, 0, none⟩), .int .i64 ((n : Nat) : Int)] h [(b, .cells ⟨[.slice none 0 0, .int .i64 0, .int .i8 0]⟩ 185 (0, 0))] (fun v _ L' => v = .int .i64 0 ∧ ∃ bb, L' = [(bb, .cells ⟨zlist [Value.int .u8 0] 64⟩ 5 (0, 0)), (b, .cells ⟨[.slice (some ⟨bb, 0, none⟩) n 64, .int .i64 0, .int .i8 0]⟩ 185 (0, 0))]) := by
  refine Tr_of Tryz.func174 rfl rfl Tryz.ntmps174 rfl [(0, .pointer (some ⟨b, 0, none⟩)), (1, .int .i64 ((n : Nat) : Int))] rfl ?_
  intro Lf
  refine den_seq ?_
  -- region 0
  refine den_region rfl ?_
  refine WL_v (v_assign rfl) rfl ?_
  refine WL_nil ?_
  refine den_seq ?_
  -- region 1
  refine den_region rfl ?_
  refine WL_v (v_move rfl) rfl ?_
  refine WL_callf (L1 := [(b, .cells ⟨[.slice none 0 0, .int .i64 0, .int .i8 0]⟩ 185 (0, 0))]) rfl (blen_fn _ _) rfl ?_
  rintro _ h1 _ hl1 ⟨rfl, rfl⟩
  refine WL_v (v_assign rfl) rfl ?_
  refine WL_nil ?_
  refine den_seq ?_
  refine den_seq ?_
  -- region 2
  refine den_region rfl ?_
  refine WL_v (v_move rfl) rfl ?_
  refine WL_v (OpV.to (v' := .bool true) (v_eql rfl rfl) (by first | rfl | simp)) rfl ?_
  refine WL_v (v_move rfl) rfl ?_
  refine WL_vg rfl rfl (v_move rfl) rfl ?_
  first | refine WL_vg rfl rfl (v_nilfunc rfl) rfl ?_ | refine WL_vg rfl rfl (v_nilyield rfl) rfl ?_ | refine WL_vg rfl rfl (v_nilptr rfl) rfl ?_
  refine WL_vg rfl rfl (v_faddr Tryz.underlying183 rfl siz3 rfl) rfl ?_
  refine WL_vg rfl rfl (v_load1 one3 rfl (by first | exact Kn.own 0 rfl | exact Kn.own 1 rfl | exact Kn.own 2 rfl | exact Kn.own 3 rfl | exact Kn.own 4 rfl | exact Kn.own 5 rfl | exact Kn.per ‹_›) rfl) rfl ?_
  refine WL_vg rfl rfl (OpV.to (v' := .bool false) (v_neq rfl rfl) (by first | rfl | simp)) rfl ?_
  refine WL_v (v_pickt rfl rfl) rfl ?_
  refine WL_nil ?_
  refine den_false rfl ?_
  refine den_skip ?_
  refine den_seq ?_
  refine den_seq ?_
  -- region 4
  refine den_region rfl ?_
  refine WL_v (v_move rfl) rfl ?_
  refine WL_v (v_move rfl) rfl ?_
  refine WL_callf (L1 := [(b, .cells ⟨[.slice none 0 0, .int .i64 0, .int .i8 0]⟩ 185 (0, 0))]) rfl (tgf_fn _ n _ hn (by omega)) rfl ?_
  rintro _ h2 _ hl2 ⟨rfl, rfl⟩
  refine WL_v (v_move rfl) rfl ?_
  refine WL_v (v_extract rfl rfl) rfl ?_
  refine WL_v (OpV.to (v' := .bool false) (v_extract rfl rfl) (by first | rfl | simp)) rfl ?_
  refine WL_v (v_assign rfl) rfl ?_
  refine WL_v (v_assign rfl) rfl ?_
  refine WL_nil ?_
  refine den_seq ?_
  -- region 5
  refine den_region rfl ?_
  refine WL_v (v_move rfl) rfl ?_
  refine WL_nil ?_
  refine den_false rfl ?_
  refine den_skip ?_
  refine den_seq ?_
  refine den_seq ?_
  -- region 7
  refine den_region rfl ?_
  refine WL_v (v_move rfl) rfl ?_
  first | refine WL_v (v_nilfunc rfl) rfl ?_ | refine WL_v (v_nilyield rfl) rfl ?_ | refine WL_v (v_nilptr rfl) rfl ?_
  refine WL_v (v_faddr Tryz.underlying183 rfl siz55 rfl) rfl ?_
  refine WL_v (v_load1 one55 rfl (by first | exact Kn.own 0 rfl | exact Kn.own 1 rfl | exact Kn.own 2 rfl | exact Kn.own 3 rfl | exact Kn.own 4 rfl | exact Kn.own 5 rfl | exact Kn.per ‹_›) rfl) rfl ?_
  refine WL_v (v_slnil Tryz.underlying55 rfl rfl) rfl ?_
  refine WL_v (v_move rfl) rfl ?_
  refine WL_vg rfl rfl (v_move rfl) rfl ?_
  refine WL_vg rfl rfl (OpV.to (v' := .bool true) (v_leq rfl rfl) (by simp; omega)) rfl ?_
  refine WL_v (v_pickt rfl rfl) rfl ?_
  refine WL_nil ?_
  refine den_true rfl ?_
  refine den_seq ?_
  -- region 8
  refine den_region rfl ?_
  refine WL_v (v_move rfl) rfl ?_
  refine WL_v (v_move rfl) rfl ?_
  refine WL_makeSlice (zs := [Value.int .u8 0]) (n := n) (c := 64) Tryz.underlying55 byt5 siz5 zer5 rfl rfl rfl (by omega) (by decide) (by decide) rfl fun b41 => ?_
  first | refine WL_v (v_nilfunc rfl) rfl ?_ | refine WL_v (v_nilyield rfl) rfl ?_ | refine WL_v (v_nilptr rfl) rfl ?_
  refine WL_v (v_faddr Tryz.underlying183 rfl siz55 rfl) rfl ?_
  refine WL_store1 rfl rfl rfl siz55 rfl rfl rfl ?_
  refine WL_nil ?_
  refine den_seq ?_
  -- region 9
  refine den_region rfl ?_
  refine WL_v (v_assign rfl) rfl ?_
  refine WL_nil ?_
  refine den_ret ?_
  exact ends1 Tryz.results174 rfl (hl1.trans hl2) (List.Sublist.refl _) ⟨rfl, b41, rfl⟩

theorem bwrite0_fn (b : Nat) (pv : Value) (xs : List UInt8) (h : Heap) (hv : Bs h pv xs) (hn : 0 < xs.length) (hn2 : xs.length ≤ 64) : Tr Tryz.prog 135 [.pointer (some ⟨b, 0, none⟩), pv] h [(b, .cells ⟨[.slice none 0 0, .int .i64 0, .int .i8 0]⟩ 185 (0, 0))] (fun v _ L' => ∃ bb pad, xs.length + pad.length = 64 ∧ L' = [(bb, .cells ⟨(xs).map byteV ++ pad⟩ 5 (0, 0)), (b, .cells ⟨[.slice (some ⟨bb, 0, none⟩) xs.length 64, .int .i64 0, .int .i8 0]⟩ 185 (0, 0))]) := by
  have hv0 := hv
  obtain ⟨av, capv, rfl, hcv, hxv⟩ := hv
  refine Tr_of Tryz.func135 rfl rfl Tryz.ntmps135 rfl [(0, .pointer (some ⟨b, 0, none⟩)), (1, .slice av xs.length capv)] rfl ?_
  intro Lf
  refine den_seq ?_
  -- region 0
  refine den_region rfl ?_
  refine WL_v (v_assign rfl) rfl ?_
  refine WL_v (v_assign rfl) rfl ?_
  refine WL_nil ?_
  refine den_seq ?_
  -- region 1
  refine den_region rfl ?_
  refine WL_v (v_move rfl) rfl ?_
  first | refine WL_v (v_nilfunc rfl) rfl ?_ | refine WL_v (v_nilyield rfl) rfl ?_ | refine WL_v (v_nilptr rfl) rfl ?_
  refine WL_v (v_faddr Tryz.underlying183 rfl siz181 rfl) rfl ?_
  refine WL_store0 rfl rfl rfl siz181 rfl rfl rfl ?_
  refine WL_nil ?_
  refine den_seq ?_
  -- region 2
  refine den_region rfl ?_
  refine WL_v (v_move rfl) rfl ?_
  refine WL_v (v_move rfl) rfl ?_
  refine WL_v (v_lens Tryz.underlying55 rfl) rfl ?_
  refine WL_callf (L1 := [(b, .cells ⟨[.slice none 0 0, .int .i64 0, .int .i8 0]⟩ 185 (0, 0))]) rfl (tgf_fn _ xs.length _ hn (by omega)) rfl ?_
  rintro _ h1 _ hl1 ⟨rfl, rfl⟩
  refine WL_v (v_move rfl) rfl ?_
  refine WL_v (v_extract rfl rfl) rfl ?_
  refine WL_v (OpV.to (v' := .bool false) (v_extract rfl rfl) (by first | rfl | simp)) rfl ?_
  refine WL_v (v_assign rfl) rfl ?_
  refine WL_v (v_assign rfl) rfl ?_
  refine WL_nil ?_
  refine den_seq ?_
  refine den_seq ?_
  -- region 3
  refine den_region rfl ?_
  refine WL_v (v_move rfl) rfl ?_
  first | refine WL_v (v_notd rfl) rfl ?_ | refine WL_v (v_not rfl) rfl ?_
  refine WL_nil ?_
  refine den_true rfl ?_
  -- region 4
  refine den_region rfl ?_
  refine WL_v (v_move rfl) rfl ?_
  refine WL_v (v_move rfl) rfl ?_
  refine WL_v (v_lens Tryz.underlying55 rfl) rfl ?_
  refine WL_callf (L1 := [(b, .cells ⟨[.slice none 0 0, .int .i64 0, .int .i8 0]⟩ 185 (0, 0))]) rfl (bgrow_fn _ xs.length _ hn hn2) rfl ?_
  rintro _ h2 _ hl2 ⟨rfl, bb, rfl⟩
  refine WL_v (v_assign rfl) rfl ?_
  refine WL_nil ?_
  refine den_seq ?_
  -- region 5
  refine den_region rfl ?_
  refine WL_v (v_move rfl) rfl ?_
  first | refine WL_v (v_nilfunc rfl) rfl ?_ | refine WL_v (v_nilyield rfl) rfl ?_ | refine WL_v (v_nilptr rfl) rfl ?_
  refine WL_v (v_faddr Tryz.underlying183 rfl siz55 rfl) rfl ?_
  refine WL_v (v_load1 one55 rfl (by first | exact Kn.own 0 rfl | exact Kn.own 1 rfl | exact Kn.own 2 rfl | exact Kn.own 3 rfl | exact Kn.own 4 rfl | exact Kn.own 5 rfl | exact Kn.per ‹_›) rfl) rfl ?_
  refine WL_v (v_move rfl) rfl ?_
  refine WL_v (v_slices (l := 0) (m := xs.length) Tryz.underlying55 siz5 rfl (Bnd.some (n := 0) rfl rfl) rfl (by omega) (by omega)) rfl ?_
  rw [if_neg (show ¬ 64 = 0 by omega), show 0 + 0 * 1 = 0 from rfl, Nat.sub_zero, Nat.sub_zero, zl_split hn2]
  refine WL_v (v_move rfl) rfl ?_
  refine WL_copy (A := []) (n := xs.length) (us := xs.map byteV) Tryz.underlying55 siz5 rfl rfl (hv0.le (hl1.trans hl2)).src (by rw [Nat.min_self, Nat.mul_one, List.take_of_length_le (by simp)]; exact spl_app [] _ _ _ (by simp [zlist_len])) (by rw [Nat.min_self, Nat.mul_one, List.take_of_length_le (by simp)]; exact bytes_one _) rfl ?_
  refine WL_v (v_assign rfl) rfl ?_
  refine WL_v (v_assign rfl) rfl ?_
  refine WL_nil ?_
  refine den_ret ?_
  exact ends2 Tryz.results135 rfl rfl (hl1.trans hl2) (List.Sublist.refl _) ⟨bb, zlist [Value.int .u8 0] (64 - xs.length), by simp [zlist_len]; omega, rfl⟩

theorem bwrite1_fn (b bb : Nat) (pad : List Value) (pv : Value) (xs ys : List UInt8) (h : Heap) (hv : Bs h pv ys) (hp : xs.length + pad.length = 64) (hn : xs.length + ys.length ≤ 64) : Tr Tryz.prog 135 [.pointer (some ⟨b, 0, none⟩), pv] h [(bb, .cells ⟨(xs).map byteV ++ pad⟩ 5 (0, 0)), (b, .cells ⟨[.slice (some ⟨bb, 0, none⟩) xs.length 64, .int .i64 0, .int .i8 0]⟩ 185 (0, 0))] (fun v _ L' => ∃ pad', (xs ++ ys).length + pad'.length = 64 ∧ L' = [(bb, .cells ⟨((xs ++ ys)).map byteV ++ pad'⟩ 5 (0, 0)), (b, .cells ⟨[.slice (some ⟨bb, 0, none⟩) (xs ++ ys).length 64, .int .i64 0, .int .i8 0]⟩ 185 (0, 0))]) := by
  have hv0 := hv
  obtain ⟨av, capv, rfl, hcv, hxv⟩ := hv
  refine Tr_of Tryz.func135 rfl rfl Tryz.ntmps135 rfl [(0, .pointer (some ⟨b, 0, none⟩)), (1, .slice av ys.length capv)] rfl ?_
  intro Lf
  refine den_seq ?_
  -- region 0
  refine den_region rfl ?_
  refine WL_v (v_assign rfl) rfl ?_
  refine WL_v (v_assign rfl) rfl ?_
  refine WL_nil ?_
  refine den_seq ?_
  -- region 1
  refine den_region rfl ?_
  refine WL_v (v_move rfl) rfl ?_
  first | refine WL_v (v_nilfunc rfl) rfl ?_ | refine WL_v (v_nilyield rfl) rfl ?_ | refine WL_v (v_nilptr rfl) rfl ?_
  refine WL_v (v_faddr Tryz.underlying183 rfl siz181 rfl) rfl ?_
  refine WL_store1 rfl rfl rfl siz181 rfl rfl rfl ?_
  refine WL_nil ?_
  refine den_seq ?_
  -- region 2
  refine den_region rfl ?_
  refine WL_v (v_move rfl) rfl ?_
  refine WL_v (v_move rfl) rfl ?_
  refine WL_v (v_lens Tryz.underlying55 rfl) rfl ?_
  refine WL_perm (L' := [(b, .cells ⟨[.slice (some ⟨bb, 0, none⟩) xs.length 64, .int .i64 0, .int .i8 0]⟩ 185 (0, 0))] ++ ((bb, .cells ⟨xs.map byteV ++ pad⟩ 5 (0, 0)) :: Lf)) (List.Perm.swap _ _ _) ?_
  refine WL_callf (L1 := [_]) rfl (tgt_fn _ _ xs.length ys.length 64 _ hn (by decide)) rfl ?_
  rintro _ h1 _ hl1 ⟨rfl, rfl⟩
  refine WL_perm (L' := (bb, .cells ⟨xs.map byteV ++ pad⟩ 5 (0, 0)) :: (b, .cells ⟨[.slice (some ⟨bb, 0, none⟩) (xs.length + ys.length) 64, .int .i64 0, .int .i8 0]⟩ 185 (0, 0)) :: Lf) (List.Perm.swap _ _ _) ?_
  refine WL_v (v_move rfl) rfl ?_
  refine WL_v (v_extract rfl rfl) rfl ?_
  refine WL_v (OpV.to (v' := .bool true) (v_extract rfl rfl) (by first | rfl | simp)) rfl ?_
  refine WL_v (v_assign rfl) rfl ?_
  refine WL_v (v_assign rfl) rfl ?_
  refine WL_nil ?_
  refine den_seq ?_
  refine den_seq ?_
  -- region 3
  refine den_region rfl ?_
  refine WL_v (v_move rfl) rfl ?_
  first | refine WL_v (v_notd rfl) rfl ?_ | refine WL_v (v_not rfl) rfl ?_
  refine WL_nil ?_
  refine den_false rfl ?_
  refine den_skip ?_
  refine den_seq ?_
  -- region 5
  refine den_region rfl ?_
  refine WL_v (v_move rfl) rfl ?_
  first | refine WL_v (v_nilfunc rfl) rfl ?_ | refine WL_v (v_nilyield rfl) rfl ?_ | refine WL_v (v_nilptr rfl) rfl ?_
  refine WL_v (v_faddr Tryz.underlying183 rfl siz55 rfl) rfl ?_
  refine WL_v (v_load1 one55 rfl (by first | exact Kn.own 0 rfl | exact Kn.own 1 rfl | exact Kn.own 2 rfl | exact Kn.own 3 rfl | exact Kn.own 4 rfl | exact Kn.own 5 rfl | exact Kn.per ‹_›) rfl) rfl ?_
  refine WL_v (v_move rfl) rfl ?_
  refine WL_v (v_slices (l := xs.length) (m := xs.length + ys.length) Tryz.underlying55 siz5 rfl (Bnd.some (n := xs.length) rfl rfl) rfl (by omega) (by omega)) rfl ?_
  rw [show (if 64 = xs.length then 0 else 0 + xs.length * 1) = (if 64 = xs.length then 0 else xs.length) from by rw [Nat.zero_add, Nat.mul_one], Nat.add_sub_cancel_left]
  refine WL_v (v_move rfl) rfl ?_
  have hsp := copy_pad xs ys pad hp hn
  refine WL_copy (A := []) (n := ys.length) (us := ys.map byteV) Tryz.underlying55 siz5 rfl rfl (hv0.le hl1).src hsp (by rw [Nat.min_self, Nat.mul_one, List.take_of_length_le (by simp)]; exact bytes_one _) rfl ?_
  rw [← List.map_append]
  refine WL_v (v_assign rfl) rfl ?_
  refine WL_v (v_assign rfl) rfl ?_
  refine WL_nil ?_
  refine den_ret ?_
  exact ends2 Tryz.results135 rfl rfl hl1 (List.Sublist.refl _) ⟨pad.drop (ys.map byteV).length, by simp; omega, by rw [List.length_append]⟩

end Go.Proofs.Ch
