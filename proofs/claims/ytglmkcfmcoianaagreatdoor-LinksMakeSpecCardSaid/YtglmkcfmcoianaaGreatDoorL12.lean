/- Walks of the program's functions, printed by my own generator (layer L12). -/
import Derived.Test.YtglmkcfmcoianaaGreatDoorL11
namespace Go.Proofs.Ch
open Go Go.Proofs
set_option maxRecDepth 4000
set_option maxHeartbeats 1000000
theorem siz183 : Siz Tryz.prog 183 3 := by show _ = _; kernel_rfl
theorem siz28 : Siz Tryz.prog 28 32 := by show _ = _; kernel_rfl
theorem zer28 : Zer Tryz.prog 28 (.agg ⟨[.int .u8 0, .int .u8 0, .int .u8 0, .int .u8 0, .int .u8 0, .int .u8 0, .int .u8 0, .int .u8 0, .int .u8 0, .int .u8 0, .int .u8 0, .int .u8 0, .int .u8 0, .int .u8 0, .int .u8 0, .int .u8 0, .int .u8 0, .int .u8 0, .int .u8 0, .int .u8 0, .int .u8 0, .int .u8 0, .int .u8 0, .int .u8 0, .int .u8 0, .int .u8 0, .int .u8 0, .int .u8 0, .int .u8 0, .int .u8 0, .int .u8 0, .int .u8 0]⟩) := by show _ = _; kernel_rfl
theorem many28 : Many Tryz.prog 28 32 := Many.of Tryz.underlying28 rfl siz28
theorem zer185 : Zer Tryz.prog 185 (.agg ⟨[.slice none 0 0, .int .i64 0, .int .i8 0]⟩) := by show _ = _; kernel_rfl
theorem bbytes_fn (b bb n cap : Nat) (h : Heap) (hn : 0 < cap) (hn2 : n ≤ cap) : Tr Tryz.prog 175 [.pointer (some ⟨b, 0, none⟩)] h [(b, .cells ⟨[.slice (some ⟨bb, 0, none⟩) n cap, .int .i64 0, .int .i8 0]⟩ 185 (0, 0))] (fun v _ L' => v = .slice (some ⟨bb, 0, none⟩) n cap ∧ L' = [(b, .cells ⟨[.slice (some ⟨bb, 0, none⟩) n cap, .int .i64 0, .int .i8 0]⟩ 185 (0, 0))]) := by
  refine Tr_of Tryz.func175 rfl rfl Tryz.ntmps175 rfl [(0, .pointer (some ⟨b, 0, none⟩))] rfl ?_
  intro Lf
  refine den_seq ?_
  -- region 0
  refine den_region rfl ?_
  refine WL_v (v_assign rfl) rfl ?_
  refine WL_nil ?_
  refine den_seq ?_
  -- region 1
  refine den_draw [] (by kernel_rfl) (by kernel_rfl) (NoP.fn) (rem := [0, 1, 2, 3, 4, 5, 6, 7, 8, 9]) (by kernel_rfl) ?_
  refine QS_v (i := 0) rfl (v_move rfl) (by kernel_rfl) (by kernel_rfl) (by kernel_rfl) (rem' := [1, 2, 3, 4, 5, 6, 7, 8, 9]) (by kernel_rfl) rfl ?_
  first | refine QS_v (i := 1) rfl (v_nilfunc rfl) (by kernel_rfl) (by kernel_rfl) (by kernel_rfl) (rem' := [2, 3, 4, 5, 6, 7, 8, 9]) (by kernel_rfl) rfl ?_ | refine QS_v (i := 1) rfl (v_nilyield rfl) (by kernel_rfl) (by kernel_rfl) (by kernel_rfl) (rem' := [2, 3, 4, 5, 6, 7, 8, 9]) (by kernel_rfl) rfl ?_ | refine QS_v (i := 1) rfl (v_nilptr rfl) (by kernel_rfl) (by kernel_rfl) (by kernel_rfl) (rem' := [2, 3, 4, 5, 6, 7, 8, 9]) (by kernel_rfl) rfl ?_
  refine QS_v (i := 2) rfl (v_faddr Tryz.underlying183 rfl siz55 rfl) (by kernel_rfl) (by kernel_rfl) (by kernel_rfl) (rem' := [3, 4, 5, 6, 7, 8, 9]) (by kernel_rfl) rfl ?_
  refine QS_v (i := 3) rfl (v_load1 one55 rfl (by first | exact Kn.own 0 rfl | exact Kn.own 1 rfl | exact Kn.own 2 rfl | exact Kn.own 3 rfl | exact Kn.own 4 rfl | exact Kn.own 5 rfl | exact Kn.per ‹_›) rfl) (by kernel_rfl) (by kernel_rfl) (by kernel_rfl) (rem' := [4, 5, 6, 7, 8, 9]) (by kernel_rfl) rfl ?_
  refine QS_v (i := 4) rfl (v_move rfl) (by kernel_rfl) (by kernel_rfl) (by kernel_rfl) (rem' := [5, 6, 7, 8, 9]) (by kernel_rfl) rfl ?_
  first | refine QS_v (i := 5) rfl (v_nilfunc rfl) (by kernel_rfl) (by kernel_rfl) (by kernel_rfl) (rem' := [6, 7, 8, 9]) (by kernel_rfl) rfl ?_ | refine QS_v (i := 5) rfl (v_nilyield rfl) (by kernel_rfl) (by kernel_rfl) (by kernel_rfl) (rem' := [6, 7, 8, 9]) (by kernel_rfl) rfl ?_ | refine QS_v (i := 5) rfl (v_nilptr rfl) (by kernel_rfl) (by kernel_rfl) (by kernel_rfl) (rem' := [6, 7, 8, 9]) (by kernel_rfl) rfl ?_
  refine QS_v (i := 6) rfl (v_faddr Tryz.underlying183 rfl siz3 rfl) (by kernel_rfl) (by kernel_rfl) (by kernel_rfl) (rem' := [7, 8, 9]) (by kernel_rfl) rfl ?_
  refine QS_v (i := 7) rfl (v_load1 one3 rfl (by first | exact Kn.own 0 rfl | exact Kn.own 1 rfl | exact Kn.own 2 rfl | exact Kn.own 3 rfl | exact Kn.own 4 rfl | exact Kn.own 5 rfl | exact Kn.per ‹_›) rfl) (by kernel_rfl) (by kernel_rfl) (by kernel_rfl) (rem' := [8, 9]) (by kernel_rfl) rfl ?_
  refine QS_v (i := 8) rfl (v_slices (l := 0) (m := n) Tryz.underlying55 siz5 rfl (Bnd.some (n := 0) rfl rfl) rfl (by omega) (by omega)) (by kernel_rfl) (by kernel_rfl) (by kernel_rfl) (rem' := [9]) (by kernel_rfl) rfl ?_
  rw [if_neg (show ¬ cap = 0 by omega), show 0 + 0 * 1 = 0 from rfl, Nat.sub_zero, Nat.sub_zero]
  refine QS_v (i := 9) rfl (v_assign rfl) (by kernel_rfl) (by kernel_rfl) (by kernel_rfl) (rem' := []) (by kernel_rfl) rfl ?_
  refine QS_nil ?_
  refine den_ret ?_
  exact ends1 Tryz.results175 rfl (Heap.le.refl _) (List.Sublist.refl _) ⟨rfl, rfl⟩

theorem ikey_fn (b : Nat) (d : Dig) (h : Heap) : Tr Tryz.prog 134 [.pointer (some ⟨b, 0, none⟩), .agg ⟨dcells d⟩] h [(b, .cells ⟨[.slice none 0 0, .int .i64 0, .int .i8 0]⟩ 185 (0, 0))] (fun v _ L' => v = .pointer (some ⟨b, 0, none⟩) ∧ ∃ bb pad, d.toList.length + pad.length = 64 ∧ L' = [(bb, .cells ⟨(d.toList).map byteV ++ pad⟩ 5 (0, 0)), (b, .cells ⟨[.slice (some ⟨bb, 0, none⟩) d.toList.length 64, .int .i64 0, .int .i8 0]⟩ 185 (0, 0))]) := by
  refine Tr_of Tryz.func134 rfl rfl Tryz.ntmps134 rfl [(0, .pointer (some ⟨b, 0, none⟩)), (1, .agg ⟨dcells d⟩)] rfl ?_
  intro Lf
  refine den_seq ?_
  -- region 0
  refine den_region rfl ?_
  refine WL_box rfl rfl rfl fun b3 => ?_
  refine WL_v (v_assign rfl) rfl ?_
  refine WL_freeze fun h3 hl3 hb3 => ?_
  refine WL_nil ?_
  refine den_seq ?_
  -- region 1
  refine den_draw0 [] (by kernel_rfl) (by kernel_rfl) (NoP.fn) (rem := [0, 1, 2, 3, 4]) (by kernel_rfl) ?_
  refine QB_v (i := 0) rfl (v_move rfl) (by kernel_rfl) (by kernel_rfl) (by kernel_rfl) (rem' := [1, 2, 3, 4]) (by kernel_rfl) rfl ?_
  first | refine QB_v (i := 1) rfl (v_nilfunc rfl) (by kernel_rfl) (by kernel_rfl) (by kernel_rfl) (rem' := [2, 3, 4]) (by kernel_rfl) rfl ?_ | refine QB_v (i := 1) rfl (v_nilyield rfl) (by kernel_rfl) (by kernel_rfl) (by kernel_rfl) (rem' := [2, 3, 4]) (by kernel_rfl) rfl ?_ | refine QB_v (i := 1) rfl (v_nilptr rfl) (by kernel_rfl) (by kernel_rfl) (by kernel_rfl) (rem' := [2, 3, 4]) (by kernel_rfl) rfl ?_
  refine QB_v (i := 2) rfl (v_faddr Tryz.underlying185 rfl siz183 rfl) (by kernel_rfl) (by kernel_rfl) (by kernel_rfl) (rem' := [3, 4]) (by kernel_rfl) rfl ?_
  refine QB_v (i := 3) rfl (v_slicea0 Tryz.underlying28 siz5 rfl) (by kernel_rfl) (by kernel_rfl) (by kernel_rfl) (rem' := [4]) (by kernel_rfl) rfl ?_
  refine QB_step (is := [4]) rfl (by kernel_rfl) ?_
  refine qall1 ?_
  refine qb_e rfl rfl (op1_call (L1 := [(b, .cells ⟨[.slice none 0 0, .int .i64 0, .int .i8 0]⟩ 185 (0, 0))]) rfl rfl (TrV.of0 (bwrite0_fn b _ d.toList _ (Bs.dig hb3 (by decide)) (by simp) (by simp)))) rfl (rem' := []) (by kernel_rfl) ?_
  rintro v9 h9 _ ⟨_, rfl, hl9, bb, pad, hpad, rfl⟩
  refine ⟨hl9, ?_⟩
  refine QB_nil ?_
  refine den_seq ?_
  -- region 2
  refine den_region rfl ?_
  refine WL_v (v_move rfl) rfl ?_
  refine WL_v (v_assign rfl) rfl ?_
  refine WL_nil ?_
  refine den_ret ?_
  exact ends1 Tryz.results134 rfl (hl3.trans hl9) (List.Sublist.refl _) ⟨rfl, bb, pad, hpad, rfl⟩

theorem under_fn (b bb : Nat) (pad : List Value) (tag : ByteArray) (xs : List UInt8) (h : Heap) (ht : tag.size ≤ 1048576) (hp : xs.length + pad.length = 64) (hG : Gl h) : Tr Tryz.prog 136 [.pointer (some ⟨b, 0, none⟩), .string tag] h [(bb, .cells ⟨(xs).map byteV ++ pad⟩ 5 (0, 0)), (b, .cells ⟨[.slice (some ⟨bb, 0, none⟩) xs.length 64, .int .i64 0, .int .i8 0]⟩ 185 (0, 0))] (fun v _ L' => v = .agg ⟨dcells (tagged tag.data.toList xs)⟩ ∧ L' = []) := by
  refine Tr_of Tryz.func136 rfl rfl Tryz.ntmps136 rfl [(0, .pointer (some ⟨b, 0, none⟩)), (1, .string tag)] rfl ?_
  intro Lf
  refine den_seq ?_
  -- region 0
  refine den_region rfl ?_
  refine WL_alloc zer28 rfl rfl fun b4 => ?_
  refine WL_freeze1 fun h1 hl1 hbb => ?_
  refine WL_nil ?_
  refine den_seq ?_
  -- region 1
  refine den_region rfl ?_
  refine WL_v (v_move rfl) rfl ?_
  refine WL_v (v_move rfl) rfl ?_
  first | refine WL_v (v_nilfunc rfl) rfl ?_ | refine WL_v (v_nilyield rfl) rfl ?_ | refine WL_v (v_nilptr rfl) rfl ?_
  refine WL_v (v_faddr Tryz.underlying185 rfl siz183 rfl) rfl ?_
  refine WL_perm (L' := [(b, .cells ⟨[.slice (some ⟨bb, 0, none⟩) xs.length 64, .int .i64 0, .int .i8 0]⟩ 185 (0, 0))] ++ ((b4, _) :: Lf)) (List.Perm.swap _ _ _) ?_
  refine WL_callf (L1 := [_]) rfl (bbytes_fn _ _ xs.length 64 _ (by decide) (by omega)) rfl ?_
  rintro _ h9 _ hl9 ⟨rfl, rfl⟩
  refine WL_callq rfl (tagged_fn _ _ xs _ ht (Bs.row (hl9 _ _ hbb) rfl (by omega)) (by omega) (hG.le (hl1.trans hl9))) rfl ?_
  refine WL_store1 rfl rfl rfl siz28 (spl_all rfl) rfl rfl ?_
  refine WL_nil ?_
  refine den_ret ?_
  exact endsr1 Tryz.results136 (rv_n many28 rfl (Kn.own 1 rfl) (show cut 0 32 (dcells _) = some (dcells _) from rfl)) (hl1.trans hl9) (.cons _ (.cons _ (List.Sublist.refl _))) ⟨rfl, rfl⟩

theorem expand_fn (d : Dig) (label : ByteArray) (h : Heap) (hl : label.size ≤ 20) (hG : Gl h) : Fn0 Tryz.prog 96 [.agg ⟨dcells d⟩, .string label, .slice none 0 0] h (.agg ⟨dcells (tagged [100, 101, 114, 105, 118, 101] (d.toList ++ purp label))⟩) := by
  refine Tr_of Tryz.func96 rfl rfl Tryz.ntmps96 rfl [(0, .agg ⟨dcells d⟩), (1, .string label), (2, .slice none 0 0)] rfl ?_
  intro Lf
  have hpl := purp_len hl
  refine den_seq ?_
  -- region 0
  refine den_region rfl ?_
  refine WL_box rfl rfl rfl fun b3 => ?_
  refine WL_alloc zer28 rfl rfl fun b6 => ?_
  refine WL_freeze1 fun h3 hl3 hb3 => ?_
  refine WL_nil ?_
  refine den_seq ?_
  -- region 1
  refine den_region rfl ?_
  refine WL_v (v_move rfl) rfl ?_
  refine WL_v (v_builds Tryz.underlying78 zer78 plc78 rfl rfl rfl) rfl ?_
  refine WL_buildSlice Tryz.underlying75 zer78 rfl siz78 rfl rfl rfl rfl rfl fun b15 => ?_
  refine WL_freeze fun h15 hl15 hb15 => ?_
  refine WL_v (v_assign rfl) rfl ?_
  refine WL_nil ?_
  refine den_seq ?_
  refine den_seq ?_
  -- region 2
  refine den_region rfl ?_
  refine WL_v (v_move rfl) rfl ?_
  refine WL_v (v_lens Tryz.underlying123 rfl) rfl ?_
  refine WL_v (v_move rfl) rfl ?_
  refine WL_nil ?_
  refine den_block ?_
  refine den_loopI (ι := Nat) (fun i => [(3, .pointer (some ⟨b3, 0, none⟩)), (6, .pointer (some ⟨b6, 0, none⟩)), (7, .slice (some ⟨b15, 0, none⟩) 1 1), (16, .slice none 0 0), (17, .int .i64 ((0 : Nat) : Int)), (18, .int .i64 ((i : Nat) : Int))]) (fun i h' L' => i = 0 ∧ h15 = h' ∧ L' = (b6, .cells ⟨dcells dz⟩ 28 (0, 0)) :: Lf) (fun i => 0) 0 (sub_cons rfl (sub_cons rfl (sub_cons rfl (sub_cons rfl (sub_cons rfl (sub_cons rfl sub_nil)))))) ⟨rfl, rfl, rfl⟩ ?_
  rintro i _ _ ⟨rfl, rfl, rfl⟩
  refine den_seq ?_
  -- region 3
  refine den_region rfl ?_
  refine WL_v (v_lss rfl rfl) rfl ?_
  refine WL_nil ?_
  refine den_seq ?_
  first | refine den_ifd rfl (fun hi => ?_) (fun hi => ?_) | refine den_if rfl (fun hi => ?_) (fun hi => ?_)
  · skip
    omega
  · skip
    refine den_exit rfl ?_
    refine den_seq ?_
    -- region 7
    refine den_region rfl ?_
    refine WL_v (v_move rfl) rfl ?_
    refine WL_v (v_builds Tryz.underlying78 zer78 plc78 rfl rfl rfl) rfl ?_
    refine WL_callf (L1 := []) rfl (encode_fn _ (.list [.text label]) _ (txt_vr hb15) (by simp [V.depth, dmax]) (by show (purp label).length ≤ _; omega)) rfl ?_
    rintro _ h31 L31 hl31 ⟨v31, rfl, ho31⟩
    refine WL_freezeS ho31 fun h32 hl32 hbs => ?_
    refine WL_v (v_move rfl) rfl ?_
    refine WL_v (v_extract rfl rfl) rfl ?_
    refine WL_v (v_extract rfl rfl) rfl ?_
    refine WL_v (v_assign rfl) rfl ?_
    refine WL_v (v_assign rfl) rfl ?_
    refine WL_nil ?_
    refine den_seq ?_
    -- region 8
    refine den_region rfl ?_
    refine WL_alloc zer185 rfl rfl fun b12 => ?_
    refine WL_nil ?_
    refine den_seq ?_
    -- region 9
    refine den_region rfl ?_
    refine WL_v (v_loadn many28 rfl (Kn.per ((hl15.trans (hl31.trans hl32)) _ _ hb3)) (show cut 0 32 (dcells d) = some (dcells d) from rfl)) rfl ?_
    refine WL_callf (L1 := [(b12, .cells ⟨[.slice none 0 0, .int .i64 0, .int .i8 0]⟩ 185 (0, 0))]) rfl (ikey_fn _ d _) rfl ?_
    rintro _ h35 _ hl35 ⟨rfl, bb, pad, hpad, rfl⟩
    first | refine WL_v (v_nilfunc rfl) rfl ?_ | refine WL_v (v_nilyield rfl) rfl ?_ | refine WL_v (v_nilptr rfl) rfl ?_
    refine WL_v (v_faddr Tryz.underlying185 rfl siz183 rfl) rfl ?_
    refine WL_v (v_move rfl) rfl ?_
    refine WL_callf (L1 := [_, _]) rfl (bwrite1_fn b12 bb pad _ d.toList (purp label) _ (hbs.le hl35) hpad (by simp; omega)) rfl ?_
    rintro v39 h39 _ hl39 ⟨pad2, hpad2, rfl⟩
    refine WL_nil ?_
    refine den_seq ?_
    -- region 10
    refine den_region rfl ?_
    refine WL_callf (L1 := [_, _]) rfl (under_fn b12 bb pad2 _ _ _ (by decide) hpad2 (hG.le (hl3.trans (hl15.trans (hl31.trans (hl32.trans (hl35.trans hl39))))))) rfl ?_
    rintro _ h40 _ hl40 ⟨rfl, rfl⟩
    refine WL_store0 rfl rfl rfl siz28 (spl_all rfl) rfl rfl ?_
    refine WL_nil ?_
    refine den_ret ?_
    exact endsr1 Tryz.results96 (rv_n many28 rfl (Kn.own 0 rfl) (show cut 0 32 (dcells _) = some (dcells _) from rfl)) (hl3.trans (hl15.trans (hl31.trans (hl32.trans (hl35.trans (hl39.trans hl40)))))) (.cons _ (List.Sublist.refl _)) ⟨rfl, rfl⟩

theorem dscalar_fn (d : Dig) (label : ByteArray) (h : Heap) (hl : label.size ≤ 20) (hG : Gl h) : Fn0 Tryz.prog 58 [.agg ⟨dcells d⟩, .string label] h (.int .i64 ((scal [115, 99, 97, 108, 97, 114] (tagged [100, 101, 114, 105, 118, 101] (d.toList ++ purp label)).toList : Nat) : Int)) := by
  refine Tr_of Tryz.func58 rfl rfl Tryz.ntmps58 rfl [(0, .agg ⟨dcells d⟩), (1, .string label)] rfl ?_
  intro Lf
  refine den_seq ?_
  -- region 0
  refine den_region rfl ?_
  refine WL_box rfl rfl rfl fun b2 => ?_
  refine WL_v (v_assign rfl) rfl ?_
  refine WL_nil ?_
  refine den_seq ?_
  -- region 1
  refine den_region rfl ?_
  refine WL_v (v_loadn many28 rfl (Kn.own 0 rfl) (show cut 0 32 (dcells d) = some (dcells d) from rfl)) rfl ?_
  refine WL_v (v_move rfl) rfl ?_
  refine WL_callq rfl (expand_fn d label _ hl hG) rfl ?_
  refine WL_alloc zer28 rfl rfl fun b5 => ?_
  refine WL_store0 rfl rfl rfl siz28 (spl_all rfl) rfl rfl ?_
  refine WL_freeze fun h5 hl5 hb5 => ?_
  refine WL_nil ?_
  refine den_seq ?_
  -- region 2
  refine den_region rfl ?_
  refine WL_v (v_slicea0 Tryz.underlying28 siz5 rfl) rfl ?_
  refine WL_callq rfl (gscalar_fn _ _ _ _ (by decide) (Bs.dig hb5 (by decide)) (by simp) (hG.le hl5)) rfl ?_
  refine WL_v (v_assign rfl) rfl ?_
  refine WL_nil ?_
  refine den_ret ?_
  exact ends1 Tryz.results58 rfl hl5 (by simp) ⟨rfl, rfl⟩

noncomputable def lnkS (d : Dig) : Int := ((scal [115, 99, 97, 108, 97, 114] (tagged [100, 101, 114, 105, 118, 101] (d.toList ++ purp ⟨⟨[108, 105, 110, 107]⟩⟩)).toList : Nat) : Int)
theorem lnkS_pr (d : Dig) : isPr (lnkS d) := by
  have := scal_rng [115, 99, 97, 108, 97, 114] (tagged [100, 101, 114, 105, 118, 101] (d.toList ++ purp ⟨⟨[108, 105, 110, 107]⟩⟩)).toList
  unfold lnkS isPr; omega
theorem slink_fn (d : Dig) (h : Heap) (hG : Gl h) : Fn0 Tryz.prog 23 [.agg ⟨dcells d⟩] h (.int .i64 (lnkS d)) := by
  refine Tr_of Tryz.func23 rfl rfl Tryz.ntmps23 rfl [(0, .agg ⟨dcells d⟩)] rfl ?_
  intro Lf
  refine den_seq ?_
  -- region 0
  refine den_region rfl ?_
  refine WL_box rfl rfl rfl fun b1 => ?_
  refine WL_v (v_assign rfl) rfl ?_
  refine WL_nil ?_
  refine den_seq ?_
  -- region 1
  refine den_region rfl ?_
  refine WL_v (v_loadn many28 rfl (Kn.own 0 rfl) (show cut 0 32 (dcells d) = some (dcells d) from rfl)) rfl ?_
  refine WL_callq rfl (dscalar_fn d ⟨⟨[108, 105, 110, 107]⟩⟩ _ (by decide) hG) rfl ?_
  refine WL_v (v_assign rfl) rfl ?_
  refine WL_nil ?_
  refine den_ret ?_
  exact ends1 Tryz.results23 rfl (Heap.le.refl _) (by simp) ⟨rfl, rfl⟩

theorem rpurp_fn (label : ByteArray) (h : Heap) (hl : label.size ≤ 20) : Tr Tryz.prog 137 [.string label, .slice none 0 0] h [] (fun v _ L' => OwnS 5 1 v (purp label).length ((purp label).map byteV) L') := by
  refine Tr_of Tryz.func137 rfl rfl Tryz.ntmps137 rfl [(0, .string label), (1, .slice none 0 0)] rfl ?_
  intro Lf
  have hpl := purp_len hl
  refine den_seq ?_
  -- region 0
  refine den_region rfl ?_
  refine WL_v (v_assign rfl) rfl ?_
  refine WL_nil ?_
  refine den_seq ?_
  -- region 1
  refine den_region rfl ?_
  refine WL_v (v_move rfl) rfl ?_
  refine WL_v (v_builds Tryz.underlying78 zer78 plc78 rfl rfl rfl) rfl ?_
  refine WL_buildSlice Tryz.underlying75 zer78 rfl siz78 rfl rfl rfl rfl rfl fun b11 => ?_
  refine WL_freeze fun h11 hl11 hb11 => ?_
  refine WL_v (v_assign rfl) rfl ?_
  refine WL_nil ?_
  refine den_seq ?_
  refine den_seq ?_
  -- region 2
  refine den_region rfl ?_
  refine WL_v (v_assign rfl) rfl ?_
  refine WL_nil ?_
  refine den_block ?_
  refine den_loopI (ι := Nat) (fun i => [(1, .slice none 0 0), (5, .slice (some ⟨b11, 0, none⟩) 1 1), (6, .int .i64 ((i : Nat) : Int))]) (fun i h' L' => i = 0 ∧ h11 = h' ∧ L' = Lf) (fun i => 0) 0 (sub_cons rfl (sub_cons rfl (sub_cons rfl sub_nil))) ⟨rfl, rfl, rfl⟩ ?_
  rintro i _ _ ⟨rfl, rfl, rfl⟩
  refine den_seq ?_
  refine den_seq ?_
  -- region 3
  refine den_region rfl ?_
  refine WL_v (v_move rfl) rfl ?_
  refine WL_v (v_move rfl) rfl ?_
  refine WL_v (v_lens Tryz.underlying123 rfl) rfl ?_
  refine WL_v (v_lss rfl rfl) rfl ?_
  refine WL_nil ?_
  first | refine den_ifd rfl (fun hi => ?_) (fun hi => ?_) | refine den_if rfl (fun hi => ?_) (fun hi => ?_)
  · skip
    omega
  · skip
    refine den_exit rfl ?_
    refine den_seq ?_
    -- region 6
    refine den_region rfl ?_
    refine WL_v (v_move rfl) rfl ?_
    refine WL_v (v_builds Tryz.underlying78 zer78 plc78 rfl rfl rfl) rfl ?_
    refine WL_callf (L1 := []) rfl (rEncode_fn _ (.list [.text label]) _ (txt_vr hb11) (by simp [V.depth, dmax]) (by show (purp label).length ≤ _; omega)) rfl ?_
    rintro _ h29 L29 hl29 ⟨v29, rfl, ho29⟩
    refine WL_v (v_move rfl) rfl ?_
    refine WL_v (v_extract rfl rfl) rfl ?_
    refine WL_v (v_extract rfl rfl) rfl ?_
    refine WL_v (v_assign rfl) rfl ?_
    refine WL_v (v_assign rfl) rfl ?_
    refine WL_nil ?_
    refine den_seq ?_
    refine den_seq ?_
    -- region 7
    refine den_region rfl ?_
    refine WL_v (v_move rfl) rfl ?_
    refine WL_v (OpV.to (v' := .bool false) (v_neq rfl rfl) (by first | rfl | simp)) rfl ?_
    refine WL_nil ?_
    refine den_false rfl ?_
    refine den_skip ?_
    refine den_seq ?_
    -- region 9
    refine den_region rfl ?_
    refine WL_v (v_move rfl) rfl ?_
    refine WL_v (v_assign rfl) rfl ?_
    refine WL_nil ?_
    refine den_ret ?_
    exact ends1 Tryz.results137 rfl (hl11.trans hl29) (List.Sublist.refl _) ho29

theorem rexpand_fn (d : Dig) (label : ByteArray) (h : Heap) (hl : label.size ≤ 20) : Fn0 Tryz.prog 98 [.agg ⟨dcells d⟩, .string label, .slice none 0 0] h (.agg ⟨dcells (tagged [100, 101, 114, 105, 118, 101] (d.toList ++ purp label))⟩) := by
  refine Tr_of Tryz.func98 rfl rfl Tryz.ntmps98 rfl [(0, .agg ⟨dcells d⟩), (1, .string label), (2, .slice none 0 0)] rfl ?_
  intro Lf
  have hpl := purp_len hl
  refine den_seq ?_
  -- region 0
  refine den_region rfl ?_
  refine WL_box rfl rfl rfl fun b3 => ?_
  refine WL_alloc zer28 rfl rfl fun b6 => ?_
  refine WL_freeze1 fun h3 hl3 hb3 => ?_
  refine WL_nil ?_
  refine den_seq ?_
  -- region 1
  refine den_region rfl ?_
  refine WL_buildSlice Tryz.underlying55 zer5 rfl siz5 rfl rfl rfl rfl rfl fun b7 => ?_
  refine WL_v (v_slicea0 Tryz.underlying28 siz5 rfl) rfl ?_
  refine WL_perm (L' := [(b7, .cells ⟨[]⟩ 5 (0, 0))] ++ ((b6, _) :: Lf)) (List.Perm.refl _) ?_
  refine WL_append Tryz.underlying55 Tryz.underlying55 (.inr ⟨_, rfl⟩) siz5 byt5 (by decide) zer5 rfl rfl rfl rfl (OwnS.full (n := 0) (xs := []) rfl (by decide)) (Bs.dig hb3 (by decide)).src (bytes_one _) (by simp) rfl fun v9 L9 ho9 => ?_
  refine WL_v (v_move rfl) rfl ?_
  refine WL_v (v_move rfl) rfl ?_
  refine WL_callf (L1 := []) rfl (rpurp_fn label _ hl) rfl ?_
  rintro v12 h12 L12 hl12 ho12
  refine WL_freezeS ho12 fun h13 hl13 hbs => ?_
  refine WL_append Tryz.underlying55 Tryz.underlying55 (.inr ⟨_, rfl⟩) siz5 byt5 (by decide) zer5 rfl rfl rfl rfl ho9 hbs.src (bytes_one _) (by simp; omega) rfl fun v13 L13 ho13 => ?_
  rw [List.nil_append, ← List.map_append] at ho13
  refine WL_freezeS ho13 fun h14 hl14 hbs2 => ?_
  refine WL_callq rfl (rtagged_fn _ _ _ _ (by decide) hbs2 (by simp; omega)) rfl ?_
  refine WL_store0 rfl rfl rfl siz28 (spl_all rfl) rfl rfl ?_
  refine WL_nil ?_
  refine den_ret ?_
  exact endsr1 Tryz.results98 (rv_n many28 rfl (Kn.own 0 rfl) (show cut 0 32 (dcells _) = some (dcells _) from rfl)) (hl3.trans (hl12.trans (hl13.trans hl14))) (.cons _ (List.Sublist.refl _)) ⟨rfl, rfl⟩

theorem rdscalar_fn (d : Dig) (label : ByteArray) (h : Heap) (hl : label.size ≤ 20) : Fn0 Tryz.prog 63 [.agg ⟨dcells d⟩, .string label] h (.int .i64 ((scal [115, 99, 97, 108, 97, 114] (tagged [100, 101, 114, 105, 118, 101] (d.toList ++ purp label)).toList : Nat) : Int)) := by
  refine Tr_of Tryz.func63 rfl rfl Tryz.ntmps63 rfl [(0, .agg ⟨dcells d⟩), (1, .string label)] rfl ?_
  intro Lf
  refine den_seq ?_
  -- region 0
  refine den_region rfl ?_
  refine WL_box rfl rfl rfl fun b2 => ?_
  refine WL_v (v_assign rfl) rfl ?_
  refine WL_nil ?_
  refine den_seq ?_
  -- region 1
  refine den_region rfl ?_
  refine WL_v (v_loadn many28 rfl (Kn.own 0 rfl) (show cut 0 32 (dcells d) = some (dcells d) from rfl)) rfl ?_
  refine WL_v (v_move rfl) rfl ?_
  refine WL_callq rfl (rexpand_fn d label _ hl) rfl ?_
  refine WL_alloc zer28 rfl rfl fun b5 => ?_
  refine WL_store0 rfl rfl rfl siz28 (spl_all rfl) rfl rfl ?_
  refine WL_freeze fun h5 hl5 hb5 => ?_
  refine WL_nil ?_
  refine den_seq ?_
  -- region 2
  refine den_region rfl ?_
  refine WL_v (v_slicea0 Tryz.underlying28 siz5 rfl) rfl ?_
  refine WL_callq rfl (rscalar_fn _ _ _ _ (by decide) (Bs.dig hb5 (by decide)) (by simp)) rfl ?_
  refine WL_v (v_assign rfl) rfl ?_
  refine WL_nil ?_
  refine den_ret ?_
  exact ends1 Tryz.results63 rfl hl5 (by simp) ⟨rfl, rfl⟩

theorem rslink_fn (d : Dig) (h : Heap) : Fn0 Tryz.prog 26 [.agg ⟨dcells d⟩] h (.int .i64 (lnkS d)) := by
  refine Tr_of Tryz.func26 rfl rfl Tryz.ntmps26 rfl [(0, .agg ⟨dcells d⟩)] rfl ?_
  intro Lf
  refine den_seq ?_
  -- region 0
  refine den_region rfl ?_
  refine WL_box rfl rfl rfl fun b1 => ?_
  refine WL_v (v_assign rfl) rfl ?_
  refine WL_nil ?_
  refine den_seq ?_
  -- region 1
  refine den_region rfl ?_
  refine WL_v (v_loadn many28 rfl (Kn.own 0 rfl) (show cut 0 32 (dcells d) = some (dcells d) from rfl)) rfl ?_
  refine WL_callq rfl (rdscalar_fn d ⟨⟨[108, 105, 110, 107]⟩⟩ _ (by decide)) rfl ?_
  refine WL_v (v_assign rfl) rfl ?_
  refine WL_nil ?_
  refine den_ret ?_
  exact ends1 Tryz.results26 rfl (Heap.le.refl _) (by simp) ⟨rfl, rfl⟩

end Go.Proofs.Ch
