/- Walks of the program's functions, printed by my own generator (layer L5). -/
import Derived.Test.YtmeakefbepbapaaGreatDoorL4
import Derived.Test.YtmeakefbepbapaaGreatDoorS3
namespace Go.Proofs.Ch
open Go Go.Proofs
set_option maxRecDepth 4000
set_option maxHeartbeats 1000000
theorem siz191 : Siz Tryz.prog 191 64 := by show _ = _; kernel_rfl
theorem many191 : Many Tryz.prog 191 64 := Many.of Tryz.underlying191 rfl siz191
theorem zer151 : Zer Tryz.prog 151 (.agg ⟨[.int .u32 0, .int .u32 0, .int .u32 0, .int .u32 0, .int .u32 0, .int .u32 0, .int .u32 0, .int .u32 0]⟩) := by show _ = _; kernel_rfl
theorem rword_fn (x : Nat → UInt8) (b off cap : Nat) (cs : List Value) (T : TypeId) (fr : Nat × Nat) (h : Heap) (hb : h b = some (.cells ⟨cs⟩ T fr)) (hx : ∀ j, j < 4 → cs[off + j]? = some (byteV (x j))) : Fn0 Tryz.prog 165 [.slice (some ⟨b, off, none⟩) 4 cap] h (w32 (be4 (x 0) (x 1) (x 2) (x 3))) := by
  refine Tr_of Tryz.func165 rfl rfl Tryz.ntmps165 rfl [(0, .slice (some ⟨b, off, none⟩) 4 cap)] rfl ?_
  intro Lf
  refine den_seq ?_
  -- region 0
  refine den_region rfl ?_
  refine WL_v (v_assign rfl) rfl ?_
  refine WL_nil ?_
  refine den_seq ?_
  -- region 1
  refine den_draw [] (by kernel_rfl) (by kernel_rfl) (NoP.fn) (rem := [0, 1, 2, 3, 4, 5, 6, 7, 8, 9, 10, 11, 12, 13, 14, 15, 16, 17, 18, 19, 20, 21, 22]) (by kernel_rfl) ?_
  refine QS_v (i := 0) rfl (v_move rfl) (by kernel_rfl) (by kernel_rfl) (by kernel_rfl) (rem' := [1, 2, 3, 4, 5, 6, 7, 8, 9, 10, 11, 12, 13, 14, 15, 16, 17, 18, 19, 20, 21, 22]) (by kernel_rfl) rfl ?_
  refine QS_v (i := 1) rfl (v_iaddrs (n := 0) Tryz.underlying53 siz5 rfl rfl rfl (by decide)) (by kernel_rfl) (by kernel_rfl) (by kernel_rfl) (rem' := [2, 3, 4, 5, 6, 7, 8, 9, 10, 11, 12, 13, 14, 15, 16, 17, 18, 19, 20, 21, 22]) (by kernel_rfl) rfl ?_
  refine QS_v (i := 2) rfl (v_load1 one5 rfl (Kn.per hb) (show cs[off + 0 * 1]? = some (byteV (x 0)) from hx 0 (by decide))) (by kernel_rfl) (by kernel_rfl) (by kernel_rfl) (rem' := [3, 4, 5, 6, 7, 8, 9, 10, 11, 12, 13, 14, 15, 16, 17, 18, 19, 20, 21, 22]) (by kernel_rfl) rfl ?_
  refine QS_v (i := 3) rfl (v_conv8_32 Tryz.underlying5 Tryz.underlying150 rfl) (by kernel_rfl) (by kernel_rfl) (by kernel_rfl) (rem' := [4, 5, 6, 7, 8, 9, 10, 11, 12, 13, 14, 15, 16, 17, 18, 19, 20, 21, 22]) (by kernel_rfl) rfl ?_
  refine QS_v (i := 4) rfl (v_shl32 (s := 24) rfl rfl (by omega)) (by kernel_rfl) (by kernel_rfl) (by kernel_rfl) (rem' := [5, 6, 7, 8, 9, 10, 11, 12, 13, 14, 15, 16, 17, 18, 19, 20, 21, 22]) (by kernel_rfl) rfl ?_
  refine QS_v (i := 5) rfl (v_move rfl) (by kernel_rfl) (by kernel_rfl) (by kernel_rfl) (rem' := [6, 7, 8, 9, 10, 11, 12, 13, 14, 15, 16, 17, 18, 19, 20, 21, 22]) (by kernel_rfl) rfl ?_
  refine QS_v (i := 6) rfl (v_iaddrs (n := 1) Tryz.underlying53 siz5 rfl rfl rfl (by decide)) (by kernel_rfl) (by kernel_rfl) (by kernel_rfl) (rem' := [7, 8, 9, 10, 11, 12, 13, 14, 15, 16, 17, 18, 19, 20, 21, 22]) (by kernel_rfl) rfl ?_
  refine QS_v (i := 7) rfl (v_load1 one5 rfl (Kn.per hb) (show cs[off + 1 * 1]? = some (byteV (x 1)) from hx 1 (by decide))) (by kernel_rfl) (by kernel_rfl) (by kernel_rfl) (rem' := [8, 9, 10, 11, 12, 13, 14, 15, 16, 17, 18, 19, 20, 21, 22]) (by kernel_rfl) rfl ?_
  refine QS_v (i := 8) rfl (v_conv8_32 Tryz.underlying5 Tryz.underlying150 rfl) (by kernel_rfl) (by kernel_rfl) (by kernel_rfl) (rem' := [9, 10, 11, 12, 13, 14, 15, 16, 17, 18, 19, 20, 21, 22]) (by kernel_rfl) rfl ?_
  refine QS_v (i := 9) rfl (v_shl32 (s := 16) rfl rfl (by omega)) (by kernel_rfl) (by kernel_rfl) (by kernel_rfl) (rem' := [10, 11, 12, 13, 14, 15, 16, 17, 18, 19, 20, 21, 22]) (by kernel_rfl) rfl ?_
  refine QS_v (i := 10) rfl (v_or32 rfl rfl) (by kernel_rfl) (by kernel_rfl) (by kernel_rfl) (rem' := [11, 12, 13, 14, 15, 16, 17, 18, 19, 20, 21, 22]) (by kernel_rfl) rfl ?_
  refine QS_v (i := 11) rfl (v_move rfl) (by kernel_rfl) (by kernel_rfl) (by kernel_rfl) (rem' := [12, 13, 14, 15, 16, 17, 18, 19, 20, 21, 22]) (by kernel_rfl) rfl ?_
  refine QS_v (i := 12) rfl (v_iaddrs (n := 2) Tryz.underlying53 siz5 rfl rfl rfl (by decide)) (by kernel_rfl) (by kernel_rfl) (by kernel_rfl) (rem' := [13, 14, 15, 16, 17, 18, 19, 20, 21, 22]) (by kernel_rfl) rfl ?_
  refine QS_v (i := 13) rfl (v_load1 one5 rfl (Kn.per hb) (show cs[off + 2 * 1]? = some (byteV (x 2)) from hx 2 (by decide))) (by kernel_rfl) (by kernel_rfl) (by kernel_rfl) (rem' := [14, 15, 16, 17, 18, 19, 20, 21, 22]) (by kernel_rfl) rfl ?_
  refine QS_v (i := 14) rfl (v_conv8_32 Tryz.underlying5 Tryz.underlying150 rfl) (by kernel_rfl) (by kernel_rfl) (by kernel_rfl) (rem' := [15, 16, 17, 18, 19, 20, 21, 22]) (by kernel_rfl) rfl ?_
  refine QS_v (i := 15) rfl (v_shl32 (s := 8) rfl rfl (by omega)) (by kernel_rfl) (by kernel_rfl) (by kernel_rfl) (rem' := [16, 17, 18, 19, 20, 21, 22]) (by kernel_rfl) rfl ?_
  refine QS_v (i := 16) rfl (v_or32 rfl rfl) (by kernel_rfl) (by kernel_rfl) (by kernel_rfl) (rem' := [17, 18, 19, 20, 21, 22]) (by kernel_rfl) rfl ?_
  refine QS_v (i := 17) rfl (v_move rfl) (by kernel_rfl) (by kernel_rfl) (by kernel_rfl) (rem' := [18, 19, 20, 21, 22]) (by kernel_rfl) rfl ?_
  refine QS_v (i := 18) rfl (v_iaddrs (n := 3) Tryz.underlying53 siz5 rfl rfl rfl (by decide)) (by kernel_rfl) (by kernel_rfl) (by kernel_rfl) (rem' := [19, 20, 21, 22]) (by kernel_rfl) rfl ?_
  refine QS_v (i := 19) rfl (v_load1 one5 rfl (Kn.per hb) (show cs[off + 3 * 1]? = some (byteV (x 3)) from hx 3 (by decide))) (by kernel_rfl) (by kernel_rfl) (by kernel_rfl) (rem' := [20, 21, 22]) (by kernel_rfl) rfl ?_
  refine QS_v (i := 20) rfl (v_conv8_32 Tryz.underlying5 Tryz.underlying150 rfl) (by kernel_rfl) (by kernel_rfl) (by kernel_rfl) (rem' := [21, 22]) (by kernel_rfl) rfl ?_
  refine QS_v (i := 21) rfl (v_or32 rfl rfl) (by kernel_rfl) (by kernel_rfl) (by kernel_rfl) (rem' := [22]) (by kernel_rfl) rfl ?_
  refine QS_v (i := 22) rfl (v_assign rfl) (by kernel_rfl) (by kernel_rfl) (by kernel_rfl) (rem' := []) (by kernel_rfl) rfl ?_
  refine QS_nil ?_
  refine den_ret ?_
  exact ends1 Tryz.results165 rfl (Heap.le.refl _) (by simp) ⟨by rw [← be4_ref], rfl⟩

theorem ror_fn (v : UInt32) (n : Nat) (hn : 1 ≤ n ∧ n ≤ 31) (h : Heap) : Fn0 Tryz.prog 166 [w32 v, .int .i64 (n : Int)] h (w32 (ror32 v n)) := by
  refine Tr_of Tryz.func166 rfl rfl Tryz.ntmps166 rfl [(0, w32 v), (1, .int .i64 (n : Int))] rfl ?_
  intro Lf
  refine den_seq ?_
  -- region 0
  refine den_region rfl ?_
  refine WL_v (v_assign rfl) rfl ?_
  refine WL_nil ?_
  refine den_seq ?_
  -- region 1
  refine den_draw [] (by kernel_rfl) (by kernel_rfl) (NoP.fn) (rem := [0, 1, 2, 3, 4, 5, 6, 7, 8]) (by kernel_rfl) ?_
  refine QS_v (i := 0) rfl (v_move rfl) (by kernel_rfl) (by kernel_rfl) (by kernel_rfl) (rem' := [1, 2, 3, 4, 5, 6, 7, 8]) (by kernel_rfl) rfl ?_
  refine QS_v (i := 1) rfl (v_move rfl) (by kernel_rfl) (by kernel_rfl) (by kernel_rfl) (rem' := [2, 3, 4, 5, 6, 7, 8]) (by kernel_rfl) rfl ?_
  refine QS_v (i := 2) rfl (v_shr32 (s := n) rfl rfl (by omega)) (by kernel_rfl) (by kernel_rfl) (by kernel_rfl) (rem' := [3, 4, 5, 6, 7, 8]) (by kernel_rfl) rfl ?_
  refine QS_v (i := 3) rfl (v_move rfl) (by kernel_rfl) (by kernel_rfl) (by kernel_rfl) (rem' := [4, 5, 6, 7, 8]) (by kernel_rfl) rfl ?_
  refine QS_v (i := 4) rfl (v_move rfl) (by kernel_rfl) (by kernel_rfl) (by kernel_rfl) (rem' := [5, 6, 7, 8]) (by kernel_rfl) rfl ?_
  refine QS_v (i := 5) rfl (v_subj (m := 32) rfl rfl (by omega) (by omega)) (by kernel_rfl) (by kernel_rfl) (by kernel_rfl) (rem' := [6, 7, 8]) (by kernel_rfl) rfl ?_
  refine QS_v (i := 6) rfl (v_shl32 rfl rfl (by omega)) (by kernel_rfl) (by kernel_rfl) (by kernel_rfl) (rem' := [7, 8]) (by kernel_rfl) rfl ?_
  refine QS_v (i := 7) rfl (v_or32 rfl rfl) (by kernel_rfl) (by kernel_rfl) (by kernel_rfl) (rem' := [8]) (by kernel_rfl) rfl ?_
  refine QS_v (i := 8) rfl (v_assign rfl) (by kernel_rfl) (by kernel_rfl) (by kernel_rfl) (rem' := []) (by kernel_rfl) rfl ?_
  refine QS_nil ?_
  refine den_ret ?_
  exact ends1 Tryz.results166 rfl (Heap.le.refl _) (by simp) ⟨by rw [← ror_ref], rfl⟩

theorem rnum_fn (h : Heap) : Fn0 Tryz.prog 167 [] h (.agg ⟨kcells⟩) := by
  refine Tr_of Tryz.func167 rfl rfl Tryz.ntmps167 rfl [] rfl ?_
  intro Lf
  refine den_seq ?_
  -- region 0
  refine den_region rfl ?_
  refine WL_alloc zer191 rfl rfl fun b0 => ?_
  refine WL_nil ?_
  refine den_seq ?_
  -- region 1
  refine den_region rfl ?_
  refine WL_v (v_builda (r := kcells) Tryz.underlying191 zer191 siz150 rfl (by kernel_rfl)) rfl ?_
  refine WL_store0 rfl rfl (show (Value.agg ⟨kcells⟩).cells = ⟨kcells⟩ from rfl) siz191 (spl_all rfl) rfl rfl ?_
  refine WL_nil ?_
  refine den_ret ?_
  exact endsr1 Tryz.results167 (rv_n many191 rfl (Kn.own 0 rfl) (show cut 0 64 kcells = some kcells from rfl)) (Heap.le.refl _) (.cons _ (List.Sublist.refl _)) ⟨rfl, rfl⟩

theorem rblock_fn (s : S8) (x : Nat → UInt8) (b off cap : Nat) (cs : List Value) (Tb : TypeId) (fr : Nat × Nat) (h : Heap) (hcap : 64 ≤ cap) (hb : h b = some (.cells ⟨cs⟩ Tb fr)) (hx : ∀ j, j < 64 → cs[off + j]? = some (byteV (x j))) : Fn0 Tryz.prog 146 [.agg ⟨s.cells⟩, .slice (some ⟨b, off, none⟩) 64 cap] h (.agg ⟨(absorb s (words x)).cells⟩) := by
  refine Tr_of Tryz.func146 rfl rfl Tryz.ntmps146 rfl [(0, .agg ⟨s.cells⟩), (1, .slice (some ⟨b, off, none⟩) 64 cap)] rfl ?_
  intro Lf
  refine den_seq ?_
  -- region 0
  refine den_region rfl ?_
  refine WL_box (zs := s.cells) rfl rfl rfl fun b2 => ?_
  refine WL_freeze fun h1 hl1 hb2 => ?_
  have hb := hl1 _ _ hb
  refine WL_alloc zer151 rfl rfl fun b4 => ?_
  refine WL_nil ?_
  refine den_seq ?_
  -- region 1
  refine den_region rfl ?_
  refine WL_v (v_builda (r := tab 64 (fun _ => w32 0)) Tryz.underlying191 zer191 siz150 rfl rfl) rfl ?_
  refine WL_alloc (zs := tab 64 (fun _ => w32 0)) zer191 rfl rfl fun b5 => ?_
  refine WL_store0 rfl rfl (us := tab 64 (fun _ => w32 0)) rfl siz191 (spl_all rfl) rfl rfl ?_
  refine WL_nil ?_
  refine den_seq ?_
  refine den_seq ?_
  -- region 2
  refine den_region rfl ?_
  refine WL_v (v_assign rfl) rfl ?_
  refine WL_nil ?_
  refine den_block ?_
  refine den_loopI (ι := Nat) (fun t => [(1, .slice (some ⟨b, off, none⟩) 64 cap), (2, .pointer (some ⟨b2, 0, none⟩)), (4, .pointer (some ⟨b4, 0, none⟩)), (5, .pointer (some ⟨b5, 0, none⟩)), (6, .int .i64 ((t : Nat) : Int))]) (fun t h' L' => 0 ≤ t ∧ t ≤ 16 ∧ h1 = h' ∧ L' = [(b5, .cells ⟨wtab (words x) t⟩ 191 (0, 0)), (b4, .cells ⟨(S8.mk 0 0 0 0 0 0 0 0).cells⟩ 151 (0, 0))] ++ Lf) (fun t => 16 - t) 0 (sub_cons rfl (sub_cons rfl (sub_cons rfl (sub_cons rfl (sub_cons rfl sub_nil))))) ⟨by omega, by omega, rfl, by rw [← wtab_0]; rfl⟩ ?_
  rintro t _ _ ⟨t0, t1, rfl, rfl⟩
  refine den_seq ?_
  refine den_seq ?_
  -- region 3
  refine den_region rfl ?_
  refine WL_v (v_move rfl) rfl ?_
  refine WL_v (v_lss rfl rfl) rfl ?_
  refine WL_nil ?_
  first | refine den_ifd rfl (fun hi => ?_) (fun hi => ?_) | refine den_if rfl (fun hi => ?_) (fun hi => ?_)
  · skip
    refine den_skip ?_
    refine den_seq ?_
    refine den_block ?_
    -- region 5
    refine den_region rfl ?_
    refine WL_v (v_move rfl) rfl ?_
    refine WL_v (v_move rfl) rfl ?_
    refine WL_v (v_move rfl) rfl ?_
    refine WL_v (v_mulj (m := 4) rfl rfl (by omega)) rfl ?_
    refine WL_v (v_move rfl) rfl ?_
    refine WL_v (v_mulj (m := 4) rfl rfl (by omega)) rfl ?_
    refine WL_v (v_addj (n := 4) rfl rfl (by omega)) rfl ?_
    refine WL_v (v_slices (l := 4 * t) (m := 4 * t + 4) Tryz.underlying53 siz5 rfl (Bnd.some rfl rfl) (Bnd.some rfl rfl) (by omega) (by omega)) rfl ?_
    rw [if_neg (show ¬ cap = 4 * t by omega), show 4 * t + 4 - 4 * t = 4 from by omega]
    refine WL_callq rfl (rword_fn (fun j => x (4 * t + j)) _ _ _ cs Tb fr _ hb (fun j hj => by have := hx (4 * t + j) (by omega); rw [Nat.mul_one]; rw [show off + 4 * t + j = off + (4 * t + j) from by omega]; exact this)) rfl ?_
    refine WL_v (v_iaddra Tryz.underlying191 siz150 rfl rfl rfl (by omega)) rfl ?_
    rw [show be4 (x (4 * t + 0)) (x (4 * t + 1)) (x (4 * t + 2)) (x (4 * t + 3)) = wt (words x) t from (wt_lo (m := words x) (t := t) (by omega)).symm]
    refine WL_store0 rfl rfl rfl siz150 (wtab_next (t := t) (by omega) (by omega)) rfl rfl ?_
    refine WL_nil ?_
    refine den_blk ?_
    -- region 4
    refine den_region rfl ?_
    refine WL_v (v_move rfl) rfl ?_
    refine WL_v (v_addj (n := 1) rfl rfl (by show _ < 9223372036854775808; omega)) rfl ?_
    refine WL_v (v_assign rfl) rfl ?_
    refine WL_nil ?_
    refine den_again ⟨rfl, (t + 1), (by show 16 - (t + 1) < 16 - t; omega), (sub_cons rfl (sub_cons rfl (sub_cons rfl (sub_cons rfl (sub_cons rfl sub_nil))))), ⟨by omega, by omega, rfl, rfl⟩⟩
  · skip
    have ht : t = 16 := by omega
    subst ht
    refine den_exit rfl ?_
    refine den_seq ?_
    refine den_seq ?_
    -- region 6
    refine den_region rfl ?_
    refine WL_v (v_assign rfl) rfl ?_
    refine WL_nil ?_
    refine den_block ?_
    refine den_loopI (ι := Nat) (fun t => [(1, .slice (some ⟨b, off, none⟩) 64 cap), (2, .pointer (some ⟨b2, 0, none⟩)), (4, .pointer (some ⟨b4, 0, none⟩)), (5, .pointer (some ⟨b5, 0, none⟩)), (7, .int .i64 ((t : Nat) : Int))]) (fun t h' L' => 16 ≤ t ∧ t ≤ 64 ∧ h1 = h' ∧ L' = [(b5, .cells ⟨wtab (words x) t⟩ 191 (0, 0)), (b4, .cells ⟨(S8.mk 0 0 0 0 0 0 0 0).cells⟩ 151 (0, 0))] ++ Lf) (fun t => 64 - t) 16 (sub_cons rfl (sub_cons rfl (sub_cons rfl (sub_cons rfl (sub_cons rfl sub_nil))))) ⟨by omega, by omega, rfl, rfl⟩ ?_
    rintro t _ _ ⟨t0, t1, rfl, rfl⟩
    refine den_seq ?_
    refine den_seq ?_
    -- region 7
    refine den_region rfl ?_
    refine WL_v (v_move rfl) rfl ?_
    refine WL_v (v_lss rfl rfl) rfl ?_
    refine WL_nil ?_
    first | refine den_ifd rfl (fun hi => ?_) (fun hi => ?_) | refine den_if rfl (fun hi => ?_) (fun hi => ?_)
    · skip
      refine den_skip ?_
      refine den_seq ?_
      refine den_block ?_
      refine den_seq ?_
      -- region 9
      refine den_region rfl ?_
      refine WL_v (v_move rfl) rfl ?_
      refine WL_v (v_subj (n := 15) rfl rfl (by omega) (by show _ < 9223372036854775808; omega)) rfl ?_
      refine WL_v (v_iaddra Tryz.underlying191 siz150 rfl rfl rfl (by omega)) rfl ?_
      refine WL_v (v_load1 one150 rfl (Kn.own 0 rfl) (wtab_get (m := words x) (t := t) (k := t - 15) (by omega) (by omega) (by omega))) rfl ?_
      refine WL_v (v_assign rfl) rfl ?_
      refine WL_nil ?_
      refine den_seq ?_
      -- region 10
      refine den_region rfl ?_
      refine WL_v (v_move rfl) rfl ?_
      refine WL_v (v_subj (n := 2) rfl rfl (by omega) (by show _ < 9223372036854775808; omega)) rfl ?_
      refine WL_v (v_iaddra Tryz.underlying191 siz150 rfl rfl rfl (by omega)) rfl ?_
      refine WL_v (v_load1 one150 rfl (Kn.own 0 rfl) (wtab_get (m := words x) (t := t) (k := t - 2) (by omega) (by omega) (by omega))) rfl ?_
      refine WL_v (v_assign rfl) rfl ?_
      refine WL_nil ?_
      -- region 11
      refine den_draw [29] (by kernel_rfl) (by kernel_rfl) (NoP.fn) (rem := [0, 1, 2, 3, 4, 5, 6, 7, 8, 9, 10, 11, 12, 13, 14, 15, 16, 17, 18, 19, 20, 21, 22, 23, 24, 25, 26, 27, 28, 29]) (by kernel_rfl) ?_
      refine QS_v (i := 0) rfl (v_move rfl) (by kernel_rfl) (by kernel_rfl) (by kernel_rfl) (rem' := [1, 2, 3, 4, 5, 6, 7, 8, 9, 10, 11, 12, 13, 14, 15, 16, 17, 18, 19, 20, 21, 22, 23, 24, 25, 26, 27, 28, 29]) (by kernel_rfl) rfl ?_
      refine QS_v (i := 1) rfl (v_move rfl) (by kernel_rfl) (by kernel_rfl) (by kernel_rfl) (rem' := [2, 3, 4, 5, 6, 7, 8, 9, 10, 11, 12, 13, 14, 15, 16, 17, 18, 19, 20, 21, 22, 23, 24, 25, 26, 27, 28, 29]) (by kernel_rfl) rfl ?_
      refine QS_v (i := 2) rfl (v_subj (n := 16) rfl rfl (by omega) (by show _ < 9223372036854775808; omega)) (by kernel_rfl) (by kernel_rfl) (by kernel_rfl) (rem' := [3, 4, 5, 6, 7, 8, 9, 10, 11, 12, 13, 14, 15, 16, 17, 18, 19, 20, 21, 22, 23, 24, 25, 26, 27, 28, 29]) (by kernel_rfl) rfl ?_
      refine QS_v (i := 3) rfl (v_iaddra Tryz.underlying191 siz150 rfl rfl rfl (by omega)) (by kernel_rfl) (by kernel_rfl) (by kernel_rfl) (rem' := [4, 5, 6, 7, 8, 9, 10, 11, 12, 13, 14, 15, 16, 17, 18, 19, 20, 21, 22, 23, 24, 25, 26, 27, 28, 29]) (by kernel_rfl) rfl ?_
      refine QS_v (i := 4) rfl (v_load1 one150 rfl (Kn.own 0 rfl) (wtab_get (m := words x) (t := t) (k := t - 16) (by omega) (by omega) (by omega))) (by kernel_rfl) (by kernel_rfl) (by kernel_rfl) (rem' := [5, 6, 7, 8, 9, 10, 11, 12, 13, 14, 15, 16, 17, 18, 19, 20, 21, 22, 23, 24, 25, 26, 27, 28, 29]) (by kernel_rfl) rfl ?_
      refine QS_v (i := 5) rfl (v_move rfl) (by kernel_rfl) (by kernel_rfl) (by kernel_rfl) (rem' := [6, 7, 8, 9, 10, 11, 12, 13, 14, 15, 16, 17, 18, 19, 20, 21, 22, 23, 24, 25, 26, 27, 28, 29]) (by kernel_rfl) rfl ?_
      refine QS_v (i := 7) rfl (v_move rfl) (by kernel_rfl) (by kernel_rfl) (by kernel_rfl) (rem' := [6, 8, 9, 10, 11, 12, 13, 14, 15, 16, 17, 18, 19, 20, 21, 22, 23, 24, 25, 26, 27, 28, 29]) (by kernel_rfl) rfl ?_
      refine QS_v (i := 10) rfl (v_move rfl) (by kernel_rfl) (by kernel_rfl) (by kernel_rfl) (rem' := [6, 8, 9, 11, 12, 13, 14, 15, 16, 17, 18, 19, 20, 21, 22, 23, 24, 25, 26, 27, 28, 29]) (by kernel_rfl) rfl ?_
      refine QS_v (i := 11) rfl (v_shr32 (s := 3) rfl rfl (by omega)) (by kernel_rfl) (by kernel_rfl) (by kernel_rfl) (rem' := [6, 8, 9, 12, 13, 14, 15, 16, 17, 18, 19, 20, 21, 22, 23, 24, 25, 26, 27, 28, 29]) (by kernel_rfl) rfl ?_
      refine QS_v (i := 14) rfl (v_move rfl) (by kernel_rfl) (by kernel_rfl) (by kernel_rfl) (rem' := [6, 8, 9, 12, 13, 15, 16, 17, 18, 19, 20, 21, 22, 23, 24, 25, 26, 27, 28, 29]) (by kernel_rfl) rfl ?_
      refine QS_v (i := 15) rfl (v_subj (n := 7) rfl rfl (by omega) (by show _ < 9223372036854775808; omega)) (by kernel_rfl) (by kernel_rfl) (by kernel_rfl) (rem' := [6, 8, 9, 12, 13, 16, 17, 18, 19, 20, 21, 22, 23, 24, 25, 26, 27, 28, 29]) (by kernel_rfl) rfl ?_
      refine QS_v (i := 16) rfl (v_iaddra Tryz.underlying191 siz150 rfl rfl rfl (by omega)) (by kernel_rfl) (by kernel_rfl) (by kernel_rfl) (rem' := [6, 8, 9, 12, 13, 17, 18, 19, 20, 21, 22, 23, 24, 25, 26, 27, 28, 29]) (by kernel_rfl) rfl ?_
      refine QS_v (i := 17) rfl (v_load1 one150 rfl (Kn.own 0 rfl) (wtab_get (m := words x) (t := t) (k := t - 7) (by omega) (by omega) (by omega))) (by kernel_rfl) (by kernel_rfl) (by kernel_rfl) (rem' := [6, 8, 9, 12, 13, 18, 19, 20, 21, 22, 23, 24, 25, 26, 27, 28, 29]) (by kernel_rfl) rfl ?_
      refine QS_v (i := 19) rfl (v_move rfl) (by kernel_rfl) (by kernel_rfl) (by kernel_rfl) (rem' := [6, 8, 9, 12, 13, 18, 20, 21, 22, 23, 24, 25, 26, 27, 28, 29]) (by kernel_rfl) rfl ?_
      refine QS_v (i := 21) rfl (v_move rfl) (by kernel_rfl) (by kernel_rfl) (by kernel_rfl) (rem' := [6, 8, 9, 12, 13, 18, 20, 22, 23, 24, 25, 26, 27, 28, 29]) (by kernel_rfl) rfl ?_
      refine QS_v (i := 24) rfl (v_move rfl) (by kernel_rfl) (by kernel_rfl) (by kernel_rfl) (rem' := [6, 8, 9, 12, 13, 18, 20, 22, 23, 25, 26, 27, 28, 29]) (by kernel_rfl) rfl ?_
      refine QS_v (i := 25) rfl (v_shr32 (s := 10) rfl rfl (by omega)) (by kernel_rfl) (by kernel_rfl) (by kernel_rfl) (rem' := [6, 8, 9, 12, 13, 18, 20, 22, 23, 26, 27, 28, 29]) (by kernel_rfl) rfl ?_
      refine QS_step (is := [6]) rfl (by kernel_rfl) ?_
      refine qall1 ?_
      refine qs_callq rfl rfl (ror_fn _ 7 (by decide) _) rfl (rem' := [8, 9, 12, 13, 18, 20, 22, 23, 26, 27, 28, 29]) (by kernel_rfl) ?_
      refine QS_step (is := [8]) rfl (by kernel_rfl) ?_
      refine qall1 ?_
      refine qs_callq rfl rfl (ror_fn _ 18 (by decide) _) rfl (rem' := [9, 12, 13, 18, 20, 22, 23, 26, 27, 28, 29]) (by kernel_rfl) ?_
      refine QS_v (i := 9) rfl (v_xor32 rfl rfl) (by kernel_rfl) (by kernel_rfl) (by kernel_rfl) (rem' := [12, 13, 18, 20, 22, 23, 26, 27, 28, 29]) (by kernel_rfl) rfl ?_
      refine QS_v (i := 12) rfl (v_xor32 rfl rfl) (by kernel_rfl) (by kernel_rfl) (by kernel_rfl) (rem' := [13, 18, 20, 22, 23, 26, 27, 28, 29]) (by kernel_rfl) rfl ?_
      refine QS_v (i := 13) rfl (v_add32 rfl rfl) (by kernel_rfl) (by kernel_rfl) (by kernel_rfl) (rem' := [18, 20, 22, 23, 26, 27, 28, 29]) (by kernel_rfl) rfl ?_
      refine QS_v (i := 18) rfl (v_add32 rfl rfl) (by kernel_rfl) (by kernel_rfl) (by kernel_rfl) (rem' := [20, 22, 23, 26, 27, 28, 29]) (by kernel_rfl) rfl ?_
      refine QS_step (is := [20]) rfl (by kernel_rfl) ?_
      refine qall1 ?_
      refine qs_callq rfl rfl (ror_fn _ 17 (by decide) _) rfl (rem' := [22, 23, 26, 27, 28, 29]) (by kernel_rfl) ?_
      refine QS_step (is := [22]) rfl (by kernel_rfl) ?_
      refine qall1 ?_
      refine qs_callq rfl rfl (ror_fn _ 19 (by decide) _) rfl (rem' := [23, 26, 27, 28, 29]) (by kernel_rfl) ?_
      refine QS_v (i := 23) rfl (v_xor32 rfl rfl) (by kernel_rfl) (by kernel_rfl) (by kernel_rfl) (rem' := [26, 27, 28, 29]) (by kernel_rfl) rfl ?_
      refine QS_v (i := 26) rfl (v_xor32 rfl rfl) (by kernel_rfl) (by kernel_rfl) (by kernel_rfl) (rem' := [27, 28, 29]) (by kernel_rfl) rfl ?_
      refine QS_v (i := 27) rfl (v_add32 rfl rfl) (by kernel_rfl) (by kernel_rfl) (by kernel_rfl) (rem' := [28, 29]) (by kernel_rfl) rfl ?_
      refine QS_v (i := 28) rfl (v_iaddra Tryz.underlying191 siz150 rfl rfl rfl (by omega)) (by kernel_rfl) (by kernel_rfl) (by kernel_rfl) (rem' := [29]) (by kernel_rfl) rfl ?_
      refine QS_step (is := [29]) rfl (by kernel_rfl) ?_
      refine qall1 ?_
      rw [show wt (words x) (t - 16) + (ror32 (wt (words x) (t - 15)) 7 ^^^ ror32 (wt (words x) (t - 15)) 18 ^^^ shr32 (wt (words x) (t - 15)) 3) + wt (words x) (t - 7) + (ror32 (wt (words x) (t - 2)) 17 ^^^ ror32 (wt (words x) (t - 2)) 19 ^^^ shr32 (wt (words x) (t - 2)) 10) = wt (words x) t from (wt_hi (m := words x) (t := t) (by omega)).symm]
      refine qs_store (A := []) rfl rfl rfl rfl siz150 (wtab_next (t := t) (by omega) (by omega)) rfl rfl rfl (rem' := []) (by kernel_rfl) rfl rfl ?_
      refine QS_nil ?_
      refine den_blk ?_
      -- region 8
      refine den_region rfl ?_
      refine WL_v (v_move rfl) rfl ?_
      refine WL_v (v_addj (n := 1) rfl rfl (by show _ < 9223372036854775808; omega)) rfl ?_
      refine WL_v (v_assign rfl) rfl ?_
      refine WL_nil ?_
      refine den_again ⟨rfl, (t + 1), (by show 64 - (t + 1) < 64 - t; omega), (sub_cons rfl (sub_cons rfl (sub_cons rfl (sub_cons rfl (sub_cons rfl sub_nil))))), ⟨by omega, by omega, rfl, rfl⟩⟩
    · skip
      have ht : t = 64 := by omega
      subst ht
      refine den_exit rfl ?_
      refine den_seq ?_
      -- region 12
      refine den_region rfl ?_
      refine WL_callq rfl (rnum_fn _) rfl ?_
      refine WL_alloc (zs := tab 64 (fun _ => w32 0)) zer191 rfl rfl fun b10 => ?_
      refine WL_store0 rfl rfl (show (Value.agg ⟨kcells⟩).cells = ⟨kcells⟩ from rfl) siz191 (spl_all rfl) rfl rfl ?_
      refine WL_nil ?_
      refine den_seq ?_
      -- region 13
      refine den_draw [] (by kernel_rfl) (by kernel_rfl) (NoP.fn) (rem := [0, 1, 2, 3, 4, 5, 6, 7, 8, 9, 10, 11, 12, 13, 14, 15, 16, 17, 18, 19, 20, 21, 22, 23]) (by kernel_rfl) ?_
      refine QS_v (i := 0) rfl (v_iaddra (n := 0) Tryz.underlying151 siz150 rfl rfl rfl (by decide)) (by kernel_rfl) (by kernel_rfl) (by kernel_rfl) (rem' := [1, 2, 3, 4, 5, 6, 7, 8, 9, 10, 11, 12, 13, 14, 15, 16, 17, 18, 19, 20, 21, 22, 23]) (by kernel_rfl) rfl ?_
      refine QS_v (i := 1) rfl (v_load1 one150 rfl (Kn.per hb2) rfl) (by kernel_rfl) (by kernel_rfl) (by kernel_rfl) (rem' := [2, 3, 4, 5, 6, 7, 8, 9, 10, 11, 12, 13, 14, 15, 16, 17, 18, 19, 20, 21, 22, 23]) (by kernel_rfl) rfl ?_
      refine QS_v (i := 2) rfl (v_iaddra (n := 1) Tryz.underlying151 siz150 rfl rfl rfl (by decide)) (by kernel_rfl) (by kernel_rfl) (by kernel_rfl) (rem' := [3, 4, 5, 6, 7, 8, 9, 10, 11, 12, 13, 14, 15, 16, 17, 18, 19, 20, 21, 22, 23]) (by kernel_rfl) rfl ?_
      refine QS_v (i := 3) rfl (v_load1 one150 rfl (Kn.per hb2) rfl) (by kernel_rfl) (by kernel_rfl) (by kernel_rfl) (rem' := [4, 5, 6, 7, 8, 9, 10, 11, 12, 13, 14, 15, 16, 17, 18, 19, 20, 21, 22, 23]) (by kernel_rfl) rfl ?_
      refine QS_v (i := 4) rfl (v_iaddra (n := 2) Tryz.underlying151 siz150 rfl rfl rfl (by decide)) (by kernel_rfl) (by kernel_rfl) (by kernel_rfl) (rem' := [5, 6, 7, 8, 9, 10, 11, 12, 13, 14, 15, 16, 17, 18, 19, 20, 21, 22, 23]) (by kernel_rfl) rfl ?_
      refine QS_v (i := 5) rfl (v_load1 one150 rfl (Kn.per hb2) rfl) (by kernel_rfl) (by kernel_rfl) (by kernel_rfl) (rem' := [6, 7, 8, 9, 10, 11, 12, 13, 14, 15, 16, 17, 18, 19, 20, 21, 22, 23]) (by kernel_rfl) rfl ?_
      refine QS_v (i := 6) rfl (v_iaddra (n := 3) Tryz.underlying151 siz150 rfl rfl rfl (by decide)) (by kernel_rfl) (by kernel_rfl) (by kernel_rfl) (rem' := [7, 8, 9, 10, 11, 12, 13, 14, 15, 16, 17, 18, 19, 20, 21, 22, 23]) (by kernel_rfl) rfl ?_
      refine QS_v (i := 7) rfl (v_load1 one150 rfl (Kn.per hb2) rfl) (by kernel_rfl) (by kernel_rfl) (by kernel_rfl) (rem' := [8, 9, 10, 11, 12, 13, 14, 15, 16, 17, 18, 19, 20, 21, 22, 23]) (by kernel_rfl) rfl ?_
      refine QS_v (i := 8) rfl (v_iaddra (n := 4) Tryz.underlying151 siz150 rfl rfl rfl (by decide)) (by kernel_rfl) (by kernel_rfl) (by kernel_rfl) (rem' := [9, 10, 11, 12, 13, 14, 15, 16, 17, 18, 19, 20, 21, 22, 23]) (by kernel_rfl) rfl ?_
      refine QS_v (i := 9) rfl (v_load1 one150 rfl (Kn.per hb2) rfl) (by kernel_rfl) (by kernel_rfl) (by kernel_rfl) (rem' := [10, 11, 12, 13, 14, 15, 16, 17, 18, 19, 20, 21, 22, 23]) (by kernel_rfl) rfl ?_
      refine QS_v (i := 10) rfl (v_iaddra (n := 5) Tryz.underlying151 siz150 rfl rfl rfl (by decide)) (by kernel_rfl) (by kernel_rfl) (by kernel_rfl) (rem' := [11, 12, 13, 14, 15, 16, 17, 18, 19, 20, 21, 22, 23]) (by kernel_rfl) rfl ?_
      refine QS_v (i := 11) rfl (v_load1 one150 rfl (Kn.per hb2) rfl) (by kernel_rfl) (by kernel_rfl) (by kernel_rfl) (rem' := [12, 13, 14, 15, 16, 17, 18, 19, 20, 21, 22, 23]) (by kernel_rfl) rfl ?_
      refine QS_v (i := 12) rfl (v_iaddra (n := 6) Tryz.underlying151 siz150 rfl rfl rfl (by decide)) (by kernel_rfl) (by kernel_rfl) (by kernel_rfl) (rem' := [13, 14, 15, 16, 17, 18, 19, 20, 21, 22, 23]) (by kernel_rfl) rfl ?_
      refine QS_v (i := 13) rfl (v_load1 one150 rfl (Kn.per hb2) rfl) (by kernel_rfl) (by kernel_rfl) (by kernel_rfl) (rem' := [14, 15, 16, 17, 18, 19, 20, 21, 22, 23]) (by kernel_rfl) rfl ?_
      refine QS_v (i := 14) rfl (v_iaddra (n := 7) Tryz.underlying151 siz150 rfl rfl rfl (by decide)) (by kernel_rfl) (by kernel_rfl) (by kernel_rfl) (rem' := [15, 16, 17, 18, 19, 20, 21, 22, 23]) (by kernel_rfl) rfl ?_
      refine QS_v (i := 15) rfl (v_load1 one150 rfl (Kn.per hb2) rfl) (by kernel_rfl) (by kernel_rfl) (by kernel_rfl) (rem' := [16, 17, 18, 19, 20, 21, 22, 23]) (by kernel_rfl) rfl ?_
      refine QS_v (i := 16) rfl (v_assign rfl) (by kernel_rfl) (by kernel_rfl) (by kernel_rfl) (rem' := [17, 18, 19, 20, 21, 22, 23]) (by kernel_rfl) rfl ?_
      refine QS_v (i := 17) rfl (v_assign rfl) (by kernel_rfl) (by kernel_rfl) (by kernel_rfl) (rem' := [18, 19, 20, 21, 22, 23]) (by kernel_rfl) rfl ?_
      refine QS_v (i := 18) rfl (v_assign rfl) (by kernel_rfl) (by kernel_rfl) (by kernel_rfl) (rem' := [19, 20, 21, 22, 23]) (by kernel_rfl) rfl ?_
      refine QS_v (i := 19) rfl (v_assign rfl) (by kernel_rfl) (by kernel_rfl) (by kernel_rfl) (rem' := [20, 21, 22, 23]) (by kernel_rfl) rfl ?_
      refine QS_v (i := 20) rfl (v_assign rfl) (by kernel_rfl) (by kernel_rfl) (by kernel_rfl) (rem' := [21, 22, 23]) (by kernel_rfl) rfl ?_
      refine QS_v (i := 21) rfl (v_assign rfl) (by kernel_rfl) (by kernel_rfl) (by kernel_rfl) (rem' := [22, 23]) (by kernel_rfl) rfl ?_
      refine QS_v (i := 22) rfl (v_assign rfl) (by kernel_rfl) (by kernel_rfl) (by kernel_rfl) (rem' := [23]) (by kernel_rfl) rfl ?_
      refine QS_v (i := 23) rfl (v_assign rfl) (by kernel_rfl) (by kernel_rfl) (by kernel_rfl) (rem' := []) (by kernel_rfl) rfl ?_
      refine QS_nil ?_
      refine den_seq ?_
      refine den_seq ?_
      -- region 14
      refine den_region rfl ?_
      refine WL_v (v_assign rfl) rfl ?_
      refine WL_nil ?_
      refine den_block ?_
      refine den_loopI (ι := Nat) (fun t => [(2, .pointer (some ⟨b2, 0, none⟩)), (4, .pointer (some ⟨b4, 0, none⟩)), (5, .pointer (some ⟨b5, 0, none⟩)), (10, .pointer (some ⟨b10, 0, none⟩)), (11, w32 (rnds s (words x) t).a), (12, w32 (rnds s (words x) t).b), (13, w32 (rnds s (words x) t).c), (14, w32 (rnds s (words x) t).d), (15, w32 (rnds s (words x) t).e), (16, w32 (rnds s (words x) t).f), (17, w32 (rnds s (words x) t).g), (18, w32 (rnds s (words x) t).h), (19, .int .i64 ((t : Nat) : Int))]) (fun t h' L' => 0 ≤ t ∧ t ≤ 64 ∧ h1 = h' ∧ L' = [(b10, .cells ⟨kcells⟩ 191 (0, 0)), (b5, .cells ⟨wtab (words x) 64⟩ 191 (0, 0)), (b4, .cells ⟨(S8.mk 0 0 0 0 0 0 0 0).cells⟩ 151 (0, 0))] ++ Lf) (fun t => 64 - t) 0 (sub_cons rfl (sub_cons rfl (sub_cons rfl (sub_cons rfl (sub_cons rfl (sub_cons rfl (sub_cons rfl (sub_cons rfl (sub_cons rfl (sub_cons rfl (sub_cons rfl (sub_cons rfl (sub_cons rfl sub_nil))))))))))))) ⟨by omega, by omega, rfl, rfl⟩ ?_
      rintro t _ _ ⟨t0, t1, rfl, rfl⟩
      refine den_seq ?_
      refine den_seq ?_
      -- region 15
      refine den_region rfl ?_
      refine WL_v (v_move rfl) rfl ?_
      refine WL_v (v_lss rfl rfl) rfl ?_
      refine WL_nil ?_
      first | refine den_ifd rfl (fun hi => ?_) (fun hi => ?_) | refine den_if rfl (fun hi => ?_) (fun hi => ?_)
      · skip
        refine den_skip ?_
        refine den_seq ?_
        refine den_block ?_
        refine den_seq ?_
        -- region 17
        refine den_draw [] (by kernel_rfl) (by kernel_rfl) (NoP.fn) (rem := [0, 1, 2, 3, 4, 5, 6, 7, 8, 9, 10, 11, 12, 13, 14, 15, 16, 17, 18, 19, 20, 21, 22, 23, 24, 25, 26, 27]) (by kernel_rfl) ?_
        refine QS_v (i := 0) rfl (v_move rfl) (by kernel_rfl) (by kernel_rfl) (by kernel_rfl) (rem' := [1, 2, 3, 4, 5, 6, 7, 8, 9, 10, 11, 12, 13, 14, 15, 16, 17, 18, 19, 20, 21, 22, 23, 24, 25, 26, 27]) (by kernel_rfl) rfl ?_
        refine QS_v (i := 1) rfl (v_move rfl) (by kernel_rfl) (by kernel_rfl) (by kernel_rfl) (rem' := [2, 3, 4, 5, 6, 7, 8, 9, 10, 11, 12, 13, 14, 15, 16, 17, 18, 19, 20, 21, 22, 23, 24, 25, 26, 27]) (by kernel_rfl) rfl ?_
        refine QS_v (i := 3) rfl (v_move rfl) (by kernel_rfl) (by kernel_rfl) (by kernel_rfl) (rem' := [2, 4, 5, 6, 7, 8, 9, 10, 11, 12, 13, 14, 15, 16, 17, 18, 19, 20, 21, 22, 23, 24, 25, 26, 27]) (by kernel_rfl) rfl ?_
        refine QS_v (i := 6) rfl (v_move rfl) (by kernel_rfl) (by kernel_rfl) (by kernel_rfl) (rem' := [2, 4, 5, 7, 8, 9, 10, 11, 12, 13, 14, 15, 16, 17, 18, 19, 20, 21, 22, 23, 24, 25, 26, 27]) (by kernel_rfl) rfl ?_
        refine QS_v (i := 10) rfl (v_move rfl) (by kernel_rfl) (by kernel_rfl) (by kernel_rfl) (rem' := [2, 4, 5, 7, 8, 9, 11, 12, 13, 14, 15, 16, 17, 18, 19, 20, 21, 22, 23, 24, 25, 26, 27]) (by kernel_rfl) rfl ?_
        refine QS_v (i := 11) rfl (v_move rfl) (by kernel_rfl) (by kernel_rfl) (by kernel_rfl) (rem' := [2, 4, 5, 7, 8, 9, 12, 13, 14, 15, 16, 17, 18, 19, 20, 21, 22, 23, 24, 25, 26, 27]) (by kernel_rfl) rfl ?_
        refine QS_v (i := 12) rfl (v_and32 rfl rfl) (by kernel_rfl) (by kernel_rfl) (by kernel_rfl) (rem' := [2, 4, 5, 7, 8, 9, 13, 14, 15, 16, 17, 18, 19, 20, 21, 22, 23, 24, 25, 26, 27]) (by kernel_rfl) rfl ?_
        refine QS_v (i := 13) rfl (v_move rfl) (by kernel_rfl) (by kernel_rfl) (by kernel_rfl) (rem' := [2, 4, 5, 7, 8, 9, 14, 15, 16, 17, 18, 19, 20, 21, 22, 23, 24, 25, 26, 27]) (by kernel_rfl) rfl ?_
        refine QS_v (i := 14) rfl (v_not32 rfl) (by kernel_rfl) (by kernel_rfl) (by kernel_rfl) (rem' := [2, 4, 5, 7, 8, 9, 15, 16, 17, 18, 19, 20, 21, 22, 23, 24, 25, 26, 27]) (by kernel_rfl) rfl ?_
        refine QS_v (i := 15) rfl (v_move rfl) (by kernel_rfl) (by kernel_rfl) (by kernel_rfl) (rem' := [2, 4, 5, 7, 8, 9, 16, 17, 18, 19, 20, 21, 22, 23, 24, 25, 26, 27]) (by kernel_rfl) rfl ?_
        refine QS_v (i := 16) rfl (v_and32 rfl rfl) (by kernel_rfl) (by kernel_rfl) (by kernel_rfl) (rem' := [2, 4, 5, 7, 8, 9, 17, 18, 19, 20, 21, 22, 23, 24, 25, 26, 27]) (by kernel_rfl) rfl ?_
        refine QS_v (i := 17) rfl (v_xor32 rfl rfl) (by kernel_rfl) (by kernel_rfl) (by kernel_rfl) (rem' := [2, 4, 5, 7, 8, 9, 18, 19, 20, 21, 22, 23, 24, 25, 26, 27]) (by kernel_rfl) rfl ?_
        refine QS_v (i := 19) rfl (v_move rfl) (by kernel_rfl) (by kernel_rfl) (by kernel_rfl) (rem' := [2, 4, 5, 7, 8, 9, 18, 20, 21, 22, 23, 24, 25, 26, 27]) (by kernel_rfl) rfl ?_
        refine QS_v (i := 20) rfl (v_iaddra Tryz.underlying191 siz150 rfl rfl rfl (by omega)) (by kernel_rfl) (by kernel_rfl) (by kernel_rfl) (rem' := [2, 4, 5, 7, 8, 9, 18, 21, 22, 23, 24, 25, 26, 27]) (by kernel_rfl) rfl ?_
        refine QS_v (i := 21) rfl (v_load1 one150 rfl (Kn.own 0 rfl) (by rw [Nat.zero_add, Nat.mul_one]; exact kcells_get (by omega))) (by kernel_rfl) (by kernel_rfl) (by kernel_rfl) (rem' := [2, 4, 5, 7, 8, 9, 18, 22, 23, 24, 25, 26, 27]) (by kernel_rfl) rfl ?_
        refine QS_v (i := 23) rfl (v_move rfl) (by kernel_rfl) (by kernel_rfl) (by kernel_rfl) (rem' := [2, 4, 5, 7, 8, 9, 18, 22, 24, 25, 26, 27]) (by kernel_rfl) rfl ?_
        refine QS_v (i := 24) rfl (v_iaddra Tryz.underlying191 siz150 rfl rfl rfl (by omega)) (by kernel_rfl) (by kernel_rfl) (by kernel_rfl) (rem' := [2, 4, 5, 7, 8, 9, 18, 22, 25, 26, 27]) (by kernel_rfl) rfl ?_
        refine QS_v (i := 25) rfl (v_load1 one150 rfl (Kn.own 1 rfl) (wtab_get (m := words x) (t := 64) (k := t) (by omega) (by omega) (by omega))) (by kernel_rfl) (by kernel_rfl) (by kernel_rfl) (rem' := [2, 4, 5, 7, 8, 9, 18, 22, 26, 27]) (by kernel_rfl) rfl ?_
        refine QS_step (is := [2]) rfl (by kernel_rfl) ?_
        refine qall1 ?_
        refine qs_callq rfl rfl (ror_fn _ 6 (by decide) _) rfl (rem' := [4, 5, 7, 8, 9, 18, 22, 26, 27]) (by kernel_rfl) ?_
        refine QS_step (is := [4]) rfl (by kernel_rfl) ?_
        refine qall1 ?_
        refine qs_callq rfl rfl (ror_fn _ 11 (by decide) _) rfl (rem' := [5, 7, 8, 9, 18, 22, 26, 27]) (by kernel_rfl) ?_
        refine QS_v (i := 5) rfl (v_xor32 rfl rfl) (by kernel_rfl) (by kernel_rfl) (by kernel_rfl) (rem' := [7, 8, 9, 18, 22, 26, 27]) (by kernel_rfl) rfl ?_
        refine QS_step (is := [7]) rfl (by kernel_rfl) ?_
        refine qall1 ?_
        refine qs_callq rfl rfl (ror_fn _ 25 (by decide) _) rfl (rem' := [8, 9, 18, 22, 26, 27]) (by kernel_rfl) ?_
        refine QS_v (i := 8) rfl (v_xor32 rfl rfl) (by kernel_rfl) (by kernel_rfl) (by kernel_rfl) (rem' := [9, 18, 22, 26, 27]) (by kernel_rfl) rfl ?_
        refine QS_v (i := 9) rfl (v_add32 rfl rfl) (by kernel_rfl) (by kernel_rfl) (by kernel_rfl) (rem' := [18, 22, 26, 27]) (by kernel_rfl) rfl ?_
        refine QS_v (i := 18) rfl (v_add32 rfl rfl) (by kernel_rfl) (by kernel_rfl) (by kernel_rfl) (rem' := [22, 26, 27]) (by kernel_rfl) rfl ?_
        refine QS_v (i := 22) rfl (v_add32 rfl rfl) (by kernel_rfl) (by kernel_rfl) (by kernel_rfl) (rem' := [26, 27]) (by kernel_rfl) rfl ?_
        refine QS_v (i := 26) rfl (v_add32 rfl rfl) (by kernel_rfl) (by kernel_rfl) (by kernel_rfl) (rem' := [27]) (by kernel_rfl) rfl ?_
        refine QS_v (i := 27) rfl (v_assign rfl) (by kernel_rfl) (by kernel_rfl) (by kernel_rfl) (rem' := []) (by kernel_rfl) rfl ?_
        rw [ch_ref]
        refine QS_nil ?_
        refine den_seq ?_
        -- region 18
        refine den_region rfl ?_
        refine WL_v (v_move rfl) rfl ?_
        refine WL_callq rfl (ror_fn _ 2 (by decide) _) rfl ?_
        refine WL_v (v_move rfl) rfl ?_
        refine WL_callq rfl (ror_fn _ 13 (by decide) _) rfl ?_
        refine WL_v (v_xor32 rfl rfl) rfl ?_
        refine WL_v (v_move rfl) rfl ?_
        refine WL_callq rfl (ror_fn _ 22 (by decide) _) rfl ?_
        refine WL_v (v_xor32 rfl rfl) rfl ?_
        refine WL_v (v_move rfl) rfl ?_
        refine WL_v (v_move rfl) rfl ?_
        refine WL_v (v_and32 rfl rfl) rfl ?_
        refine WL_v (v_move rfl) rfl ?_
        refine WL_v (v_move rfl) rfl ?_
        refine WL_v (v_and32 rfl rfl) rfl ?_
        refine WL_v (v_xor32 rfl rfl) rfl ?_
        refine WL_v (v_move rfl) rfl ?_
        refine WL_v (v_move rfl) rfl ?_
        refine WL_v (v_and32 rfl rfl) rfl ?_
        refine WL_v (v_xor32 rfl rfl) rfl ?_
        refine WL_v (v_add32 rfl rfl) rfl ?_
        refine WL_v (v_assign rfl) rfl ?_
        rw [maj_ref]
        refine WL_nil ?_
        -- region 19
        refine den_region rfl ?_
        refine WL_v (v_move rfl) rfl ?_
        refine WL_v (v_move rfl) rfl ?_
        refine WL_v (v_move rfl) rfl ?_
        refine WL_v (v_move rfl) rfl ?_
        refine WL_v (v_move rfl) rfl ?_
        refine WL_v (v_add32 rfl rfl) rfl ?_
        refine WL_v (v_move rfl) rfl ?_
        refine WL_v (v_move rfl) rfl ?_
        refine WL_v (v_move rfl) rfl ?_
        refine WL_v (v_move rfl) rfl ?_
        refine WL_v (v_move rfl) rfl ?_
        refine WL_v (v_add32 rfl rfl) rfl ?_
        refine WL_v (v_assign rfl) rfl ?_
        refine WL_v (v_assign rfl) rfl ?_
        refine WL_v (v_assign rfl) rfl ?_
        refine WL_v (v_assign rfl) rfl ?_
        refine WL_v (v_assign rfl) rfl ?_
        refine WL_v (v_assign rfl) rfl ?_
        refine WL_v (v_assign rfl) rfl ?_
        refine WL_v (v_assign rfl) rfl ?_
        refine WL_nil ?_
        refine den_blk ?_
        -- region 16
        refine den_region rfl ?_
        refine WL_v (v_move rfl) rfl ?_
        refine WL_v (v_addj (n := 1) rfl rfl (by show _ < 9223372036854775808; omega)) rfl ?_
        refine WL_v (v_assign rfl) rfl ?_
        refine WL_nil ?_
        refine den_again ⟨rfl, (t + 1), (by show 64 - (t + 1) < 64 - t; omega), (sub_cons rfl (sub_cons rfl (sub_cons rfl (sub_cons rfl (sub_cons rfl (sub_cons rfl (sub_cons rfl (sub_cons rfl (sub_cons rfl (sub_cons rfl (sub_cons rfl (sub_cons rfl (sub_cons rfl sub_nil))))))))))))), ⟨by omega, by omega, rfl, rfl⟩⟩
      · skip
        have ht : t = 64 := by omega
        subst ht
        refine den_exit rfl ?_
        refine den_seq ?_
        -- region 20
        refine den_region rfl ?_
        refine WL_v (v_iaddra (n := 0) Tryz.underlying151 siz150 rfl rfl rfl (by decide)) rfl ?_
        refine WL_v (v_load1 one150 rfl (Kn.per hb2) rfl) rfl ?_
        refine WL_v (v_move rfl) rfl ?_
        refine WL_v (v_add32 rfl rfl) rfl ?_
        refine WL_v (v_iaddra (n := 1) Tryz.underlying151 siz150 rfl rfl rfl (by decide)) rfl ?_
        refine WL_v (v_load1 one150 rfl (Kn.per hb2) rfl) rfl ?_
        refine WL_v (v_move rfl) rfl ?_
        refine WL_v (v_add32 rfl rfl) rfl ?_
        refine WL_v (v_iaddra (n := 2) Tryz.underlying151 siz150 rfl rfl rfl (by decide)) rfl ?_
        refine WL_v (v_load1 one150 rfl (Kn.per hb2) rfl) rfl ?_
        refine WL_v (v_move rfl) rfl ?_
        refine WL_v (v_add32 rfl rfl) rfl ?_
        refine WL_v (v_iaddra (n := 3) Tryz.underlying151 siz150 rfl rfl rfl (by decide)) rfl ?_
        refine WL_v (v_load1 one150 rfl (Kn.per hb2) rfl) rfl ?_
        refine WL_v (v_move rfl) rfl ?_
        refine WL_v (v_add32 rfl rfl) rfl ?_
        refine WL_v (v_iaddra (n := 4) Tryz.underlying151 siz150 rfl rfl rfl (by decide)) rfl ?_
        refine WL_v (v_load1 one150 rfl (Kn.per hb2) rfl) rfl ?_
        refine WL_v (v_move rfl) rfl ?_
        refine WL_v (v_add32 rfl rfl) rfl ?_
        refine WL_v (v_iaddra (n := 5) Tryz.underlying151 siz150 rfl rfl rfl (by decide)) rfl ?_
        refine WL_v (v_load1 one150 rfl (Kn.per hb2) rfl) rfl ?_
        refine WL_v (v_move rfl) rfl ?_
        refine WL_v (v_add32 rfl rfl) rfl ?_
        refine WL_v (v_iaddra (n := 6) Tryz.underlying151 siz150 rfl rfl rfl (by decide)) rfl ?_
        refine WL_v (v_load1 one150 rfl (Kn.per hb2) rfl) rfl ?_
        refine WL_v (v_move rfl) rfl ?_
        refine WL_v (v_add32 rfl rfl) rfl ?_
        refine WL_v (v_iaddra (n := 7) Tryz.underlying151 siz150 rfl rfl rfl (by decide)) rfl ?_
        refine WL_v (v_load1 one150 rfl (Kn.per hb2) rfl) rfl ?_
        refine WL_v (v_move rfl) rfl ?_
        refine WL_v (v_add32 rfl rfl) rfl ?_
        refine WL_v (v_builda Tryz.underlying151 zer151 siz150 rfl rfl) rfl ?_
        refine WL_store2 rfl rfl rfl siz151 rfl rfl rfl ?_
        refine WL_nil ?_
        refine den_ret ?_
        exact endsr1 Tryz.results146 (rv_n many151 rfl (Kn.own 2 rfl) (show cut 0 8 (absorb s (words x)).cells = some (absorb s (words x)).cells from rfl)) hl1 (.cons _ (.cons _ (.cons _ (List.Sublist.refl _)))) ⟨rfl, rfl⟩

theorem padded_fn (v : Value) (xs : List UInt8) (h : Heap) (hv : Bs h v xs) (hn : xs.length ≤ 1099511627776) : Tr Tryz.prog 145 [v] h [] (fun v _ L' => OwnS 5 1 v (padL xs.length) ((padB xs).map byteV) L') := by
  have hv0 := hv
  obtain ⟨av, capv, rfl, hcv, hxv⟩ := hv
  have hpl := padL_ge xs.length
  have hpu : padL xs.length ≤ xs.length + 128 := by unfold padL; split <;> omega
  refine Tr_of Tryz.func145 rfl rfl Tryz.ntmps145 rfl [(0, .slice av xs.length capv)] rfl ?_
  intro Lf
  refine den_seq ?_
  -- region 0
  refine den_region rfl ?_
  refine WL_v (v_assign rfl) rfl ?_
  refine WL_nil ?_
  refine den_seq ?_
  -- region 1
  refine den_region rfl ?_
  refine WL_buildSlice Tryz.underlying53 zer5 rfl siz5 rfl rfl rfl rfl rfl fun b6 => ?_
  refine WL_v (v_move rfl) rfl ?_
  refine WL_perm (L' := [(b6, .cells ⟨[]⟩ 5 (0, 0))] ++ Lf) (List.Perm.refl _) ?_
  refine WL_append Tryz.underlying53 Tryz.underlying53 (.inr ⟨_, rfl⟩) siz5 byt5 (by decide) zer5 rfl rfl rfl rfl (OwnS.full (n := 0) (xs := []) rfl (by decide)) hv0.src (bytes_one _) (by omega) rfl fun v1 L1 ho1 => ?_
  refine WL_buildSlice Tryz.underlying53 zer5 rfl siz5 rfl rfl rfl rfl rfl fun b9 => ?_
  refine WL_freeze fun h9 hl9 hb9 => ?_
  refine WL_append Tryz.underlying53 Tryz.underlying53 (.inr ⟨_, rfl⟩) siz5 byt5 (by decide) zer5 rfl rfl rfl rfl ho1 (Src.per (n := 1) (us := [byteV 128]) hb9 rfl) rfl (by omega) rfl fun v2 L2 ho2 => ?_
  rw [show [] ++ xs.map byteV ++ [byteV 128] = (padP xs 0).map byteV from by simp [padP], show 0 + xs.length + 1 = (padP xs 0).length from by rw [padP_len]; omega] at ho2
  refine WL_v (v_assign rfl) rfl ?_
  refine WL_nil ?_
  refine den_seq ?_
  refine den_block ?_
  refine den_loopI (ι := Nat × Value × Owned) (fun ⟨z, v, L1⟩ => [(0, .slice av xs.length capv), (3, v)]) (fun ⟨z, v, L1⟩ h' L' => xs.length + 1 + z ≤ padL xs.length - 8 ∧ Heap.le h h' ∧ L' = L1 ++ Lf ∧ OwnS 5 1 v (padP xs z).length ((padP xs z).map byteV) L1) (fun ⟨z, v, L1⟩ => padL xs.length - z) (0, v2, L2) (sub_cons rfl (sub_cons rfl sub_nil)) ⟨by omega, hl9, rfl, ho2⟩ ?_
  rintro ⟨z, v, L1⟩ hq _ ⟨z1, hle, rfl, ho⟩
  refine den_seq ?_
  refine den_seq ?_
  -- region 2
  refine den_region rfl ?_
  refine WL_v (v_move rfl) rfl ?_
  have hz1 := padP_len xs z
  obtain ⟨av2, cv2, hv2⟩ := ho.slc
  subst hv2
  refine WL_v (v_lens Tryz.underlying53 rfl) rfl ?_
  refine WL_v (v_remn (n := 64) rfl rfl (by omega)) rfl ?_
  refine WL_v (v_neq rfl rfl) rfl ?_
  refine WL_nil ?_
  first | refine den_ifd rfl (fun hne => ?_) (fun hne => ?_) | refine den_if rfl (fun hne => ?_) (fun hne => ?_)
  · skip
    refine den_skip ?_
    refine den_block ?_
    -- region 3
    refine den_region rfl ?_
    refine WL_v (v_move rfl) rfl ?_
    refine WL_buildSlice Tryz.underlying53 zer5 rfl siz5 rfl rfl rfl rfl rfl fun b16 => ?_
    refine WL_freeze fun h16 hl16 hb16 => ?_
    refine WL_append Tryz.underlying53 Tryz.underlying53 (.inr ⟨_, rfl⟩) siz5 byt5 (by decide) zer5 rfl rfl rfl rfl ho (Src.per (n := 1) (us := [byteV 0]) hb16 rfl) rfl (by omega) rfl fun v3 L3 ho3 => ?_
    rw [show (padP xs z).map byteV ++ [byteV 0] = (padP xs (z + 1)).map byteV from by rw [← padP_next, List.map_append]; rfl, show (padP xs z).length + 1 = (padP xs (z + 1)).length from by rw [padP_len, padP_len]; omega] at ho3
    refine WL_v (v_assign rfl) rfl ?_
    refine WL_nil ?_
    refine den_blk ?_
    refine den_again ⟨rfl, (z + 1, v3, L3), (by show padL xs.length - (z + 1) < padL xs.length - z; omega), (sub_cons rfl (sub_cons rfl sub_nil)), ⟨pad_more z1 (by omega), hle.trans hl16, rfl, ho3⟩⟩
  · skip
    have hzf := pad_full z1 (by omega)
    refine den_exit rfl ?_
    refine den_seq ?_
    -- region 4
    refine den_region rfl ?_
    refine WL_v (v_move rfl) rfl ?_
    refine WL_v (v_lens Tryz.underlying53 rfl) rfl ?_
    refine WL_v (v_convu Tryz.underlying3 Tryz.underlying148 rfl (by omega)) rfl ?_
    refine WL_v (v_muln (n := 8) rfl rfl rfl (by show _ < 18446744073709551616; omega)) rfl ?_
    refine WL_v (v_assign rfl) rfl ?_
    refine WL_nil ?_
    refine den_seq ?_
    refine den_seq ?_
    -- region 5
    refine den_region rfl ?_
    refine WL_v (v_assign rfl) rfl ?_
    refine WL_nil ?_
    refine den_block ?_
    refine den_loopI (ι := Int × Value × Owned) (fun ⟨z2, v, L1⟩ => [(3, v), (4, .int .u64 ((xs.length * 8 : Nat) : Int)), (5, .int .i64 z2)]) (fun ⟨z2, v, L1⟩ h' L' => -1 ≤ z2 ∧ z2 ≤ 7 ∧ Heap.le h h' ∧ L' = L1 ++ Lf ∧ OwnS 5 1 v ((padP xs z).length + (7 - z2).toNat) ((padP xs z ++ padE xs.length (7 - z2).toNat).map byteV) L1) (fun ⟨z2, v, L1⟩ => (z2 + 1).toNat) (7, _, L1) (sub_cons rfl (sub_cons rfl (sub_cons rfl sub_nil))) ⟨by omega, by omega, hle, rfl, by simpa [padE] using ho⟩ ?_
    rintro ⟨z2, v, L1⟩ hq2 _ ⟨i1, i2, hle2, rfl, ho⟩
    refine den_seq ?_
    refine den_seq ?_
    -- region 6
    refine den_region rfl ?_
    refine WL_v (v_move rfl) rfl ?_
    refine WL_v (v_geq rfl rfl) rfl ?_
    refine WL_nil ?_
    first | refine den_ifd rfl (fun hge => ?_) (fun hge => ?_) | refine den_if rfl (fun hge => ?_) (fun hge => ?_)
    · skip
      obtain ⟨j, rfl⟩ := int_nat hge
      refine den_skip ?_
      refine den_seq ?_
      refine den_block ?_
      -- region 8
      refine den_region rfl ?_
      refine WL_v (v_move rfl) rfl ?_
      refine WL_v (v_move rfl) rfl ?_
      refine WL_v (v_move rfl) rfl ?_
      refine WL_v (v_mulj (m := 8) rfl rfl (by omega)) rfl ?_
      refine WL_v (v_shrn (s := 8 * j) rfl rfl (by show _ < 18446744073709551616; omega)) rfl ?_
      refine WL_v (v_conv64_8 Tryz.underlying148 Tryz.underlying5 rfl) rfl ?_
      refine WL_buildSlice Tryz.underlying53 zer5 rfl siz5 rfl rfl rfl rfl rfl fun b32 => ?_
      refine WL_freeze fun h32 hl32 hb32 => ?_
      refine WL_append Tryz.underlying53 Tryz.underlying53 (.inr ⟨_, rfl⟩) siz5 byt5 (by decide) zer5 rfl rfl rfl rfl ho (Src.per (n := 1) (us := [byteV (byteAt (xs.length * 8) j)]) hb32 rfl) rfl (by omega) rfl fun v4 L4 ho4 => ?_
      refine WL_v (v_assign rfl) rfl ?_
      refine WL_nil ?_
      refine den_blk ?_
      -- region 7
      refine den_region rfl ?_
      refine WL_v (v_move rfl) rfl ?_
      refine WL_v (v_sub (z := (j : Int) - 1) rfl rfl (wrap_i64 (by omega) (by omega))) rfl ?_
      refine WL_v (v_assign rfl) rfl ?_
      refine WL_nil ?_
      refine den_again ⟨rfl, ((j : Int) - 1, v4, L4), (by show ((j : Int) - 1 + 1).toNat < ((j : Int) + 1).toNat; omega), (sub_cons rfl (sub_cons rfl (sub_cons rfl sub_nil))), ⟨by omega, by omega, hle2.trans hl32, rfl, pad_step (by omega) ho4⟩⟩
    · skip
      have hz2 : z2 = -1 := by omega
      subst hz2
      rw [show (7 - (-1 : Int)).toNat = 8 from rfl, padB_eq hzf, hz1, show xs.length + 1 + z + 8 = padL xs.length from by omega] at ho
      refine den_exit rfl ?_
      refine den_seq ?_
      -- region 9
      refine den_region rfl ?_
      refine WL_v (v_move rfl) rfl ?_
      refine WL_v (v_assign rfl) rfl ?_
      refine WL_nil ?_
      refine den_ret ?_
      exact ends1 Tryz.results145 rfl hle2 (List.Sublist.refl _) ho

theorem rsum_fn (v : Value) (xs : List UInt8) (h : Heap) (hv : Bs h v xs) (hn : xs.length ≤ 1099511627776) : Fn0 Tryz.prog 115 [v] h (.agg ⟨dcells (sha xs)⟩) := by
  have hpl := padL_ge xs.length
  have hpu : padL xs.length ≤ xs.length + 128 := by unfold padL; split <;> omega
  have hp64 := (padL_end xs.length).1
  refine Tr_of Tryz.func115 rfl rfl Tryz.ntmps115 rfl [(0, v)] rfl ?_
  intro Lf
  refine den_seq ?_
  -- region 0
  refine den_region rfl ?_
  refine WL_alloc (zs := tab 32 (fun _ => byteV 0)) zer26 rfl rfl fun b2 => ?_
  refine WL_nil ?_
  refine den_seq ?_
  -- region 1
  refine den_region rfl ?_
  refine WL_v (v_builda (r := start8.cells) Tryz.underlying151 zer151 siz150 rfl rfl) rfl ?_
  refine WL_alloc zer151 rfl rfl fun b3 => ?_
  refine WL_store0 rfl rfl rfl siz151 (show spl 0 start8.cells _ = some start8.cells from rfl) rfl rfl ?_
  refine WL_nil ?_
  refine den_seq ?_
  -- region 2
  refine den_region rfl ?_
  refine WL_v (v_move rfl) rfl ?_
  refine WL_callf (L1 := []) rfl (padded_fn _ _ _ hv hn) rfl ?_
  rintro vp hp Lp hlep hop
  refine WL_freezeS hop fun h5 hl5 hbs => ?_
  obtain ⟨ap, cp, rfl, hcp, hxp⟩ := hbs
  rw [padB_len] at *
  obtain ⟨b, off, cs, Tb, frb, rfl, hb, hx⟩ := hxp (by omega)
  refine WL_v (v_assign rfl) rfl ?_
  refine WL_nil ?_
  refine den_seq ?_
  refine den_seq ?_
  -- region 3
  refine den_region rfl ?_
  refine WL_v (v_assign rfl) rfl ?_
  refine WL_nil ?_
  refine den_block ?_
  refine den_loopI (ι := Nat) (fun i => [(2, .pointer (some ⟨b2, 0, none⟩)), (3, .pointer (some ⟨b3, 0, none⟩)), (4, .slice (some ⟨b, off, none⟩) (padL xs.length) cp), (5, .int .i64 ((64 * i : Nat) : Int))]) (fun i h' L' => 64 * i ≤ (padL xs.length) ∧ Heap.le h5 h' ∧ L' = [(b3, .cells ⟨(stt (padf xs) (i)).cells⟩ 151 (0, 0)), (b2, .cells ⟨tab 32 (fun _ => byteV 0)⟩ 26 (0, 0))] ++ Lf) (fun i => (padL xs.length) - 64 * i) 0 (sub_cons rfl (sub_cons rfl (sub_cons rfl (sub_cons rfl sub_nil)))) ⟨by omega, Heap.le.refl _, rfl⟩ ?_
  rintro i hq _ ⟨i1, hle, rfl⟩
  refine den_seq ?_
  refine den_seq ?_
  -- region 4
  refine den_region rfl ?_
  refine WL_v (v_move rfl) rfl ?_
  refine WL_v (v_move rfl) rfl ?_
  refine WL_v (v_lens Tryz.underlying53 rfl) rfl ?_
  refine WL_v (v_lss rfl rfl) rfl ?_
  refine WL_nil ?_
  first | refine den_ifd rfl (fun hlt => ?_) (fun hlt => ?_) | refine den_if rfl (fun hlt => ?_) (fun hlt => ?_)
  · skip
    have hi64 : 64 * i + 64 ≤ (padL xs.length) := by omega
    refine den_skip ?_
    refine den_seq ?_
    refine den_block ?_
    -- region 6
    refine den_draw [7] (by kernel_rfl) (by kernel_rfl) (NoP.fn) (rem := [0, 1, 2, 3, 4, 5, 6, 7]) (by kernel_rfl) ?_
    refine QS_v (i := 0) rfl (v_loadn many151 rfl (Kn.own 0 rfl) (show cut 0 8 (stt (padf xs) (i)).cells = some (stt (padf xs) (i)).cells from rfl)) (by kernel_rfl) (by kernel_rfl) (by kernel_rfl) (rem' := [1, 2, 3, 4, 5, 6, 7]) (by kernel_rfl) rfl ?_
    refine QS_v (i := 1) rfl (v_move rfl) (by kernel_rfl) (by kernel_rfl) (by kernel_rfl) (rem' := [2, 3, 4, 5, 6, 7]) (by kernel_rfl) rfl ?_
    refine QS_v (i := 2) rfl (v_move rfl) (by kernel_rfl) (by kernel_rfl) (by kernel_rfl) (rem' := [3, 4, 5, 6, 7]) (by kernel_rfl) rfl ?_
    refine QS_v (i := 3) rfl (v_move rfl) (by kernel_rfl) (by kernel_rfl) (by kernel_rfl) (rem' := [4, 5, 6, 7]) (by kernel_rfl) rfl ?_
    refine QS_v (i := 4) rfl (v_addj (n := 64) rfl rfl (by omega)) (by kernel_rfl) (by kernel_rfl) (by kernel_rfl) (rem' := [5, 6, 7]) (by kernel_rfl) rfl ?_
    refine QS_v (i := 5) rfl (v_slices (l := 64 * i) (m := 64 * i + 64) Tryz.underlying53 siz5 rfl (Bnd.some rfl rfl) (Bnd.some rfl rfl) (by omega) (by omega)) (by kernel_rfl) (by kernel_rfl) (by kernel_rfl) (rem' := [6, 7]) (by kernel_rfl) rfl ?_
    rw [if_neg (show ¬ cp = 64 * i by omega), show 64 * i + 64 - 64 * i = 64 from by omega]
    refine QS_step (is := [6]) rfl (by kernel_rfl) ?_
    refine qall1 ?_
    refine qs_callq rfl rfl (rblock_fn (stt (padf xs) i) (fun j => padf xs (64 * i + j)) b _ _ cs Tb frb _ (by omega) (hle _ _ hb) (fun j hj => by rw [Nat.mul_one, Nat.add_assoc, hx (64 * i + j) (by omega), padB_get xs (by omega)])) rfl (rem' := [7]) (by kernel_rfl) ?_
    refine QS_step (is := [7]) rfl (by kernel_rfl) ?_
    refine qall1 ?_
    refine qs_store (A := []) (us := (stt (padf xs) (i + 1)).cells) rfl rfl rfl rfl siz151 (show spl 0 (stt (padf xs) (i + 1)).cells _ = some (stt (padf xs) (i + 1)).cells from rfl) rfl rfl rfl (rem' := []) (by kernel_rfl) rfl rfl ?_
    refine QS_nil ?_
    refine den_blk ?_
    -- region 5
    refine den_region rfl ?_
    refine WL_v (v_move rfl) rfl ?_
    refine WL_v (v_addj (n := 64) rfl rfl (by omega)) rfl ?_
    rw [show 64 * i + 64 = 64 * (i + 1) from by omega]
    refine WL_v (v_assign rfl) rfl ?_
    refine WL_nil ?_
    refine den_again ⟨rfl, (i + 1), (by show (padL xs.length) - 64 * (i + 1) < (padL xs.length) - 64 * i; omega), (sub_cons rfl (sub_cons rfl (sub_cons rfl (sub_cons rfl sub_nil)))), ⟨by omega, hle, rfl⟩⟩
  · skip
    have hiq : i = (padL xs.length) / 64 := by omega
    obtain ⟨s, hs⟩ : ∃ s, s = stt (padf xs) i := ⟨_, rfl⟩
    rw [← hs]
    refine den_exit rfl ?_
    refine den_seq ?_
    -- region 7
    refine den_region rfl ?_
    refine WL_v (v_builda (r := tab 32 (fun _ => byteV 0)) Tryz.underlying26 zer26 siz5 rfl rfl) rfl ?_
    refine WL_alloc (zs := tab 32 (fun _ => byteV 0)) zer26 rfl rfl fun b6 => ?_
    refine WL_store0 rfl rfl (us := tab 32 (fun _ => byteV 0)) rfl siz26 (spl_all rfl) rfl rfl ?_
    refine WL_nil ?_
    refine den_seq ?_
    refine den_seq ?_
    -- region 8
    refine den_region rfl ?_
    refine WL_v (v_assign rfl) rfl ?_
    refine WL_nil ?_
    refine den_block ?_
    refine den_loopI (ι := Nat) (fun i => [(2, .pointer (some ⟨b2, 0, none⟩)), (3, .pointer (some ⟨b3, 0, none⟩)), (6, .pointer (some ⟨b6, 0, none⟩)), (7, .int .i64 ((i : Nat) : Int))]) (fun i h' L' => i ≤ 32 ∧ hq = h' ∧ L' = [(b6, .cells ⟨dti s i⟩ 26 (0, 0)), (b3, .cells ⟨s.cells⟩ 151 (0, 0)), (b2, .cells ⟨tab 32 (fun _ => byteV 0)⟩ 26 (0, 0))] ++ Lf) (fun i => 32 - i) 0 (sub_cons rfl (sub_cons rfl (sub_cons rfl (sub_cons rfl sub_nil)))) ⟨by omega, rfl, by rw [← dti_0]; rfl⟩ ?_
    rintro i _ _ ⟨i3, rfl, rfl⟩
    refine den_seq ?_
    refine den_seq ?_
    -- region 9
    refine den_region rfl ?_
    refine WL_v (v_move rfl) rfl ?_
    refine WL_v (v_lss rfl rfl) rfl ?_
    refine WL_nil ?_
    first | refine den_ifd rfl (fun hlt2 => ?_) (fun hlt2 => ?_) | refine den_if rfl (fun hlt2 => ?_) (fun hlt2 => ?_)
    · skip
      refine den_skip ?_
      refine den_seq ?_
      refine den_block ?_
      -- region 11
      refine den_region rfl ?_
      refine WL_v (v_move rfl) rfl ?_
      refine WL_v (v_move rfl) rfl ?_
      refine WL_v (v_quoj (n := 4) rfl rfl (by omega) (by show _ < 9223372036854775808; omega)) rfl ?_
      refine WL_v (v_iaddra Tryz.underlying151 siz150 rfl rfl rfl (by omega)) rfl ?_
      refine WL_v (v_load1 one150 rfl (Kn.own 1 rfl) (cells_get (t := i / 4) (by omega) (by omega))) rfl ?_
      refine WL_v (v_move rfl) rfl ?_
      refine WL_v (v_remn (n := 4) rfl rfl (by omega)) rfl ?_
      refine WL_v (v_mulj (m := 8) rfl rfl (by omega)) rfl ?_
      refine WL_v (v_subj (m := 24) rfl rfl (by omega) (by omega)) rfl ?_
      refine WL_v (v_shr32 rfl rfl (by omega)) rfl ?_
      refine WL_v (v_conv32_8 Tryz.underlying150 Tryz.underlying5 rfl) rfl ?_
      refine WL_v (v_iaddra Tryz.underlying26 siz5 rfl rfl rfl (by omega)) rfl ?_
      refine WL_store0 rfl rfl rfl siz5 (dti_next (by omega) (by omega)) rfl rfl ?_
      refine WL_nil ?_
      refine den_blk ?_
      -- region 10
      refine den_region rfl ?_
      refine WL_v (v_move rfl) rfl ?_
      refine WL_v (v_addj (n := 1) rfl rfl (by show _ < 9223372036854775808; omega)) rfl ?_
      refine WL_v (v_assign rfl) rfl ?_
      refine WL_nil ?_
      refine den_again ⟨rfl, (i + 1), (by show 32 - (i + 1) < 32 - i; omega), (sub_cons rfl (sub_cons rfl (sub_cons rfl (sub_cons rfl sub_nil)))), ⟨by omega, rfl, rfl⟩⟩
    · skip
      have hi32 : i = 32 := by omega
      subst hi32
      refine den_exit rfl ?_
      refine den_seq ?_
      -- region 12
      refine den_region rfl ?_
      rw [dti_32]
      refine WL_v (v_loadn many26 rfl (Kn.own 0 rfl) (show cut 0 32 (dcells (digOf s)) = some (dcells (digOf s)) from rfl)) rfl ?_
      refine WL_store2 rfl rfl (us := dcells (digOf s)) rfl siz26 (show spl 0 (dcells (digOf s)) (tab 32 (fun _ => byteV 0)) = some (dcells (digOf s)) from spl_all (by rw [tab_len]; rfl)) rfl rfl ?_
      refine WL_nil ?_
      refine den_ret ?_
      refine endsr1 Tryz.results115 (rv_n many26 rfl (Kn.own 2 rfl) (show cut 0 32 (dcells (digOf s)) = some (dcells (digOf s)) from rfl)) ((hlep.trans hl5).trans hle) (.cons _ (.cons _ (.cons _ (List.Sublist.refl _)))) ⟨?_, rfl⟩
      rw [hs, hiq, sha_eq, shaS]

theorem rtagged_fn (tag : ByteArray) (v : Value) (xs : List UInt8) (h : Heap) (ht : tag.size ≤ 1048576) (hv : Bs h v xs) (hn : xs.length ≤ 549755813888) : Fn0 Tryz.prog 77 [.string tag, v] h (.agg ⟨dcells (tagged tag.data.toList xs)⟩) := by
  refine Tr_of Tryz.func77 rfl rfl Tryz.ntmps77 rfl [(0, .string tag), (1, v)] rfl ?_
  intro Lf
  refine den_seq ?_
  -- region 0
  refine den_region rfl ?_
  refine WL_alloc zer26 rfl rfl fun b4 => ?_
  refine WL_nil ?_
  refine den_seq ?_
  -- region 1
  refine den_region rfl ?_
  refine WL_v (v_move rfl) rfl ?_
  refine WL_tobytes Tryz.underlying9 Tryz.underlying53 Tryz.underlying5 rfl rfl fun b7 cap7 pad7 fr7 h7 hc7 hl7 hb7 => ?_
  refine WL_callq rfl (rsum_fn _ tag.data.toList _ (Bs.row hb7 (by simp) hc7) (by rw [sz_list]; omega)) rfl ?_
  refine WL_alloc zer26 rfl rfl fun b5 => ?_
  refine WL_store0 rfl rfl rfl siz26 (spl_all rfl) rfl rfl ?_
  refine WL_nil ?_
  refine den_seq ?_
  -- region 2
  refine den_region rfl ?_
  refine WL_freeze fun h1 hl1 hb5 => ?_
  refine WL_buildSlice Tryz.underlying53 zer5 rfl siz5 rfl rfl rfl rfl rfl fun b9 => ?_
  refine WL_v (v_slicea0 Tryz.underlying26 siz5 rfl) rfl ?_
  refine WL_perm (L' := [(b9, .cells ⟨[]⟩ 5 (0, 0))] ++ ((b4, _) :: Lf)) (List.Perm.refl _) ?_
  refine WL_append Tryz.underlying53 Tryz.underlying53 (.inr ⟨_, rfl⟩) siz5 byt5 (by decide) zer5 rfl rfl rfl rfl (OwnS.full (n := 0) (xs := []) rfl (by decide)) (Bs.dig hb5 (by decide)).src (bytes_one _) (by simp) rfl fun v1 L1 ho1 => ?_
  refine WL_v (v_move rfl) rfl ?_
  refine WL_append Tryz.underlying53 Tryz.underlying53 (.inr ⟨_, rfl⟩) siz5 byt5 (by decide) zer5 rfl rfl rfl rfl ho1 (hv.le (hl7.trans hl1)).src (bytes_one _) (by simp; omega) rfl fun v2 L2 ho2 => ?_
  rw [List.nil_append, ← List.map_append] at ho2
  refine WL_freezeS ho2 fun h5 hl5 hbs => ?_
  refine WL_callq rfl (rsum_fn _ _ _ hbs (by simp; omega)) rfl ?_
  refine WL_store0 rfl rfl rfl siz26 (spl_all rfl) rfl rfl ?_
  refine WL_nil ?_
  refine den_ret ?_
  refine endsr1 Tryz.results77 (rv_n many26 rfl (Kn.own 0 rfl) (show cut 0 32 (dcells _) = some (dcells _) from rfl)) (hl7.trans (hl1.trans hl5)) (.cons _ (List.Sublist.refl _)) ⟨?_, rfl⟩
  rw [tagged]

end Go.Proofs.Ch
