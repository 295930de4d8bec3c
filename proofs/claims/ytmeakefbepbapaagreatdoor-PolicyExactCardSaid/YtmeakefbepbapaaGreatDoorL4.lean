/- Walks of the program's functions, printed by my own generator (layer L4). -/
import Derived.Test.YtmeakefbepbapaaGreatDoorL3
import Derived.Test.YtmeakefbepbapaaGreatDoorS3
namespace Go.Proofs.Ch
open Go Go.Proofs
set_option maxRecDepth 4000
set_option maxHeartbeats 1000000
theorem one150 : One Tryz.prog 150 := One.of Tryz.underlying150 rfl
theorem siz150 : Siz Tryz.prog 150 1 := by show _ = _; kernel_rfl
theorem siz152 : Siz Tryz.prog 152 8 := by show _ = _; kernel_rfl
theorem many152 : Many Tryz.prog 152 8 := Many.of Tryz.underlying152 rfl siz152
theorem zer191 : Zer Tryz.prog 191 (.agg ⟨[.int .u32 0, .int .u32 0, .int .u32 0, .int .u32 0, .int .u32 0, .int .u32 0, .int .u32 0, .int .u32 0, .int .u32 0, .int .u32 0, .int .u32 0, .int .u32 0, .int .u32 0, .int .u32 0, .int .u32 0, .int .u32 0, .int .u32 0, .int .u32 0, .int .u32 0, .int .u32 0, .int .u32 0, .int .u32 0, .int .u32 0, .int .u32 0, .int .u32 0, .int .u32 0, .int .u32 0, .int .u32 0, .int .u32 0, .int .u32 0, .int .u32 0, .int .u32 0, .int .u32 0, .int .u32 0, .int .u32 0, .int .u32 0, .int .u32 0, .int .u32 0, .int .u32 0, .int .u32 0, .int .u32 0, .int .u32 0, .int .u32 0, .int .u32 0, .int .u32 0, .int .u32 0, .int .u32 0, .int .u32 0, .int .u32 0, .int .u32 0, .int .u32 0, .int .u32 0, .int .u32 0, .int .u32 0, .int .u32 0, .int .u32 0, .int .u32 0, .int .u32 0, .int .u32 0, .int .u32 0, .int .u32 0, .int .u32 0, .int .u32 0, .int .u32 0]⟩) := by show _ = _; kernel_rfl
theorem zer152 : Zer Tryz.prog 152 (.agg ⟨[.int .u32 0, .int .u32 0, .int .u32 0, .int .u32 0, .int .u32 0, .int .u32 0, .int .u32 0, .int .u32 0]⟩) := by show _ = _; kernel_rfl
theorem zer26 : Zer Tryz.prog 26 (.agg ⟨[.int .u8 0, .int .u8 0, .int .u8 0, .int .u8 0, .int .u8 0, .int .u8 0, .int .u8 0, .int .u8 0, .int .u8 0, .int .u8 0, .int .u8 0, .int .u8 0, .int .u8 0, .int .u8 0, .int .u8 0, .int .u8 0, .int .u8 0, .int .u8 0, .int .u8 0, .int .u8 0, .int .u8 0, .int .u8 0, .int .u8 0, .int .u8 0, .int .u8 0, .int .u8 0, .int .u8 0, .int .u8 0, .int .u8 0, .int .u8 0, .int .u8 0, .int .u8 0]⟩) := by show _ = _; kernel_rfl
theorem siz151 : Siz Tryz.prog 151 8 := by show _ = _; kernel_rfl
theorem many151 : Many Tryz.prog 151 8 := Many.of Tryz.underlying151 rfl siz151
theorem byt5 : Byt Tryz.prog 5 1 := by show _ = _; kernel_rfl
theorem zer5 : Zer Tryz.prog 5 (.int .u8 0) := by show _ = _; kernel_rfl
theorem siz53 : Siz Tryz.prog 53 1 := by show _ = _; kernel_rfl
theorem one53 : One Tryz.prog 53 := One.of Tryz.underlying53 rfl
theorem zer53 : Zer Tryz.prog 53 (.slice none 0 0) := by show _ = _; kernel_rfl
/-- the variables of the hash, as the program lays them -/
def Gl (h : Heap) : Prop := (∃ T fr, h 0 = some (.cells ⟨start8.cells⟩ T fr)) ∧ ∃ T fr, h 1 = some (.cells ⟨kcells⟩ T fr)
theorem Gl.le {h h' : Heap} (g : Gl h) (hl : Heap.le h h') : Gl h' := by
  obtain ⟨⟨T, fr, h1⟩, T2, fr2, h2⟩ := g
  exact ⟨⟨T, fr, hl _ _ h1⟩, T2, fr2, hl _ _ h2⟩

theorem rotated_fn (v : UInt32) (a b c : Nat) (ha : 1 ≤ a ∧ a ≤ 31) (hb : 1 ≤ b ∧ b ≤ 31) (hc : 1 ≤ c ∧ c ≤ 31) (h : Heap) : Fn0 Tryz.prog 121 [w32 v, .int .i64 (a : Int), .int .i64 (b : Int), .int .i64 (c : Int)] h (w32 (rot3 v a b c)) := by
  refine Tr_of Tryz.func121 rfl rfl Tryz.ntmps121 rfl [(0, w32 v), (1, .int .i64 (a : Int)), (2, .int .i64 (b : Int)), (3, .int .i64 (c : Int))] rfl ?_
  intro Lf
  refine den_seq ?_
  -- region 0
  refine den_region rfl ?_
  refine WL_v (v_assign rfl) rfl ?_
  refine WL_nil ?_
  refine den_seq ?_
  -- region 1
  refine den_region rfl ?_
  refine WL_v (v_move rfl) rfl ?_
  refine WL_v (v_move rfl) rfl ?_
  refine WL_v (v_neg (z := -(a : Int)) rfl (by rw [Int.zero_sub]; exact wrap_i64 (by omega) (by omega))) rfl ?_
  refine WL_callq rfl (rotl_fn _ a ha.1 ha.2 _) rfl ?_
  refine WL_v (v_move rfl) rfl ?_
  refine WL_v (v_move rfl) rfl ?_
  refine WL_v (v_neg (z := -(b : Int)) rfl (by rw [Int.zero_sub]; exact wrap_i64 (by omega) (by omega))) rfl ?_
  refine WL_callq rfl (rotl_fn _ b hb.1 hb.2 _) rfl ?_
  refine WL_v (v_xor32 rfl rfl) rfl ?_
  refine WL_v (v_move rfl) rfl ?_
  refine WL_v (v_move rfl) rfl ?_
  refine WL_v (v_neg (z := -(c : Int)) rfl (by rw [Int.zero_sub]; exact wrap_i64 (by omega) (by omega))) rfl ?_
  refine WL_callq rfl (rotl_fn _ c hc.1 hc.2 _) rfl ?_
  refine WL_v (v_xor32 rfl rfl) rfl ?_
  refine WL_v (v_assign rfl) rfl ?_
  refine WL_nil ?_
  refine den_ret ?_
  exact ends1 Tryz.results121 rfl (Heap.le.refl _) (by simp) ⟨rfl, rfl⟩

theorem word_fn (x : Nat → UInt8) (b off len cap : Nat) (cs : List Value) (T : TypeId) (fr : Nat × Nat) (h : Heap) (hc : 4 ≤ cap) (hb : h b = some (.cells ⟨cs⟩ T fr)) (hx : ∀ j, j < 4 → cs[off + j]? = some (byteV (x j))) : Fn0 Tryz.prog 119 [.slice (some ⟨b, off, none⟩) len cap] h (w32 (be4 (x 0) (x 1) (x 2) (x 3))) := by
  refine Tr_of Tryz.func119 rfl rfl Tryz.ntmps119 rfl [(0, .slice (some ⟨b, off, none⟩) len cap)] rfl ?_
  intro Lf
  refine den_seq ?_
  -- region 0
  refine den_region rfl ?_
  refine WL_v (v_assign rfl) rfl ?_
  refine WL_nil ?_
  refine den_seq ?_
  refine den_seq ?_
  -- region 1
  refine den_region rfl ?_
  refine WL_v (v_move rfl) rfl ?_
  refine WL_v (v_slices0 (m := 4) Tryz.underlying53 siz5 rfl (Bnd.some rfl rfl) (by omega)) rfl ?_
  refine WL_v (v_lens Tryz.underlying53 rfl) rfl ?_
  refine WL_v (v_move rfl) rfl ?_
  refine WL_nil ?_
  refine den_block ?_
  refine den_loopI (ι := Nat) (fun i => [(2, w32 (wp x i)), (6, .slice (some ⟨b, off, none⟩) 4 cap), (7, .int .i64 4), (8, .int .i64 ((i : Nat) : Int))]) (fun i h' L' => i ≤ 4 ∧ h = h' ∧ Lf = L') (fun i => 4 - i) 0 (sub_cons rfl (sub_cons rfl (sub_cons rfl (sub_cons rfl sub_nil)))) ⟨by omega, rfl, rfl⟩ ?_
  rintro i _ _ ⟨i1, rfl, rfl⟩
  refine den_seq ?_
  -- region 2
  refine den_region rfl ?_
  refine WL_v (v_lss rfl rfl) rfl ?_
  refine WL_nil ?_
  refine den_seq ?_
  first | refine den_ifd rfl (fun hi => ?_) (fun hi => ?_) | refine den_if rfl (fun hi => ?_) (fun hi => ?_)
  · skip
    refine den_skip ?_
    refine den_seq ?_
    refine den_block ?_
    refine den_seq ?_
    -- region 3
    refine den_region rfl ?_
    refine WL_v (v_iaddrs Tryz.underlying53 siz5 rfl rfl rfl (by omega)) rfl ?_
    refine WL_v (v_load1 one5 rfl (Kn.per hb) (by rw [Nat.mul_one]; exact hx i (by omega))) rfl ?_
    refine WL_v (v_assign rfl) rfl ?_
    refine WL_nil ?_
    -- region 4
    refine den_region rfl ?_
    refine WL_v (v_move rfl) rfl ?_
    refine WL_v (v_shl32 (s := 8) rfl rfl (by omega)) rfl ?_
    refine WL_v (v_move rfl) rfl ?_
    refine WL_v (v_conv8_32 Tryz.underlying5 Tryz.underlying150 rfl) rfl ?_
    refine WL_v (v_or32 rfl rfl) rfl ?_
    refine WL_v (v_assign rfl) rfl ?_
    refine WL_nil ?_
    refine den_blk ?_
    -- region 5
    refine den_region rfl ?_
    refine WL_v (v_addj (n := 1) rfl rfl (by show _ < 9223372036854775808; omega)) rfl ?_
    refine WL_v (v_move rfl) rfl ?_
    refine WL_nil ?_
    refine den_again ⟨rfl, (i + 1), (by show 4 - (i + 1) < 4 - i; omega), (sub_cons rfl (sub_cons rfl (sub_cons rfl (sub_cons rfl sub_nil)))), ⟨by omega, rfl, rfl⟩⟩
  · skip
    have hi4 : i = 4 := by omega
    subst hi4
    refine den_exit rfl ?_
    refine den_seq ?_
    -- region 6
    refine den_region rfl ?_
    refine WL_v (v_move rfl) rfl ?_
    refine WL_v (v_assign rfl) rfl ?_
    refine WL_nil ?_
    refine den_ret ?_
    exact ends1 Tryz.results119 rfl (Heap.le.refl _) (by simp) ⟨rfl, rfl⟩

theorem put_fn (b off len cap n N : Nat) (f : Nat → Value) (T : TypeId) (h : Heap) (hn : n < 18446744073709551616) (hN : off + len ≤ N) (hl : len ≤ 8) : Tr Tryz.prog 92 [.slice (some ⟨b, off, none⟩) len cap, .int .u64 (n : Int)] h [(b, .cells ⟨tab N f⟩ T (0, 0))] (fun _ _ L' => L' = [(b, .cells ⟨ptab N f n off len len⟩ T (0, 0))]) := by
  refine Tr_of Tryz.func92 rfl rfl Tryz.ntmps92 rfl [(0, .slice (some ⟨b, off, none⟩) len cap), (1, .int .u64 (n : Int))] rfl ?_
  intro Lf
  refine den_seq ?_
  -- region 0
  refine den_region rfl ?_
  refine WL_v (v_move rfl) rfl ?_
  refine WL_v (v_lens Tryz.underlying53 rfl) rfl ?_
  refine WL_v (v_move rfl) rfl ?_
  refine WL_nil ?_
  refine den_block ?_
  refine den_loopI (ι := Nat) (fun i => [(0, .slice (some ⟨b, off, none⟩) len cap), (1, .int .u64 (n : Int)), (6, .int .i64 ((len : Nat) : Int)), (7, .int .i64 ((i : Nat) : Int))]) (fun i h' L' => i ≤ len ∧ h = h' ∧ L' = (b, .cells ⟨ptab N f n off len i⟩ T (0, 0)) :: Lf) (fun i => len - i) 0 (sub_cons rfl (sub_cons rfl (sub_cons rfl (sub_cons rfl sub_nil)))) ⟨by omega, rfl, by rw [← ptab_0]; rfl⟩ ?_
  rintro i _ _ ⟨i1, rfl, rfl⟩
  refine den_seq ?_
  -- region 1
  refine den_region rfl ?_
  refine WL_v (v_lss rfl rfl) rfl ?_
  refine WL_nil ?_
  refine den_seq ?_
  first | refine den_ifd rfl (fun hi => ?_) (fun hi => ?_) | refine den_if rfl (fun hi => ?_) (fun hi => ?_)
  · skip
    refine den_skip ?_
    refine den_seq ?_
    refine den_block ?_
    refine den_seq ?_
    -- region 2
    refine den_region rfl ?_
    refine WL_v (v_move rfl) rfl ?_
    refine WL_v (v_assign rfl) rfl ?_
    refine WL_nil ?_
    -- region 3
    refine den_region rfl ?_
    refine WL_v (v_move rfl) rfl ?_
    refine WL_v (v_move rfl) rfl ?_
    refine WL_v (v_lens Tryz.underlying53 rfl) rfl ?_
    refine WL_v (v_subj (n := 1) rfl rfl (by omega) (by show _ < 9223372036854775808; omega)) rfl ?_
    refine WL_v (v_move rfl) rfl ?_
    refine WL_v (v_subj rfl rfl (by omega) (by show _ < 9223372036854775808; omega)) rfl ?_
    refine WL_v (v_move rfl) rfl ?_
    refine WL_v (v_move rfl) rfl ?_
    refine WL_v (v_mulj (m := 8) rfl rfl (by show _ < 9223372036854775808; omega)) rfl ?_
    refine WL_v (v_shrn (s := 8 * i) rfl rfl (by show _ < 18446744073709551616; omega)) rfl ?_
    refine WL_v (v_conv64_8 Tryz.underlying148 Tryz.underlying5 rfl) rfl ?_
    refine WL_v (v_iaddrs Tryz.underlying53 siz5 rfl rfl rfl (by omega)) rfl ?_
    refine WL_store0 rfl rfl rfl siz5 (ptab_next (by omega) hN (by rw [Nat.mul_one])) rfl rfl ?_
    refine WL_nil ?_
    refine den_blk ?_
    -- region 4
    refine den_region rfl ?_
    refine WL_v (v_addj (n := 1) rfl rfl (by show _ < 9223372036854775808; omega)) rfl ?_
    refine WL_v (v_move rfl) rfl ?_
    refine WL_nil ?_
    refine den_again ⟨rfl, (i + 1), (by show len - (i + 1) < len - i; omega), (sub_cons rfl (sub_cons rfl (sub_cons rfl (sub_cons rfl sub_nil)))), ⟨by omega, rfl, rfl⟩⟩
  · skip
    have hil : i = len := by omega
    subst hil
    refine den_exit rfl ?_
    refine den_nil ?_
    exact ends0 Tryz.results92 (Heap.le.refl _) (List.Sublist.refl _) rfl

theorem absorb_fn (s : S8) (x : Nat → UInt8) (bs b off cap : Nat) (cs : List Value) (Ts Tb Tk : TypeId) (fr frk : Nat × Nat) (h : Heap) (hcap : 64 ≤ cap) (hb : h b = some (.cells ⟨cs⟩ Tb fr)) (hx : ∀ j, j < 64 → cs[off + j]? = some (byteV (x j))) (hk : h 1 = some (.cells ⟨kcells⟩ Tk frk)) : Tr Tryz.prog 91 [.pointer (some ⟨bs, 0, none⟩), .slice (some ⟨b, off, none⟩) 64 cap] h [(bs, .cells ⟨s.cells⟩ Ts (0, 0))] (fun _ _ L' => L' = [(bs, .cells ⟨(absorb s (words x)).cells⟩ Ts (0, 0))]) := by
  refine Tr_of Tryz.func91 rfl rfl Tryz.ntmps91 rfl [(0, .pointer (some ⟨bs, 0, none⟩)), (1, .slice (some ⟨b, off, none⟩) 64 cap)] rfl ?_
  intro Lf
  refine den_seq ?_
  -- region 0
  refine den_region rfl ?_
  refine WL_alloc zer191 rfl rfl fun b4 => ?_
  refine WL_nil ?_
  refine den_seq ?_
  refine den_seq ?_
  -- region 1
  refine den_region rfl ?_
  refine WL_v (v_move rfl) rfl ?_
  refine WL_nil ?_
  refine den_block ?_
  refine den_loopI (ι := Nat) (fun t => [(0, .pointer (some ⟨bs, 0, none⟩)), (1, .slice (some ⟨b, off, none⟩) 64 cap), (4, .pointer (some ⟨b4, 0, none⟩)), (14, .int .i64 ((t : Nat) : Int))]) (fun t h' L' => 0 ≤ t ∧ t ≤ 16 ∧ h = h' ∧ L' = [(b4, .cells ⟨wtab (words x) t⟩ 191 (0, 0)), (bs, .cells ⟨s.cells⟩ Ts (0, 0))] ++ Lf) (fun t => 16 - t) 0 (sub_cons rfl (sub_cons rfl (sub_cons rfl (sub_cons rfl sub_nil)))) ⟨by omega, by omega, rfl, by rw [← wtab_0]; rfl⟩ ?_
  rintro t _ _ ⟨t0, t1, rfl, rfl⟩
  refine den_seq ?_
  -- region 2
  refine den_region rfl ?_
  refine WL_v (v_lss rfl rfl) rfl ?_
  refine WL_nil ?_
  refine den_seq ?_
  first | refine den_ifd rfl (fun hi => ?_) (fun hi => ?_) | refine den_if rfl (fun hi => ?_) (fun hi => ?_)
  · skip
    refine den_skip ?_
    refine den_seq ?_
    refine den_block ?_
    refine den_seq ?_
    -- region 3
    refine den_region rfl ?_
    refine WL_v (v_move rfl) rfl ?_
    refine WL_v (v_assign rfl) rfl ?_
    refine WL_nil ?_
    -- region 4
    refine den_region rfl ?_
    refine WL_v (v_move rfl) rfl ?_
    refine WL_v (v_move rfl) rfl ?_
    refine WL_v (v_move rfl) rfl ?_
    refine WL_v (v_mulj (m := 4) rfl rfl (by omega)) rfl ?_
    refine WL_v (v_slices Tryz.underlying53 siz5 rfl (Bnd.some rfl rfl) rfl (by omega) (by omega)) rfl ?_
    rw [if_neg (show ¬ cap = 4 * t by omega)]
    refine WL_callq rfl (word_fn (fun j => x (4 * t + j)) _ _ _ _ cs Tb fr _ (by omega) hb (fun j hj => by have := hx (4 * t + j) (by omega); rw [Nat.mul_one]; rw [show off + 4 * t + j = off + (4 * t + j) from by omega]; exact this)) rfl ?_
    refine WL_v (v_iaddra Tryz.underlying191 siz150 rfl rfl rfl (by omega)) rfl ?_
    rw [show be4 (x (4 * t + 0)) (x (4 * t + 1)) (x (4 * t + 2)) (x (4 * t + 3)) = wt (words x) t from (wt_lo (m := words x) (t := t) (by omega)).symm]
    refine WL_store0 rfl rfl rfl siz150 (wtab_next (t := t) (by omega) (by omega)) rfl rfl ?_
    refine WL_nil ?_
    refine den_blk ?_
    -- region 5
    refine den_region rfl ?_
    refine WL_v (v_addj (n := 1) rfl rfl (by show _ < 9223372036854775808; omega)) rfl ?_
    refine WL_v (v_move rfl) rfl ?_
    refine WL_nil ?_
    refine den_again ⟨rfl, (t + 1), (by show 16 - (t + 1) < 16 - t; omega), (sub_cons rfl (sub_cons rfl (sub_cons rfl (sub_cons rfl sub_nil)))), ⟨by omega, by omega, rfl, rfl⟩⟩
  · skip
    have ht : t = 16 := by omega
    subst ht
    refine den_exit rfl ?_
    refine den_seq ?_
    refine den_seq ?_
    -- region 6
    refine den_region rfl ?_
    refine WL_v (v_assign rfl) rfl ?_
    refine WL_nil ?_
    refine den_block ?_
    refine den_loopI (ι := Nat) (fun t => [(0, .pointer (some ⟨bs, 0, none⟩)), (4, .pointer (some ⟨b4, 0, none⟩)), (6, .int .i64 ((t : Nat) : Int))]) (fun t h' L' => 16 ≤ t ∧ t ≤ 64 ∧ h = h' ∧ L' = [(b4, .cells ⟨wtab (words x) t⟩ 191 (0, 0)), (bs, .cells ⟨s.cells⟩ Ts (0, 0))] ++ Lf) (fun t => 64 - t) 16 (sub_cons rfl (sub_cons rfl (sub_cons rfl sub_nil))) ⟨by omega, by omega, rfl, rfl⟩ ?_
    rintro t _ _ ⟨t0, t1, rfl, rfl⟩
    refine den_seq ?_
    refine den_seq ?_
    -- region 7
    refine den_region rfl ?_
    refine WL_v (v_move rfl) rfl ?_
    refine WL_v (v_lss rfl rfl) rfl ?_
    refine WL_nil ?_
    first | refine den_ifd rfl (fun hi => ?_) (fun hi => ?_) | refine den_if rfl (fun hi => ?_) (fun hi => ?_)
    · skip
      refine den_skip ?_
      refine den_seq ?_
      refine den_block ?_
      refine den_seq ?_
      -- region 9
      refine den_draw [] (by kernel_rfl) (by kernel_rfl) (NoP.fn) (rem := [0, 1, 2, 3, 4, 5, 6, 7, 8, 9]) (by kernel_rfl) ?_
      refine QS_v (i := 0) rfl (v_move rfl) (by kernel_rfl) (by kernel_rfl) (by kernel_rfl) (rem' := [1, 2, 3, 4, 5, 6, 7, 8, 9]) (by kernel_rfl) rfl ?_
      refine QS_v (i := 1) rfl (v_subj (n := 15) rfl rfl (by omega) (by show _ < 9223372036854775808; omega)) (by kernel_rfl) (by kernel_rfl) (by kernel_rfl) (rem' := [2, 3, 4, 5, 6, 7, 8, 9]) (by kernel_rfl) rfl ?_
      refine QS_v (i := 2) rfl (v_iaddra Tryz.underlying191 siz150 rfl rfl rfl (by omega)) (by kernel_rfl) (by kernel_rfl) (by kernel_rfl) (rem' := [3, 4, 5, 6, 7, 8, 9]) (by kernel_rfl) rfl ?_
      refine QS_v (i := 3) rfl (v_load1 one150 rfl (Kn.own 0 rfl) (wtab_get (m := words x) (t := t) (k := t - 15) (by omega) (by omega) (by omega))) (by kernel_rfl) (by kernel_rfl) (by kernel_rfl) (rem' := [4, 5, 6, 7, 8, 9]) (by kernel_rfl) rfl ?_
      refine QS_v (i := 4) rfl (v_move rfl) (by kernel_rfl) (by kernel_rfl) (by kernel_rfl) (rem' := [5, 6, 7, 8, 9]) (by kernel_rfl) rfl ?_
      refine QS_v (i := 5) rfl (v_subj (n := 2) rfl rfl (by omega) (by show _ < 9223372036854775808; omega)) (by kernel_rfl) (by kernel_rfl) (by kernel_rfl) (rem' := [6, 7, 8, 9]) (by kernel_rfl) rfl ?_
      refine QS_v (i := 6) rfl (v_iaddra Tryz.underlying191 siz150 rfl rfl rfl (by omega)) (by kernel_rfl) (by kernel_rfl) (by kernel_rfl) (rem' := [7, 8, 9]) (by kernel_rfl) rfl ?_
      refine QS_v (i := 7) rfl (v_load1 one150 rfl (Kn.own 0 rfl) (wtab_get (m := words x) (t := t) (k := t - 2) (by omega) (by omega) (by omega))) (by kernel_rfl) (by kernel_rfl) (by kernel_rfl) (rem' := [8, 9]) (by kernel_rfl) rfl ?_
      refine QS_v (i := 8) rfl (v_assign rfl) (by kernel_rfl) (by kernel_rfl) (by kernel_rfl) (rem' := [9]) (by kernel_rfl) rfl ?_
      refine QS_v (i := 9) rfl (v_assign rfl) (by kernel_rfl) (by kernel_rfl) (by kernel_rfl) (rem' := []) (by kernel_rfl) rfl ?_
      refine QS_nil ?_
      -- region 10
      refine den_draw [29] (by kernel_rfl) (by kernel_rfl) (NoP.fn) (rem := [0, 1, 2, 3, 4, 5, 6, 7, 8, 9, 10, 11, 12, 13, 14, 15, 16, 17, 18, 19, 20, 21, 22, 23, 24, 25, 26, 27, 28, 29]) (by kernel_rfl) ?_
      refine QS_v (i := 0) rfl (v_move rfl) (by kernel_rfl) (by kernel_rfl) (by kernel_rfl) (rem' := [1, 2, 3, 4, 5, 6, 7, 8, 9, 10, 11, 12, 13, 14, 15, 16, 17, 18, 19, 20, 21, 22, 23, 24, 25, 26, 27, 28, 29]) (by kernel_rfl) rfl ?_
      refine QS_v (i := 1) rfl (v_move rfl) (by kernel_rfl) (by kernel_rfl) (by kernel_rfl) (rem' := [2, 3, 4, 5, 6, 7, 8, 9, 10, 11, 12, 13, 14, 15, 16, 17, 18, 19, 20, 21, 22, 23, 24, 25, 26, 27, 28, 29]) (by kernel_rfl) rfl ?_
      refine QS_v (i := 2) rfl (v_subj (n := 16) rfl rfl (by omega) (by show _ < 9223372036854775808; omega)) (by kernel_rfl) (by kernel_rfl) (by kernel_rfl) (rem' := [3, 4, 5, 6, 7, 8, 9, 10, 11, 12, 13, 14, 15, 16, 17, 18, 19, 20, 21, 22, 23, 24, 25, 26, 27, 28, 29]) (by kernel_rfl) rfl ?_
      refine QS_v (i := 3) rfl (v_iaddra Tryz.underlying191 siz150 rfl rfl rfl (by omega)) (by kernel_rfl) (by kernel_rfl) (by kernel_rfl) (rem' := [4, 5, 6, 7, 8, 9, 10, 11, 12, 13, 14, 15, 16, 17, 18, 19, 20, 21, 22, 23, 24, 25, 26, 27, 28, 29]) (by kernel_rfl) rfl ?_
      refine QS_v (i := 4) rfl (v_load1 one150 rfl (Kn.own 0 rfl) (wtab_get (m := words x) (t := t) (k := t - 16) (by omega) (by omega) (by omega))) (by kernel_rfl) (by kernel_rfl) (by kernel_rfl) (rem' := [5, 6, 7, 8, 9, 10, 11, 12, 13, 14, 15, 16, 17, 18, 19, 20, 21, 22, 23, 24, 25, 26, 27, 28, 29]) (by kernel_rfl) rfl ?_
      refine QS_v (i := 5) rfl (v_move rfl) (by kernel_rfl) (by kernel_rfl) (by kernel_rfl) (rem' := [6, 7, 8, 9, 10, 11, 12, 13, 14, 15, 16, 17, 18, 19, 20, 21, 22, 23, 24, 25, 26, 27, 28, 29]) (by kernel_rfl) rfl ?_
      refine QS_v (i := 7) rfl (v_move rfl) (by kernel_rfl) (by kernel_rfl) (by kernel_rfl) (rem' := [6, 8, 9, 10, 11, 12, 13, 14, 15, 16, 17, 18, 19, 20, 21, 22, 23, 24, 25, 26, 27, 28, 29]) (by kernel_rfl) rfl ?_
      refine QS_v (i := 10) rfl (v_move rfl) (by kernel_rfl) (by kernel_rfl) (by kernel_rfl) (rem' := [6, 8, 9, 11, 12, 13, 14, 15, 16, 17, 18, 19, 20, 21, 22, 23, 24, 25, 26, 27, 28, 29]) (by kernel_rfl) rfl ?_
      refine QS_v (i := 11) rfl (v_shr32 (s := 3) rfl rfl (by omega)) (by kernel_rfl) (by kernel_rfl) (by kernel_rfl) (rem' := [6, 8, 9, 12, 13, 14, 15, 16, 17, 18, 19, 20, 21, 22, 23, 24, 25, 26, 27, 28, 29]) (by kernel_rfl) rfl ?_
      refine QS_v (i := 14) rfl (v_move rfl) (by kernel_rfl) (by kernel_rfl) (by kernel_rfl) (rem' := [6, 8, 9, 12, 13, 15, 16, 17, 18, 19, 20, 21, 22, 23, 24, 25, 26, 27, 28, 29]) (by kernel_rfl) rfl ?_
      refine QS_v (i := 15) rfl (v_subj (n := 7) rfl rfl (by omega) (by show _ < 9223372036854775808; omega)) (by kernel_rfl) (by kernel_rfl) (by kernel_rfl) (rem' := [6, 8, 9, 12, 13, 16, 17, 18, 19, 20, 21, 22, 23, 24, 25, 26, 27, 28, 29]) (by kernel_rfl) rfl ?_
      refine QS_v (i := 16) rfl (v_iaddra Tryz.underlying191 siz150 rfl rfl rfl (by omega)) (by kernel_rfl) (by kernel_rfl) (by kernel_rfl) (rem' := [6, 8, 9, 12, 13, 17, 18, 19, 20, 21, 22, 23, 24, 25, 26, 27, 28, 29]) (by kernel_rfl) rfl ?_
      refine QS_v (i := 17) rfl (v_load1 one150 rfl (Kn.own 0 rfl) (wtab_get (m := words x) (t := t) (k := t - 7) (by omega) (by omega) (by omega))) (by kernel_rfl) (by kernel_rfl) (by kernel_rfl) (rem' := [6, 8, 9, 12, 13, 18, 19, 20, 21, 22, 23, 24, 25, 26, 27, 28, 29]) (by kernel_rfl) rfl ?_
      refine QS_v (i := 19) rfl (v_move rfl) (by kernel_rfl) (by kernel_rfl) (by kernel_rfl) (rem' := [6, 8, 9, 12, 13, 18, 20, 21, 22, 23, 24, 25, 26, 27, 28, 29]) (by kernel_rfl) rfl ?_
      refine QS_v (i := 21) rfl (v_move rfl) (by kernel_rfl) (by kernel_rfl) (by kernel_rfl) (rem' := [6, 8, 9, 12, 13, 18, 20, 22, 23, 24, 25, 26, 27, 28, 29]) (by kernel_rfl) rfl ?_
      refine QS_v (i := 24) rfl (v_move rfl) (by kernel_rfl) (by kernel_rfl) (by kernel_rfl) (rem' := [6, 8, 9, 12, 13, 18, 20, 22, 23, 25, 26, 27, 28, 29]) (by kernel_rfl) rfl ?_
      refine QS_v (i := 25) rfl (v_shr32 (s := 10) rfl rfl (by omega)) (by kernel_rfl) (by kernel_rfl) (by kernel_rfl) (rem' := [6, 8, 9, 12, 13, 18, 20, 22, 23, 26, 27, 28, 29]) (by kernel_rfl) rfl ?_
      refine QS_step (is := [6]) rfl (by kernel_rfl) ?_
      refine qall1 ?_
      refine qs_callq rfl rfl (rotl_fn _ 7 (by decide) (by decide) _) rfl (rem' := [8, 9, 12, 13, 18, 20, 22, 23, 26, 27, 28, 29]) (by kernel_rfl) ?_
      refine QS_step (is := [8]) rfl (by kernel_rfl) ?_
      refine qall1 ?_
      refine qs_callq rfl rfl (rotl_fn _ 18 (by decide) (by decide) _) rfl (rem' := [9, 12, 13, 18, 20, 22, 23, 26, 27, 28, 29]) (by kernel_rfl) ?_
      refine QS_v (i := 9) rfl (v_xor32 rfl rfl) (by kernel_rfl) (by kernel_rfl) (by kernel_rfl) (rem' := [12, 13, 18, 20, 22, 23, 26, 27, 28, 29]) (by kernel_rfl) rfl ?_
      refine QS_v (i := 12) rfl (v_xor32 rfl rfl) (by kernel_rfl) (by kernel_rfl) (by kernel_rfl) (rem' := [13, 18, 20, 22, 23, 26, 27, 28, 29]) (by kernel_rfl) rfl ?_
      refine QS_v (i := 13) rfl (v_add32 rfl rfl) (by kernel_rfl) (by kernel_rfl) (by kernel_rfl) (rem' := [18, 20, 22, 23, 26, 27, 28, 29]) (by kernel_rfl) rfl ?_
      refine QS_v (i := 18) rfl (v_add32 rfl rfl) (by kernel_rfl) (by kernel_rfl) (by kernel_rfl) (rem' := [20, 22, 23, 26, 27, 28, 29]) (by kernel_rfl) rfl ?_
      refine QS_step (is := [20]) rfl (by kernel_rfl) ?_
      refine qall1 ?_
      refine qs_callq rfl rfl (rotl_fn _ 17 (by decide) (by decide) _) rfl (rem' := [22, 23, 26, 27, 28, 29]) (by kernel_rfl) ?_
      refine QS_step (is := [22]) rfl (by kernel_rfl) ?_
      refine qall1 ?_
      refine qs_callq rfl rfl (rotl_fn _ 19 (by decide) (by decide) _) rfl (rem' := [23, 26, 27, 28, 29]) (by kernel_rfl) ?_
      refine QS_v (i := 23) rfl (v_xor32 rfl rfl) (by kernel_rfl) (by kernel_rfl) (by kernel_rfl) (rem' := [26, 27, 28, 29]) (by kernel_rfl) rfl ?_
      refine QS_v (i := 26) rfl (v_xor32 rfl rfl) (by kernel_rfl) (by kernel_rfl) (by kernel_rfl) (rem' := [27, 28, 29]) (by kernel_rfl) rfl ?_
      refine QS_v (i := 27) rfl (v_add32 rfl rfl) (by kernel_rfl) (by kernel_rfl) (by kernel_rfl) (rem' := [28, 29]) (by kernel_rfl) rfl ?_
      refine QS_v (i := 28) rfl (v_iaddra Tryz.underlying191 siz150 rfl rfl rfl (by omega)) (by kernel_rfl) (by kernel_rfl) (by kernel_rfl) (rem' := [29]) (by kernel_rfl) rfl ?_
      refine QS_step (is := [29]) rfl (by kernel_rfl) ?_
      refine qall1 ?_
      rw [show wt (words x) (t - 16) + (ror32 (wt (words x) (t - 15)) 7 ^^^ ror32 (wt (words x) (t - 15)) 18 ^^^ shr32 (wt (words x) (t - 15)) 3) + wt (words x) (t - 7) + (ror32 (wt (words x) (t - 2)) 17 ^^^ ror32 (wt (words x) (t - 2)) 19 ^^^ shr32 (wt (words x) (t - 2)) 10) = wt (words x) t from (wt_hi (m := words x) (t := t) (by omega)).symm]
      refine qs_store (A := []) rfl rfl rfl rfl siz150 (wtab_next (t := t) (by omega) (by omega)) rfl rfl rfl (rem' := []) (by kernel_rfl) rfl rfl ?_
      refine QS_nil ?_
      refine den_blk ?_
      -- region 8
      refine den_region rfl ?_
      refine WL_v (v_move rfl) rfl ?_
      refine WL_v (v_addj (n := 1) rfl rfl (by show _ < 9223372036854775808; omega)) rfl ?_
      refine WL_v (v_assign rfl) rfl ?_
      refine WL_nil ?_
      refine den_again ⟨rfl, (t + 1), (by show 64 - (t + 1) < 64 - t; omega), (sub_cons rfl (sub_cons rfl (sub_cons rfl sub_nil))), ⟨by omega, by omega, rfl, rfl⟩⟩
    · skip
      have ht : t = 64 := by omega
      subst ht
      refine den_exit rfl ?_
      refine den_seq ?_
      -- region 11
      refine den_region rfl ?_
      refine WL_v (v_move rfl) rfl ?_
      refine WL_v (v_nilptr rfl) rfl ?_
      refine WL_v (v_loadn many152 rfl (Kn.own 1 rfl) rfl) rfl ?_
      refine WL_alloc zer152 rfl rfl fun b9 => ?_
      refine WL_store0 rfl rfl rfl siz152 rfl rfl rfl ?_
      refine WL_nil ?_
      refine den_seq ?_
      refine den_seq ?_
      -- region 12
      refine den_region rfl ?_
      refine WL_v (v_move rfl) rfl ?_
      refine WL_nil ?_
      refine den_block ?_
      refine den_loopI (ι := Nat) (fun t => [(0, .pointer (some ⟨bs, 0, none⟩)), (4, .pointer (some ⟨b4, 0, none⟩)), (9, .pointer (some ⟨b9, 0, none⟩)), (69, .int .i64 ((t : Nat) : Int))]) (fun t h' L' => 0 ≤ t ∧ t ≤ 64 ∧ h = h' ∧ L' = [(b9, .cells ⟨(rnds s (words x) t).cells⟩ 152 (0, 0)), (b4, .cells ⟨wtab (words x) 64⟩ 191 (0, 0)), (bs, .cells ⟨s.cells⟩ Ts (0, 0))] ++ Lf) (fun t => 64 - t) 0 (sub_cons rfl (sub_cons rfl (sub_cons rfl (sub_cons rfl sub_nil)))) ⟨by omega, by omega, rfl, rfl⟩ ?_
      rintro t _ _ ⟨t0, t1, rfl, rfl⟩
      refine den_seq ?_
      -- region 13
      refine den_region rfl ?_
      refine WL_v (v_lss rfl rfl) rfl ?_
      refine WL_nil ?_
      refine den_seq ?_
      first | refine den_ifd rfl (fun hi => ?_) (fun hi => ?_) | refine den_if rfl (fun hi => ?_) (fun hi => ?_)
      · skip
        refine den_skip ?_
        refine den_seq ?_
        refine den_block ?_
        refine den_seq ?_
        -- region 14
        refine den_region rfl ?_
        refine WL_v (v_move rfl) rfl ?_
        refine WL_v (v_assign rfl) rfl ?_
        refine WL_nil ?_
        refine den_seq ?_
        -- region 15
        refine den_draw [] (by kernel_rfl) (by kernel_rfl) (NoP.fn) (rem := [0, 1, 2, 3, 4, 5, 6, 7, 8, 9, 10, 11, 12, 13, 14, 15, 16, 17, 18, 19, 20, 21, 22, 23, 24, 25, 26]) (by kernel_rfl) ?_
        refine QS_v (i := 0) rfl (v_iaddra (n := 7) Tryz.underlying152 siz150 rfl rfl rfl (by decide)) (by kernel_rfl) (by kernel_rfl) (by kernel_rfl) (rem' := [1, 2, 3, 4, 5, 6, 7, 8, 9, 10, 11, 12, 13, 14, 15, 16, 17, 18, 19, 20, 21, 22, 23, 24, 25, 26]) (by kernel_rfl) rfl ?_
        refine QS_v (i := 1) rfl (v_load1 one150 rfl (Kn.own 0 rfl) rfl) (by kernel_rfl) (by kernel_rfl) (by kernel_rfl) (rem' := [2, 3, 4, 5, 6, 7, 8, 9, 10, 11, 12, 13, 14, 15, 16, 17, 18, 19, 20, 21, 22, 23, 24, 25, 26]) (by kernel_rfl) rfl ?_
        refine QS_v (i := 2) rfl (v_iaddra (n := 4) Tryz.underlying152 siz150 rfl rfl rfl (by decide)) (by kernel_rfl) (by kernel_rfl) (by kernel_rfl) (rem' := [3, 4, 5, 6, 7, 8, 9, 10, 11, 12, 13, 14, 15, 16, 17, 18, 19, 20, 21, 22, 23, 24, 25, 26]) (by kernel_rfl) rfl ?_
        refine QS_v (i := 3) rfl (v_load1 one150 rfl (Kn.own 0 rfl) rfl) (by kernel_rfl) (by kernel_rfl) (by kernel_rfl) (rem' := [4, 5, 6, 7, 8, 9, 10, 11, 12, 13, 14, 15, 16, 17, 18, 19, 20, 21, 22, 23, 24, 25, 26]) (by kernel_rfl) rfl ?_
        refine QS_v (i := 6) rfl (v_iaddra (n := 6) Tryz.underlying152 siz150 rfl rfl rfl (by decide)) (by kernel_rfl) (by kernel_rfl) (by kernel_rfl) (rem' := [4, 5, 7, 8, 9, 10, 11, 12, 13, 14, 15, 16, 17, 18, 19, 20, 21, 22, 23, 24, 25, 26]) (by kernel_rfl) rfl ?_
        refine QS_v (i := 7) rfl (v_load1 one150 rfl (Kn.own 0 rfl) rfl) (by kernel_rfl) (by kernel_rfl) (by kernel_rfl) (rem' := [4, 5, 8, 9, 10, 11, 12, 13, 14, 15, 16, 17, 18, 19, 20, 21, 22, 23, 24, 25, 26]) (by kernel_rfl) rfl ?_
        refine QS_v (i := 8) rfl (v_iaddra (n := 4) Tryz.underlying152 siz150 rfl rfl rfl (by decide)) (by kernel_rfl) (by kernel_rfl) (by kernel_rfl) (rem' := [4, 5, 9, 10, 11, 12, 13, 14, 15, 16, 17, 18, 19, 20, 21, 22, 23, 24, 25, 26]) (by kernel_rfl) rfl ?_
        refine QS_v (i := 9) rfl (v_load1 one150 rfl (Kn.own 0 rfl) rfl) (by kernel_rfl) (by kernel_rfl) (by kernel_rfl) (rem' := [4, 5, 10, 11, 12, 13, 14, 15, 16, 17, 18, 19, 20, 21, 22, 23, 24, 25, 26]) (by kernel_rfl) rfl ?_
        refine QS_v (i := 10) rfl (v_iaddra (n := 5) Tryz.underlying152 siz150 rfl rfl rfl (by decide)) (by kernel_rfl) (by kernel_rfl) (by kernel_rfl) (rem' := [4, 5, 11, 12, 13, 14, 15, 16, 17, 18, 19, 20, 21, 22, 23, 24, 25, 26]) (by kernel_rfl) rfl ?_
        refine QS_v (i := 11) rfl (v_load1 one150 rfl (Kn.own 0 rfl) rfl) (by kernel_rfl) (by kernel_rfl) (by kernel_rfl) (rem' := [4, 5, 12, 13, 14, 15, 16, 17, 18, 19, 20, 21, 22, 23, 24, 25, 26]) (by kernel_rfl) rfl ?_
        refine QS_v (i := 12) rfl (v_iaddra (n := 6) Tryz.underlying152 siz150 rfl rfl rfl (by decide)) (by kernel_rfl) (by kernel_rfl) (by kernel_rfl) (rem' := [4, 5, 13, 14, 15, 16, 17, 18, 19, 20, 21, 22, 23, 24, 25, 26]) (by kernel_rfl) rfl ?_
        refine QS_v (i := 13) rfl (v_load1 one150 rfl (Kn.own 0 rfl) rfl) (by kernel_rfl) (by kernel_rfl) (by kernel_rfl) (rem' := [4, 5, 14, 15, 16, 17, 18, 19, 20, 21, 22, 23, 24, 25, 26]) (by kernel_rfl) rfl ?_
        refine QS_v (i := 14) rfl (v_xor32 rfl rfl) (by kernel_rfl) (by kernel_rfl) (by kernel_rfl) (rem' := [4, 5, 15, 16, 17, 18, 19, 20, 21, 22, 23, 24, 25, 26]) (by kernel_rfl) rfl ?_
        refine QS_v (i := 15) rfl (v_and32 rfl rfl) (by kernel_rfl) (by kernel_rfl) (by kernel_rfl) (rem' := [4, 5, 16, 17, 18, 19, 20, 21, 22, 23, 24, 25, 26]) (by kernel_rfl) rfl ?_
        refine QS_v (i := 16) rfl (v_xor32 rfl rfl) (by kernel_rfl) (by kernel_rfl) (by kernel_rfl) (rem' := [4, 5, 17, 18, 19, 20, 21, 22, 23, 24, 25, 26]) (by kernel_rfl) rfl ?_
        refine QS_v (i := 18) rfl (v_move rfl) (by kernel_rfl) (by kernel_rfl) (by kernel_rfl) (rem' := [4, 5, 17, 19, 20, 21, 22, 23, 24, 25, 26]) (by kernel_rfl) rfl ?_
        refine QS_v (i := 19) rfl (v_iaddra Tryz.underlying191 siz150 rfl rfl rfl (by omega)) (by kernel_rfl) (by kernel_rfl) (by kernel_rfl) (rem' := [4, 5, 17, 20, 21, 22, 23, 24, 25, 26]) (by kernel_rfl) rfl ?_
        refine QS_v (i := 20) rfl (v_load1 one150 rfl (Kn.per hk) (by rw [Nat.zero_add, Nat.mul_one]; exact kcells_get (by omega))) (by kernel_rfl) (by kernel_rfl) (by kernel_rfl) (rem' := [4, 5, 17, 21, 22, 23, 24, 25, 26]) (by kernel_rfl) rfl ?_
        refine QS_v (i := 22) rfl (v_move rfl) (by kernel_rfl) (by kernel_rfl) (by kernel_rfl) (rem' := [4, 5, 17, 21, 23, 24, 25, 26]) (by kernel_rfl) rfl ?_
        refine QS_v (i := 23) rfl (v_iaddra Tryz.underlying191 siz150 rfl rfl rfl (by omega)) (by kernel_rfl) (by kernel_rfl) (by kernel_rfl) (rem' := [4, 5, 17, 21, 24, 25, 26]) (by kernel_rfl) rfl ?_
        refine QS_v (i := 24) rfl (v_load1 one150 rfl (Kn.own 1 rfl) (wtab_get (m := words x) (t := 64) (k := t) (by omega) (by omega) (by omega))) (by kernel_rfl) (by kernel_rfl) (by kernel_rfl) (rem' := [4, 5, 17, 21, 25, 26]) (by kernel_rfl) rfl ?_
        refine QS_step (is := [4]) rfl (by kernel_rfl) ?_
        refine qall1 ?_
        refine qs_callq rfl rfl (rotated_fn _ 6 11 25 (by decide) (by decide) (by decide) _) rfl (rem' := [5, 17, 21, 25, 26]) (by kernel_rfl) ?_
        refine QS_v (i := 5) rfl (v_add32 rfl rfl) (by kernel_rfl) (by kernel_rfl) (by kernel_rfl) (rem' := [17, 21, 25, 26]) (by kernel_rfl) rfl ?_
        refine QS_v (i := 17) rfl (v_add32 rfl rfl) (by kernel_rfl) (by kernel_rfl) (by kernel_rfl) (rem' := [21, 25, 26]) (by kernel_rfl) rfl ?_
        refine QS_v (i := 21) rfl (v_add32 rfl rfl) (by kernel_rfl) (by kernel_rfl) (by kernel_rfl) (rem' := [25, 26]) (by kernel_rfl) rfl ?_
        refine QS_v (i := 25) rfl (v_add32 rfl rfl) (by kernel_rfl) (by kernel_rfl) (by kernel_rfl) (rem' := [26]) (by kernel_rfl) rfl ?_
        refine QS_v (i := 26) rfl (v_assign rfl) (by kernel_rfl) (by kernel_rfl) (by kernel_rfl) (rem' := []) (by kernel_rfl) rfl ?_
        refine QS_nil ?_
        refine den_seq ?_
        -- region 16
        refine den_draw [] (by kernel_rfl) (by kernel_rfl) (NoP.fn) (rem := [0, 1, 2, 3, 4, 5, 6, 7, 8, 9, 10, 11, 12, 13, 14, 15, 16, 17, 18]) (by kernel_rfl) ?_
        refine QS_v (i := 0) rfl (v_iaddra (n := 0) Tryz.underlying152 siz150 rfl rfl rfl (by decide)) (by kernel_rfl) (by kernel_rfl) (by kernel_rfl) (rem' := [1, 2, 3, 4, 5, 6, 7, 8, 9, 10, 11, 12, 13, 14, 15, 16, 17, 18]) (by kernel_rfl) rfl ?_
        refine QS_v (i := 1) rfl (v_load1 one150 rfl (Kn.own 0 rfl) rfl) (by kernel_rfl) (by kernel_rfl) (by kernel_rfl) (rem' := [2, 3, 4, 5, 6, 7, 8, 9, 10, 11, 12, 13, 14, 15, 16, 17, 18]) (by kernel_rfl) rfl ?_
        refine QS_v (i := 3) rfl (v_iaddra (n := 0) Tryz.underlying152 siz150 rfl rfl rfl (by decide)) (by kernel_rfl) (by kernel_rfl) (by kernel_rfl) (rem' := [2, 4, 5, 6, 7, 8, 9, 10, 11, 12, 13, 14, 15, 16, 17, 18]) (by kernel_rfl) rfl ?_
        refine QS_v (i := 4) rfl (v_load1 one150 rfl (Kn.own 0 rfl) rfl) (by kernel_rfl) (by kernel_rfl) (by kernel_rfl) (rem' := [2, 5, 6, 7, 8, 9, 10, 11, 12, 13, 14, 15, 16, 17, 18]) (by kernel_rfl) rfl ?_
        refine QS_v (i := 5) rfl (v_iaddra (n := 1) Tryz.underlying152 siz150 rfl rfl rfl (by decide)) (by kernel_rfl) (by kernel_rfl) (by kernel_rfl) (rem' := [2, 6, 7, 8, 9, 10, 11, 12, 13, 14, 15, 16, 17, 18]) (by kernel_rfl) rfl ?_
        refine QS_v (i := 6) rfl (v_load1 one150 rfl (Kn.own 0 rfl) rfl) (by kernel_rfl) (by kernel_rfl) (by kernel_rfl) (rem' := [2, 7, 8, 9, 10, 11, 12, 13, 14, 15, 16, 17, 18]) (by kernel_rfl) rfl ?_
        refine QS_v (i := 7) rfl (v_and32 rfl rfl) (by kernel_rfl) (by kernel_rfl) (by kernel_rfl) (rem' := [2, 8, 9, 10, 11, 12, 13, 14, 15, 16, 17, 18]) (by kernel_rfl) rfl ?_
        refine QS_v (i := 8) rfl (v_iaddra (n := 2) Tryz.underlying152 siz150 rfl rfl rfl (by decide)) (by kernel_rfl) (by kernel_rfl) (by kernel_rfl) (rem' := [2, 9, 10, 11, 12, 13, 14, 15, 16, 17, 18]) (by kernel_rfl) rfl ?_
        refine QS_v (i := 9) rfl (v_load1 one150 rfl (Kn.own 0 rfl) rfl) (by kernel_rfl) (by kernel_rfl) (by kernel_rfl) (rem' := [2, 10, 11, 12, 13, 14, 15, 16, 17, 18]) (by kernel_rfl) rfl ?_
        refine QS_v (i := 10) rfl (v_iaddra (n := 0) Tryz.underlying152 siz150 rfl rfl rfl (by decide)) (by kernel_rfl) (by kernel_rfl) (by kernel_rfl) (rem' := [2, 11, 12, 13, 14, 15, 16, 17, 18]) (by kernel_rfl) rfl ?_
        refine QS_v (i := 11) rfl (v_load1 one150 rfl (Kn.own 0 rfl) rfl) (by kernel_rfl) (by kernel_rfl) (by kernel_rfl) (rem' := [2, 12, 13, 14, 15, 16, 17, 18]) (by kernel_rfl) rfl ?_
        refine QS_v (i := 12) rfl (v_iaddra (n := 1) Tryz.underlying152 siz150 rfl rfl rfl (by decide)) (by kernel_rfl) (by kernel_rfl) (by kernel_rfl) (rem' := [2, 13, 14, 15, 16, 17, 18]) (by kernel_rfl) rfl ?_
        refine QS_v (i := 13) rfl (v_load1 one150 rfl (Kn.own 0 rfl) rfl) (by kernel_rfl) (by kernel_rfl) (by kernel_rfl) (rem' := [2, 14, 15, 16, 17, 18]) (by kernel_rfl) rfl ?_
        refine QS_v (i := 14) rfl (v_or32 rfl rfl) (by kernel_rfl) (by kernel_rfl) (by kernel_rfl) (rem' := [2, 15, 16, 17, 18]) (by kernel_rfl) rfl ?_
        refine QS_v (i := 15) rfl (v_and32 rfl rfl) (by kernel_rfl) (by kernel_rfl) (by kernel_rfl) (rem' := [2, 16, 17, 18]) (by kernel_rfl) rfl ?_
        refine QS_v (i := 16) rfl (v_or32 rfl rfl) (by kernel_rfl) (by kernel_rfl) (by kernel_rfl) (rem' := [2, 17, 18]) (by kernel_rfl) rfl ?_
        refine QS_step (is := [2]) rfl (by kernel_rfl) ?_
        refine qall1 ?_
        refine qs_callq rfl rfl (rotated_fn _ 2 13 22 (by decide) (by decide) (by decide) _) rfl (rem' := [17, 18]) (by kernel_rfl) ?_
        refine QS_v (i := 17) rfl (v_add32 rfl rfl) (by kernel_rfl) (by kernel_rfl) (by kernel_rfl) (rem' := [18]) (by kernel_rfl) rfl ?_
        refine QS_v (i := 18) rfl (v_assign rfl) (by kernel_rfl) (by kernel_rfl) (by kernel_rfl) (rem' := []) (by kernel_rfl) rfl ?_
        refine QS_nil ?_
        refine den_seq ?_
        -- region 17
        refine den_draw [2] (by kernel_rfl) (by kernel_rfl) (NoP.fn) (rem := [0, 1, 2]) (by kernel_rfl) ?_
        refine QS_v (i := 0) rfl (v_slicea Tryz.underlying152 siz150 rfl (Bnd.some (n := 1) rfl rfl) rfl (by decide) (by decide)) (by kernel_rfl) (by kernel_rfl) (by kernel_rfl) (rem' := [1, 2]) (by kernel_rfl) rfl ?_
        refine QS_v (i := 1) rfl (v_slicea Tryz.underlying152 siz150 rfl rfl (Bnd.some (n := 7) rfl rfl) (by decide) (by decide)) (by kernel_rfl) (by kernel_rfl) (by kernel_rfl) (rem' := [2]) (by kernel_rfl) rfl ?_
        refine QS_step (is := [2]) rfl (by kernel_rfl) ?_
        refine qall1 ?_
        refine qs_fin rfl rfl (op1_copy (A := []) (us := [_, _, _, _, _, _, _]) Tryz.underlying195 siz150 rfl rfl (Src.own (List.mem_cons_self ..) rfl) rfl rfl) rfl rfl (rem' := []) (by kernel_rfl) ?_
        rintro _ _ _ ⟨rfl, rfl, rfl⟩
        refine QS_nil ?_
        refine den_seq ?_
        -- region 18
        refine den_region rfl ?_
        refine WL_v (v_iaddra (n := 4) Tryz.underlying152 siz150 rfl rfl rfl (by decide)) rfl ?_
        refine WL_v (v_load1 one150 rfl (by first | exact Kn.own 0 rfl | exact Kn.own 1 rfl | exact Kn.own 2 rfl | exact Kn.own 3 rfl | exact Kn.own 4 rfl | exact Kn.own 5 rfl | exact Kn.per ‹_›) rfl) rfl ?_
        refine WL_v (v_move rfl) rfl ?_
        refine WL_v (v_add32 rfl rfl) rfl ?_
        refine WL_v (v_iaddra (n := 4) Tryz.underlying152 siz150 rfl rfl rfl (by decide)) rfl ?_
        refine WL_store0 rfl rfl rfl siz150 rfl rfl rfl ?_
        refine WL_nil ?_
        -- region 19
        refine den_region rfl ?_
        refine WL_v (v_move rfl) rfl ?_
        refine WL_v (v_move rfl) rfl ?_
        refine WL_v (v_add32 rfl rfl) rfl ?_
        refine WL_v (v_iaddra (n := 0) Tryz.underlying152 siz150 rfl rfl rfl (by decide)) rfl ?_
        refine WL_store0 rfl rfl rfl siz150 rfl rfl rfl ?_
        refine WL_nil ?_
        refine den_blk ?_
        -- region 20
        refine den_region rfl ?_
        refine WL_v (v_addj (n := 1) rfl rfl (by show _ < 9223372036854775808; omega)) rfl ?_
        refine WL_v (v_move rfl) rfl ?_
        refine WL_nil ?_
        refine den_again ⟨rfl, (t + 1), (by show 64 - (t + 1) < 64 - t; omega), (sub_cons rfl (sub_cons rfl (sub_cons rfl (sub_cons rfl sub_nil)))), ⟨by omega, by omega, rfl, rfl⟩⟩
      · skip
        have ht : t = 64 := by omega
        subst ht
        refine den_exit rfl ?_
        refine den_seq ?_
        -- region 21
        refine den_region rfl ?_
        refine WL_v (v_move rfl) rfl ?_
        refine WL_nil ?_
        refine den_block ?_
        refine den_loopI (ι := Nat) (fun t => [(0, .pointer (some ⟨bs, 0, none⟩)), (9, .pointer (some ⟨b9, 0, none⟩)), (129, .int .i64 ((t : Nat) : Int))]) (fun t h' L' => 0 ≤ t ∧ t ≤ 8 ∧ h = h' ∧ L' = [(b9, .cells ⟨(rnds s (words x) 64).cells⟩ 152 (0, 0)), (b4, .cells ⟨wtab (words x) 64⟩ 191 (0, 0)), (bs, .cells ⟨atab s (rnds s (words x) 64) t⟩ Ts (0, 0))] ++ Lf) (fun t => 8 - t) 0 (sub_cons rfl (sub_cons rfl (sub_cons rfl sub_nil))) ⟨by omega, by omega, rfl, by rw [← atab_0]⟩ ?_
        rintro t _ _ ⟨t0, t1, rfl, rfl⟩
        refine den_seq ?_
        -- region 22
        refine den_region rfl ?_
        refine WL_v (v_lss rfl rfl) rfl ?_
        refine WL_nil ?_
        refine den_seq ?_
        first | refine den_ifd rfl (fun hi => ?_) (fun hi => ?_) | refine den_if rfl (fun hi => ?_) (fun hi => ?_)
        · skip
          refine den_skip ?_
          refine den_seq ?_
          refine den_block ?_
          refine den_seq ?_
          -- region 23
          refine den_region rfl ?_
          refine WL_v (v_move rfl) rfl ?_
          refine WL_v (v_assign rfl) rfl ?_
          refine WL_nil ?_
          -- region 24
          refine den_draw [11] (by kernel_rfl) (by kernel_rfl) (NoP.fn) (rem := [0, 1, 2, 3, 4, 5, 6, 7, 8, 9, 10, 11]) (by kernel_rfl) ?_
          refine QS_v (i := 0) rfl (v_move rfl) (by kernel_rfl) (by kernel_rfl) (by kernel_rfl) (rem' := [1, 2, 3, 4, 5, 6, 7, 8, 9, 10, 11]) (by kernel_rfl) rfl ?_
          refine QS_v (i := 1) rfl (v_move rfl) (by kernel_rfl) (by kernel_rfl) (by kernel_rfl) (rem' := [2, 3, 4, 5, 6, 7, 8, 9, 10, 11]) (by kernel_rfl) rfl ?_
          first | refine QS_v (i := 2) rfl (v_nilfunc rfl) (by kernel_rfl) (by kernel_rfl) (by kernel_rfl) (rem' := [3, 4, 5, 6, 7, 8, 9, 10, 11]) (by kernel_rfl) rfl ?_ | refine QS_v (i := 2) rfl (v_nilyield rfl) (by kernel_rfl) (by kernel_rfl) (by kernel_rfl) (rem' := [3, 4, 5, 6, 7, 8, 9, 10, 11]) (by kernel_rfl) rfl ?_ | refine QS_v (i := 2) rfl (v_nilptr rfl) (by kernel_rfl) (by kernel_rfl) (by kernel_rfl) (rem' := [3, 4, 5, 6, 7, 8, 9, 10, 11]) (by kernel_rfl) rfl ?_
          refine QS_v (i := 3) rfl (v_iaddra Tryz.underlying152 siz150 rfl rfl rfl (by omega)) (by kernel_rfl) (by kernel_rfl) (by kernel_rfl) (rem' := [4, 5, 6, 7, 8, 9, 10, 11]) (by kernel_rfl) rfl ?_
          refine QS_v (i := 4) rfl (v_load1 one150 rfl (Kn.own 2 rfl) (atab_get (t := t) (by omega) (by omega))) (by kernel_rfl) (by kernel_rfl) (by kernel_rfl) (rem' := [5, 6, 7, 8, 9, 10, 11]) (by kernel_rfl) rfl ?_
          refine QS_v (i := 5) rfl (v_move rfl) (by kernel_rfl) (by kernel_rfl) (by kernel_rfl) (rem' := [6, 7, 8, 9, 10, 11]) (by kernel_rfl) rfl ?_
          refine QS_v (i := 6) rfl (v_iaddra Tryz.underlying152 siz150 rfl rfl rfl (by omega)) (by kernel_rfl) (by kernel_rfl) (by kernel_rfl) (rem' := [7, 8, 9, 10, 11]) (by kernel_rfl) rfl ?_
          refine QS_v (i := 7) rfl (v_load1 one150 rfl (Kn.own 0 rfl) (cells_get (t := t) (by omega) (by omega))) (by kernel_rfl) (by kernel_rfl) (by kernel_rfl) (rem' := [8, 9, 10, 11]) (by kernel_rfl) rfl ?_
          refine QS_v (i := 8) rfl (v_add32 rfl rfl) (by kernel_rfl) (by kernel_rfl) (by kernel_rfl) (rem' := [9, 10, 11]) (by kernel_rfl) rfl ?_
          first | refine QS_v (i := 9) rfl (v_nilfunc rfl) (by kernel_rfl) (by kernel_rfl) (by kernel_rfl) (rem' := [10, 11]) (by kernel_rfl) rfl ?_ | refine QS_v (i := 9) rfl (v_nilyield rfl) (by kernel_rfl) (by kernel_rfl) (by kernel_rfl) (rem' := [10, 11]) (by kernel_rfl) rfl ?_ | refine QS_v (i := 9) rfl (v_nilptr rfl) (by kernel_rfl) (by kernel_rfl) (by kernel_rfl) (rem' := [10, 11]) (by kernel_rfl) rfl ?_
          refine QS_v (i := 10) rfl (v_iaddra Tryz.underlying152 siz150 rfl rfl rfl (by omega)) (by kernel_rfl) (by kernel_rfl) (by kernel_rfl) (rem' := [11]) (by kernel_rfl) rfl ?_
          refine QS_step (is := [11]) rfl (by kernel_rfl) ?_
          refine qall1 ?_
          refine qs_store (A := [_, _]) rfl rfl rfl rfl siz150 (atab_next (t := t) (by omega) (by omega)) rfl rfl rfl (rem' := []) (by kernel_rfl) rfl rfl ?_
          refine QS_nil ?_
          refine den_blk ?_
          -- region 25
          refine den_region rfl ?_
          refine WL_v (v_addj (n := 1) rfl rfl (by show _ < 9223372036854775808; omega)) rfl ?_
          refine WL_v (v_move rfl) rfl ?_
          refine WL_nil ?_
          refine den_again ⟨rfl, (t + 1), (by show 8 - (t + 1) < 8 - t; omega), (sub_cons rfl (sub_cons rfl (sub_cons rfl sub_nil))), ⟨by omega, by omega, rfl, rfl⟩⟩
        · skip
          have ht : t = 8 := by omega
          subst ht
          refine den_exit rfl ?_
          refine den_nil ?_
          exact ends0 Tryz.results91 (Heap.le.refl _) (.cons _ (.cons _ (List.Sublist.refl _))) (by rw [atab_8]; rfl)

theorem sum_fn (v : Value) (xs : List UInt8) (h : Heap) (hv : Bs h v xs) (hn : xs.length ≤ 1099511627776) (hG : Gl h) : Fn0 Tryz.prog 42 [v] h (.agg ⟨dcells (sha xs)⟩) := by
  obtain ⟨a, cap, rfl, hcap, hkn⟩ := hv
  obtain ⟨⟨Tg, frg, hg⟩, Tk, frk, hk⟩ := hG
  refine Tr_of Tryz.func42 rfl rfl Tryz.ntmps42 rfl [(0, .slice a xs.length cap)] rfl ?_
  intro Lf
  refine den_seq ?_
  -- region 0
  refine den_region rfl ?_
  refine WL_alloc (zs := tab 32 (fun _ => byteV 0)) zer26 rfl rfl fun b2 => ?_
  refine WL_nil ?_
  refine den_seq ?_
  -- region 1
  refine den_region rfl ?_
  refine WL_v (v_loadn many151 rfl (Kn.per hg) (show cut 0 8 start8.cells = some start8.cells from rfl)) rfl ?_
  refine WL_alloc zer152 rfl rfl fun b3 => ?_
  refine WL_store0 rfl rfl rfl siz152 (show spl 0 start8.cells _ = some start8.cells from rfl) rfl rfl ?_
  refine WL_nil ?_
  refine den_seq ?_
  -- region 2
  refine den_region rfl ?_
  refine WL_v (v_func rfl rfl) rfl ?_
  refine WL_v (v_assign rfl) rfl ?_
  refine WL_nil ?_
  refine den_seq ?_
  -- region 3
  refine den_region rfl ?_
  refine WL_v (v_move rfl) rfl ?_
  refine WL_v (v_assign rfl) rfl ?_
  refine WL_nil ?_
  refine den_seq ?_
  refine den_block ?_
  refine den_loopI (ι := Nat × Option Addr) (fun ⟨i, a2⟩ => [(0, .slice a xs.length cap), (2, .pointer (some ⟨b2, 0, none⟩)), (3, .pointer (some ⟨b3, 0, none⟩)), (4, .func (.func 91) ⟨[.pointer (some ⟨b3, 0, none⟩)]⟩ ⟨[]⟩), (5, .slice a2 (xs.length - 64 * i) (cap - 64 * i))]) (fun ⟨i, a2⟩ h' L' => 64 * i ≤ xs.length ∧ (64 * i < xs.length → ∀ b off, a = some ⟨b, off, none⟩ → a2 = some ⟨b, off + 64 * i, none⟩) ∧ Heap.le h h' ∧ L' = [(b3, .cells ⟨(stt (padf xs) (i)).cells⟩ 152 (0, 0)), (b2, .cells ⟨tab 32 (fun _ => byteV 0)⟩ 26 (0, 0))] ++ Lf) (fun ⟨i, a2⟩ => xs.length - 64 * i) (0, a) (sub_cons rfl (sub_cons rfl (sub_cons rfl (sub_cons rfl (sub_cons rfl sub_nil))))) ⟨by omega, fun _ b off hh => by rw [hh]; rfl, Heap.le.refl _, rfl⟩ ?_
  rintro ⟨i, a2⟩ hq _ ⟨i1, i2, hleA, rfl⟩
  refine den_seq ?_
  refine den_seq ?_
  -- region 4
  refine den_region rfl ?_
  refine WL_v (v_move rfl) rfl ?_
  refine WL_v (v_lens Tryz.underlying53 rfl) rfl ?_
  refine WL_v (v_geq rfl rfl) rfl ?_
  refine WL_nil ?_
  first | refine den_ifd rfl (fun hge => ?_) (fun hge => ?_) | refine den_if rfl (fun hge => ?_) (fun hge => ?_)
  · skip
    have hN64 : 64 * i + 64 ≤ xs.length := by omega
    obtain ⟨b, off, cs, T, fr, rfl, hbk, hxb⟩ := hkn (by omega)
    obtain rfl := i2 (by omega) _ _ rfl
    refine den_skip ?_
    refine den_seq ?_
    refine den_block ?_
    -- region 6
    refine den_region rfl ?_
    refine WL_v (v_move rfl) rfl ?_
    refine WL_v (v_move rfl) rfl ?_
    refine WL_v (v_slices0 (m := 64) Tryz.underlying53 siz5 rfl (Bnd.some rfl rfl) (by omega)) rfl ?_
    refine WL_call (L1 := [(b3, _)]) rfl rfl (TrV.of (absorb_fn _ (fun j => padf xs (64 * i + j)) b3 _ _ _ _ _ _ _ _ _ _ (by omega) (hleA _ _ hbk) (fun j hj => by rw [Nat.add_assoc, hxb (64 * i + j) (by omega), padf_lo (by omega)]) (hleA _ _ hk)) rfl) rfl ?_
    rintro _ hr6 _ hle6 rfl
    refine WL_nil ?_
    refine den_blk ?_
    -- region 5
    refine den_region rfl ?_
    refine WL_v (v_move rfl) rfl ?_
    refine WL_v (v_slices (l := 64) Tryz.underlying53 siz5 rfl (Bnd.some rfl rfl) rfl (by omega) (by omega)) rfl ?_
    refine WL_v (v_assign rfl) rfl ?_
    refine WL_nil ?_
    rw [show xs.length - 64 * i - 64 = xs.length - 64 * (i + 1) from by omega, show cap - 64 * i - 64 = cap - 64 * (i + 1) from by omega]
    refine den_again ⟨rfl, (i + 1, some ⟨b, if cap - 64 * i = 64 then off + 64 * i else off + 64 * i + 64 * 1, none⟩), (by show xs.length - 64 * (i + 1) < xs.length - 64 * i; omega), (sub_cons rfl (sub_cons rfl (sub_cons rfl (sub_cons rfl (sub_cons rfl sub_nil))))), ⟨by omega, fun hlt b' off' hh => by cases hh; rw [if_neg (by omega)]; congr 1, hleA.trans hle6, rfl⟩⟩
  · skip
    have hiq : i = (xs.length / 64) := by omega
    have hir : xs.length - 64 * i = (xs.length % 64) := by omega
    have hsrc : ∀ L, Src hq L 1 (.slice a2 (xs.length - 64 * i) (cap - 64 * i)) (xs.length - 64 * i) (tab (xs.length - 64 * i) (fun j => byteV (xs.getD (64 * i + j) 0))) := fun L => rest_src hkn i1 i2 hleA
    skip
    refine den_exit rfl ?_
    refine den_seq ?_
    -- region 7
    refine den_region rfl ?_
    refine WL_makeSlice (zs := [Value.int .u8 0]) (n := 64) (c := 128) Tryz.underlying53 byt5 siz5 zer5 rfl rfl rfl (by decide) (by decide) (by decide) rfl fun b21 => ?_
    rw [show zlist [Value.int .u8 0] 128 = tab 128 (fun _ => byteV 0) from zlist_tab]
    refine WL_v (v_assign rfl) rfl ?_
    refine WL_nil ?_
    refine den_seq ?_
    -- region 8
    refine den_region rfl ?_
    refine WL_v (v_move rfl) rfl ?_
    refine WL_v (v_move rfl) rfl ?_
    refine WL_copy (A := []) (n := xs.length - 64 * i) (us := tab (xs.length - 64 * i) (fun j => byteV (xs.getD (64 * i + j) 0))) Tryz.underlying53 siz5 rfl rfl (hsrc _) (by rw [show min (xs.length - 64 * i) 64 * 1 = xs.length - 64 * i from by omega, List.take_of_length_le (by rw [tab_len]; exact Nat.le_refl _)]; exact tab_spl_list (by omega)) (tab_bytes_one _) rfl ?_
    rw [copy_e0 hiq hir]
    refine WL_nil ?_
    refine den_seq ?_
    -- region 9
    refine den_region rfl ?_
    refine WL_v (v_move rfl) rfl ?_
    refine WL_v (v_move rfl) rfl ?_
    refine WL_v (v_lens Tryz.underlying53 rfl) rfl ?_
    refine WL_v (v_iaddrs Tryz.underlying53 siz5 rfl rfl rfl (by omega)) rfl ?_
    refine WL_store0 rfl rfl rfl siz5 (tab_spl (p := 0 + (xs.length - 64 * i) * 1) (by omega)) rfl rfl ?_
    rw [set_e1 hir]
    refine WL_nil ?_
    refine den_seq ?_
    refine den_seq ?_
    -- region 10
    refine den_region rfl ?_
    refine WL_v (v_move rfl) rfl ?_
    refine WL_v (v_lens Tryz.underlying53 rfl) rfl ?_
    refine WL_v (v_gtr rfl rfl) rfl ?_
    refine WL_nil ?_
    refine den_cut (ι := Nat) (fun E => [(0, .slice a xs.length cap), (2, .pointer (some ⟨b2, 0, none⟩)), (3, .pointer (some ⟨b3, 0, none⟩)), (4, .func (.func 91) ⟨[.pointer (some ⟨b3, 0, none⟩)]⟩ ⟨[]⟩), (6, .slice (some ⟨b21, 0, none⟩) E 128)]) (fun E h' L' => hq = h' ∧ L' = [(b21, .cells ⟨tab 128 (e1 xs (xs.length / 64) (xs.length % 64))⟩ 5 (0, 0)), (b3, .cells ⟨(stt (padf xs) ((xs.length / 64))).cells⟩ 152 (0, 0)), (b2, .cells ⟨tab 32 (fun _ => byteV 0)⟩ 26 (0, 0))] ++ Lf ∧ E = if xs.length % 64 ≤ 55 then 64 else 128) ?_ ?_
    · skip
      first | refine den_ifd rfl (fun c3 => ?_) (fun c4 => ?_) | refine den_if rfl (fun c3 => ?_) (fun c4 => ?_)
      · skip
        -- region 11
        refine den_region rfl ?_
        refine WL_v (v_move rfl) rfl ?_
        refine WL_v (v_slices0 (m := 128) Tryz.underlying53 siz5 rfl (Bnd.some rfl rfl) (by omega)) rfl ?_
        refine WL_v (v_assign rfl) rfl ?_
        refine WL_nil ?_
        exact den_again ⟨rfl, _, (sub_cons rfl (sub_cons rfl (sub_cons rfl (sub_cons rfl (sub_cons rfl sub_nil))))), ⟨rfl, by subst hiq; rfl, by first | rw [if_pos (by omega)] | rw [if_neg (by omega)]⟩⟩
      · skip
        refine den_skip ?_
        exact den_again ⟨rfl, _, (sub_cons rfl (sub_cons rfl (sub_cons rfl (sub_cons rfl (sub_cons rfl sub_nil))))), ⟨rfl, by subst hiq; rfl, by first | rw [if_pos (by omega)] | rw [if_neg (by omega)]⟩⟩
    · skip
      rintro E _ _ ⟨rfl, rfl, hE⟩
      have hE2 : E = 64 ∨ E = 128 := by rw [hE]; split <;> simp
      have hk := hleA _ _ hk
      refine den_seq ?_
      -- region 12
      refine den_region rfl ?_
      refine WL_v (v_move rfl) rfl ?_
      refine WL_v (v_move rfl) rfl ?_
      refine WL_v (v_lens Tryz.underlying53 rfl) rfl ?_
      refine WL_v (v_subj (n := 8) rfl rfl (by omega) (by show _ < 9223372036854775808; omega)) rfl ?_
      refine WL_v (v_slices (l := E - 8) (m := E) Tryz.underlying53 siz5 rfl (Bnd.some rfl rfl) rfl (by omega) (by omega)) rfl ?_
      rw [if_neg (show ¬ 128 = E - 8 by omega), show 0 + (E - 8) * 1 = E - 8 from by omega, show E - (E - 8) = 8 from by omega]
      refine WL_v (v_move rfl) rfl ?_
      refine WL_v (v_lens Tryz.underlying53 rfl) rfl ?_
      refine WL_v (v_convu Tryz.underlying3 Tryz.underlying148 rfl (by omega)) rfl ?_
      refine WL_v (v_muln (n := 8) rfl rfl rfl (by show _ < 18446744073709551616; omega)) rfl ?_
      refine WL_callf (L1 := [(b21, _)]) rfl (put_fn b21 (E - 8) 8 _ (xs.length * 8) 128 (e1 xs (xs.length / 64) (xs.length % 64)) 5 _ (by omega) (by omega) (by decide)) rfl ?_
      rintro _ hr12 _ hle12 rfl
      refine WL_freeze fun h12 hl12 hb21 => ?_
      have hk := hl12 _ _ (hle12 _ _ hk)
      refine WL_nil ?_
      refine den_seq ?_
      refine den_block ?_
      refine den_loopI (ι := Nat × Nat) (fun ⟨m, o⟩ => [(2, .pointer (some ⟨b2, 0, none⟩)), (3, .pointer (some ⟨b3, 0, none⟩)), (4, .func (.func 91) ⟨[.pointer (some ⟨b3, 0, none⟩)]⟩ ⟨[]⟩), (6, .slice (some ⟨b21, o, none⟩) (E - 64 * m) (128 - 64 * m))]) (fun ⟨m, o⟩ h' L' => 64 * m ≤ E ∧ (64 * m < E → o = 64 * m) ∧ Heap.le h12 h' ∧ L' = [(b3, .cells ⟨(stt (padf xs) ((xs.length / 64) + m)).cells⟩ 152 (0, 0)), (b2, .cells ⟨tab 32 (fun _ => byteV 0)⟩ 26 (0, 0))] ++ Lf) (fun ⟨m, o⟩ => E - 64 * m) (0, 0) (sub_cons rfl (sub_cons rfl (sub_cons rfl (sub_cons rfl sub_nil)))) ⟨by omega, fun _ => rfl, Heap.le.refl _, rfl⟩ ?_
      rintro ⟨m, o⟩ hq2 _ ⟨m1, m2, hleB, rfl⟩
      refine den_seq ?_
      refine den_seq ?_
      -- region 13
      refine den_region rfl ?_
      refine WL_v (v_move rfl) rfl ?_
      refine WL_v (v_lens Tryz.underlying53 rfl) rfl ?_
      refine WL_v (v_gtr rfl rfl) rfl ?_
      refine WL_nil ?_
      first | refine den_ifd rfl (fun hpos => ?_) (fun hpos => ?_) | refine den_if rfl (fun hpos => ?_) (fun hpos => ?_)
      · skip
        have hm64 : 64 * m + 64 ≤ E := by omega
        obtain rfl := m2 (by omega)
        refine den_skip ?_
        refine den_seq ?_
        refine den_block ?_
        -- region 15
        refine den_region rfl ?_
        refine WL_v (v_move rfl) rfl ?_
        refine WL_v (v_move rfl) rfl ?_
        refine WL_v (v_slices0 (m := 64) Tryz.underlying53 siz5 rfl (Bnd.some rfl rfl) (by omega)) rfl ?_
        refine WL_call (L1 := [(b3, _)]) rfl rfl (TrV.of (absorb_fn _ (fun j => padf xs (64 * ((xs.length / 64) + m) + j)) b3 _ _ _ _ _ _ _ _ _ _ (by omega) (hleB _ _ hb21) (fun j hj => by rw [ptab, tab_get (by omega), end_val hE (by omega), Nat.mul_add, Nat.add_assoc]) (hleB _ _ hk)) rfl) rfl ?_
        rintro _ hr15 _ hle15 rfl
        refine WL_nil ?_
        refine den_blk ?_
        -- region 14
        refine den_region rfl ?_
        refine WL_v (v_move rfl) rfl ?_
        refine WL_v (v_slices (l := 64) Tryz.underlying53 siz5 rfl (Bnd.some rfl rfl) rfl (by omega) (by omega)) rfl ?_
        refine WL_v (v_assign rfl) rfl ?_
        refine WL_nil ?_
        rw [show E - 64 * m - 64 = E - 64 * (m + 1) from by omega, show 128 - 64 * m - 64 = 128 - 64 * (m + 1) from by omega]
        refine den_again ⟨rfl, (m + 1, if 128 - 64 * m = 64 then 64 * m else 64 * m + 64 * 1), (by show E - 64 * (m + 1) < E - 64 * m; omega), (sub_cons rfl (sub_cons rfl (sub_cons rfl (sub_cons rfl sub_nil)))), ⟨by omega, fun hlt => by rw [if_neg (by omega)]; omega, hleB.trans hle15, rfl⟩⟩
      · skip
        have hme : 64 * m = E := by omega
        obtain ⟨s, hs⟩ : ∃ s, s = stt (padf xs) ((xs.length / 64) + m) := ⟨_, rfl⟩
        rw [← hs]
        refine den_exit rfl ?_
        refine den_seq ?_
        refine den_seq ?_
        -- region 16
        refine den_region rfl ?_
        refine WL_v (v_loadn many152 rfl (Kn.own 0 rfl) (show cut 0 8 s.cells = some s.cells from rfl)) rfl ?_
        refine WL_v (v_move rfl) rfl ?_
        refine WL_nil ?_
        refine den_block ?_
        refine den_perm (List.Perm.swap _ _ _) ?_
        refine den_loopI (ι := Nat) (fun i => [(2, .pointer (some ⟨b2, 0, none⟩)), (53, .agg ⟨s.cells⟩), (54, .int .i64 ((i : Nat) : Int))]) (fun i h' L' => i ≤ 8 ∧ Heap.le hq2 h' ∧ L' = [(b2, .cells ⟨dtab s i⟩ 26 (0, 0)), (b3, .cells ⟨s.cells⟩ 152 (0, 0))] ++ Lf) (fun i => 8 - i) 0 (sub_cons rfl (sub_cons rfl (sub_cons rfl sub_nil))) ⟨by omega, Heap.le.refl _, by rw [← dtab_0]; rfl⟩ ?_
        rintro i hq3 _ ⟨i3, hle3, rfl⟩
        refine den_seq ?_
        -- region 17
        refine den_region rfl ?_
        refine WL_v (v_lss rfl rfl) rfl ?_
        refine WL_nil ?_
        refine den_seq ?_
        first | refine den_ifd rfl (fun hlt => ?_) (fun hlt => ?_) | refine den_if rfl (fun hlt => ?_) (fun hlt => ?_)
        · skip
          refine den_skip ?_
          refine den_seq ?_
          refine den_block ?_
          refine den_seq ?_
          -- region 18
          refine den_region rfl ?_
          refine WL_v (v_move rfl) rfl ?_
          refine WL_v (v_index1 Tryz.underlying152 siz150 one150 rfl rfl (by omega) (by omega) (cells_get (t := i) (by omega) (by omega))) rfl ?_
          refine WL_v (v_assign rfl) rfl ?_
          refine WL_v (v_assign rfl) rfl ?_
          refine WL_nil ?_
          -- region 19
          refine den_region rfl ?_
          refine WL_v (v_move rfl) rfl ?_
          refine WL_v (v_mulj (m := 4) rfl rfl (by omega)) rfl ?_
          refine WL_v (v_move rfl) rfl ?_
          refine WL_v (v_mulj (m := 4) rfl rfl (by omega)) rfl ?_
          refine WL_v (v_addj (n := 4) rfl rfl (by omega)) rfl ?_
          refine WL_v (v_slicea (l := 4 * i) (m := 4 * i + 4) Tryz.underlying26 siz5 rfl (Bnd.some rfl rfl) (Bnd.some rfl rfl) (by omega) (by omega)) rfl ?_
          rw [if_neg (show ¬ 32 = 4 * i by omega), show 0 + 4 * i * 1 = 4 * i from by omega, show 4 * i + 4 - 4 * i = 4 from by omega]
          refine WL_v (v_move rfl) rfl ?_
          refine WL_v (v_conv32_64 Tryz.underlying150 Tryz.underlying148 rfl) rfl ?_
          refine WL_callf (L1 := [(b2, _)]) rfl (put_fn b2 (4 * i) 4 _ (s.get i).toNat 32 (fun k => if k < 4 * i then byteV (digAt s k) else byteV 0) 26 _ (by have := (s.get i).toNat_lt; omega) (by omega) (by decide)) rfl ?_
          rintro _ hr19 _ hle19 rfl
          rw [dtab_next (by omega)]
          refine WL_nil ?_
          refine den_blk ?_
          -- region 20
          refine den_region rfl ?_
          refine WL_v (v_addj (n := 1) rfl rfl (by show _ < 9223372036854775808; omega)) rfl ?_
          refine WL_v (v_move rfl) rfl ?_
          refine WL_nil ?_
          refine den_again ⟨rfl, (i + 1), (by show 8 - (i + 1) < 8 - i; omega), (sub_cons rfl (sub_cons rfl (sub_cons rfl sub_nil))), ⟨by omega, hle3.trans hle19, rfl⟩⟩
        · skip
          have hi8 : i = 8 := by omega
          subst hi8
          refine den_exit rfl ?_
          refine den_seq ?_
          -- region 21
          refine den_region rfl ?_
          rw [dtab_8]
          refine WL_v (v_loadn many26 rfl (Kn.own 0 rfl) (show cut 0 32 (dcells (digOf s)) = some (dcells (digOf s)) from rfl)) rfl ?_
          refine WL_store0 rfl rfl rfl siz26 (spl_all rfl) rfl rfl ?_
          refine WL_nil ?_
          refine den_ret ?_
          refine endsr1 Tryz.results42 (rv_n many26 rfl (Kn.own 0 rfl) (show cut 0 32 (dcells (digOf s)) = some (dcells (digOf s)) from rfl)) (hleA.trans (hle12.trans (hl12.trans (hleB.trans hle3)))) (.cons _ (.cons _ (List.Sublist.refl _))) ⟨?_, rfl⟩
          rw [hs, sha_eq, shaS, padL_div, show m = (if xs.length % 64 ≤ 55 then 1 else 2) from by rw [hE] at hme; by_cases hh : xs.length % 64 ≤ 55; rw [if_pos hh] at hme ⊢; omega; rw [if_neg hh] at hme ⊢; omega]

theorem grow_fn (m : Nat) (h : Heap) (hm : m ≤ 70368744177664) : Tr Tryz.prog 93 [.slice none 0 0, .int .i64 (m : Int)] h [] (fun v _ L' => OwnS 5 1 v 0 [] L') := by
  refine Tr_of Tryz.func93 rfl rfl Tryz.ntmps93 rfl [(0, .slice none 0 0), (1, .int .i64 (m : Int))] rfl ?_
  intro Lf
  refine den_seq ?_
  -- region 0
  refine den_region rfl ?_
  refine WL_v (v_assign rfl) rfl ?_
  refine WL_nil ?_
  refine den_seq ?_
  refine den_seq ?_
  -- region 1
  refine den_region rfl ?_
  refine WL_v (v_move rfl) rfl ?_
  refine WL_v (v_lss rfl rfl) rfl ?_
  refine WL_nil ?_
  first | refine den_ifd rfl (fun hneg => ?_) (fun hneg => ?_) | refine den_if rfl (fun hneg => ?_) (fun hneg => ?_)
  · skip
    omega
  · skip
    refine den_skip ?_
    refine den_seq ?_
    refine den_seq ?_
    -- region 3
    refine den_region rfl ?_
    refine WL_v (v_move rfl) rfl ?_
    refine WL_v (v_move rfl) rfl ?_
    refine WL_v (v_cap Tryz.underlying53 rfl) rfl ?_
    refine WL_v (v_move rfl) rfl ?_
    refine WL_v (v_lens Tryz.underlying53 rfl) rfl ?_
    refine WL_v (v_sub (z := 0) rfl rfl rfl) rfl ?_
    refine WL_v (v_sub (z := (m : Int)) rfl rfl (by rw [Int.sub_zero]; exact wrap_i64 (by omega) (by omega))) rfl ?_
    refine WL_v (v_assign rfl) rfl ?_
    refine WL_nil ?_
    refine den_seq ?_
    -- region 4
    refine den_region rfl ?_
    refine WL_v (v_move rfl) rfl ?_
    refine WL_v (v_gtr rfl rfl) rfl ?_
    refine WL_nil ?_
    first | refine den_ifd rfl (fun hp => ?_) (fun hp => ?_) | refine den_if rfl (fun hp => ?_) (fun hp => ?_)
    · skip
      -- region 5
      refine den_region rfl ?_
      refine WL_v (v_move rfl) rfl ?_
      refine WL_v (v_move rfl) rfl ?_
      refine WL_v (v_cap Tryz.underlying53 rfl) rfl ?_
      refine WL_v (v_slicesn Tryz.underlying53 siz5 rfl rfl (Bnd.some (n := 0) rfl rfl)) rfl ?_
      refine WL_v (v_move rfl) rfl ?_
      refine WL_appendz (m := m) Tryz.underlying53 Tryz.underlying3 siz5 byt5 (by decide) zer5 rfl rfl (by decide) rfl rfl (by omega) (by omega) rfl fun v2 L2 ho => ?_
      rcases ho with ⟨_, h0, _, _⟩ | ⟨b, cap, pad, rfl, hl, hp, hnc, hc63, rfl⟩
      · exact absurd h0 (by omega)
      refine WL_v (v_move rfl) rfl ?_
      refine WL_v (v_lens Tryz.underlying53 rfl) rfl ?_
      refine WL_v (v_slices0 (m := 0) Tryz.underlying53 siz5 rfl (Bnd.some rfl rfl) (by omega)) rfl ?_
      refine WL_v (v_assign rfl) rfl ?_
      refine WL_nil ?_
      refine den_seq ?_
      -- region 6
      refine den_region rfl ?_
      refine WL_v (v_move rfl) rfl ?_
      refine WL_v (v_assign rfl) rfl ?_
      refine WL_nil ?_
      refine den_ret ?_
      exact ends1 Tryz.results93 rfl (Heap.le.refl _) (List.Sublist.refl _) (.inr ⟨b, cap, zlist [Value.int .u8 0] m ++ pad, rfl, by simp, by simpa using hp, Nat.zero_le _, hc63, rfl⟩)
    · skip
      refine den_skip ?_
      refine den_seq ?_
      -- region 6
      refine den_region rfl ?_
      refine WL_v (v_move rfl) rfl ?_
      refine WL_v (v_assign rfl) rfl ?_
      refine WL_nil ?_
      refine den_ret ?_
      exact ends1 Tryz.results93 rfl (Heap.le.refl _) (List.Sublist.refl _) .nil

theorem concat_fn (xss : List (List UInt8)) (b : Nat) (cs : List Value) (Tb : TypeId) (fr : Nat × Nat) (h : Heap) (hn : xss.length ≤ 1000) (hb : h b = some (.cells ⟨cs⟩ Tb fr)) (hvs : ∀ i, i < xss.length → ∃ a n cap, cs[i]? = some (.slice a n cap) ∧ n = (xss.getD i []).length ∧ Bs h (.slice a n cap) (xss.getD i [])) (hm : xss.flatten.length ≤ 70368744177664) : Tr Tryz.prog 43 [.slice (some ⟨b, 0, none⟩) xss.length xss.length] h [] (fun v _ L' => OwnS 5 1 v xss.flatten.length (xss.flatten.map byteV) L') := by
  refine Tr_of Tryz.func43 rfl rfl Tryz.ntmps43 rfl [(0, .slice (some ⟨b, 0, none⟩) xss.length xss.length)] rfl ?_
  intro Lf
  have hfl := fun i => take_flat_le (xss := xss) (i := i)
  refine den_seq ?_
  -- region 0
  refine den_region rfl ?_
  refine WL_v (v_assign rfl) rfl ?_
  refine WL_nil ?_
  refine den_seq ?_
  -- region 1
  refine den_region rfl ?_
  refine WL_v (v_assign rfl) rfl ?_
  refine WL_nil ?_
  refine den_seq ?_
  refine den_seq ?_
  -- region 2
  refine den_region rfl ?_
  refine WL_v (v_move rfl) rfl ?_
  refine WL_v (v_lens Tryz.underlying155 rfl) rfl ?_
  refine WL_v (v_move rfl) rfl ?_
  refine WL_nil ?_
  refine den_block ?_
  refine den_loopI (ι := Nat) (fun i => [(0, .slice (some ⟨b, 0, none⟩) xss.length xss.length), (3, .int .i64 (((xss.take i).flatten.length : Nat) : Int)), (9, .slice (some ⟨b, 0, none⟩) xss.length xss.length), (10, .int .i64 ((xss.length : Nat) : Int)), (11, .int .i64 ((i : Nat) : Int))]) (fun i h' L' => i ≤ xss.length ∧ h = h' ∧ Lf = L') (fun i => xss.length - i) 0 (sub_cons rfl (sub_cons rfl (sub_cons rfl (sub_cons rfl (sub_cons rfl sub_nil))))) ⟨by omega, rfl, rfl⟩ ?_
  rintro i _ _ ⟨i1, rfl, rfl⟩
  have hfi := hfl i
  refine den_seq ?_
  -- region 3
  refine den_region rfl ?_
  refine WL_v (v_lss rfl rfl) rfl ?_
  refine WL_nil ?_
  refine den_seq ?_
  first | refine den_ifd rfl (fun hi => ?_) (fun hi => ?_) | refine den_if rfl (fun hi => ?_) (fun hi => ?_)
  · skip
    refine den_skip ?_
    refine den_seq ?_
    refine den_block ?_
    refine den_seq ?_
    -- region 4
    refine den_region rfl ?_
    refine WL_v (v_iaddrs Tryz.underlying155 siz53 rfl rfl rfl (by omega)) rfl ?_
    obtain ⟨a, nn, cp, hget, rfl, hbs⟩ := hvs i (by omega)
    refine WL_v (v_load1 one53 rfl (Kn.per hb) (by rw [Nat.zero_add, Nat.mul_one]; exact hget)) rfl ?_
    refine WL_v (v_assign rfl) rfl ?_
    refine WL_nil ?_
    refine den_seq ?_
    -- region 5
    refine den_region rfl ?_
    refine WL_v (v_move rfl) rfl ?_
    refine WL_v (v_move rfl) rfl ?_
    refine WL_v (v_lens Tryz.underlying53 rfl) rfl ?_
    have hf2 := hfl (i + 1)
    rw [take_flat (by omega), List.length_append] at hf2
    refine WL_v (v_addj rfl rfl (by omega)) rfl ?_
    refine WL_v (v_assign rfl) rfl ?_
    refine WL_nil ?_
    refine den_seq ?_
    -- region 6
    refine den_region rfl ?_
    refine WL_v (v_move rfl) rfl ?_
    refine WL_v (v_lss rfl rfl) rfl ?_
    refine WL_nil ?_
    first | refine den_ifd rfl (fun hneg => ?_) (fun hneg => ?_) | refine den_if rfl (fun hneg => ?_) (fun hneg => ?_)
    · skip
      omega
    · skip
      refine den_skip ?_
      refine den_blk ?_
      -- region 8
      refine den_region rfl ?_
      refine WL_v (v_addj (n := 1) rfl rfl (by show _ < 9223372036854775808; omega)) rfl ?_
      refine WL_v (v_move rfl) rfl ?_
      refine WL_nil ?_
      rw [show (xss.take i).flatten.length + (xss.getD i []).length = (xss.take (i + 1)).flatten.length from by rw [take_flat (by omega), List.length_append]]
      refine den_again ⟨rfl, (i + 1), (by show xss.length - (i + 1) < xss.length - i; omega), (sub_cons rfl (sub_cons rfl (sub_cons rfl (sub_cons rfl (sub_cons rfl sub_nil))))), ⟨by omega, rfl, rfl⟩⟩
  · skip
    have hin : i = xss.length := by omega
    subst hin
    refine den_exit rfl ?_
    refine den_seq ?_
    -- region 9
    refine den_region rfl ?_
    refine WL_v (v_move rfl) rfl ?_
    refine WL_callf (L1 := []) rfl (grow_fn _ _ (by omega)) rfl ?_
    rintro vg hg Lg hleg hog
    refine WL_v (v_assign rfl) rfl ?_
    refine WL_nil ?_
    refine den_seq ?_
    refine den_seq ?_
    -- region 10
    refine den_region rfl ?_
    refine WL_v (v_move rfl) rfl ?_
    refine WL_v (v_lens Tryz.underlying155 rfl) rfl ?_
    refine WL_v (v_move rfl) rfl ?_
    refine WL_nil ?_
    refine den_block ?_
    refine den_loopI (ι := Nat × Value × Owned) (fun ⟨i, v, L1⟩ => [(6, v), (25, .slice (some ⟨b, 0, none⟩) xss.length xss.length), (26, .int .i64 ((xss.length : Nat) : Int)), (27, .int .i64 ((i : Nat) : Int))]) (fun ⟨i, v, L1⟩ h' L' => i ≤ xss.length ∧ Heap.le h h' ∧ L' = L1 ++ Lf ∧ OwnS 5 1 v (xss.take i).flatten.length ((xss.take i).flatten.map byteV) L1) (fun ⟨i, v, L1⟩ => xss.length - i) (0, vg, Lg) (sub_cons rfl (sub_cons rfl (sub_cons rfl (sub_cons rfl sub_nil)))) ⟨by omega, hleg, rfl, hog⟩ ?_
    rintro ⟨i, v, L1⟩ hq _ ⟨i1, hle, rfl, ho⟩
    have hfi := hfl i
    refine den_seq ?_
    -- region 11
    refine den_region rfl ?_
    refine WL_v (v_lss rfl rfl) rfl ?_
    refine WL_nil ?_
    refine den_seq ?_
    first | refine den_ifd rfl (fun hj => ?_) (fun hj => ?_) | refine den_if rfl (fun hj => ?_) (fun hj => ?_)
    · skip
      refine den_skip ?_
      refine den_seq ?_
      refine den_block ?_
      refine den_seq ?_
      -- region 12
      refine den_region rfl ?_
      refine WL_v (v_iaddrs Tryz.underlying155 siz53 rfl rfl rfl (by omega)) rfl ?_
      obtain ⟨a, nn, cp, hget, rfl, hbs⟩ := hvs i (by omega)
      refine WL_v (v_load1 one53 rfl (Kn.per (hle _ _ hb)) (by rw [Nat.zero_add, Nat.mul_one]; exact hget)) rfl ?_
      refine WL_v (v_assign rfl) rfl ?_
      refine WL_nil ?_
      -- region 13
      refine den_region rfl ?_
      refine WL_v (v_move rfl) rfl ?_
      refine WL_v (v_move rfl) rfl ?_
      have hf2 := hfl (i + 1)
      rw [take_flat (by omega), List.length_append] at hf2
      refine WL_append Tryz.underlying53 Tryz.underlying53 (.inr ⟨_, rfl⟩) siz5 byt5 (by decide) zer5 rfl rfl rfl rfl ho (hbs.le hle).src (bytes_one _) (by omega) rfl fun v2 L2 ho2 => ?_
      refine WL_v (v_assign rfl) rfl ?_
      refine WL_nil ?_
      refine den_blk ?_
      -- region 14
      refine den_region rfl ?_
      refine WL_v (v_addj (n := 1) rfl rfl (by show _ < 9223372036854775808; omega)) rfl ?_
      refine WL_v (v_move rfl) rfl ?_
      refine WL_nil ?_
      refine den_again ⟨rfl, (i + 1, v2, L2), (by show xss.length - (i + 1) < xss.length - i; omega), (sub_cons rfl (sub_cons rfl (sub_cons rfl (sub_cons rfl sub_nil)))), ⟨by omega, hle, rfl, by rw [take_flat (by omega), List.length_append, List.map_append]; exact ho2⟩⟩
    · skip
      have hin : i = xss.length := by omega
      subst hin
      rw [List.take_length] at ho
      refine den_exit rfl ?_
      refine den_seq ?_
      -- region 15
      refine den_region rfl ?_
      refine WL_v (v_move rfl) rfl ?_
      refine WL_v (v_assign rfl) rfl ?_
      refine WL_nil ?_
      refine den_ret ?_
      exact ends1 Tryz.results43 rfl hle (List.Sublist.refl _) ho

theorem tagged_fn (tag : ByteArray) (v : Value) (xs : List UInt8) (h : Heap) (ht : tag.size ≤ 1048576) (hv : Bs h v xs) (hn : xs.length ≤ 549755813888) (hG : Gl h) : Fn0 Tryz.prog 19 [.string tag, v] h (.agg ⟨dcells (tagged tag.data.toList xs)⟩) := by
  have hv0 := hv
  obtain ⟨av, capv, rfl, hcv, hxv⟩ := hv
  refine Tr_of Tryz.func19 rfl rfl Tryz.ntmps19 rfl [(0, .string tag), (1, .slice av xs.length capv)] rfl ?_
  intro Lf
  refine den_seq ?_
  -- region 0
  refine den_region rfl ?_
  refine WL_alloc zer26 rfl rfl fun b4 => ?_
  refine WL_nil ?_
  refine den_seq ?_
  -- region 1
  refine den_region rfl ?_
  refine WL_v (v_move rfl) rfl ?_
  refine WL_tobytes Tryz.underlying9 Tryz.underlying53 Tryz.underlying5 rfl rfl fun b7 cap7 pad7 fr7 h7 hc7 hl7 hb7 => ?_
  refine WL_callq rfl (sum_fn _ tag.data.toList _ (Bs.row hb7 (by simp) hc7) (by rw [sz_list]; omega) (hG.le hl7)) rfl ?_
  refine WL_alloc zer26 rfl rfl fun b5 => ?_
  refine WL_store0 rfl rfl rfl siz26 (spl_all rfl) rfl rfl ?_
  refine WL_nil ?_
  refine den_seq ?_
  -- region 2
  refine den_region rfl ?_
  refine WL_freeze fun h1 hl1 hb5 => ?_
  refine WL_v (v_slicea0 Tryz.underlying26 siz5 rfl) rfl ?_
  refine WL_v (v_move rfl) rfl ?_
  refine WL_buildSlice Tryz.underlying155 zer53 rfl siz53 rfl rfl rfl rfl rfl fun b11 => ?_
  refine WL_freeze fun h11 hl11 hb11 => ?_
  have hv2 := hv0.le (hl7.trans (hl1.trans hl11))
  refine WL_callf (L1 := []) rfl (concat_fn [(sha tag.data.toList).toList, xs] b11 _ _ _ _ (by simp) hb11 (by intro i hi; match i, hi with | 0, _ => exact ⟨_, 32, _, rfl, (by simp), (Bs.dig (hl11 _ _ hb5) (by decide))⟩ | 1, _ => exact ⟨_, _, _, rfl, rfl, hv2⟩) (by simp; omega)) rfl ?_
  rintro vc hc Lc hlec hoc
  refine WL_freezeS hoc fun h5 hl5 hbs => ?_
  refine WL_callq rfl (sum_fn _ _ _ hbs (by simp; omega) (hG.le (hl7.trans (hl1.trans (hl11.trans (hlec.trans hl5)))))) rfl ?_
  refine WL_store0 rfl rfl rfl siz26 (spl_all rfl) rfl rfl ?_
  refine WL_nil ?_
  refine den_ret ?_
  refine endsr1 Tryz.results19 (rv_n many26 rfl (Kn.own 0 rfl) (show cut 0 32 (dcells _) = some (dcells _) from rfl)) (hl7.trans (hl1.trans (hl11.trans (hlec.trans hl5)))) (.cons _ (List.Sublist.refl _)) ⟨?_, rfl⟩
  simp [tagged]

end Go.Proofs.Ch
