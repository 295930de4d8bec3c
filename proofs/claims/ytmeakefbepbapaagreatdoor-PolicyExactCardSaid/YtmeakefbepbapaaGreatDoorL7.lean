/- Walks of the program's functions, printed by my own generator (layer L7). -/
import Derived.Test.YtmeakefbepbapaaGreatDoorL6
namespace Go.Proofs.Ch
open Go Go.Proofs
set_option maxRecDepth 4000
set_option maxHeartbeats 1000000
theorem plc58 : Plc Tryz.prog (match Tryz.prog.underlying 58 with | some (.struct fs) => fs | _ => #[]) [(0, 1), (1, 1), (2, 1), (3, 1)] := fun _ => by kernel_rfl
theorem runs_pos (m : Nat) (hm : m < 9223372036854775808) (h : Heap) : Fn0 Tryz.prog 144 [.int .i64 (m : Int)] h (.int .u64 ((zig (m : Int) : Nat) : Int)) := by
  refine Tr_of Tryz.func144 rfl rfl Tryz.ntmps144 rfl [(0, .int .i64 (m : Int))] rfl ?_
  intro Lf
  refine den_seq ?_
  -- region 0
  refine den_region rfl ?_
  refine WL_v (v_assign rfl) rfl ?_
  refine WL_nil ?_
  refine den_seq ?_
  refine den_seq ?_
  -- region 1
  refine den_region rfl ?_
  refine WL_v (v_move rfl) rfl ?_
  refine WL_v (v_geq rfl rfl) rfl ?_
  refine WL_nil ?_
  first | refine den_ifd rfl (fun hp => ?_) (fun hp => ?_) | refine den_if rfl (fun hp => ?_) (fun hp => ?_)
  · skip
    refine den_seq ?_
    -- region 2
    refine den_region rfl ?_
    refine WL_v (v_move rfl) rfl ?_
    refine WL_v (v_convu Tryz.underlying3 Tryz.underlying148 rfl (by omega)) rfl ?_
    refine WL_v (v_muln (m := 2) rfl rfl rfl (by show _ < 18446744073709551616; omega)) rfl ?_
    refine WL_v (v_assign rfl) rfl ?_
    refine WL_nil ?_
    refine den_ret ?_
    exact ends1 Tryz.results144 rfl (Heap.le.refl _) (by simp) ⟨by rw [zig_pos], rfl⟩
  · skip
    omega

theorem runs_neg (m : Nat) (hm : m < 9223372036854775808) (h : Heap) : Fn0 Tryz.prog 144 [.int .i64 (-(m : Int) - 1)] h (.int .u64 ((zig (-(m : Int) - 1) : Nat) : Int)) := by
  refine Tr_of Tryz.func144 rfl rfl Tryz.ntmps144 rfl [(0, .int .i64 (-(m : Int) - 1))] rfl ?_
  intro Lf
  refine den_seq ?_
  -- region 0
  refine den_region rfl ?_
  refine WL_v (v_assign rfl) rfl ?_
  refine WL_nil ?_
  refine den_seq ?_
  refine den_seq ?_
  -- region 1
  refine den_region rfl ?_
  refine WL_v (v_move rfl) rfl ?_
  refine WL_v (v_geq rfl rfl) rfl ?_
  refine WL_nil ?_
  first | refine den_ifd rfl (fun hp => ?_) (fun hp => ?_) | refine den_if rfl (fun hp => ?_) (fun hp => ?_)
  · skip
    omega
  · skip
    refine den_skip ?_
    refine den_seq ?_
    -- region 3
    refine den_region rfl ?_
    refine WL_v (v_move rfl) rfl ?_
    refine WL_v (v_add (z := -(m : Int)) rfl rfl (by rw [wrap_i64 (by omega) (by omega)]; omega)) rfl ?_
    refine WL_v (v_neg (z := (m : Int)) rfl (by rw [wrap_i64 (by omega) (by omega)]; omega)) rfl ?_
    refine WL_v (v_convu Tryz.underlying3 Tryz.underlying148 rfl (by omega)) rfl ?_
    refine WL_v (v_muln (m := 2) rfl rfl rfl (by show _ < 18446744073709551616; omega)) rfl ?_
    refine WL_v (v_addn (n := 1) rfl rfl rfl (by show _ < 18446744073709551616; omega)) rfl ?_
    refine WL_v (v_assign rfl) rfl ?_
    refine WL_nil ?_
    refine den_ret ?_
    exact ends1 Tryz.results144 rfl (Heap.le.refl _) (by simp) ⟨by rw [zig_neg], rfl⟩

theorem runs_fn (n : Int) (h1 : -9223372036854775808 ≤ n) (h2 : n < 9223372036854775808) (h : Heap) : Fn0 Tryz.prog 144 [.int .i64 n] h (.int .u64 ((zig n : Nat) : Int)) := by
  by_cases h0 : 0 ≤ n
  · obtain ⟨m, rfl⟩ := int_nat h0
    exact runs_pos m (by omega) h
  · obtain ⟨m, rfl⟩ : ∃ m : Nat, n = -(m : Int) - 1 := ⟨(-(n + 1)).toNat, by omega⟩
    exact runs_neg m (by omega) h

theorem rint_fn (n : Int) (h : Heap) : Fn0 Tryz.prog 76 [.int .i64 n] h (.agg ⟨[.int .i64 1, .int .i64 n, noStr, .slice none 0 0]⟩) := by
  refine Tr_of Tryz.func76 rfl rfl Tryz.ntmps76 rfl [(0, .int .i64 n)] rfl ?_
  intro Lf
  refine den_seq ?_
  -- region 0
  refine den_region rfl ?_
  refine WL_alloc zer58 rfl rfl fun b2 => ?_
  refine WL_nil ?_
  refine den_seq ?_
  -- region 1
  refine den_region rfl ?_
  refine WL_v (v_move rfl) rfl ?_
  refine WL_v (v_builds Tryz.underlying58 zer58 plc58 rfl rfl rfl) rfl ?_
  refine WL_store0 rfl rfl rfl siz58 rfl rfl rfl ?_
  refine WL_nil ?_
  refine den_ret ?_
  exact endsr1 Tryz.results76 (rv_n many58 rfl (by first | exact Kn.own 0 rfl | exact Kn.own 1 rfl | exact Kn.own 2 rfl | exact Kn.own 3 rfl | exact Kn.own 4 rfl | exact Kn.own 5 rfl | exact Kn.per ‹_›) rfl) (Heap.le.refl _) (by simp) ⟨rfl, rfl⟩

theorem rtext_fn (s : ByteArray) (h : Heap) : Fn0 Tryz.prog 75 [.string s] h (.agg ⟨[.int .i64 2, .int .i64 0, .string s, .slice none 0 0]⟩) := by
  refine Tr_of Tryz.func75 rfl rfl Tryz.ntmps75 rfl [(0, .string s)] rfl ?_
  intro Lf
  refine den_seq ?_
  -- region 0
  refine den_region rfl ?_
  refine WL_alloc zer58 rfl rfl fun b2 => ?_
  refine WL_nil ?_
  refine den_seq ?_
  -- region 1
  refine den_region rfl ?_
  refine WL_v (v_move rfl) rfl ?_
  refine WL_v (v_builds Tryz.underlying58 zer58 plc58 rfl rfl rfl) rfl ?_
  refine WL_store0 rfl rfl rfl siz58 rfl rfl rfl ?_
  refine WL_nil ?_
  refine den_ret ?_
  exact endsr1 Tryz.results75 (rv_n many58 rfl (by first | exact Kn.own 0 rfl | exact Kn.own 1 rfl | exact Kn.own 2 rfl | exact Kn.own 3 rfl | exact Kn.own 4 rfl | exact Kn.own 5 rfl | exact Kn.per ‹_›) rfl) (Heap.le.refl _) (by simp) ⟨rfl, rfl⟩

theorem rlist_fn (a : Option Addr) (n c : Nat) (h : Heap) : Fn0 Tryz.prog 74 [.slice a n c] h (.agg ⟨[.int .i64 3, .int .i64 0, noStr, .slice a n c]⟩) := by
  refine Tr_of Tryz.func74 rfl rfl Tryz.ntmps74 rfl [(0, .slice a n c)] rfl ?_
  intro Lf
  refine den_seq ?_
  -- region 0
  refine den_region rfl ?_
  refine WL_alloc zer58 rfl rfl fun b2 => ?_
  refine WL_nil ?_
  refine den_seq ?_
  -- region 1
  refine den_region rfl ?_
  refine WL_v (v_move rfl) rfl ?_
  refine WL_v (v_builds Tryz.underlying58 zer58 plc58 rfl rfl rfl) rfl ?_
  refine WL_store0 rfl rfl rfl siz58 rfl rfl rfl ?_
  refine WL_nil ?_
  refine den_ret ?_
  exact endsr1 Tryz.results74 (rv_n many58 rfl (by first | exact Kn.own 0 rfl | exact Kn.own 1 rfl | exact Kn.own 2 rfl | exact Kn.own 3 rfl | exact Kn.own 4 rfl | exact Kn.own 5 rfl | exact Kn.per ‹_›) rfl) (Heap.le.refl _) (by simp) ⟨rfl, rfl⟩

theorem rnumeral_fn  : ∀ (u : Nat) (hu : u < 18446744073709551616) (h : Heap), Tr Tryz.prog 143 [.int .u64 (u : Int)] h [] (fun v _ L' => OwnS 5 1 v (num u).length ((num u).map byteV) L') := by
  intro u
  induction u using Nat.strongRecOn with
  | _ u ih =>
  intro hu h
  have hl10 := num_len10 hu
  refine Tr_of Tryz.func143 rfl rfl Tryz.ntmps143 rfl [(0, .int .u64 (u : Int))] rfl ?_
  intro Lf
  refine den_seq ?_
  -- region 0
  refine den_region rfl ?_
  refine WL_v (v_assign rfl) rfl ?_
  refine WL_nil ?_
  refine den_seq ?_
  refine den_seq ?_
  -- region 1
  refine den_region rfl ?_
  refine WL_v (v_move rfl) rfl ?_
  refine WL_v (v_lss rfl rfl) rfl ?_
  refine WL_nil ?_
  first | refine den_ifd rfl (fun hlt => ?_) (fun hge => ?_) | refine den_if rfl (fun hlt => ?_) (fun hge => ?_)
  · skip
    refine den_seq ?_
    -- region 2
    refine den_region rfl ?_
    refine WL_v (v_move rfl) rfl ?_
    refine WL_v (v_convn Tryz.underlying148 Tryz.underlying5 rfl rfl) rfl ?_
    rw [show u % 2 ^ IntKind.u8.bits = u from Nat.mod_eq_of_lt (by show u < 256; omega)]
    refine WL_buildSlice Tryz.underlying53 zer5 rfl siz5 rfl rfl rfl rfl rfl fun b7 => ?_
    refine WL_v (v_assign rfl) rfl ?_
    refine WL_nil ?_
    refine den_ret ?_
    refine ends1 Tryz.results143 (L' := [(b7, _)]) rfl (Heap.le.refl _) (List.Sublist.refl _) ?_
    rw [num_lo (by omega)]
    have hf := OwnS.full (et := 5) (size := 1) (b := b7) (n := 1) (xs := [byteV (UInt8.ofNat u)]) rfl (by decide)
    rw [byteV_nat (by omega)] at hf
    simpa [byteV_nat (show u < 256 by omega)] using hf
  · skip
    refine den_skip ?_
    refine den_seq ?_
    -- region 3
    refine den_region rfl ?_
    refine WL_v (v_move rfl) rfl ?_
    refine WL_v (v_remn (n := 128) rfl rfl (by decide)) rfl ?_
    refine WL_v (v_addn (n := 128) rfl rfl rfl (by show _ < 18446744073709551616; omega)) rfl ?_
    refine WL_v (v_convn Tryz.underlying148 Tryz.underlying5 rfl rfl) rfl ?_
    rw [show (u % 128 + 128) % 2 ^ IntKind.u8.bits = u % 128 + 128 from Nat.mod_eq_of_lt (by show _ < 256; omega)]
    refine WL_buildSlice Tryz.underlying53 zer5 rfl siz5 rfl rfl rfl rfl rfl fun b12 => ?_
    refine WL_v (v_move rfl) rfl ?_
    refine WL_v (v_quon (n := 128) rfl rfl rfl (by decide) (by show _ < 18446744073709551616; omega)) rfl ?_
    refine WL_callf (L1 := []) rfl (ih (u / 128) (by omega) (by omega) _) rfl ?_
    rintro v15 h15 L15 hle15 ho15
    have hl2 := num_len10 (u := u / 128) (by omega)
    refine WL_freezeS ho15 fun h16 hl16 hbs => ?_
    refine WL_perm (L' := [(b12, _)] ++ Lf) (List.Perm.refl _) ?_
    refine WL_append Tryz.underlying53 Tryz.underlying53 (.inr ⟨_, rfl⟩) siz5 byt5 (by decide) zer5 rfl rfl rfl rfl (OwnS.full (n := 1) rfl (by decide)) hbs.src (bytes_one _) (by omega) rfl fun v2 L2 ho2 => ?_
    refine WL_v (v_assign rfl) rfl ?_
    refine WL_nil ?_
    refine den_ret ?_
    refine ends1 Tryz.results143 rfl (hle15.trans hl16) (List.Sublist.refl _) ?_
    rw [num_hi (by omega), List.length_cons, Nat.add_comm, List.map_cons, byteV_nat (by omega)]
    exact ho2

theorem rdepth1 (n : Int) (h : Heap) : Fn0 Tryz.prog 142 [.agg ⟨[.int .i64 1, .int .i64 n, noStr, .slice none 0 0]⟩] h (.int .i64 ((0 : Nat) : Int)) := by
  refine Tr_of Tryz.func142 rfl rfl Tryz.ntmps142 rfl [(0, .agg ⟨[.int .i64 1, .int .i64 n, noStr, .slice none 0 0]⟩)] rfl ?_
  intro Lf
  refine den_seq ?_
  -- region 0
  refine den_region rfl ?_
  refine WL_box (zs := [.int .i64 1, .int .i64 n, noStr, .slice none 0 0]) rfl rfl rfl fun b1 => ?_
  refine WL_freeze fun h1 hl1 hb1 => ?_
  refine WL_v (v_assign rfl) rfl ?_
  refine WL_nil ?_
  refine den_seq ?_
  refine den_seq ?_
  -- region 1
  refine den_region rfl ?_
  refine WL_v (v_faddr Tryz.underlying58 rfl siz3 rfl) rfl ?_
  refine WL_v (v_load1 one3 rfl (by first | exact Kn.own 0 rfl | exact Kn.own 1 rfl | exact Kn.own 2 rfl | exact Kn.own 3 rfl | exact Kn.own 4 rfl | exact Kn.own 5 rfl | exact Kn.per ‹_›) rfl) rfl ?_
  refine WL_v (OpV.to (v' := .bool true) (v_neq rfl rfl) (by first | rfl | simp)) rfl ?_
  refine WL_nil ?_
  refine den_true rfl ?_
  refine den_seq ?_
  -- region 2
  refine den_region rfl ?_
  refine WL_v (v_assign rfl) rfl ?_
  refine WL_nil ?_
  refine den_ret ?_
  exact ends1 Tryz.results142 rfl hl1 (List.Sublist.refl _) ⟨rfl, rfl⟩

theorem rdepth2 (s : ByteArray) (h : Heap) : Fn0 Tryz.prog 142 [.agg ⟨[.int .i64 2, .int .i64 0, .string s, .slice none 0 0]⟩] h (.int .i64 ((0 : Nat) : Int)) := by
  refine Tr_of Tryz.func142 rfl rfl Tryz.ntmps142 rfl [(0, .agg ⟨[.int .i64 2, .int .i64 0, .string s, .slice none 0 0]⟩)] rfl ?_
  intro Lf
  refine den_seq ?_
  -- region 0
  refine den_region rfl ?_
  refine WL_box (zs := [.int .i64 2, .int .i64 0, .string s, .slice none 0 0]) rfl rfl rfl fun b1 => ?_
  refine WL_freeze fun h1 hl1 hb1 => ?_
  refine WL_v (v_assign rfl) rfl ?_
  refine WL_nil ?_
  refine den_seq ?_
  refine den_seq ?_
  -- region 1
  refine den_region rfl ?_
  refine WL_v (v_faddr Tryz.underlying58 rfl siz3 rfl) rfl ?_
  refine WL_v (v_load1 one3 rfl (by first | exact Kn.own 0 rfl | exact Kn.own 1 rfl | exact Kn.own 2 rfl | exact Kn.own 3 rfl | exact Kn.own 4 rfl | exact Kn.own 5 rfl | exact Kn.per ‹_›) rfl) rfl ?_
  refine WL_v (OpV.to (v' := .bool true) (v_neq rfl rfl) (by first | rfl | simp)) rfl ?_
  refine WL_nil ?_
  refine den_true rfl ?_
  refine den_seq ?_
  -- region 2
  refine den_region rfl ?_
  refine WL_v (v_assign rfl) rfl ?_
  refine WL_nil ?_
  refine den_ret ?_
  exact ends1 Tryz.results142 rfl hl1 (List.Sublist.refl _) ⟨rfl, rfl⟩

theorem rdepth3 (h : Heap) (l : List V) (a : Option Addr) (cap : Nat) (x : Nat → List Value) (hn : l.length < 9223372036854775808) (hs : Sln h a l.length 4 x) (hd : dmax l < 4611686018427387904) (hx : ∀ i m, l[i]? = some m → VR h (x i) m) (ih : ∀ i m, l[i]? = some m → ∀ h', Heap.le h h' → Fn0 Tryz.prog 142 [.agg ⟨x i⟩] h' (.int .i64 ((m.depth : Nat) : Int))) : Fn0 Tryz.prog 142 [.agg ⟨[.int .i64 3, .int .i64 0, noStr, .slice a l.length cap]⟩] h (.int .i64 ((dmax l + 1 : Nat) : Int)) := by
  refine Tr_of Tryz.func142 rfl rfl Tryz.ntmps142 rfl [(0, .agg ⟨[.int .i64 3, .int .i64 0, noStr, .slice a l.length cap]⟩)] rfl ?_
  intro Lf
  refine den_seq ?_
  -- region 0
  refine den_region rfl ?_
  refine WL_box (zs := [.int .i64 3, .int .i64 0, noStr, .slice a l.length cap]) rfl rfl rfl fun b1 => ?_
  refine WL_freeze fun h1 hl1 hb1 => ?_
  refine WL_v (v_assign rfl) rfl ?_
  refine WL_nil ?_
  refine den_seq ?_
  refine den_seq ?_
  -- region 1
  refine den_region rfl ?_
  refine WL_v (v_faddr Tryz.underlying58 rfl siz3 rfl) rfl ?_
  refine WL_v (v_load1 one3 rfl (by first | exact Kn.own 0 rfl | exact Kn.own 1 rfl | exact Kn.own 2 rfl | exact Kn.own 3 rfl | exact Kn.own 4 rfl | exact Kn.own 5 rfl | exact Kn.per ‹_›) rfl) rfl ?_
  refine WL_v (OpV.to (v' := .bool false) (v_neq rfl rfl) (by first | rfl | simp)) rfl ?_
  refine WL_nil ?_
  refine den_false rfl ?_
  refine den_skip ?_
  refine den_seq ?_
  -- region 3
  refine den_region rfl ?_
  refine WL_v (v_assign rfl) rfl ?_
  refine WL_nil ?_
  refine den_seq ?_
  refine den_seq ?_
  -- region 4
  refine den_region rfl ?_
  refine WL_v (v_assign rfl) rfl ?_
  refine WL_nil ?_
  refine den_block ?_
  refine den_loopI (ι := Nat) (fun i => [(1, .pointer (some ⟨b1, 0, none⟩)), (3, .int .i64 ((dmax (l.take i) : Nat) : Int)), (4, .int .i64 ((i : Nat) : Int))]) (fun i h' L' => i ≤ l.length ∧ h1 = h' ∧ Lf = L') (fun i => l.length - i) 0 (sub_cons rfl (sub_cons rfl (sub_cons rfl sub_nil))) ⟨by omega, rfl, rfl⟩ ?_
  rintro i _ _ ⟨i1, rfl, rfl⟩
  refine den_seq ?_
  refine den_seq ?_
  -- region 5
  refine den_region rfl ?_
  refine WL_v (v_move rfl) rfl ?_
  refine WL_v (v_faddr Tryz.underlying58 rfl siz56 rfl) rfl ?_
  refine WL_v (v_load1 one56 rfl (by first | exact Kn.own 0 rfl | exact Kn.own 1 rfl | exact Kn.own 2 rfl | exact Kn.own 3 rfl | exact Kn.own 4 rfl | exact Kn.own 5 rfl | exact Kn.per ‹_›) rfl) rfl ?_
  refine WL_v (v_lens Tryz.underlying56 rfl) rfl ?_
  refine WL_v (v_lss rfl rfl) rfl ?_
  refine WL_nil ?_
  first | refine den_ifd rfl (fun hi => ?_) (fun hi => ?_) | refine den_if rfl (fun hi => ?_) (fun hi => ?_)
  · skip
    refine den_skip ?_
    refine den_seq ?_
    refine den_block ?_
    -- region 7
    refine den_region rfl ?_
    refine WL_v (v_move rfl) rfl ?_
    refine WL_v (v_faddr Tryz.underlying58 rfl siz56 rfl) rfl ?_
    refine WL_v (v_load1 one56 rfl (by first | exact Kn.own 0 rfl | exact Kn.own 1 rfl | exact Kn.own 2 rfl | exact Kn.own 3 rfl | exact Kn.own 4 rfl | exact Kn.own 5 rfl | exact Kn.per ‹_›) rfl) rfl ?_
    refine WL_v (v_move rfl) rfl ?_
    obtain ⟨b, off, all, Tl, frl, rfl, hbl, hcut⟩ := hs i (by omega)
    obtain ⟨m, hm⟩ : ∃ m, l[i]? = some m := ⟨l[i], List.getElem?_eq_getElem (by omega)⟩
    refine WL_v (v_iaddrs Tryz.underlying56 siz58 rfl rfl rfl (by omega)) rfl ?_
    refine WL_v (v_loadn many58 rfl (Kn.per (hl1 _ _ hbl)) hcut) rfl ?_
    refine WL_callq rfl (ih i m hm _ hl1) rfl ?_
    refine WL_v (v_maxj rfl rfl) rfl ?_
    rw [← dmax_next hm]
    refine WL_v (v_assign rfl) rfl ?_
    refine WL_nil ?_
    refine den_blk ?_
    -- region 6
    refine den_region rfl ?_
    refine WL_v (v_move rfl) rfl ?_
    refine WL_v (v_addj (n := 1) rfl rfl (by show _ < 9223372036854775808; omega)) rfl ?_
    refine WL_v (v_assign rfl) rfl ?_
    refine WL_nil ?_
    refine den_again ⟨rfl, (i + 1), (by show l.length - (i + 1) < l.length - i; omega), (sub_cons rfl (sub_cons rfl (sub_cons rfl sub_nil))), ⟨by omega, rfl, rfl⟩⟩
  · skip
    have hin : i = l.length := by omega
    subst hin
    rw [List.take_length]
    refine den_exit rfl ?_
    refine den_seq ?_
    -- region 8
    refine den_region rfl ?_
    refine WL_v (v_move rfl) rfl ?_
    refine WL_v (v_addj (n := 1) rfl rfl (by show _ < 9223372036854775808; omega)) rfl ?_
    refine WL_v (v_assign rfl) rfl ?_
    refine WL_nil ?_
    refine den_ret ?_
    exact ends1 Tryz.results142 rfl hl1 (List.Sublist.refl _) ⟨rfl, rfl⟩

theorem rdepth_fn {h : Heap} {cs : List Value} {m : V} (v : VR h cs m) (hd : m.depth < 4611686018427387904) : ∀ h', Heap.le h h' → Fn0 Tryz.prog 142 [.agg ⟨cs⟩] h' (.int .i64 ((m.depth : Nat) : Int)) := by
  induction v with
  | int n h1 h2 => intro h' _; have := rdepth1 n h'; first | exact this | rwa [V.depth]
  | text s => intro h' _; have := rdepth2 s h'; first | exact this | rwa [V.depth]
  | list l a cap x hn hs hx ih =>
    intro h' hl
    have hd' : dmax l < 4611686018427387904 := by rw [V.depth] at hd; omega
    have := rdepth3 h' l a cap x hn (hs.le hl) hd' (fun i m hm => (hx i m hm).le hl) (fun i m hm h2 hl2 => ih i m hm (Nat.lt_of_le_of_lt (dmax_mem hm) hd') h2 (hl.trans hl2))
    first | exact this | (rw [V.depth]; exact this)

theorem rformed1 (n : Int) (h : Heap) : Fn0 Tryz.prog 141 [.agg ⟨[.int .i64 1, .int .i64 n, noStr, .slice none 0 0]⟩] h (.bool true) := by
  refine Tr_of Tryz.func141 rfl rfl Tryz.ntmps141 rfl [(0, .agg ⟨[.int .i64 1, .int .i64 n, noStr, .slice none 0 0]⟩)] rfl ?_
  intro Lf
  refine den_seq ?_
  -- region 0
  refine den_region rfl ?_
  refine WL_box (zs := [.int .i64 1, .int .i64 n, noStr, .slice none 0 0]) rfl rfl rfl fun b1 => ?_
  refine WL_freeze fun h1 hl1 hb1 => ?_
  refine WL_v (v_assign rfl) rfl ?_
  refine WL_nil ?_
  refine den_seq ?_
  refine den_seq ?_
  -- region 1
  refine den_region rfl ?_
  refine WL_v (v_faddr Tryz.underlying58 rfl siz3 rfl) rfl ?_
  refine WL_v (v_load1 one3 rfl (by first | exact Kn.own 0 rfl | exact Kn.own 1 rfl | exact Kn.own 2 rfl | exact Kn.own 3 rfl | exact Kn.own 4 rfl | exact Kn.own 5 rfl | exact Kn.per ‹_›) rfl) rfl ?_
  refine WL_nil ?_
  refine den_block ?_
  refine den_seq ?_
  -- region 2
  refine den_region rfl ?_
  refine WL_v (OpV.to (v' := .bool true) (v_eql rfl rfl) (by first | rfl | simp)) rfl ?_
  refine WL_v (v_assign rfl) rfl ?_
  refine WL_nil ?_
  refine den_true rfl ?_
  refine den_seq ?_
  -- region 3
  refine den_region rfl ?_
  refine WL_v (v_faddr Tryz.underlying58 rfl siz9 rfl) rfl ?_
  refine WL_v (v_load1 one9 rfl (by first | exact Kn.own 0 rfl | exact Kn.own 1 rfl | exact Kn.own 2 rfl | exact Kn.own 3 rfl | exact Kn.own 4 rfl | exact Kn.own 5 rfl | exact Kn.per ‹_›) rfl) rfl ?_
  refine WL_v (v_sself rfl rfl) rfl ?_
  refine WL_v (v_move rfl) rfl ?_
  refine WL_vg rfl rfl (v_faddr Tryz.underlying58 rfl siz56 rfl) rfl ?_
  refine WL_vg rfl rfl (v_load1 one56 rfl (by first | exact Kn.own 0 rfl | exact Kn.own 1 rfl | exact Kn.own 2 rfl | exact Kn.own 3 rfl | exact Kn.own 4 rfl | exact Kn.own 5 rfl | exact Kn.per ‹_›) rfl) rfl ?_
  refine WL_vg rfl rfl (v_lens Tryz.underlying56 rfl) rfl ?_
  refine WL_vg rfl rfl (OpV.to (v' := .bool true) (v_eql rfl rfl) (by first | rfl | simp)) rfl ?_
  refine WL_v (v_pickt rfl rfl) rfl ?_
  refine WL_v (v_assign rfl) rfl ?_
  refine WL_nil ?_
  refine den_ret ?_
  exact ends1 Tryz.results141 rfl hl1 (List.Sublist.refl _) ⟨rfl, rfl⟩

theorem rformed2 (s : ByteArray) (h : Heap) : Fn0 Tryz.prog 141 [.agg ⟨[.int .i64 2, .int .i64 0, .string s, .slice none 0 0]⟩] h (.bool true) := by
  refine Tr_of Tryz.func141 rfl rfl Tryz.ntmps141 rfl [(0, .agg ⟨[.int .i64 2, .int .i64 0, .string s, .slice none 0 0]⟩)] rfl ?_
  intro Lf
  refine den_seq ?_
  -- region 0
  refine den_region rfl ?_
  refine WL_box (zs := [.int .i64 2, .int .i64 0, .string s, .slice none 0 0]) rfl rfl rfl fun b1 => ?_
  refine WL_freeze fun h1 hl1 hb1 => ?_
  refine WL_v (v_assign rfl) rfl ?_
  refine WL_nil ?_
  refine den_seq ?_
  refine den_seq ?_
  -- region 1
  refine den_region rfl ?_
  refine WL_v (v_faddr Tryz.underlying58 rfl siz3 rfl) rfl ?_
  refine WL_v (v_load1 one3 rfl (by first | exact Kn.own 0 rfl | exact Kn.own 1 rfl | exact Kn.own 2 rfl | exact Kn.own 3 rfl | exact Kn.own 4 rfl | exact Kn.own 5 rfl | exact Kn.per ‹_›) rfl) rfl ?_
  refine WL_nil ?_
  refine den_block ?_
  refine den_seq ?_
  -- region 2
  refine den_region rfl ?_
  refine WL_v (OpV.to (v' := .bool false) (v_eql rfl rfl) (by first | rfl | simp)) rfl ?_
  refine WL_v (v_assign rfl) rfl ?_
  refine WL_nil ?_
  refine den_false rfl ?_
  refine den_seq ?_
  -- region 4
  refine den_region rfl ?_
  refine WL_v (OpV.to (v' := .bool true) (v_eql rfl rfl) (by first | rfl | simp)) rfl ?_
  refine WL_v (v_assign rfl) rfl ?_
  refine WL_nil ?_
  refine den_true rfl ?_
  refine den_seq ?_
  -- region 5
  refine den_region rfl ?_
  refine WL_v (v_faddr Tryz.underlying58 rfl siz3 rfl) rfl ?_
  refine WL_v (v_load1 one3 rfl (by first | exact Kn.own 0 rfl | exact Kn.own 1 rfl | exact Kn.own 2 rfl | exact Kn.own 3 rfl | exact Kn.own 4 rfl | exact Kn.own 5 rfl | exact Kn.per ‹_›) rfl) rfl ?_
  refine WL_v (OpV.to (v' := .bool true) (v_eql rfl rfl) (by first | rfl | simp)) rfl ?_
  refine WL_v (v_move rfl) rfl ?_
  refine WL_vg rfl rfl (v_faddr Tryz.underlying58 rfl siz56 rfl) rfl ?_
  refine WL_vg rfl rfl (v_load1 one56 rfl (by first | exact Kn.own 0 rfl | exact Kn.own 1 rfl | exact Kn.own 2 rfl | exact Kn.own 3 rfl | exact Kn.own 4 rfl | exact Kn.own 5 rfl | exact Kn.per ‹_›) rfl) rfl ?_
  refine WL_vg rfl rfl (v_lens Tryz.underlying56 rfl) rfl ?_
  refine WL_vg rfl rfl (OpV.to (v' := .bool true) (v_eql rfl rfl) (by first | rfl | simp)) rfl ?_
  refine WL_v (v_pickt rfl rfl) rfl ?_
  refine WL_v (v_assign rfl) rfl ?_
  refine WL_nil ?_
  refine den_ret ?_
  exact ends1 Tryz.results141 rfl hl1 (List.Sublist.refl _) ⟨rfl, rfl⟩

theorem rformed3 (h : Heap) (l : List V) (a : Option Addr) (cap : Nat) (x : Nat → List Value) (hn : l.length < 9223372036854775808) (hs : Sln h a l.length 4 x) (hd : dmax l < 4611686018427387904) (hx : ∀ i m, l[i]? = some m → VR h (x i) m) (ih : ∀ i m, l[i]? = some m → ∀ h', Heap.le h h' → Fn0 Tryz.prog 141 [.agg ⟨x i⟩] h' (.bool true)) : Fn0 Tryz.prog 141 [.agg ⟨[.int .i64 3, .int .i64 0, noStr, .slice a l.length cap]⟩] h (.bool true) := by
  refine Tr_of Tryz.func141 rfl rfl Tryz.ntmps141 rfl [(0, .agg ⟨[.int .i64 3, .int .i64 0, noStr, .slice a l.length cap]⟩)] rfl ?_
  intro Lf
  refine den_seq ?_
  -- region 0
  refine den_region rfl ?_
  refine WL_box (zs := [.int .i64 3, .int .i64 0, noStr, .slice a l.length cap]) rfl rfl rfl fun b1 => ?_
  refine WL_freeze fun h1 hl1 hb1 => ?_
  refine WL_v (v_assign rfl) rfl ?_
  refine WL_nil ?_
  refine den_seq ?_
  refine den_seq ?_
  -- region 1
  refine den_region rfl ?_
  refine WL_v (v_faddr Tryz.underlying58 rfl siz3 rfl) rfl ?_
  refine WL_v (v_load1 one3 rfl (by first | exact Kn.own 0 rfl | exact Kn.own 1 rfl | exact Kn.own 2 rfl | exact Kn.own 3 rfl | exact Kn.own 4 rfl | exact Kn.own 5 rfl | exact Kn.per ‹_›) rfl) rfl ?_
  refine WL_nil ?_
  refine den_block ?_
  refine den_seq ?_
  -- region 2
  refine den_region rfl ?_
  refine WL_v (OpV.to (v' := .bool false) (v_eql rfl rfl) (by first | rfl | simp)) rfl ?_
  refine WL_v (v_assign rfl) rfl ?_
  refine WL_nil ?_
  refine den_false rfl ?_
  refine den_seq ?_
  -- region 4
  refine den_region rfl ?_
  refine WL_v (OpV.to (v' := .bool false) (v_eql rfl rfl) (by first | rfl | simp)) rfl ?_
  refine WL_v (v_assign rfl) rfl ?_
  refine WL_nil ?_
  refine den_false rfl ?_
  refine den_seq ?_
  -- region 6
  refine den_region rfl ?_
  refine WL_v (OpV.to (v' := .bool true) (v_eql rfl rfl) (by first | rfl | simp)) rfl ?_
  refine WL_v (v_assign rfl) rfl ?_
  refine WL_nil ?_
  refine den_true rfl ?_
  refine den_seq ?_
  refine den_seq ?_
  -- region 7
  refine den_region rfl ?_
  refine WL_v (v_assign rfl) rfl ?_
  refine WL_nil ?_
  refine den_block ?_
  refine den_loopI (ι := Nat) (fun i => [(1, .pointer (some ⟨b1, 0, none⟩)), (3, .int .i64 ((i : Nat) : Int))]) (fun i h' L' => i ≤ l.length ∧ h1 = h' ∧ Lf = L') (fun i => l.length - i) 0 (sub_cons rfl (sub_cons rfl sub_nil)) ⟨by omega, rfl, rfl⟩ ?_
  rintro i _ _ ⟨i1, rfl, rfl⟩
  refine den_seq ?_
  refine den_seq ?_
  -- region 8
  refine den_region rfl ?_
  refine WL_v (v_move rfl) rfl ?_
  refine WL_v (v_faddr Tryz.underlying58 rfl siz56 rfl) rfl ?_
  refine WL_v (v_load1 one56 rfl (by first | exact Kn.own 0 rfl | exact Kn.own 1 rfl | exact Kn.own 2 rfl | exact Kn.own 3 rfl | exact Kn.own 4 rfl | exact Kn.own 5 rfl | exact Kn.per ‹_›) rfl) rfl ?_
  refine WL_v (v_lens Tryz.underlying56 rfl) rfl ?_
  refine WL_v (v_lss rfl rfl) rfl ?_
  refine WL_nil ?_
  first | refine den_ifd rfl (fun hi => ?_) (fun hi => ?_) | refine den_if rfl (fun hi => ?_) (fun hi => ?_)
  · skip
    refine den_skip ?_
    refine den_seq ?_
    refine den_block ?_
    refine den_seq ?_
    -- region 10
    refine den_region rfl ?_
    refine WL_v (v_faddr Tryz.underlying58 rfl siz56 rfl) rfl ?_
    refine WL_v (v_load1 one56 rfl (by first | exact Kn.own 0 rfl | exact Kn.own 1 rfl | exact Kn.own 2 rfl | exact Kn.own 3 rfl | exact Kn.own 4 rfl | exact Kn.own 5 rfl | exact Kn.per ‹_›) rfl) rfl ?_
    refine WL_v (v_move rfl) rfl ?_
    obtain ⟨b, off, all, Tl, frl, rfl, hbl, hcut⟩ := hs i (by omega)
    obtain ⟨m, hm⟩ : ∃ m, l[i]? = some m := ⟨l[i], List.getElem?_eq_getElem (by omega)⟩
    refine WL_v (v_iaddrs Tryz.underlying56 siz58 rfl rfl rfl (by omega)) rfl ?_
    refine WL_v (v_loadn many58 rfl (Kn.per (hl1 _ _ hbl)) hcut) rfl ?_
    refine WL_callq rfl (ih i m hm _ hl1) rfl ?_
    first | refine WL_v (v_notd rfl) rfl ?_ | refine WL_v (v_not rfl) rfl ?_
    refine WL_nil ?_
    first | refine den_ifd rfl (fun hnf => ?_) (fun hnf => ?_) | refine den_if rfl (fun hnf => ?_) (fun hnf => ?_)
    · skip
      exact absurd hnf (by decide)
    · skip
      refine den_skip ?_
      refine den_blk ?_
      -- region 9
      refine den_region rfl ?_
      refine WL_v (v_move rfl) rfl ?_
      refine WL_v (v_addj (n := 1) rfl rfl (by show _ < 9223372036854775808; omega)) rfl ?_
      refine WL_v (v_assign rfl) rfl ?_
      refine WL_nil ?_
      refine den_again ⟨rfl, (i + 1), (by show l.length - (i + 1) < l.length - i; omega), (sub_cons rfl (sub_cons rfl sub_nil)), ⟨by omega, rfl, rfl⟩⟩
  · skip
    have hin : i = l.length := by omega
    subst hin
    refine den_exit rfl ?_
    refine den_seq ?_
    -- region 12
    refine den_region rfl ?_
    refine WL_v (v_faddr Tryz.underlying58 rfl siz3 rfl) rfl ?_
    refine WL_v (v_load1 one3 rfl (by first | exact Kn.own 0 rfl | exact Kn.own 1 rfl | exact Kn.own 2 rfl | exact Kn.own 3 rfl | exact Kn.own 4 rfl | exact Kn.own 5 rfl | exact Kn.per ‹_›) rfl) rfl ?_
    refine WL_v (OpV.to (v' := .bool true) (v_eql rfl rfl) (by first | rfl | simp)) rfl ?_
    refine WL_v (v_move rfl) rfl ?_
    refine WL_vg rfl rfl (v_faddr Tryz.underlying58 rfl siz9 rfl) rfl ?_
    refine WL_vg rfl rfl (v_load1 one9 rfl (by first | exact Kn.own 0 rfl | exact Kn.own 1 rfl | exact Kn.own 2 rfl | exact Kn.own 3 rfl | exact Kn.own 4 rfl | exact Kn.own 5 rfl | exact Kn.per ‹_›) rfl) rfl ?_
    refine WL_vg rfl rfl (v_sself rfl rfl) rfl ?_
    refine WL_v (v_pickt rfl rfl) rfl ?_
    refine WL_v (v_assign rfl) rfl ?_
    refine WL_nil ?_
    refine den_ret ?_
    exact ends1 Tryz.results141 rfl hl1 (List.Sublist.refl _) ⟨rfl, rfl⟩

theorem rformed_fn {h : Heap} {cs : List Value} {m : V} (v : VR h cs m) (hd : m.depth < 4611686018427387904) : ∀ h', Heap.le h h' → Fn0 Tryz.prog 141 [.agg ⟨cs⟩] h' (.bool true) := by
  induction v with
  | int n h1 h2 => intro h' _; have := rformed1 n h'; first | exact this | rwa [V.depth]
  | text s => intro h' _; have := rformed2 s h'; first | exact this | rwa [V.depth]
  | list l a cap x hn hs hx ih =>
    intro h' hl
    have hd' : dmax l < 4611686018427387904 := by rw [V.depth] at hd; omega
    have := rformed3 h' l a cap x hn (hs.le hl) hd' (fun i m hm => (hx i m hm).le hl) (fun i m hm h2 hl2 => ih i m hm (Nat.lt_of_le_of_lt (dmax_mem hm) hd') h2 (hl.trans hl2))
    first | exact this | (rw [V.depth]; exact this)

theorem rvcheck_fn (cs : List Value) (m : V) (h : Heap) (v : VR h cs m) (hd : m.depth < 4611686018427387904) : Fn0 Tryz.prog 113 [.agg ⟨cs⟩] h (.int .i64 (if m.depth ≤ 16 then 0 else 2)) := by
  refine Tr_of Tryz.func113 rfl rfl Tryz.ntmps113 rfl [(0, .agg ⟨cs⟩)] rfl ?_
  intro Lf
  obtain ⟨hx4, hx1⟩ := v.four
  refine den_seq ?_
  -- region 0
  refine den_region rfl ?_
  refine WL_box (zs := cs) rfl rfl rfl fun b1 => ?_
  refine WL_freeze fun h1 hl1 hb1 => ?_
  refine WL_v (v_assign rfl) rfl ?_
  refine WL_nil ?_
  refine den_seq ?_
  refine den_seq ?_
  -- region 1
  refine den_region rfl ?_
  refine WL_v (v_loadn many58 rfl (Kn.per hb1) (cut_self hx4)) rfl ?_
  refine WL_callq rfl (rformed_fn v hd _ hl1) rfl ?_
  refine WL_v (OpV.to (v' := .bool false) (v_not rfl) (by first | rfl | simp)) rfl ?_
  refine WL_nil ?_
  refine den_false rfl ?_
  refine den_skip ?_
  refine den_seq ?_
  refine den_seq ?_
  -- region 3
  refine den_region rfl ?_
  refine WL_v (v_loadn many58 rfl (Kn.per hb1) (cut_self hx4)) rfl ?_
  refine WL_callq rfl (rdepth_fn v hd _ hl1) rfl ?_
  refine WL_v (v_gtr rfl rfl) rfl ?_
  refine WL_nil ?_
  first | refine den_ifd rfl (fun hgt => ?_) (fun hgt => ?_) | refine den_if rfl (fun hgt => ?_) (fun hgt => ?_)
  · skip
    refine den_seq ?_
    -- region 4
    refine den_region rfl ?_
    refine WL_v (v_assign rfl) rfl ?_
    refine WL_nil ?_
    refine den_ret ?_
    exact ends1 Tryz.results113 rfl hl1 (by simp) ⟨by first | rw [if_neg (by omega)] | rw [if_pos (by omega)], rfl⟩
  · skip
    refine den_skip ?_
    refine den_seq ?_
    -- region 5
    refine den_region rfl ?_
    refine WL_v (v_assign rfl) rfl ?_
    refine WL_nil ?_
    refine den_ret ?_
    exact ends1 Tryz.results113 rfl hl1 (by simp) ⟨by first | rw [if_neg (by omega)] | rw [if_pos (by omega)], rfl⟩

theorem rencode1 (n : Int) (h1 : -9223372036854775808 ≤ n) (h2 : n < 9223372036854775808) (h : Heap) : Tr Tryz.prog 114 [.agg ⟨[.int .i64 1, .int .i64 n, noStr, .slice none 0 0]⟩] h [] (fun v _ L' => OwnS 5 1 v (V.enc (.int n)).length ((V.enc (.int n)).map byteV) L') := by
  refine Tr_of Tryz.func114 rfl rfl Tryz.ntmps114 rfl [(0, .agg ⟨[.int .i64 1, .int .i64 n, noStr, .slice none 0 0]⟩)] rfl ?_
  intro Lf
  refine den_seq ?_
  -- region 0
  refine den_region rfl ?_
  refine WL_box (zs := [.int .i64 1, .int .i64 n, noStr, .slice none 0 0]) rfl rfl rfl fun b1 => ?_
  refine WL_freeze fun hA hlA hb1 => ?_
  refine WL_v (v_assign rfl) rfl ?_
  refine WL_nil ?_
  refine den_seq ?_
  refine den_seq ?_
  -- region 1
  refine den_region rfl ?_
  refine WL_v (v_faddr Tryz.underlying58 rfl siz3 rfl) rfl ?_
  refine WL_v (v_load1 one3 rfl (by first | exact Kn.own 0 rfl | exact Kn.own 1 rfl | exact Kn.own 2 rfl | exact Kn.own 3 rfl | exact Kn.own 4 rfl | exact Kn.own 5 rfl | exact Kn.per ‹_›) rfl) rfl ?_
  refine WL_nil ?_
  refine den_block ?_
  refine den_seq ?_
  -- region 2
  refine den_region rfl ?_
  refine WL_v (v_eql rfl rfl) rfl ?_
  refine WL_v (OpV.to (v' := .bool true) (v_assign rfl) (by first | rfl | simp)) rfl ?_
  refine WL_nil ?_
  refine den_true rfl ?_
  refine den_seq ?_
  -- region 3
  refine den_region rfl ?_
  refine WL_buildSlice Tryz.underlying53 zer5 rfl siz5 rfl rfl rfl rfl rfl fun b9 => ?_
  refine WL_v (v_faddr Tryz.underlying58 rfl siz3 rfl) rfl ?_
  refine WL_v (v_load1 one3 rfl (by first | exact Kn.own 0 rfl | exact Kn.own 1 rfl | exact Kn.own 2 rfl | exact Kn.own 3 rfl | exact Kn.own 4 rfl | exact Kn.own 5 rfl | exact Kn.per ‹_›) rfl) rfl ?_
  refine WL_callq rfl (runs_fn n h1 h2 _) rfl ?_
  refine WL_callf (L1 := []) rfl (rnumeral_fn (zig n) (zig_lt h1 h2) _) rfl ?_
  rintro v15 h15 L15 hle15 ho15
  have hl2 := num_len10 (zig_lt h1 h2)
  refine WL_freezeS ho15 fun h16 hl16 hbs => ?_
  refine WL_perm (L' := [(b9, _)] ++ Lf) (List.Perm.refl _) ?_
  refine WL_append Tryz.underlying53 Tryz.underlying53 (.inr ⟨_, rfl⟩) siz5 byt5 (by decide) zer5 rfl rfl rfl rfl (OwnS.full (n := 1) (xs := [byteV 1]) rfl (by decide)) hbs.src (bytes_one _) (by omega) rfl fun v2 L2 ho2 => ?_
  refine WL_v (v_assign rfl) rfl ?_
  refine WL_nil ?_
  refine den_ret ?_
  refine ends1 Tryz.results114 rfl (hlA.trans (hle15.trans hl16)) (List.Sublist.refl _) ?_
  rw [V.enc, List.length_cons, Nat.add_comm, List.map_cons]
  exact ho2

theorem rencode2 (s : ByteArray) (h : Heap) (hk : s.size ≤ 17592186044416) : Tr Tryz.prog 114 [.agg ⟨[.int .i64 2, .int .i64 0, .string s, .slice none 0 0]⟩] h [] (fun v _ L' => OwnS 5 1 v (V.enc (.text s)).length ((V.enc (.text s)).map byteV) L') := by
  refine Tr_of Tryz.func114 rfl rfl Tryz.ntmps114 rfl [(0, .agg ⟨[.int .i64 2, .int .i64 0, .string s, .slice none 0 0]⟩)] rfl ?_
  intro Lf
  have hl2 := num_len10 (u := s.size) (by omega)
  refine den_seq ?_
  -- region 0
  refine den_region rfl ?_
  refine WL_box (zs := [.int .i64 2, .int .i64 0, .string s, .slice none 0 0]) rfl rfl rfl fun b1 => ?_
  refine WL_freeze fun hA hlA hb1 => ?_
  refine WL_v (v_assign rfl) rfl ?_
  refine WL_nil ?_
  refine den_seq ?_
  refine den_seq ?_
  -- region 1
  refine den_region rfl ?_
  refine WL_v (v_faddr Tryz.underlying58 rfl siz3 rfl) rfl ?_
  refine WL_v (v_load1 one3 rfl (by first | exact Kn.own 0 rfl | exact Kn.own 1 rfl | exact Kn.own 2 rfl | exact Kn.own 3 rfl | exact Kn.own 4 rfl | exact Kn.own 5 rfl | exact Kn.per ‹_›) rfl) rfl ?_
  refine WL_nil ?_
  refine den_block ?_
  refine den_seq ?_
  -- region 2
  refine den_region rfl ?_
  refine WL_v (v_eql rfl rfl) rfl ?_
  refine WL_v (OpV.to (v' := .bool false) (v_assign rfl) (by first | rfl | simp)) rfl ?_
  refine WL_nil ?_
  refine den_false rfl ?_
  refine den_seq ?_
  -- region 4
  refine den_region rfl ?_
  refine WL_v (v_eql rfl rfl) rfl ?_
  refine WL_v (OpV.to (v' := .bool true) (v_assign rfl) (by first | rfl | simp)) rfl ?_
  refine WL_nil ?_
  refine den_true rfl ?_
  refine den_seq ?_
  -- region 5
  refine den_draw0 [] (by kernel_rfl) (by kernel_rfl) (NoP.fn) (rem := [0, 1, 2, 3, 4, 5, 6, 7, 8, 9, 10]) (by kernel_rfl) ?_
  refine QB_v (i := 1) rfl (v_faddr Tryz.underlying58 rfl siz9 rfl) (by kernel_rfl) (by kernel_rfl) (by kernel_rfl) (rem' := [0, 2, 3, 4, 5, 6, 7, 8, 9, 10]) (by kernel_rfl) rfl ?_
  refine QB_v (i := 2) rfl (v_load1 one9 rfl (by first | exact Kn.own 0 rfl | exact Kn.own 1 rfl | exact Kn.own 2 rfl | exact Kn.own 3 rfl | exact Kn.own 4 rfl | exact Kn.own 5 rfl | exact Kn.per ‹_›) rfl) (by kernel_rfl) (by kernel_rfl) (by kernel_rfl) (rem' := [0, 3, 4, 5, 6, 7, 8, 9, 10]) (by kernel_rfl) rfl ?_
  refine QB_v (i := 3) rfl (v_lenstr Tryz.underlying9 rfl) (by kernel_rfl) (by kernel_rfl) (by kernel_rfl) (rem' := [0, 4, 5, 6, 7, 8, 9, 10]) (by kernel_rfl) rfl ?_
  refine QB_v (i := 4) rfl (v_convu Tryz.underlying3 Tryz.underlying148 rfl (by omega)) (by kernel_rfl) (by kernel_rfl) (by kernel_rfl) (rem' := [0, 5, 6, 7, 8, 9, 10]) (by kernel_rfl) rfl ?_
  refine QB_v (i := 7) rfl (v_faddr Tryz.underlying58 rfl siz9 rfl) (by kernel_rfl) (by kernel_rfl) (by kernel_rfl) (rem' := [0, 5, 6, 8, 9, 10]) (by kernel_rfl) rfl ?_
  refine QB_v (i := 8) rfl (v_load1 one9 rfl (by first | exact Kn.own 0 rfl | exact Kn.own 1 rfl | exact Kn.own 2 rfl | exact Kn.own 3 rfl | exact Kn.own 4 rfl | exact Kn.own 5 rfl | exact Kn.per ‹_›) rfl) (by kernel_rfl) (by kernel_rfl) (by kernel_rfl) (rem' := [0, 5, 6, 9, 10]) (by kernel_rfl) rfl ?_
  refine QB_step (is := [0, 5]) rfl (by kernel_rfl) ?_
  refine qall2 ?_ ?_
  · skip
    refine qb_e rfl rfl (o_buildSlice Tryz.underlying53 zer5 rfl siz5 rfl rfl rfl rfl) rfl (rem' := [5, 6, 9, 10]) (by kernel_rfl) ?_
    rintro _ _ _ ⟨b17, rfl, rfl, rfl⟩
    refine ⟨Heap.le.refl _, ?_⟩
    refine QB_step (is := [5]) rfl (by kernel_rfl) ?_
    refine qall1 ?_
    refine qb_e rfl rfl (op1_call (L1 := []) rfl rfl (TrV.of0 (rnumeral_fn s.size (by omega) _))) rfl (rem' := [6, 9, 10]) (by kernel_rfl) ?_
    rintro v22 h22 _ ⟨L22, rfl, hle22, ho22⟩
    refine ⟨hle22, ?_⟩
    first | refine QB_perm (L' := [(b17, .cells ⟨[byteV 2]⟩ 5 (0, 0))] ++ (L22 ++ Lf)) (List.Perm.refl _) ?_ | refine QB_perm (L' := [(b17, .cells ⟨[byteV 2]⟩ 5 (0, 0))] ++ (L22 ++ Lf)) List.perm_middle ?_
    refine QB_step (is := [6]) rfl (by kernel_rfl) ?_
    refine qall1 ?_
    refine qb_e rfl rfl (op1_append Tryz.underlying53 Tryz.underlying53 (.inr ⟨_, rfl⟩) siz5 byt5 (by decide) zer5 rfl rfl rfl rfl (OwnS.full (b := b17) (n := 1) (xs := [byteV 2]) rfl (by decide)) (ho22.src (fun p hp => by simp [hp])) (bytes_one _) (by omega)) rfl (rem' := [9, 10]) (by kernel_rfl) ?_
    rintro v23 _ _ ⟨L23, rfl, rfl, ho23⟩
    refine ⟨Heap.le.refl _, ?_⟩
    refine QB_step (is := [9]) rfl (by kernel_rfl) ?_
    refine qall1 ?_
    refine qb_e rfl rfl (op1_append Tryz.underlying53 Tryz.underlying9 (.inl rfl) siz5 byt5 (by decide) zer5 rfl rfl rfl rfl ho23 Src.str (bytes_one _) (by omega)) rfl (rem' := [10]) (by kernel_rfl) ?_
    rintro v26 _ _ ⟨L26, rfl, rfl, ho26⟩
    refine ⟨Heap.le.refl _, ?_⟩
    refine QB_v (i := 10) rfl (v_assign rfl) (by kernel_rfl) (by kernel_rfl) (by kernel_rfl) (rem' := []) (by kernel_rfl) rfl ?_
    refine QB_nil ?_
    refine den_ret ?_
    refine ends1 Tryz.results114 rfl (hlA.trans hle22) (sub2 L26 L22 Lf) ?_
    rw [V.enc, List.length_cons, List.length_append, sz_list, List.map_cons, List.map_append]
    rw [show 1 + (num s.size).length + s.size = (num s.size).length + s.size + 1 from by omega] at ho26
    simpa using ho26
  · skip
    refine qb_e rfl rfl (op1_call (L1 := []) rfl rfl (TrV.of0 (rnumeral_fn s.size (by omega) _))) rfl (rem' := [0, 6, 9, 10]) (by kernel_rfl) ?_
    rintro v22 h22 _ ⟨L22, rfl, hle22, ho22⟩
    refine ⟨hle22, ?_⟩
    refine QB_step (is := [0]) rfl (by kernel_rfl) ?_
    refine qall1 ?_
    refine qb_e rfl rfl (o_buildSlice Tryz.underlying53 zer5 rfl siz5 rfl rfl rfl rfl) rfl (rem' := [6, 9, 10]) (by kernel_rfl) ?_
    rintro _ _ _ ⟨b17, rfl, rfl, rfl⟩
    refine ⟨Heap.le.refl _, ?_⟩
    first | refine QB_perm (L' := [(b17, .cells ⟨[byteV 2]⟩ 5 (0, 0))] ++ (L22 ++ Lf)) (List.Perm.refl _) ?_ | refine QB_perm (L' := [(b17, .cells ⟨[byteV 2]⟩ 5 (0, 0))] ++ (L22 ++ Lf)) List.perm_middle ?_
    refine QB_step (is := [6]) rfl (by kernel_rfl) ?_
    refine qall1 ?_
    refine qb_e rfl rfl (op1_append Tryz.underlying53 Tryz.underlying53 (.inr ⟨_, rfl⟩) siz5 byt5 (by decide) zer5 rfl rfl rfl rfl (OwnS.full (b := b17) (n := 1) (xs := [byteV 2]) rfl (by decide)) (ho22.src (fun p hp => by simp [hp])) (bytes_one _) (by omega)) rfl (rem' := [9, 10]) (by kernel_rfl) ?_
    rintro v23 _ _ ⟨L23, rfl, rfl, ho23⟩
    refine ⟨Heap.le.refl _, ?_⟩
    refine QB_step (is := [9]) rfl (by kernel_rfl) ?_
    refine qall1 ?_
    refine qb_e rfl rfl (op1_append Tryz.underlying53 Tryz.underlying9 (.inl rfl) siz5 byt5 (by decide) zer5 rfl rfl rfl rfl ho23 Src.str (bytes_one _) (by omega)) rfl (rem' := [10]) (by kernel_rfl) ?_
    rintro v26 _ _ ⟨L26, rfl, rfl, ho26⟩
    refine ⟨Heap.le.refl _, ?_⟩
    refine QB_v (i := 10) rfl (v_assign rfl) (by kernel_rfl) (by kernel_rfl) (by kernel_rfl) (rem' := []) (by kernel_rfl) rfl ?_
    refine QB_nil ?_
    refine den_ret ?_
    refine ends1 Tryz.results114 rfl (hlA.trans hle22) (sub2 L26 L22 Lf) ?_
    rw [V.enc, List.length_cons, List.length_append, sz_list, List.map_cons, List.map_append]
    rw [show 1 + (num s.size).length + s.size = (num s.size).length + s.size + 1 from by omega] at ho26
    simpa using ho26

theorem rencode3 (h : Heap) (l : List V) (a : Option Addr) (cap : Nat) (x : Nat → List Value) (hn : l.length < 9223372036854775808) (hs : Sln h a l.length 4 x) (hk : (encs l).length ≤ 17592186044416) (ih : ∀ i m, l[i]? = some m → ∀ h', Heap.le h h' → Tr Tryz.prog 114 [.agg ⟨x i⟩] h' [] (fun v _ L' => OwnS 5 1 v m.enc.length (m.enc.map byteV) L')) : Tr Tryz.prog 114 [.agg ⟨[.int .i64 3, .int .i64 0, noStr, .slice a l.length cap]⟩] h [] (fun v _ L' => OwnS 5 1 v (V.enc (.list l)).length ((V.enc (.list l)).map byteV) L') := by
  refine Tr_of Tryz.func114 rfl rfl Tryz.ntmps114 rfl [(0, .agg ⟨[.int .i64 3, .int .i64 0, noStr, .slice a l.length cap]⟩)] rfl ?_
  intro Lf
  have hl2 := num_len10 (u := l.length) (by omega)
  refine den_seq ?_
  -- region 0
  refine den_region rfl ?_
  refine WL_box (zs := [.int .i64 3, .int .i64 0, noStr, .slice a l.length cap]) rfl rfl rfl fun b1 => ?_
  refine WL_freeze fun hA hlA hb1 => ?_
  refine WL_v (v_assign rfl) rfl ?_
  refine WL_nil ?_
  refine den_seq ?_
  refine den_seq ?_
  -- region 1
  refine den_region rfl ?_
  refine WL_v (v_faddr Tryz.underlying58 rfl siz3 rfl) rfl ?_
  refine WL_v (v_load1 one3 rfl (by first | exact Kn.own 0 rfl | exact Kn.own 1 rfl | exact Kn.own 2 rfl | exact Kn.own 3 rfl | exact Kn.own 4 rfl | exact Kn.own 5 rfl | exact Kn.per ‹_›) rfl) rfl ?_
  refine WL_nil ?_
  refine den_block ?_
  refine den_seq ?_
  -- region 2
  refine den_region rfl ?_
  refine WL_v (v_eql rfl rfl) rfl ?_
  refine WL_v (OpV.to (v' := .bool false) (v_assign rfl) (by first | rfl | simp)) rfl ?_
  refine WL_nil ?_
  refine den_false rfl ?_
  refine den_seq ?_
  -- region 4
  refine den_region rfl ?_
  refine WL_v (v_eql rfl rfl) rfl ?_
  refine WL_v (OpV.to (v' := .bool false) (v_assign rfl) (by first | rfl | simp)) rfl ?_
  refine WL_nil ?_
  refine den_false rfl ?_
  refine den_skip ?_
  refine den_blk ?_
  refine den_seq ?_
  -- region 6
  refine den_region rfl ?_
  refine WL_buildSlice Tryz.underlying53 zer5 rfl siz5 rfl rfl rfl rfl rfl fun b27 => ?_
  refine WL_v (v_faddr Tryz.underlying58 rfl siz56 rfl) rfl ?_
  refine WL_v (v_load1 one56 rfl (by first | exact Kn.own 0 rfl | exact Kn.own 1 rfl | exact Kn.own 2 rfl | exact Kn.own 3 rfl | exact Kn.own 4 rfl | exact Kn.own 5 rfl | exact Kn.per ‹_›) rfl) rfl ?_
  refine WL_v (v_lens Tryz.underlying56 rfl) rfl ?_
  refine WL_v (v_convu Tryz.underlying3 Tryz.underlying148 rfl (by omega)) rfl ?_
  refine WL_callf (L1 := []) rfl (rnumeral_fn l.length (by omega) _) rfl ?_
  rintro v15 h15 L15 hle15 ho15
  refine WL_freezeS ho15 fun h16 hl16 hbs => ?_
  have hb1 := hl16 _ _ (hle15 _ _ hb1)
  refine WL_perm (L' := [(b27, _)] ++ Lf) (List.Perm.refl _) ?_
  refine WL_append Tryz.underlying53 Tryz.underlying53 (.inr ⟨_, rfl⟩) siz5 byt5 (by decide) zer5 rfl rfl rfl rfl (OwnS.full (n := 1) (xs := [byteV 3]) rfl (by decide)) hbs.src (bytes_one _) (by omega) rfl fun v2 L2 ho2 => ?_
  refine WL_v (v_assign rfl) rfl ?_
  refine WL_nil ?_
  refine den_seq ?_
  refine den_seq ?_
  -- region 7
  refine den_region rfl ?_
  refine WL_v (v_assign rfl) rfl ?_
  refine WL_nil ?_
  refine den_block ?_
  refine den_loopI (ι := Nat × Value × Owned) (fun ⟨i, v, L1⟩ => [(1, .pointer (some ⟨b1, 0, none⟩)), (3, v), (4, .int .i64 ((i : Nat) : Int))]) (fun ⟨i, v, L1⟩ h' L' => i ≤ l.length ∧ Heap.le h h' ∧ Heap.le h16 h' ∧ L' = L1 ++ Lf ∧ OwnS 5 1 v (1 + (num l.length).length + (encs (l.take i)).length) (([3] ++ num l.length ++ encs (l.take i)).map byteV) L1) (fun ⟨i, v, L1⟩ => l.length - i) (0, v2, L2) (sub_cons rfl (sub_cons rfl (sub_cons rfl sub_nil))) ⟨by omega, hlA.trans (hle15.trans hl16), Heap.le.refl _, rfl, by simpa [encs] using ho2⟩ ?_
  rintro ⟨i, v, L1⟩ hq _ ⟨i1, hle, hle2, rfl, ho⟩
  have hb1 := hle2 _ _ hb1
  refine den_seq ?_
  refine den_seq ?_
  -- region 8
  refine den_region rfl ?_
  refine WL_v (v_move rfl) rfl ?_
  refine WL_v (v_faddr Tryz.underlying58 rfl siz56 rfl) rfl ?_
  refine WL_v (v_load1 one56 rfl (by first | exact Kn.own 0 rfl | exact Kn.own 1 rfl | exact Kn.own 2 rfl | exact Kn.own 3 rfl | exact Kn.own 4 rfl | exact Kn.own 5 rfl | exact Kn.per ‹_›) rfl) rfl ?_
  refine WL_v (v_lens Tryz.underlying56 rfl) rfl ?_
  refine WL_v (v_lss rfl rfl) rfl ?_
  refine WL_nil ?_
  first | refine den_ifd rfl (fun hi => ?_) (fun hi => ?_) | refine den_if rfl (fun hi => ?_) (fun hi => ?_)
  · skip
    refine den_skip ?_
    refine den_seq ?_
    refine den_block ?_
    -- region 10
    refine den_region rfl ?_
    refine WL_v (v_move rfl) rfl ?_
    refine WL_v (v_faddr Tryz.underlying58 rfl siz56 rfl) rfl ?_
    refine WL_v (v_load1 one56 rfl (by first | exact Kn.own 0 rfl | exact Kn.own 1 rfl | exact Kn.own 2 rfl | exact Kn.own 3 rfl | exact Kn.own 4 rfl | exact Kn.own 5 rfl | exact Kn.per ‹_›) rfl) rfl ?_
    refine WL_v (v_move rfl) rfl ?_
    obtain ⟨b, off, all, Tl, frl, rfl, hbl, hcut⟩ := hs i (by omega)
    obtain ⟨m, hm⟩ : ∃ m, l[i]? = some m := ⟨l[i], List.getElem?_eq_getElem (by omega)⟩
    have hek := encs_len_le (l := l) (i := i + 1)
    rw [encs_next hm, List.length_append] at hek
    refine WL_v (v_iaddrs Tryz.underlying56 siz58 rfl rfl rfl (by omega)) rfl ?_
    refine WL_v (v_loadn many58 rfl (Kn.per (hle _ _ hbl)) hcut) rfl ?_
    refine WL_callf (L1 := []) rfl (ih i m hm _ hle) rfl ?_
    rintro v47 h47 L47 hle47 ho47
    refine WL_freezeS ho47 fun h48 hl48 hbs => ?_
    refine WL_append Tryz.underlying53 Tryz.underlying53 (.inr ⟨_, rfl⟩) siz5 byt5 (by decide) zer5 rfl rfl rfl rfl ho hbs.src (bytes_one _) (by omega) rfl fun v48 L48 ho48 => ?_
    refine WL_v (v_assign rfl) rfl ?_
    refine WL_nil ?_
    refine den_blk ?_
    -- region 9
    refine den_region rfl ?_
    refine WL_v (v_move rfl) rfl ?_
    refine WL_v (v_addj (n := 1) rfl rfl (by show _ < 9223372036854775808; omega)) rfl ?_
    refine WL_v (v_assign rfl) rfl ?_
    refine WL_nil ?_
    refine den_again ⟨rfl, (i + 1, v48, L48), (by show l.length - (i + 1) < l.length - i; omega), (sub_cons rfl (sub_cons rfl (sub_cons rfl sub_nil))), ⟨by omega, (hle.trans hle47).trans hl48, (hle2.trans hle47).trans hl48, rfl, by rw [encs_next hm, List.length_append, ← List.append_assoc, ← Nat.add_assoc, List.map_append]; exact ho48⟩⟩
  · skip
    have hin : i = l.length := by omega
    subst hin
    rw [List.take_length] at ho
    refine den_exit rfl ?_
    refine den_seq ?_
    -- region 11
    refine den_region rfl ?_
    refine WL_v (v_move rfl) rfl ?_
    refine WL_v (v_assign rfl) rfl ?_
    refine WL_nil ?_
    refine den_ret ?_
    refine ends1 Tryz.results114 rfl hle (List.Sublist.refl _) ?_
    rw [V.enc, List.length_cons, List.length_append, show (num l.length).length + (encs l).length + 1 = 1 + (num l.length).length + (encs l).length from by omega]
    exact ho

theorem rencode_fn {h : Heap} {cs : List Value} {m : V} (v : VR h cs m) (hk : m.enc.length ≤ 17592186044416) : ∀ h', Heap.le h h' → Tr Tryz.prog 114 [.agg ⟨cs⟩] h' [] (fun v _ L' => OwnS 5 1 v m.enc.length (m.enc.map byteV) L') := by
  induction v with
  | int n h1 h2 => exact fun h' _ => rencode1 n h1 h2 h'
  | text s =>
    rw [V.enc, List.length_cons, List.length_append, sz_list] at hk
    exact fun h' _ => rencode2 s h' (by omega)
  | list l a cap x hn hs hx ih =>
    rw [V.enc, List.length_cons, List.length_append] at hk
    intro h' hl
    refine rencode3 h' l a cap x hn (hs.le hl) (by omega) fun i m hm h2 hl2 => ih i m hm ?_ h2 (hl.trans hl2)
    have hek := encs_len_le (l := l) (i := i + 1)
    rw [encs_next hm, List.length_append] at hek
    omega

theorem rEncode_fn (cs : List Value) (m : V) (h : Heap) (v : VR h cs m) (hd : m.depth ≤ 16) (hk : m.enc.length ≤ 17592186044416) : Tr Tryz.prog 73 [.agg ⟨cs⟩] h [] (fun r _ L' => ∃ v, r = .tuple ⟨[v, .int .i64 0]⟩ ∧ OwnS 5 1 v m.enc.length (m.enc.map byteV) L') := by
  refine Tr_of Tryz.func73 rfl rfl Tryz.ntmps73 rfl [(0, .agg ⟨cs⟩)] rfl ?_
  intro Lf
  obtain ⟨hx4, hx1⟩ := v.four
  refine den_seq ?_
  -- region 0
  refine den_region rfl ?_
  refine WL_box (zs := cs) rfl rfl rfl fun b1 => ?_
  refine WL_freeze fun h1 hl1 hb1 => ?_
  refine WL_v (v_assign rfl) rfl ?_
  refine WL_v (v_assign rfl) rfl ?_
  refine WL_nil ?_
  refine den_seq ?_
  -- region 1
  refine den_region rfl ?_
  refine WL_v (v_loadn many58 rfl (Kn.per hb1) (cut_self hx4)) rfl ?_
  refine WL_callq rfl (rvcheck_fn _ _ _ (v.le hl1) (by omega)) rfl ?_
  refine WL_v (v_assign rfl) rfl ?_
  rw [if_pos hd]
  refine WL_nil ?_
  refine den_seq ?_
  refine den_seq ?_
  -- region 2
  refine den_region rfl ?_
  refine WL_v (v_move rfl) rfl ?_
  refine WL_v (OpV.to (v' := .bool false) (v_neq rfl rfl) (by first | rfl | simp)) rfl ?_
  refine WL_nil ?_
  refine den_false rfl ?_
  refine den_skip ?_
  refine den_seq ?_
  -- region 4
  refine den_region rfl ?_
  refine WL_v (v_loadn many58 rfl (Kn.per hb1) (cut_self hx4)) rfl ?_
  refine WL_callf (L1 := []) rfl (rencode_fn (v.le hl1) hk _ (Heap.le.refl _)) rfl ?_
  rintro v11 h11 L11 hle11 ho11
  refine WL_v (v_assign rfl) rfl ?_
  refine WL_v (v_assign rfl) rfl ?_
  refine WL_nil ?_
  refine den_ret ?_
  exact ends2 Tryz.results73 rfl rfl (hl1.trans hle11) (List.Sublist.refl _) ⟨_, rfl, ho11⟩

end Go.Proofs.Ch
