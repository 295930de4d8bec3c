/- Walks of the program's functions, printed by my own generator (layer L9). -/
import Derived.Test.YtmeakefbepbapaaGreatDoorL8
import Derived.Test.YtmeakefbepbapaaGreatDoorS3
namespace Go.Proofs.Ch
open Go Go.Proofs
set_option maxRecDepth 4000
set_option maxHeartbeats 1000000
theorem zer30 : Zer Tryz.prog 30 (.agg ⟨[.int .i64 0, .int .i64 0]⟩) := by show _ = _; kernel_rfl
theorem siz30 : Siz Tryz.prog 30 2 := by show _ = _; kernel_rfl
theorem many30 : Many Tryz.prog 30 2 := Many.of Tryz.underlying30 rfl siz30
theorem hash_fn (tag : ByteArray) (xv : Value) (xs : List UInt8) (a : Option Addr) (cap : Nat) (ns : List Int) (h : Heap) (ht : tag.size ≤ 1048576) (hv : Bs h xv xs) (hn : xs.length ≤ 1099511627) (hns : Sl1 h a ns.length (fun i => .int .i64 (ns.getD i 0))) (hnl : ns.length ≤ 1024) (hG : Gl h) : Fn0 Tryz.prog 48 [.string tag, xv, .slice a ns.length cap] h (.int .i64 ((scal tag.data.toList (u8ss ns ++ xs) : Nat) : Int)) := by
  refine Tr_of Tryz.func48 rfl rfl Tryz.ntmps48 rfl [(0, .string tag), (1, xv), (2, .slice a ns.length cap)] rfl ?_
  intro Lf
  refine den_seq ?_
  -- region 0
  refine den_region rfl ?_
  refine WL_v (v_assign rfl) rfl ?_
  refine WL_nil ?_
  refine den_seq ?_
  -- region 1
  refine den_region rfl ?_
  refine WL_v (v_assign rfl) rfl ?_
  refine WL_nil ?_
  refine den_seq ?_
  refine den_seq ?_
  -- region 2
  refine den_region rfl ?_
  refine WL_v (v_move rfl) rfl ?_
  refine WL_v (v_lens Tryz.underlying22 rfl) rfl ?_
  refine WL_v (v_move rfl) rfl ?_
  refine WL_nil ?_
  refine den_block ?_
  refine den_loopI (ι := Nat × Value × Owned) (fun ⟨i, v, L1⟩ => [(0, .string tag), (1, xv), (7, v), (11, .slice a ns.length cap), (12, .int .i64 ((ns.length : Nat) : Int)), (13, .int .i64 ((i : Nat) : Int))]) (fun ⟨i, v, L1⟩ h' L' => i ≤ ns.length ∧ Heap.le h h' ∧ L' = L1 ++ Lf ∧ OwnS 5 1 v (8 * i) ((u8ss (ns.take i)).map byteV) L1) (fun ⟨i, v, L1⟩ => ns.length - i) (0, _, []) (sub_cons rfl (sub_cons rfl (sub_cons rfl (sub_cons rfl (sub_cons rfl (sub_cons rfl sub_nil)))))) ⟨by omega, Heap.le.refl _, rfl, OwnS.nil⟩ ?_
  rintro ⟨i, v, L1⟩ hq _ ⟨i1, hle, rfl, ho⟩
  refine den_seq ?_
  -- region 3
  refine den_region rfl ?_
  refine WL_v (v_lss rfl rfl) rfl ?_
  refine WL_nil ?_
  refine den_seq ?_
  first | refine den_ifd rfl (fun hi => ?_) (fun hi => ?_) | refine den_if rfl (fun hi => ?_) (fun hi => ?_)
  · skip
    refine den_skip ?_
    refine den_seq ?_
    refine den_block ?_
    refine den_seq ?_
    -- region 4
    refine den_region rfl ?_
    obtain ⟨bn, off, all, Tn, frn, ha, hbn, hget⟩ := hns i (by omega)
    refine WL_v (v_iaddrs (b := bn) (off := off) (len := ns.length) (cap := cap) Tryz.underlying22 siz3 (by rw [← ha]; rfl) rfl rfl (by omega)) rfl ?_
    refine WL_v (v_load1 one3 rfl (Kn.per (hle _ _ hbn)) hget) rfl ?_
    refine WL_v (v_assign rfl) rfl ?_
    refine WL_nil ?_
    refine den_seq ?_
    -- region 5
    refine den_region rfl ?_
    refine WL_v (v_assign rfl) rfl ?_
    refine WL_nil ?_
    refine den_block ?_
    refine den_loopI (ι := Nat × Value × Owned) (fun ⟨m, v, L1⟩ => [(0, .string tag), (1, xv), (7, v), (9, .int .i64 (ns.getD i 0)), (10, .int .i64 (8 * (m : Int) - 8)), (11, .slice a ns.length cap), (12, .int .i64 ((ns.length : Nat) : Int)), (13, .int .i64 ((i : Nat) : Int))]) (fun ⟨m, v, L1⟩ h' L' => m ≤ 8 ∧ Heap.le h h' ∧ L' = L1 ++ Lf ∧ OwnS 5 1 v (8 * i + (8 - m)) ((u8ss (ns.take i) ++ u8p (uu (ns.getD i 0)) (8 - m)).map byteV) L1) (fun ⟨m, v, L1⟩ => m) (8, _, L1) (sub_cons rfl (sub_cons rfl (sub_cons rfl (sub_cons rfl (sub_cons rfl (sub_cons rfl (sub_cons rfl (sub_cons rfl sub_nil)))))))) ⟨by omega, hle, rfl, by simpa [u8p] using ho⟩ ?_
    rintro ⟨m, v2, L2⟩ hq2 _ ⟨m1, hle2, rfl, ho2⟩
    refine den_seq ?_
    refine den_seq ?_
    -- region 6
    refine den_region rfl ?_
    refine WL_v (v_move rfl) rfl ?_
    refine WL_v (v_geq rfl rfl) rfl ?_
    refine WL_nil ?_
    first | refine den_ifd rfl (fun hm => ?_) (fun hm => ?_) | refine den_if rfl (fun hm => ?_) (fun hm => ?_)
    · skip
      obtain ⟨m, rfl⟩ : ∃ m1, m = m1 + 1 := ⟨m - 1, by omega⟩
      rw [show 8 * (((m + 1 : Nat)) : Int) - 8 = ((8 * m : Nat) : Int) from by omega] at hm
      refine den_skip ?_
      refine den_seq ?_
      refine den_block ?_
      -- region 8
      refine den_region rfl ?_
      refine WL_v (v_move rfl) rfl ?_
      refine WL_v (v_move rfl) rfl ?_
      refine WL_v (v_convuu Tryz.underlying3 Tryz.underlying148 rfl) rfl ?_
      refine WL_v (OpV.to (v' := .int .i64 ((8 * m : Nat) : Int)) (v_move rfl) (by congr 1; omega)) rfl ?_
      refine WL_v (v_shrn (s := 8 * m) rfl rfl (by have := uu_lt (ns.getD i 0); show _ < 18446744073709551616; omega)) rfl ?_
      refine WL_v (v_conv64_8 Tryz.underlying148 Tryz.underlying5 rfl) rfl ?_
      refine WL_buildSlice Tryz.underlying53 zer5 rfl siz5 rfl rfl rfl rfl rfl fun b27 => ?_
      refine WL_freeze fun h27 hl27 hb27 => ?_
      refine WL_append Tryz.underlying53 Tryz.underlying53 (.inr ⟨_, rfl⟩) siz5 byt5 (by decide) zer5 rfl rfl rfl rfl ho2 (Src.per (n := 1) (us := [byteV (byteAt (uu (ns.getD i 0)) m)]) hb27 rfl) rfl (by omega) rfl fun v3 L3 ho3 => ?_
      refine WL_v (v_assign rfl) rfl ?_
      refine WL_nil ?_
      refine den_blk ?_
      -- region 7
      refine den_region rfl ?_
      refine WL_v (v_move rfl) rfl ?_
      refine WL_v (v_sub (z := 8 * (m : Int) - 8) rfl rfl (by rw [show (8 * ((m + 1 : Nat) : Int) - 8) - 8 = 8 * (m : Int) - 8 from by omega]; exact wrap_i64 (by omega) (by omega))) rfl ?_
      refine WL_v (v_assign rfl) rfl ?_
      refine WL_nil ?_
      refine den_again ⟨rfl, (m, v3, L3), (by show m < m + 1; omega), (sub_cons rfl (sub_cons rfl (sub_cons rfl (sub_cons rfl (sub_cons rfl (sub_cons rfl (sub_cons rfl (sub_cons rfl sub_nil)))))))), ⟨by omega, hle2.trans hl27, rfl, u8_step (by omega) ho3⟩⟩
    · skip
      have hm0 : m = 0 := by omega
      subst hm0
      refine den_exit rfl ?_
      refine den_blk ?_
      -- region 9
      refine den_region rfl ?_
      refine WL_v (v_addj (n := 1) rfl rfl (by show _ < 9223372036854775808; omega)) rfl ?_
      refine WL_v (v_move rfl) rfl ?_
      refine WL_nil ?_
      refine den_again ⟨rfl, (i + 1, v2, L2), (by show ns.length - (i + 1) < ns.length - i; omega), (sub_cons rfl (sub_cons rfl (sub_cons rfl (sub_cons rfl (sub_cons rfl (sub_cons rfl sub_nil)))))), ⟨by omega, hle2, rfl, by rw [u8ss_take (by omega), show 8 * (i + 1) = 8 * i + (8 - 0) from by omega]; exact ho2⟩⟩
  · skip
    have hin : i = ns.length := by omega
    subst hin
    rw [List.take_length] at ho
    refine den_exit rfl ?_
    refine den_seq ?_
    -- region 10
    refine den_region rfl ?_
    refine WL_v (v_move rfl) rfl ?_
    refine WL_v (v_move rfl) rfl ?_
    refine WL_v (v_move rfl) rfl ?_
    refine WL_append Tryz.underlying53 Tryz.underlying53 (.inr ⟨_, rfl⟩) siz5 byt5 (by decide) zer5 rfl rfl rfl rfl ho (hv.le hle).src (bytes_one _) (by omega) rfl fun v5 L5 ho5 => ?_
    rw [← List.map_append] at ho5
    refine WL_freezeS ho5 fun h5 hl5 hbs => ?_
    refine WL_callq rfl (gscalar_fn _ _ _ _ ht hbs (by rw [List.length_append, u8ss_len]; omega) (hG.le (hle.trans hl5))) rfl ?_
    refine WL_v (v_assign rfl) rfl ?_
    refine WL_nil ?_
    refine den_ret ?_
    exact ends1 Tryz.results48 rfl (hle.trans hl5) (by simp) ⟨rfl, rfl⟩

theorem kvalid_fn (x : Int) (h : Heap) : Fn0 Tryz.prog 62 [.int .i64 x] h (.bool (decide (isPr x))) := by
  refine Tr_of Tryz.func62 rfl rfl Tryz.ntmps62 rfl [(0, .int .i64 x)] rfl ?_
  intro Lf
  refine den_seq ?_
  -- region 0
  refine den_region rfl ?_
  refine WL_v (v_assign rfl) rfl ?_
  refine WL_nil ?_
  refine den_seq ?_
  -- region 1
  refine den_region rfl ?_
  refine WL_v (v_move rfl) rfl ?_
  refine WL_v (v_geq rfl rfl) rfl ?_
  refine WL_v (v_move rfl) rfl ?_
  first | refine WL_split (t := 5) rfl ?_ ?_
  · intro c1; try have c1 := of_decide_eq_true c1
    refine WL_vg rfl rfl (v_move rfl) rfl ?_
    refine WL_vg rfl rfl (v_lss rfl rfl) rfl ?_
    refine WL_v (v_pickt rfl rfl) rfl ?_
    refine WL_v (v_assign rfl) rfl ?_
    refine WL_nil ?_
    refine den_ret ?_
    exact ends1 Tryz.results62 rfl (Heap.le.refl _) (by simp) ⟨by congr 1; first | exact (decide_eq_false (fun g => by have := g.1; omega)).symm | (rw [decide_eq_decide]; exact ⟨fun g => ⟨by omega, g⟩, fun g => g.2⟩), rfl⟩
  · intro c2; try have c2 := of_decide_eq_false c2
    refine WL_skip (j := 2) (t := 5) (b := false) rfl rfl rfl rfl ?_
    refine WL_skip (j := 2) (t := 5) (b := false) rfl rfl rfl rfl ?_
    refine WL_v (v_pickf rfl rfl) rfl ?_
    refine WL_v (v_assign rfl) rfl ?_
    refine WL_nil ?_
    refine den_ret ?_
    exact ends1 Tryz.results62 rfl (Heap.le.refl _) (by simp) ⟨by congr 1; first | exact (decide_eq_false (fun g => by have := g.1; omega)).symm | (rw [decide_eq_decide]; exact ⟨fun g => ⟨by omega, g⟩, fun g => g.2⟩), rfl⟩

theorem kpublic_fn (x : Int) (h : Heap) : Fn0 Tryz.prog 63 [.int .i64 x] h (.int .i64 (gexpV 4 x)) := by
  refine Tr_of Tryz.func63 rfl rfl Tryz.ntmps63 rfl [(0, .int .i64 x)] rfl ?_
  intro Lf
  refine den_seq ?_
  -- region 0
  refine den_region rfl ?_
  refine WL_v (v_assign rfl) rfl ?_
  refine WL_nil ?_
  refine den_seq ?_
  -- region 1
  refine den_region rfl ?_
  refine WL_v (v_move rfl) rfl ?_
  refine WL_callq rfl (gbase_fn _ _) rfl ?_
  refine WL_v (v_move rfl) rfl ?_
  refine WL_v (v_extract rfl rfl) rfl ?_
  refine WL_v (v_extract rfl rfl) rfl ?_
  refine WL_v (v_assign rfl) rfl ?_
  refine WL_v (v_assign rfl) rfl ?_
  refine WL_nil ?_
  refine den_seq ?_
  -- region 2
  refine den_region rfl ?_
  refine WL_v (v_move rfl) rfl ?_
  refine WL_v (v_assign rfl) rfl ?_
  refine WL_nil ?_
  refine den_ret ?_
  exact ends1 Tryz.results63 rfl (Heap.le.refl _) (by simp) ⟨rfl, rfl⟩

theorem public_fn (x : Int) (h : Heap) : Fn0 Tryz.prog 24 [.int .i64 x] h (.tuple ⟨[.int .i64 (if isPr x then gexpV 4 x else 0), .int .i64 (if isPr x then 0 else 50)]⟩) := by
  refine Tr_of Tryz.func24 rfl rfl Tryz.ntmps24 rfl [(0, .int .i64 x)] rfl ?_
  intro Lf
  refine den_seq ?_
  -- region 0
  refine den_region rfl ?_
  refine WL_v (v_assign rfl) rfl ?_
  refine WL_v (v_assign rfl) rfl ?_
  refine WL_nil ?_
  refine den_seq ?_
  refine den_seq ?_
  -- region 1
  refine den_region rfl ?_
  refine WL_v (v_move rfl) rfl ?_
  refine WL_callq rfl (kvalid_fn _ _) rfl ?_
  first | refine WL_v (v_notd rfl) rfl ?_ | refine WL_v (v_not rfl) rfl ?_
  refine WL_nil ?_
  first | refine den_ifd rfl (fun hx => ?_) (fun hx => ?_) | refine den_if rfl (fun hx => ?_) (fun hx => ?_)
  · skip
    refine den_seq ?_
    -- region 2
    refine den_region rfl ?_
    refine WL_v (v_assign rfl) rfl ?_
    refine WL_v (v_assign rfl) rfl ?_
    refine WL_nil ?_
    refine den_ret ?_
    exact ends2 Tryz.results24 rfl rfl (Heap.le.refl _) (by simp) ⟨by first | rw [if_pos hx, if_pos hx] | rw [if_neg hx, if_neg hx], rfl⟩
  · skip
    have hx := Decidable.of_not_not hx
    refine den_skip ?_
    refine den_seq ?_
    -- region 3
    refine den_region rfl ?_
    refine WL_v (v_move rfl) rfl ?_
    refine WL_callq rfl (kpublic_fn _ _) rfl ?_
    refine WL_v (v_assign rfl) rfl ?_
    refine WL_v (v_assign rfl) rfl ?_
    refine WL_nil ?_
    refine den_ret ?_
    exact ends2 Tryz.results24 rfl rfl (Heap.le.refl _) (by simp) ⟨by first | rw [if_pos hx, if_pos hx] | rw [if_neg hx, if_neg hx], rfl⟩

/-- what is signed with -/
noncomputable def sgK (x : Int) (xs : List UInt8) : Nat := scal [110, 111, 110, 99, 101] (u8s x ++ xs)
noncomputable def sgR (x : Int) (xs : List UInt8) : Int := gexpV 4 (sgK x xs)
noncomputable def sgC (p r : Int) (xs : List UInt8) : Nat := scal [115, 105, 103, 110] (u8s r ++ (u8s p ++ xs))
noncomputable def sgM (x : Int) (xs : List UInt8) : Int := fmulV (sgC (gexpV 4 x) (sgR x xs) xs) x
noncomputable def sgS (x : Int) (xs : List UInt8) : Int := faddV (sgK x xs) (sgM x xs)
theorem scal_rng (t xs : List UInt8) : 1 ≤ scal t xs ∧ scal t xs < 2305843009213688669 := by
  have hr := rst_lt (f := dn (tagged t xs)) (m := 2305843009213688668) (by decide) 32
  unfold scal; omega
theorem sgE (x : Int) (xs : List UInt8) : fokE (sgK x xs) (sgM x xs) = 0 := fokE0 (by have := scal_rng [110, 111, 110, 99, 101] (u8s x ++ xs); unfold sgK; omega) (fmulV_rng _ _)
theorem u8ss1 (x : Int) (xs : List UInt8) : u8ss [x] ++ xs = u8s x ++ xs := by simp [u8ss]
theorem u8ss2 (x y : Int) (xs : List UInt8) : u8ss [x, y] ++ xs = u8s x ++ (u8s y ++ xs) := by simp [u8ss]

theorem sign_fn (x : Int) (xv : Value) (xs : List UInt8) (h : Heap) (hv : Bs h xv xs) (hn : xs.length ≤ 1099511627) (hG : Gl h) : Fn0 Tryz.prog 25 [.int .i64 x, xv] h (.tuple ⟨[.agg ⟨[.int .i64 (if isPr x then sgR x xs else 0), .int .i64 (if isPr x then sgS x xs else 0)]⟩, .int .i64 (if isPr x then 0 else 50)]⟩) := by
  refine Tr_of Tryz.func25 rfl rfl Tryz.ntmps25 rfl [(0, .int .i64 x), (1, xv)] rfl ?_
  intro Lf
  refine den_seq ?_
  -- region 0
  refine den_region rfl ?_
  refine WL_alloc zer30 rfl rfl fun b4 => ?_
  refine WL_v (v_assign rfl) rfl ?_
  refine WL_nil ?_
  refine den_seq ?_
  -- region 1
  refine den_region rfl ?_
  refine WL_v (v_move rfl) rfl ?_
  refine WL_v (v_assign rfl) rfl ?_
  refine WL_nil ?_
  refine den_seq ?_
  -- region 2
  refine den_region rfl ?_
  refine WL_v (v_move rfl) rfl ?_
  refine WL_v (v_func rfl rfl) rfl ?_
  refine WL_v (v_move rfl) rfl ?_
  refine WL_v (v_func rfl rfl) rfl ?_
  refine WL_v (v_assign rfl) rfl ?_
  refine WL_v (v_assign rfl) rfl ?_
  refine WL_nil ?_
  refine den_seq ?_
  refine den_seq ?_
  -- region 3
  refine den_region rfl ?_
  refine WL_v (v_move rfl) rfl ?_
  refine WL_vcallq rfl rfl rfl (kvalid_fn _ _) rfl ?_
  first | refine WL_v (v_notd rfl) rfl ?_ | refine WL_v (v_not rfl) rfl ?_
  refine WL_nil ?_
  first | refine den_ifd rfl (fun hx => ?_) (fun hx => ?_) | refine den_if rfl (fun hx => ?_) (fun hx => ?_)
  · skip
    refine den_seq ?_
    -- region 4
    refine den_region rfl ?_
    refine WL_v (v_loadn many30 rfl (by first | exact Kn.own 0 rfl | exact Kn.own 1 rfl | exact Kn.own 2 rfl | exact Kn.own 3 rfl | exact Kn.own 4 rfl | exact Kn.own 5 rfl | exact Kn.per ‹_›) rfl) rfl ?_
    refine WL_store0 rfl rfl rfl siz30 rfl rfl rfl ?_
    refine WL_v (v_assign rfl) rfl ?_
    refine WL_nil ?_
    refine den_ret ?_
    exact endsr2 Tryz.results25 (rv_n many30 rfl (by first | exact Kn.own 0 rfl | exact Kn.own 1 rfl | exact Kn.own 2 rfl | exact Kn.own 3 rfl | exact Kn.own 4 rfl | exact Kn.own 5 rfl | exact Kn.per ‹_›) rfl) (rv_t rfl) (by first | exact Heap.le.refl _ | exact hl23.trans hl37) (by simp) ⟨by first | (rw [if_neg hx, if_neg hx, if_neg hx]) | (rw [if_pos hx, if_pos hx, if_pos hx]; exact congrArg (fun e => Value.tuple ⟨[.agg ⟨[.int .i64 (sgR x xs), .int .i64 (sgS x xs)]⟩, .int .i64 e]⟩) (sgE x xs)), rfl⟩
  · skip
    have hx := Decidable.of_not_not hx
    refine den_skip ?_
    refine den_seq ?_
    -- region 5
    refine den_region rfl ?_
    refine WL_v (v_move rfl) rfl ?_
    refine WL_v (v_move rfl) rfl ?_
    refine WL_buildSlice Tryz.underlying22 zer3 rfl siz3 rfl rfl rfl rfl rfl fun b23 => ?_
    refine WL_freeze fun h23 hl23 hb23 => ?_
    refine WL_callq rfl ((hash_fn _ _ xs _ _ [x] _ (by decide) (hv.le hl23) hn (Sl1.ints hb23) (by simp) (hG.le hl23)) ) rfl ?_
    rw [show scal _ (u8ss [x] ++ xs) = sgK x xs from by rw [u8ss1]; rfl]
    refine WL_v (v_assign rfl) rfl ?_
    refine WL_nil ?_
    refine den_seq ?_
    -- region 6
    refine den_region rfl ?_
    refine WL_v (v_move rfl) rfl ?_
    refine WL_callq rfl (gbase_fn _ _) rfl ?_
    refine WL_v (v_move rfl) rfl ?_
    refine WL_v (v_extract rfl rfl) rfl ?_
    refine WL_v (v_extract rfl rfl) rfl ?_
    refine WL_v (v_faddr Tryz.underlying30 rfl siz3 rfl) rfl ?_
    refine WL_store0 rfl rfl rfl siz3 rfl rfl rfl ?_
    refine WL_nil ?_
    refine den_seq ?_
    -- region 7
    refine den_draw [] (by kernel_rfl) (by kernel_rfl) (NoP.fn) (rem := [0, 1, 2, 3, 4, 5, 6, 7, 8, 9, 10, 11, 12, 13]) (by kernel_rfl) ?_
    refine QS_v (i := 0) rfl (v_move rfl) (by kernel_rfl) (by kernel_rfl) (by kernel_rfl) (rem' := [1, 2, 3, 4, 5, 6, 7, 8, 9, 10, 11, 12, 13]) (by kernel_rfl) rfl ?_
    refine QS_v (i := 1) rfl (v_faddr Tryz.underlying30 rfl siz3 rfl) (by kernel_rfl) (by kernel_rfl) (by kernel_rfl) (rem' := [2, 3, 4, 5, 6, 7, 8, 9, 10, 11, 12, 13]) (by kernel_rfl) rfl ?_
    refine QS_v (i := 2) rfl (v_load1 one3 rfl (by first | exact Kn.own 0 rfl | exact Kn.own 1 rfl | exact Kn.own 2 rfl | exact Kn.own 3 rfl | exact Kn.own 4 rfl | exact Kn.own 5 rfl | exact Kn.per ‹_›) rfl) (by kernel_rfl) (by kernel_rfl) (by kernel_rfl) (rem' := [3, 4, 5, 6, 7, 8, 9, 10, 11, 12, 13]) (by kernel_rfl) rfl ?_
    refine QS_v (i := 3) rfl (v_move rfl) (by kernel_rfl) (by kernel_rfl) (by kernel_rfl) (rem' := [4, 5, 6, 7, 8, 9, 10, 11, 12, 13]) (by kernel_rfl) rfl ?_
    refine QS_v (i := 7) rfl (v_move rfl) (by kernel_rfl) (by kernel_rfl) (by kernel_rfl) (rem' := [4, 5, 6, 8, 9, 10, 11, 12, 13]) (by kernel_rfl) rfl ?_
    refine QS_step (is := [4]) rfl (by kernel_rfl) ?_
    refine qall1 ?_
    refine qs_vcallq rfl rfl rfl rfl (kpublic_fn _ _) rfl (rem' := [5, 6, 8, 9, 10, 11, 12, 13]) (by kernel_rfl) ?_
    refine QS_step (is := [5]) rfl (by kernel_rfl) ?_
    refine qall1 ?_
    refine qs_newp (g := fun b => .slice (some ⟨b, 0, none⟩) 2 2) rfl (o_buildSlice Tryz.underlying22 zer3 rfl siz3 rfl rfl rfl rfl) rfl (rem' := [6, 8, 9, 10, 11, 12, 13]) (by kernel_rfl) fun b37 h37 hl37 hb37 => ?_
    refine QS_step (is := [6]) rfl (by kernel_rfl) ?_
    refine qall1 ?_
    refine qs_callq rfl rfl ((hash_fn _ _ xs _ _ [sgR x xs, gexpV 4 x] _ (by decide) (hv.le (hl23.trans hl37)) hn (Sl1.ints hb37) (by simp) (hG.le (hl23.trans hl37))) ) rfl (rem' := [8, 9, 10, 11, 12, 13]) (by kernel_rfl) ?_
    rw [show scal _ (u8ss [sgR x xs, gexpV 4 x] ++ xs) = sgC (gexpV 4 x) (sgR x xs) xs from by rw [u8ss2]; rfl]
    refine QS_step (is := [8]) rfl (by kernel_rfl) ?_
    refine qall1 ?_
    refine qs_callq rfl rfl (fmul_fn _ _ _) rfl (rem' := [9, 10, 11, 12, 13]) (by kernel_rfl) ?_
    refine QS_v (i := 9) rfl (v_move rfl) (by kernel_rfl) (by kernel_rfl) (by kernel_rfl) (rem' := [10, 11, 12, 13]) (by kernel_rfl) rfl ?_
    refine QS_v (i := 10) rfl (v_extract rfl rfl) (by kernel_rfl) (by kernel_rfl) (by kernel_rfl) (rem' := [11, 12, 13]) (by kernel_rfl) rfl ?_
    refine QS_v (i := 11) rfl (v_extract rfl rfl) (by kernel_rfl) (by kernel_rfl) (by kernel_rfl) (rem' := [12, 13]) (by kernel_rfl) rfl ?_
    refine QS_v (i := 12) rfl (v_assign rfl) (by kernel_rfl) (by kernel_rfl) (by kernel_rfl) (rem' := [13]) (by kernel_rfl) rfl ?_
    refine QS_v (i := 13) rfl (v_assign rfl) (by kernel_rfl) (by kernel_rfl) (by kernel_rfl) (rem' := []) (by kernel_rfl) rfl ?_
    refine QS_nil ?_
    refine den_seq ?_
    -- region 8
    refine den_region rfl ?_
    refine WL_v (v_move rfl) rfl ?_
    refine WL_v (v_move rfl) rfl ?_
    refine WL_callq rfl (fadd_fn _ _ _) rfl ?_
    refine WL_v (v_move rfl) rfl ?_
    refine WL_v (v_extract rfl rfl) rfl ?_
    refine WL_v (v_extract rfl rfl) rfl ?_
    refine WL_v (v_faddr Tryz.underlying30 rfl siz3 rfl) rfl ?_
    refine WL_store0 rfl rfl rfl siz3 rfl rfl rfl ?_
    refine WL_v (v_assign rfl) rfl ?_
    refine WL_nil ?_
    refine den_seq ?_
    -- region 9
    refine den_region rfl ?_
    refine WL_v (v_loadn many30 rfl (by first | exact Kn.own 0 rfl | exact Kn.own 1 rfl | exact Kn.own 2 rfl | exact Kn.own 3 rfl | exact Kn.own 4 rfl | exact Kn.own 5 rfl | exact Kn.per ‹_›) rfl) rfl ?_
    refine WL_v (v_move rfl) rfl ?_
    refine WL_store0 rfl rfl rfl siz30 rfl rfl rfl ?_
    refine WL_v (v_assign rfl) rfl ?_
    refine WL_nil ?_
    refine den_ret ?_
    exact endsr2 Tryz.results25 (rv_n many30 rfl (by first | exact Kn.own 0 rfl | exact Kn.own 1 rfl | exact Kn.own 2 rfl | exact Kn.own 3 rfl | exact Kn.own 4 rfl | exact Kn.own 5 rfl | exact Kn.per ‹_›) rfl) (rv_t rfl) (by first | exact Heap.le.refl _ | exact hl23.trans hl37) (by simp) ⟨by first | (rw [if_neg hx, if_neg hx, if_neg hx]) | (rw [if_pos hx, if_pos hx, if_pos hx]; exact congrArg (fun e => Value.tuple ⟨[.agg ⟨[.int .i64 (sgR x xs), .int .i64 (sgS x xs)]⟩, .int .i64 e]⟩) (sgE x xs)), rfl⟩

end Go.Proofs.Ch
