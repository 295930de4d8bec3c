/- Walks of the program's functions, printed by my own generator (layer V1). -/
import Derived.Test.YtmeakefbepbapaaGreatDoorL10
import Derived.Test.YtmeakefbepbapaaGreatDoorS3
namespace Go.Proofs.Ch
open Go Go.Proofs
set_option maxRecDepth 4000
set_option maxHeartbeats 1000000
theorem zer159 : Zer Tryz.prog 159 (.agg ⟨[.int .i64 0, .int .i64 0]⟩) := by show _ = _; kernel_rfl
theorem siz33 : Siz Tryz.prog 33 1 := by show _ = _; kernel_rfl
theorem one33 : One Tryz.prog 33 := One.of Tryz.underlying33 rfl
theorem zer101 : Zer Tryz.prog 101 (.agg ⟨[.int .i64 0, .int .i64 0, .int .i64 0]⟩) := by show _ = _; kernel_rfl
theorem siz101 : Siz Tryz.prog 101 3 := by show _ = _; kernel_rfl
theorem many101 : Many Tryz.prog 101 3 := Many.of Tryz.underlying101 rfl siz101
theorem gmul_fn (a b : Int) (h : Heap) : Fn0 Tryz.prog 49 [.int .i64 a, .int .i64 b] h (.tuple ⟨[.int .i64 (gmulV a b), .int .i64 (gmulE a b)]⟩) := by
  refine Tr_of Tryz.func49 rfl rfl Tryz.ntmps49 rfl [(0, .int .i64 a), (1, .int .i64 b)] rfl ?_
  intro Lf
  refine den_seq ?_
  -- region 0
  refine den_region rfl ?_
  refine WL_v (v_assign rfl) rfl ?_
  refine WL_v (v_assign rfl) rfl ?_
  refine WL_nil ?_
  refine den_seq ?_
  refine den_seq ?_
  -- region 1
  refine den_region rfl ?_
  refine WL_v (v_move rfl) rfl ?_
  refine WL_v (v_move rfl) rfl ?_
  refine WL_v (v_builda Tryz.underlying159 zer159 siz3 rfl rfl) rfl ?_
  refine WL_v (v_move rfl) rfl ?_
  refine WL_nil ?_
  refine den_block ?_
  refine den_loopI (ι := Nat) (fun i => [(0, .int .i64 a), (1, .int .i64 b), (11, .agg ⟨[.int .i64 a, .int .i64 b]⟩), (12, .int .i64 ((i : Nat) : Int))]) (fun i h' L' => i ≤ 2 ∧ h = h' ∧ Lf = L' ∧ (1 ≤ i → GC a) ∧ (2 ≤ i → GC b)) (fun i => 2 - i) 0 (sub_cons rfl (sub_cons rfl (sub_cons rfl (sub_cons rfl sub_nil)))) ⟨by omega, rfl, rfl, fun g => by omega, fun g => by omega⟩ ?_
  rintro i _ _ ⟨i1, rfl, rfl, ga, gb⟩
  refine den_seq ?_
  -- region 2
  refine den_region rfl ?_
  refine WL_v (v_lss rfl rfl) rfl ?_
  refine WL_nil ?_
  refine den_seq ?_
  first | refine den_ifd rfl (fun hi => ?_) (fun hi => ?_) | refine den_if rfl (fun hi => ?_) (fun hi => ?_)
  · skip
    obtain ⟨x, hgx, hxe⟩ : ∃ x, [Value.int .i64 a, .int .i64 b][i * 1]? = some (.int .i64 x) ∧ ((i = 0 ∧ x = a) ∨ (i = 1 ∧ x = b)) := by
      rcases (by omega : i = 0 ∨ i = 1) with rfl | rfl
      · exact ⟨a, rfl, .inl ⟨rfl, rfl⟩⟩
      · exact ⟨b, rfl, .inr ⟨rfl, rfl⟩⟩
    refine den_skip ?_
    refine den_seq ?_
    refine den_block ?_
    refine den_seq ?_
    -- region 3
    refine den_region rfl ?_
    refine WL_v (v_index1 Tryz.underlying159 siz3 one3 rfl rfl (by omega) (by omega) (by rw [Int.toNat_natCast]; exact hgx)) rfl ?_
    refine WL_v (v_assign rfl) rfl ?_
    refine WL_nil ?_
    refine den_seq ?_
    -- region 4
    refine den_region rfl ?_
    refine WL_v (v_move rfl) rfl ?_
    refine WL_callq rfl (gcheck_fn _ _) rfl ?_
    refine WL_v (v_assign rfl) rfl ?_
    obtain ⟨c, hc⟩ : ∃ c, c = (if GC x then (0 : Int) else 40) := ⟨_, rfl⟩
    rw [← hc]
    refine WL_nil ?_
    refine den_seq ?_
    -- region 5
    refine den_region rfl ?_
    refine WL_v (v_move rfl) rfl ?_
    refine WL_v (v_neq rfl rfl) rfl ?_
    refine WL_nil ?_
    first | refine den_ifd rfl (fun c3 => ?_) (fun c4 => ?_) | refine den_if rfl (fun c3 => ?_) (fun c4 => ?_)
    · skip
      have hx : ¬ GC x := fun g => by rw [if_pos g] at hc; omega
      rw [if_neg hx] at hc; subst hc
      have hno : ¬ (GC a ∧ GC b) := fun g => by rcases hxe with ⟨_, rfl⟩ | ⟨_, rfl⟩; exact hx g.1; exact hx g.2
      refine den_seq ?_
      -- region 6
      refine den_region rfl ?_
      refine WL_v (v_move rfl) rfl ?_
      refine WL_v (v_assign rfl) rfl ?_
      refine WL_v (v_assign rfl) rfl ?_
      refine WL_nil ?_
      refine den_ret ?_
      exact ends2 Tryz.results49 rfl rfl (Heap.le.refl _) (by simp) ⟨by unfold gmulV gmulE; first | rw [if_neg hno, if_neg hno] | rw [if_pos ⟨hga, hgb⟩, if_pos ⟨hga, hgb⟩], rfl⟩
    · skip
      have hx : GC x := by by_cases g : GC x; exact g; rw [if_neg g] at hc; omega
      refine den_skip ?_
      refine den_blk ?_
      -- region 7
      refine den_region rfl ?_
      refine WL_v (v_addj (n := 1) rfl rfl (by show _ < 9223372036854775808; omega)) rfl ?_
      refine WL_v (v_move rfl) rfl ?_
      refine WL_nil ?_
      refine den_again ⟨rfl, (i + 1), (by show 2 - (i + 1) < 2 - i; omega), (sub_cons rfl (sub_cons rfl (sub_cons rfl (sub_cons rfl sub_nil)))), ⟨by omega, rfl, rfl, fun _ => (by rcases hxe with ⟨_, rfl⟩ | ⟨_, rfl⟩; exact hx; exact ga (by omega)), fun _ => (by rcases hxe with ⟨_, rfl⟩ | ⟨_, rfl⟩; omega; exact hx)⟩⟩
  · skip
    have hga := ga (by omega)
    have hgb := gb (by omega)
    have hlt : a.toNat * b.toNat % 4611686018427377339 < 4611686018427377339 := Nat.mod_lt _ (by decide)
    refine den_exit rfl ?_
    refine den_seq ?_
    -- region 8
    refine den_region rfl ?_
    refine WL_v (v_move rfl) rfl ?_
    refine WL_v (v_convz Tryz.underlying3 Tryz.underlying148 rfl (by have := hga.1; omega) (by have := hga.2.1; omega)) rfl ?_
    refine WL_v (v_move rfl) rfl ?_
    refine WL_v (v_convz Tryz.underlying3 Tryz.underlying148 rfl (by have := hgb.1; omega) (by have := hgb.2.1; omega)) rfl ?_
    refine WL_callq rfl (times_fn _ _ (by have := hga.2.1; have := hga.1; omega) (by have := hgb.2.1; have := hgb.1; omega) _) rfl ?_
    refine WL_v (v_convj Tryz.underlying148 Tryz.underlying3 rfl (by omega)) rfl ?_
    refine WL_v (v_assign rfl) rfl ?_
    refine WL_v (v_assign rfl) rfl ?_
    refine WL_nil ?_
    refine den_ret ?_
    exact ends2 Tryz.results49 rfl rfl (Heap.le.refl _) (by simp) ⟨by unfold gmulV gmulE; first | rw [if_neg hno, if_neg hno] | rw [if_pos ⟨hga, hgb⟩, if_pos ⟨hga, hgb⟩], rfl⟩

/-- is it signed -/
def vrfC (p r s : Int) : Prop := GC p ∧ GC r ∧ 0 ≤ s ∧ s < 2305843009213688669
instance (p r s : Int) : Decidable (vrfC p r s) := inferInstanceAs (Decidable (_ ∧ _))
noncomputable def vrf (p : Int) (xs : List UInt8) (r s : Int) : Bool := decide (vrfC p r s) && decide (gexpV 4 s = gmulV r (gexpV p (sgC p r xs)))
theorem vrf_no {p r s : Int} {xs : List UInt8} (h : ¬ vrfC p r s) : vrf p xs r s = false := by unfold vrf; rw [decide_eq_false h]; rfl
theorem vrf_yes {p r s : Int} {xs : List UInt8} (h : vrfC p r s) : vrf p xs r s = decide (gexpV 4 s = gmulV r (gexpV p (sgC p r xs))) := by unfold vrf; rw [decide_eq_true h, Bool.true_and]
theorem vrf_chk {p r s : Int} : (!decide ([if GC p then (0 : Int) else 40, if GC r then 0 else 40, if outI s then 1 else 0] = [0, 0, 0])) = !decide (vrfC p r s) := by
  congr 1
  rw [decide_eq_decide]
  unfold vrfC
  constructor
  · intro g
    have ho : outI s = false := by
      cases hb : outI s
      · rfl
      · rw [hb] at g; simp at g
    have := outI_f ho
    by_cases h1 : GC p
    · by_cases h2 : GC r
      · exact ⟨h1, h2, this⟩
      · rw [if_neg h2] at g; simp at g
    · rw [if_neg h1] at g; simp at g
  · rintro ⟨h1, h2, h3⟩
    have ho : outI s = false := by
      cases hb : outI s
      · rfl
      · exact absurd h3 (by have := outI_t hb; omega)
    rw [if_pos h1, if_pos h2, ho]; rfl
/-- what is signed verifies -/
theorem vrf_sign {x : Int} {xs : List UInt8} (hx : isPr x) : vrf (gexpV 4 x) xs (sgR x xs) (sgS x xs) = true := by
  have hk := scal_rng [110, 111, 110, 99, 101] (u8s x ++ xs)
  have hc := scal_rng [115, 105, 103, 110] (u8s (sgR x xs) ++ (u8s (gexpV 4 x) ++ xs))
  have g1 : GC (gexpV 4 x) := gc_pow GC4 (by have := hx.1; omega) hx.2
  have g2 : GC (sgR x xs) := by
    unfold sgR
    exact gc_pow (k := (sgK x xs : Int)) GC4 (by omega) (by unfold sgK; omega)
  have g3 : 0 ≤ sgS x xs ∧ sgS x xs < 2305843009213688669 := by
    unfold sgS
    exact faddV_rng _ _
  have h0 : vrfC (gexpV 4 x) (sgR x xs) (sgS x xs) := ⟨g1, g2, g3.1, g3.2⟩
  rw [vrf_yes h0]
  have hl := sig_law (x := x) (k := sgK x xs) (c := sgC (gexpV 4 x) (sgR x xs) xs) hx (by unfold sgK; omega) (by unfold sgC; omega)
  refine decide_eq_true ?_
  unfold sgS sgM
  rw [hl]; rfl
theorem verify_fn (p : Int) (xv : Value) (xs : List UInt8) (r s : Int) (h : Heap) (hv : Bs h xv xs) (hn : xs.length ≤ 1099511627) (hG : Gl h) : Fn0 Tryz.prog 20 [.int .i64 p, xv, .agg ⟨[.int .i64 r, .int .i64 s]⟩] h (.bool (vrf p xs r s)) := by
  refine Tr_of Tryz.func20 rfl rfl Tryz.ntmps20 rfl [(0, .int .i64 p), (1, xv), (2, .agg ⟨[.int .i64 r, .int .i64 s]⟩)] rfl ?_
  intro Lf
  refine den_seq ?_
  -- region 0
  refine den_region rfl ?_
  refine WL_box rfl rfl rfl fun b5 => ?_
  refine WL_v (v_assign rfl) rfl ?_
  refine WL_nil ?_
  refine den_seq ?_
  -- region 1
  refine den_draw [10] (by kernel_rfl) (by kernel_rfl) (NoP.fn) (rem := [0, 1, 2, 3, 4, 5, 6, 7, 8, 9, 10]) (by kernel_rfl) ?_
  refine QS_v (i := 0) rfl (v_move rfl) (by kernel_rfl) (by kernel_rfl) (by kernel_rfl) (rem' := [1, 2, 3, 4, 5, 6, 7, 8, 9, 10]) (by kernel_rfl) rfl ?_
  refine QS_v (i := 2) rfl (v_faddr Tryz.underlying30 rfl siz3 rfl) (by kernel_rfl) (by kernel_rfl) (by kernel_rfl) (rem' := [1, 3, 4, 5, 6, 7, 8, 9, 10]) (by kernel_rfl) rfl ?_
  refine QS_v (i := 3) rfl (v_load1 one3 rfl (by first | exact Kn.own 0 rfl | exact Kn.own 1 rfl | exact Kn.own 2 rfl | exact Kn.own 3 rfl | exact Kn.own 4 rfl | exact Kn.own 5 rfl | exact Kn.per ‹_›) rfl) (by kernel_rfl) (by kernel_rfl) (by kernel_rfl) (rem' := [1, 4, 5, 6, 7, 8, 9, 10]) (by kernel_rfl) rfl ?_
  refine QS_v (i := 5) rfl (v_faddr Tryz.underlying30 rfl siz3 rfl) (by kernel_rfl) (by kernel_rfl) (by kernel_rfl) (rem' := [1, 4, 6, 7, 8, 9, 10]) (by kernel_rfl) rfl ?_
  refine QS_v (i := 6) rfl (v_load1 one3 rfl (by first | exact Kn.own 0 rfl | exact Kn.own 1 rfl | exact Kn.own 2 rfl | exact Kn.own 3 rfl | exact Kn.own 4 rfl | exact Kn.own 5 rfl | exact Kn.per ‹_›) rfl) (by kernel_rfl) (by kernel_rfl) (by kernel_rfl) (rem' := [1, 4, 7, 8, 9, 10]) (by kernel_rfl) rfl ?_
  refine QS_step (is := [1, 9]) rfl (by kernel_rfl) ?_
  refine qall2 ?_ ?_
  · skip
    refine qs_callq rfl rfl (gcheck_fn _ _) rfl (rem' := [4, 7, 8, 9, 10]) (by kernel_rfl) ?_
    refine QS_step (is := [4, 9]) rfl (by kernel_rfl) ?_
    refine qall2 ?_ ?_
    · skip
      refine qs_callq rfl rfl (gcheck_fn _ _) rfl (rem' := [7, 8, 9, 10]) (by kernel_rfl) ?_
      refine QS_step (is := [7, 9]) rfl (by kernel_rfl) ?_
      refine qall2 ?_ ?_
      · skip
        refine qs_callq rfl rfl (fcheck_fn _ _) rfl (rem' := [8, 9, 10]) (by kernel_rfl) ?_
        refine QS_v (i := 8) rfl (v_builda Tryz.underlying101 zer101 siz33 rfl rfl) (by kernel_rfl) (by kernel_rfl) (by kernel_rfl) (rem' := [9, 10]) (by kernel_rfl) rfl ?_
        refine QS_step (is := [9]) rfl (by kernel_rfl) ?_
        refine qall1 ?_
        refine qs_new (g := fun b => .pointer (some ⟨b, 0, none⟩)) rfl (o_alloc zer101 rfl) rfl (rem' := [10]) (by kernel_rfl) fun b7 => ?_
        refine QS_step (is := [10]) rfl (by kernel_rfl) ?_
        refine qall1 ?_
        first | refine qs_store (A := []) rfl rfl rfl rfl siz101 rfl rfl rfl rfl (rem' := []) (by kernel_rfl) rfl rfl ?_ | refine qs_store (A := [_]) rfl rfl rfl rfl siz101 rfl rfl rfl rfl (rem' := []) (by kernel_rfl) rfl rfl ?_ | refine qs_store (A := [_, _]) rfl rfl rfl rfl siz101 rfl rfl rfl rfl (rem' := []) (by kernel_rfl) rfl rfl ?_ | refine qs_store (A := [_, _, _]) rfl rfl rfl rfl siz101 rfl rfl rfl rfl (rem' := []) (by kernel_rfl) rfl rfl ?_ | refine qs_store (A := [_, _, _, _]) rfl rfl rfl rfl siz101 rfl rfl rfl rfl (rem' := []) (by kernel_rfl) rfl rfl ?_
        refine QS_nil ?_
        refine den_seq ?_
        refine den_seq ?_
        -- region 2
        refine den_region rfl ?_
        refine WL_v (v_loadn many101 rfl (by first | exact Kn.own 0 rfl | exact Kn.own 1 rfl | exact Kn.own 2 rfl | exact Kn.own 3 rfl | exact Kn.own 4 rfl | exact Kn.own 5 rfl | exact Kn.per ‹_›) rfl) rfl ?_
        refine WL_v (v_builda Tryz.underlying101 zer101 siz33 rfl rfl) rfl ?_
        refine WL_v (v_aneq (EqV.ints (d := 9998) (us := [if GC p then 0 else 40, if GC r then 0 else 40, if outI s then 1 else 0]) (vs := [0, 0, 0]) Tryz.underlying101 siz33 one33 Tryz.underlying33 rfl rfl) (by kernel_rfl) rfl rfl) rfl ?_
        rw [vrf_chk]
        refine WL_nil ?_
        first | refine den_ifd rfl (fun hq => ?_) (fun hq => ?_) | refine den_if rfl (fun hq => ?_) (fun hq => ?_)
        · skip
          have hno : ¬ vrfC p r s := by simpa using hq
          refine den_seq ?_
          -- region 3
          refine den_region rfl ?_
          refine WL_v (v_assign rfl) rfl ?_
          refine WL_nil ?_
          refine den_ret ?_
          exact ends1 Tryz.results20 rfl (by first | exact Heap.le.refl _ | exact hl38) (by simp) ⟨by first | rw [vrf_no hno] | rw [vrf_yes hyes], rfl⟩
        · skip
          have hyes : vrfC p r s := by simpa using hq
          refine den_skip ?_
          refine den_seq ?_
          -- region 4
          refine den_region rfl ?_
          refine WL_v (v_faddr Tryz.underlying30 rfl siz3 rfl) rfl ?_
          refine WL_v (v_load1 one3 rfl (by first | exact Kn.own 0 rfl | exact Kn.own 1 rfl | exact Kn.own 2 rfl | exact Kn.own 3 rfl | exact Kn.own 4 rfl | exact Kn.own 5 rfl | exact Kn.per ‹_›) rfl) rfl ?_
          refine WL_callq rfl (gbase_fn _ _) rfl ?_
          refine WL_v (v_move rfl) rfl ?_
          refine WL_v (v_extract rfl rfl) rfl ?_
          refine WL_v (v_extract rfl rfl) rfl ?_
          refine WL_v (v_assign rfl) rfl ?_
          refine WL_v (v_assign rfl) rfl ?_
          refine WL_nil ?_
          refine den_seq ?_
          -- region 5
          refine den_region rfl ?_
          refine WL_v (v_move rfl) rfl ?_
          refine WL_v (v_move rfl) rfl ?_
          refine WL_v (v_faddr Tryz.underlying30 rfl siz3 rfl) rfl ?_
          refine WL_v (v_load1 one3 rfl (by first | exact Kn.own 0 rfl | exact Kn.own 1 rfl | exact Kn.own 2 rfl | exact Kn.own 3 rfl | exact Kn.own 4 rfl | exact Kn.own 5 rfl | exact Kn.per ‹_›) rfl) rfl ?_
          refine WL_v (v_move rfl) rfl ?_
          refine WL_buildSlice Tryz.underlying22 zer3 rfl siz3 rfl rfl rfl rfl rfl fun b38 => ?_
          refine WL_freeze fun h38 hl38 hb38 => ?_
          refine WL_callq rfl ((hash_fn _ _ xs _ _ [r, p] _ (by decide) (hv.le hl38) hn (Sl1.ints hb38) (by simp) (hG.le hl38)) ) rfl ?_
          rw [show scal _ (u8ss [r, p] ++ xs) = sgC p r xs from by rw [u8ss2]; rfl]
          refine WL_callq rfl (gexp_fn _ _ _) rfl ?_
          refine WL_v (v_move rfl) rfl ?_
          refine WL_v (v_extract rfl rfl) rfl ?_
          refine WL_v (v_extract rfl rfl) rfl ?_
          refine WL_v (v_assign rfl) rfl ?_
          refine WL_v (v_assign rfl) rfl ?_
          refine WL_nil ?_
          refine den_seq ?_
          -- region 6
          refine den_region rfl ?_
          refine WL_v (v_faddr Tryz.underlying30 rfl siz3 rfl) rfl ?_
          refine WL_v (v_load1 one3 rfl (by first | exact Kn.own 0 rfl | exact Kn.own 1 rfl | exact Kn.own 2 rfl | exact Kn.own 3 rfl | exact Kn.own 4 rfl | exact Kn.own 5 rfl | exact Kn.per ‹_›) rfl) rfl ?_
          refine WL_v (v_move rfl) rfl ?_
          refine WL_callq rfl (gmul_fn _ _ _) rfl ?_
          refine WL_v (v_move rfl) rfl ?_
          refine WL_v (v_extract rfl rfl) rfl ?_
          refine WL_v (v_extract rfl rfl) rfl ?_
          refine WL_v (v_assign rfl) rfl ?_
          refine WL_v (v_assign rfl) rfl ?_
          refine WL_nil ?_
          refine den_seq ?_
          -- region 7
          refine den_region rfl ?_
          refine WL_v (v_move rfl) rfl ?_
          refine WL_v (v_move rfl) rfl ?_
          refine WL_v (v_eql rfl rfl) rfl ?_
          refine WL_v (v_assign rfl) rfl ?_
          refine WL_nil ?_
          refine den_ret ?_
          exact ends1 Tryz.results20 rfl (by first | exact Heap.le.refl _ | exact hl38) (by simp) ⟨by first | rw [vrf_no hno] | rw [vrf_yes hyes], rfl⟩
      · skip
        refine qs_new (g := fun b => .pointer (some ⟨b, 0, none⟩)) rfl (o_alloc zer101 rfl) rfl (rem' := [7, 8, 10]) (by kernel_rfl) fun b7 => ?_
        refine QS_step (is := [7]) rfl (by kernel_rfl) ?_
        refine qall1 ?_
        refine qs_callq rfl rfl (fcheck_fn _ _) rfl (rem' := [8, 10]) (by kernel_rfl) ?_
        refine QS_v (i := 8) rfl (v_builda Tryz.underlying101 zer101 siz33 rfl rfl) (by kernel_rfl) (by kernel_rfl) (by kernel_rfl) (rem' := [10]) (by kernel_rfl) rfl ?_
        refine QS_step (is := [10]) rfl (by kernel_rfl) ?_
        refine qall1 ?_
        first | refine qs_store (A := []) rfl rfl rfl rfl siz101 rfl rfl rfl rfl (rem' := []) (by kernel_rfl) rfl rfl ?_ | refine qs_store (A := [_]) rfl rfl rfl rfl siz101 rfl rfl rfl rfl (rem' := []) (by kernel_rfl) rfl rfl ?_ | refine qs_store (A := [_, _]) rfl rfl rfl rfl siz101 rfl rfl rfl rfl (rem' := []) (by kernel_rfl) rfl rfl ?_ | refine qs_store (A := [_, _, _]) rfl rfl rfl rfl siz101 rfl rfl rfl rfl (rem' := []) (by kernel_rfl) rfl rfl ?_ | refine qs_store (A := [_, _, _, _]) rfl rfl rfl rfl siz101 rfl rfl rfl rfl (rem' := []) (by kernel_rfl) rfl rfl ?_
        refine QS_nil ?_
        refine den_seq ?_
        refine den_seq ?_
        -- region 2
        refine den_region rfl ?_
        refine WL_v (v_loadn many101 rfl (by first | exact Kn.own 0 rfl | exact Kn.own 1 rfl | exact Kn.own 2 rfl | exact Kn.own 3 rfl | exact Kn.own 4 rfl | exact Kn.own 5 rfl | exact Kn.per ‹_›) rfl) rfl ?_
        refine WL_v (v_builda Tryz.underlying101 zer101 siz33 rfl rfl) rfl ?_
        refine WL_v (v_aneq (EqV.ints (d := 9998) (us := [if GC p then 0 else 40, if GC r then 0 else 40, if outI s then 1 else 0]) (vs := [0, 0, 0]) Tryz.underlying101 siz33 one33 Tryz.underlying33 rfl rfl) (by kernel_rfl) rfl rfl) rfl ?_
        rw [vrf_chk]
        refine WL_nil ?_
        first | refine den_ifd rfl (fun hq => ?_) (fun hq => ?_) | refine den_if rfl (fun hq => ?_) (fun hq => ?_)
        · skip
          have hno : ¬ vrfC p r s := by simpa using hq
          refine den_seq ?_
          -- region 3
          refine den_region rfl ?_
          refine WL_v (v_assign rfl) rfl ?_
          refine WL_nil ?_
          refine den_ret ?_
          exact ends1 Tryz.results20 rfl (by first | exact Heap.le.refl _ | exact hl38) (by simp) ⟨by first | rw [vrf_no hno] | rw [vrf_yes hyes], rfl⟩
        · skip
          have hyes : vrfC p r s := by simpa using hq
          refine den_skip ?_
          refine den_seq ?_
          -- region 4
          refine den_region rfl ?_
          refine WL_v (v_faddr Tryz.underlying30 rfl siz3 rfl) rfl ?_
          refine WL_v (v_load1 one3 rfl (by first | exact Kn.own 0 rfl | exact Kn.own 1 rfl | exact Kn.own 2 rfl | exact Kn.own 3 rfl | exact Kn.own 4 rfl | exact Kn.own 5 rfl | exact Kn.per ‹_›) rfl) rfl ?_
          refine WL_callq rfl (gbase_fn _ _) rfl ?_
          refine WL_v (v_move rfl) rfl ?_
          refine WL_v (v_extract rfl rfl) rfl ?_
          refine WL_v (v_extract rfl rfl) rfl ?_
          refine WL_v (v_assign rfl) rfl ?_
          refine WL_v (v_assign rfl) rfl ?_
          refine WL_nil ?_
          refine den_seq ?_
          -- region 5
          refine den_region rfl ?_
          refine WL_v (v_move rfl) rfl ?_
          refine WL_v (v_move rfl) rfl ?_
          refine WL_v (v_faddr Tryz.underlying30 rfl siz3 rfl) rfl ?_
          refine WL_v (v_load1 one3 rfl (by first | exact Kn.own 0 rfl | exact Kn.own 1 rfl | exact Kn.own 2 rfl | exact Kn.own 3 rfl | exact Kn.own 4 rfl | exact Kn.own 5 rfl | exact Kn.per ‹_›) rfl) rfl ?_
          refine WL_v (v_move rfl) rfl ?_
          refine WL_buildSlice Tryz.underlying22 zer3 rfl siz3 rfl rfl rfl rfl rfl fun b38 => ?_
          refine WL_freeze fun h38 hl38 hb38 => ?_
          refine WL_callq rfl ((hash_fn _ _ xs _ _ [r, p] _ (by decide) (hv.le hl38) hn (Sl1.ints hb38) (by simp) (hG.le hl38)) ) rfl ?_
          rw [show scal _ (u8ss [r, p] ++ xs) = sgC p r xs from by rw [u8ss2]; rfl]
          refine WL_callq rfl (gexp_fn _ _ _) rfl ?_
          refine WL_v (v_move rfl) rfl ?_
          refine WL_v (v_extract rfl rfl) rfl ?_
          refine WL_v (v_extract rfl rfl) rfl ?_
          refine WL_v (v_assign rfl) rfl ?_
          refine WL_v (v_assign rfl) rfl ?_
          refine WL_nil ?_
          refine den_seq ?_
          -- region 6
          refine den_region rfl ?_
          refine WL_v (v_faddr Tryz.underlying30 rfl siz3 rfl) rfl ?_
          refine WL_v (v_load1 one3 rfl (by first | exact Kn.own 0 rfl | exact Kn.own 1 rfl | exact Kn.own 2 rfl | exact Kn.own 3 rfl | exact Kn.own 4 rfl | exact Kn.own 5 rfl | exact Kn.per ‹_›) rfl) rfl ?_
          refine WL_v (v_move rfl) rfl ?_
          refine WL_callq rfl (gmul_fn _ _ _) rfl ?_
          refine WL_v (v_move rfl) rfl ?_
          refine WL_v (v_extract rfl rfl) rfl ?_
          refine WL_v (v_extract rfl rfl) rfl ?_
          refine WL_v (v_assign rfl) rfl ?_
          refine WL_v (v_assign rfl) rfl ?_
          refine WL_nil ?_
          refine den_seq ?_
          -- region 7
          refine den_region rfl ?_
          refine WL_v (v_move rfl) rfl ?_
          refine WL_v (v_move rfl) rfl ?_
          refine WL_v (v_eql rfl rfl) rfl ?_
          refine WL_v (v_assign rfl) rfl ?_
          refine WL_nil ?_
          refine den_ret ?_
          exact ends1 Tryz.results20 rfl (by first | exact Heap.le.refl _ | exact hl38) (by simp) ⟨by first | rw [vrf_no hno] | rw [vrf_yes hyes], rfl⟩
    · skip
      refine qs_new (g := fun b => .pointer (some ⟨b, 0, none⟩)) rfl (o_alloc zer101 rfl) rfl (rem' := [4, 7, 8, 10]) (by kernel_rfl) fun b7 => ?_
      refine QS_step (is := [4]) rfl (by kernel_rfl) ?_
      refine qall1 ?_
      refine qs_callq rfl rfl (gcheck_fn _ _) rfl (rem' := [7, 8, 10]) (by kernel_rfl) ?_
      refine QS_step (is := [7]) rfl (by kernel_rfl) ?_
      refine qall1 ?_
      refine qs_callq rfl rfl (fcheck_fn _ _) rfl (rem' := [8, 10]) (by kernel_rfl) ?_
      refine QS_v (i := 8) rfl (v_builda Tryz.underlying101 zer101 siz33 rfl rfl) (by kernel_rfl) (by kernel_rfl) (by kernel_rfl) (rem' := [10]) (by kernel_rfl) rfl ?_
      refine QS_step (is := [10]) rfl (by kernel_rfl) ?_
      refine qall1 ?_
      first | refine qs_store (A := []) rfl rfl rfl rfl siz101 rfl rfl rfl rfl (rem' := []) (by kernel_rfl) rfl rfl ?_ | refine qs_store (A := [_]) rfl rfl rfl rfl siz101 rfl rfl rfl rfl (rem' := []) (by kernel_rfl) rfl rfl ?_ | refine qs_store (A := [_, _]) rfl rfl rfl rfl siz101 rfl rfl rfl rfl (rem' := []) (by kernel_rfl) rfl rfl ?_ | refine qs_store (A := [_, _, _]) rfl rfl rfl rfl siz101 rfl rfl rfl rfl (rem' := []) (by kernel_rfl) rfl rfl ?_ | refine qs_store (A := [_, _, _, _]) rfl rfl rfl rfl siz101 rfl rfl rfl rfl (rem' := []) (by kernel_rfl) rfl rfl ?_
      refine QS_nil ?_
      refine den_seq ?_
      refine den_seq ?_
      -- region 2
      refine den_region rfl ?_
      refine WL_v (v_loadn many101 rfl (by first | exact Kn.own 0 rfl | exact Kn.own 1 rfl | exact Kn.own 2 rfl | exact Kn.own 3 rfl | exact Kn.own 4 rfl | exact Kn.own 5 rfl | exact Kn.per ‹_›) rfl) rfl ?_
      refine WL_v (v_builda Tryz.underlying101 zer101 siz33 rfl rfl) rfl ?_
      refine WL_v (v_aneq (EqV.ints (d := 9998) (us := [if GC p then 0 else 40, if GC r then 0 else 40, if outI s then 1 else 0]) (vs := [0, 0, 0]) Tryz.underlying101 siz33 one33 Tryz.underlying33 rfl rfl) (by kernel_rfl) rfl rfl) rfl ?_
      rw [vrf_chk]
      refine WL_nil ?_
      first | refine den_ifd rfl (fun hq => ?_) (fun hq => ?_) | refine den_if rfl (fun hq => ?_) (fun hq => ?_)
      · skip
        have hno : ¬ vrfC p r s := by simpa using hq
        refine den_seq ?_
        -- region 3
        refine den_region rfl ?_
        refine WL_v (v_assign rfl) rfl ?_
        refine WL_nil ?_
        refine den_ret ?_
        exact ends1 Tryz.results20 rfl (by first | exact Heap.le.refl _ | exact hl38) (by simp) ⟨by first | rw [vrf_no hno] | rw [vrf_yes hyes], rfl⟩
      · skip
        have hyes : vrfC p r s := by simpa using hq
        refine den_skip ?_
        refine den_seq ?_
        -- region 4
        refine den_region rfl ?_
        refine WL_v (v_faddr Tryz.underlying30 rfl siz3 rfl) rfl ?_
        refine WL_v (v_load1 one3 rfl (by first | exact Kn.own 0 rfl | exact Kn.own 1 rfl | exact Kn.own 2 rfl | exact Kn.own 3 rfl | exact Kn.own 4 rfl | exact Kn.own 5 rfl | exact Kn.per ‹_›) rfl) rfl ?_
        refine WL_callq rfl (gbase_fn _ _) rfl ?_
        refine WL_v (v_move rfl) rfl ?_
        refine WL_v (v_extract rfl rfl) rfl ?_
        refine WL_v (v_extract rfl rfl) rfl ?_
        refine WL_v (v_assign rfl) rfl ?_
        refine WL_v (v_assign rfl) rfl ?_
        refine WL_nil ?_
        refine den_seq ?_
        -- region 5
        refine den_region rfl ?_
        refine WL_v (v_move rfl) rfl ?_
        refine WL_v (v_move rfl) rfl ?_
        refine WL_v (v_faddr Tryz.underlying30 rfl siz3 rfl) rfl ?_
        refine WL_v (v_load1 one3 rfl (by first | exact Kn.own 0 rfl | exact Kn.own 1 rfl | exact Kn.own 2 rfl | exact Kn.own 3 rfl | exact Kn.own 4 rfl | exact Kn.own 5 rfl | exact Kn.per ‹_›) rfl) rfl ?_
        refine WL_v (v_move rfl) rfl ?_
        refine WL_buildSlice Tryz.underlying22 zer3 rfl siz3 rfl rfl rfl rfl rfl fun b38 => ?_
        refine WL_freeze fun h38 hl38 hb38 => ?_
        refine WL_callq rfl ((hash_fn _ _ xs _ _ [r, p] _ (by decide) (hv.le hl38) hn (Sl1.ints hb38) (by simp) (hG.le hl38)) ) rfl ?_
        rw [show scal _ (u8ss [r, p] ++ xs) = sgC p r xs from by rw [u8ss2]; rfl]
        refine WL_callq rfl (gexp_fn _ _ _) rfl ?_
        refine WL_v (v_move rfl) rfl ?_
        refine WL_v (v_extract rfl rfl) rfl ?_
        refine WL_v (v_extract rfl rfl) rfl ?_
        refine WL_v (v_assign rfl) rfl ?_
        refine WL_v (v_assign rfl) rfl ?_
        refine WL_nil ?_
        refine den_seq ?_
        -- region 6
        refine den_region rfl ?_
        refine WL_v (v_faddr Tryz.underlying30 rfl siz3 rfl) rfl ?_
        refine WL_v (v_load1 one3 rfl (by first | exact Kn.own 0 rfl | exact Kn.own 1 rfl | exact Kn.own 2 rfl | exact Kn.own 3 rfl | exact Kn.own 4 rfl | exact Kn.own 5 rfl | exact Kn.per ‹_›) rfl) rfl ?_
        refine WL_v (v_move rfl) rfl ?_
        refine WL_callq rfl (gmul_fn _ _ _) rfl ?_
        refine WL_v (v_move rfl) rfl ?_
        refine WL_v (v_extract rfl rfl) rfl ?_
        refine WL_v (v_extract rfl rfl) rfl ?_
        refine WL_v (v_assign rfl) rfl ?_
        refine WL_v (v_assign rfl) rfl ?_
        refine WL_nil ?_
        refine den_seq ?_
        -- region 7
        refine den_region rfl ?_
        refine WL_v (v_move rfl) rfl ?_
        refine WL_v (v_move rfl) rfl ?_
        refine WL_v (v_eql rfl rfl) rfl ?_
        refine WL_v (v_assign rfl) rfl ?_
        refine WL_nil ?_
        refine den_ret ?_
        exact ends1 Tryz.results20 rfl (by first | exact Heap.le.refl _ | exact hl38) (by simp) ⟨by first | rw [vrf_no hno] | rw [vrf_yes hyes], rfl⟩
  · skip
    refine qs_new (g := fun b => .pointer (some ⟨b, 0, none⟩)) rfl (o_alloc zer101 rfl) rfl (rem' := [1, 4, 7, 8, 10]) (by kernel_rfl) fun b7 => ?_
    refine QS_step (is := [1]) rfl (by kernel_rfl) ?_
    refine qall1 ?_
    refine qs_callq rfl rfl (gcheck_fn _ _) rfl (rem' := [4, 7, 8, 10]) (by kernel_rfl) ?_
    refine QS_step (is := [4]) rfl (by kernel_rfl) ?_
    refine qall1 ?_
    refine qs_callq rfl rfl (gcheck_fn _ _) rfl (rem' := [7, 8, 10]) (by kernel_rfl) ?_
    refine QS_step (is := [7]) rfl (by kernel_rfl) ?_
    refine qall1 ?_
    refine qs_callq rfl rfl (fcheck_fn _ _) rfl (rem' := [8, 10]) (by kernel_rfl) ?_
    refine QS_v (i := 8) rfl (v_builda Tryz.underlying101 zer101 siz33 rfl rfl) (by kernel_rfl) (by kernel_rfl) (by kernel_rfl) (rem' := [10]) (by kernel_rfl) rfl ?_
    refine QS_step (is := [10]) rfl (by kernel_rfl) ?_
    refine qall1 ?_
    first | refine qs_store (A := []) rfl rfl rfl rfl siz101 rfl rfl rfl rfl (rem' := []) (by kernel_rfl) rfl rfl ?_ | refine qs_store (A := [_]) rfl rfl rfl rfl siz101 rfl rfl rfl rfl (rem' := []) (by kernel_rfl) rfl rfl ?_ | refine qs_store (A := [_, _]) rfl rfl rfl rfl siz101 rfl rfl rfl rfl (rem' := []) (by kernel_rfl) rfl rfl ?_ | refine qs_store (A := [_, _, _]) rfl rfl rfl rfl siz101 rfl rfl rfl rfl (rem' := []) (by kernel_rfl) rfl rfl ?_ | refine qs_store (A := [_, _, _, _]) rfl rfl rfl rfl siz101 rfl rfl rfl rfl (rem' := []) (by kernel_rfl) rfl rfl ?_
    refine QS_nil ?_
    refine den_seq ?_
    refine den_seq ?_
    -- region 2
    refine den_region rfl ?_
    refine WL_v (v_loadn many101 rfl (by first | exact Kn.own 0 rfl | exact Kn.own 1 rfl | exact Kn.own 2 rfl | exact Kn.own 3 rfl | exact Kn.own 4 rfl | exact Kn.own 5 rfl | exact Kn.per ‹_›) rfl) rfl ?_
    refine WL_v (v_builda Tryz.underlying101 zer101 siz33 rfl rfl) rfl ?_
    refine WL_v (v_aneq (EqV.ints (d := 9998) (us := [if GC p then 0 else 40, if GC r then 0 else 40, if outI s then 1 else 0]) (vs := [0, 0, 0]) Tryz.underlying101 siz33 one33 Tryz.underlying33 rfl rfl) (by kernel_rfl) rfl rfl) rfl ?_
    rw [vrf_chk]
    refine WL_nil ?_
    first | refine den_ifd rfl (fun hq => ?_) (fun hq => ?_) | refine den_if rfl (fun hq => ?_) (fun hq => ?_)
    · skip
      have hno : ¬ vrfC p r s := by simpa using hq
      refine den_seq ?_
      -- region 3
      refine den_region rfl ?_
      refine WL_v (v_assign rfl) rfl ?_
      refine WL_nil ?_
      refine den_ret ?_
      exact ends1 Tryz.results20 rfl (by first | exact Heap.le.refl _ | exact hl38) (by simp) ⟨by first | rw [vrf_no hno] | rw [vrf_yes hyes], rfl⟩
    · skip
      have hyes : vrfC p r s := by simpa using hq
      refine den_skip ?_
      refine den_seq ?_
      -- region 4
      refine den_region rfl ?_
      refine WL_v (v_faddr Tryz.underlying30 rfl siz3 rfl) rfl ?_
      refine WL_v (v_load1 one3 rfl (by first | exact Kn.own 0 rfl | exact Kn.own 1 rfl | exact Kn.own 2 rfl | exact Kn.own 3 rfl | exact Kn.own 4 rfl | exact Kn.own 5 rfl | exact Kn.per ‹_›) rfl) rfl ?_
      refine WL_callq rfl (gbase_fn _ _) rfl ?_
      refine WL_v (v_move rfl) rfl ?_
      refine WL_v (v_extract rfl rfl) rfl ?_
      refine WL_v (v_extract rfl rfl) rfl ?_
      refine WL_v (v_assign rfl) rfl ?_
      refine WL_v (v_assign rfl) rfl ?_
      refine WL_nil ?_
      refine den_seq ?_
      -- region 5
      refine den_region rfl ?_
      refine WL_v (v_move rfl) rfl ?_
      refine WL_v (v_move rfl) rfl ?_
      refine WL_v (v_faddr Tryz.underlying30 rfl siz3 rfl) rfl ?_
      refine WL_v (v_load1 one3 rfl (by first | exact Kn.own 0 rfl | exact Kn.own 1 rfl | exact Kn.own 2 rfl | exact Kn.own 3 rfl | exact Kn.own 4 rfl | exact Kn.own 5 rfl | exact Kn.per ‹_›) rfl) rfl ?_
      refine WL_v (v_move rfl) rfl ?_
      refine WL_buildSlice Tryz.underlying22 zer3 rfl siz3 rfl rfl rfl rfl rfl fun b38 => ?_
      refine WL_freeze fun h38 hl38 hb38 => ?_
      refine WL_callq rfl ((hash_fn _ _ xs _ _ [r, p] _ (by decide) (hv.le hl38) hn (Sl1.ints hb38) (by simp) (hG.le hl38)) ) rfl ?_
      rw [show scal _ (u8ss [r, p] ++ xs) = sgC p r xs from by rw [u8ss2]; rfl]
      refine WL_callq rfl (gexp_fn _ _ _) rfl ?_
      refine WL_v (v_move rfl) rfl ?_
      refine WL_v (v_extract rfl rfl) rfl ?_
      refine WL_v (v_extract rfl rfl) rfl ?_
      refine WL_v (v_assign rfl) rfl ?_
      refine WL_v (v_assign rfl) rfl ?_
      refine WL_nil ?_
      refine den_seq ?_
      -- region 6
      refine den_region rfl ?_
      refine WL_v (v_faddr Tryz.underlying30 rfl siz3 rfl) rfl ?_
      refine WL_v (v_load1 one3 rfl (by first | exact Kn.own 0 rfl | exact Kn.own 1 rfl | exact Kn.own 2 rfl | exact Kn.own 3 rfl | exact Kn.own 4 rfl | exact Kn.own 5 rfl | exact Kn.per ‹_›) rfl) rfl ?_
      refine WL_v (v_move rfl) rfl ?_
      refine WL_callq rfl (gmul_fn _ _ _) rfl ?_
      refine WL_v (v_move rfl) rfl ?_
      refine WL_v (v_extract rfl rfl) rfl ?_
      refine WL_v (v_extract rfl rfl) rfl ?_
      refine WL_v (v_assign rfl) rfl ?_
      refine WL_v (v_assign rfl) rfl ?_
      refine WL_nil ?_
      refine den_seq ?_
      -- region 7
      refine den_region rfl ?_
      refine WL_v (v_move rfl) rfl ?_
      refine WL_v (v_move rfl) rfl ?_
      refine WL_v (v_eql rfl rfl) rfl ?_
      refine WL_v (v_assign rfl) rfl ?_
      refine WL_nil ?_
      refine den_ret ?_
      exact ends1 Tryz.results20 rfl (by first | exact Heap.le.refl _ | exact hl38) (by simp) ⟨by first | rw [vrf_no hno] | rw [vrf_yes hyes], rfl⟩

end Go.Proofs.Ch
