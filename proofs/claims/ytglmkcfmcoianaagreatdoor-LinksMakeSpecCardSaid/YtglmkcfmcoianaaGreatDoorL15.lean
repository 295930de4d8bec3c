/- Walks of the program's functions, printed by my own generator (layer L15). -/
import Derived.Test.YtglmkcfmcoianaaGreatDoorL14
namespace Go.Proofs.Ch
open Go Go.Proofs
set_option maxRecDepth 4000
set_option maxHeartbeats 1000000
theorem zer27 : Zer Tryz.prog 27 (.agg ⟨[.int .i64 0, .int .i64 0, .int .i64 0, .int .i64 0, .int .i64 0, .bool false, .int .u8 0, .int .u8 0, .int .u8 0, .int .u8 0, .int .u8 0, .int .u8 0, .int .u8 0, .int .u8 0, .int .u8 0, .int .u8 0, .int .u8 0, .int .u8 0, .int .u8 0, .int .u8 0, .int .u8 0, .int .u8 0, .int .u8 0, .int .u8 0, .int .u8 0, .int .u8 0, .int .u8 0, .int .u8 0, .int .u8 0, .int .u8 0, .int .u8 0, .int .u8 0, .int .u8 0, .int .u8 0, .int .u8 0, .int .u8 0, .int .u8 0, .int .u8 0, .int .i64 0, .int .i64 0]⟩) := by show _ = _; kernel_rfl
theorem plc27 : Plc Tryz.prog (match Tryz.prog.underlying 27 with | some (.struct fs) => fs | _ => #[]) [(0, 1), (1, 1), (2, 1), (3, 1), (4, 1), (5, 1), (6, 32), (38, 2)] := fun _ => by kernel_rfl
theorem zer36 : Zer Tryz.prog 36 (.agg ⟨[.int .u8 0, .int .u8 0, .int .u8 0, .int .u8 0, .int .u8 0, .int .u8 0, .int .u8 0, .int .u8 0, .int .u8 0, .int .u8 0, .int .u8 0, .int .u8 0, .int .u8 0, .int .u8 0, .int .u8 0, .int .u8 0, .int .u8 0, .int .u8 0, .int .u8 0, .int .u8 0, .int .u8 0, .int .u8 0, .int .u8 0, .int .u8 0, .int .u8 0, .int .u8 0, .int .u8 0, .int .u8 0, .int .u8 0, .int .u8 0, .int .u8 0, .int .u8 0, .int .u8 0, .int .u8 0, .int .u8 0, .int .u8 0, .int .u8 0, .int .u8 0, .int .u8 0, .int .u8 0, .int .u8 0, .int .u8 0, .int .u8 0, .int .u8 0, .int .u8 0, .int .u8 0, .int .u8 0, .int .u8 0, .int .u8 0, .int .u8 0, .int .u8 0, .int .u8 0, .int .u8 0, .int .u8 0, .int .u8 0, .int .u8 0, .int .u8 0, .int .u8 0, .int .u8 0, .int .u8 0, .int .u8 0, .int .u8 0, .int .u8 0, .int .u8 0, .int .i64 0, .int .i64 0, .int .i64 0, .int .i64 0]⟩) := by show _ = _; kernel_rfl
theorem plc36 : Plc Tryz.prog (match Tryz.prog.underlying 36 with | some (.struct fs) => fs | _ => #[]) [(0, 32), (32, 32), (64, 1), (65, 1), (66, 2)] := fun _ => by kernel_rfl
theorem siz36 : Siz Tryz.prog 36 68 := by show _ = _; kernel_rfl
theorem many36 : Many Tryz.prog 36 68 := Many.of Tryz.underlying36 rfl siz36
def lkz : Lk := ⟨0, 0, 0, 0, 0, false, dz, 0, 0⟩
noncomputable def mkL (l : Lk) (k : Int) : Lk := if l.formed ∧ isPr k then { l with r := sgR k (lmsg l).toList, s := sgS k (lmsg l).toList } else lkz
noncomputable def mkE (l : Lk) (k : Int) : Int := if l.formed then (if isPr k then 0 else 50) else 400
def faz : Fa := ⟨dz, dz, 0, 0, 0, 0⟩
noncomputable def fa0 (l : Lk) (kc ks : Dig) (by_ sec : Int) : Fa := ⟨lid l, kc, by_, pfN (lnkS ks) sec, 0, 0⟩
def facOk (l : Lk) (by_ key sec : Int) : Prop := (l.formed ∧ -1 ≤ by_ ∧ by_ < 512) ∧ isPr key ∧ isPr sec ∧ gexpV 4 sec = l.p
instance (l : Lk) (by_ key sec : Int) : Decidable (facOk l by_ key sec) := inferInstanceAs (Decidable (_ ∧ _))
noncomputable def facF (l : Lk) (kc ks : Dig) (by_ key sec : Int) : Fa := if facOk l by_ key sec then ⟨lid l, kc, by_, pfN (lnkS ks) sec, sgR key (fmsg (fa0 l kc ks by_ sec)).toList, sgS key (fmsg (fa0 l kc ks by_ sec)).toList⟩ else faz
def facE (l : Lk) (by_ key sec : Int) : Int := if l.formed ∧ -1 ≤ by_ ∧ by_ < 512 then (if isPr key then (if isPr sec then (if gexpV 4 sec = l.p then 0 else 400) else 50) else 50) else 400
theorem mkL_no {l : Lk} {k : Int} (h : ¬ (l.formed ∧ isPr k)) : mkL l k = lkz := if_neg h
theorem mkL_ok {l : Lk} {k : Int} (h1 : l.formed) (h2 : isPr k) : mkL l k = { l with r := sgR k (lmsg l).toList, s := sgS k (lmsg l).toList } := if_pos ⟨h1, h2⟩
theorem mkE1 {l : Lk} {k : Int} (h : ¬ l.formed) : mkE l k = 400 := if_neg h
theorem mkE2 {l : Lk} {k : Int} (h : l.formed) : mkE l k = if isPr k then 0 else 50 := if_pos h
theorem facF_no {l : Lk} {kc ks : Dig} {y key sec : Int} (h : ¬ facOk l y key sec) : facF l kc ks y key sec = faz := if_neg h
theorem facF_ok {l : Lk} {kc ks : Dig} {y key sec : Int} (h : facOk l y key sec) : facF l kc ks y key sec = ⟨lid l, kc, y, pfN (lnkS ks) sec, sgR key (fmsg ⟨lid l, kc, y, pfN (lnkS ks) sec, 0, 0⟩).toList, sgS key (fmsg ⟨lid l, kc, y, pfN (lnkS ks) sec, 0, 0⟩).toList⟩ := if_pos h
theorem facE_a {l : Lk} {y key sec : Int} (h : ¬ (l.formed ∧ -1 ≤ y ∧ y < 512)) : facE l y key sec = 400 := if_neg h
theorem facE_k {l : Lk} {y key sec : Int} (h : l.formed ∧ -1 ≤ y ∧ y < 512) (h1 : ¬ isPr key) : facE l y key sec = 50 := (if_pos h).trans (if_neg h1)
theorem facE_s {l : Lk} {y key sec : Int} (h : l.formed ∧ -1 ≤ y ∧ y < 512) (h1 : isPr key) (h2 : ¬ isPr sec) : facE l y key sec = 50 := ((if_pos h).trans (if_pos h1)).trans (if_neg h2)
theorem facE_p {l : Lk} {y key sec : Int} (h : l.formed ∧ -1 ≤ y ∧ y < 512) (h1 : isPr key) (h2 : isPr sec) (h3 : ¬ gexpV 4 sec = l.p) : facE l y key sec = 400 := (((if_pos h).trans (if_pos h1)).trans (if_pos h2)).trans (if_neg h3)
theorem facE_z {l : Lk} {y key sec : Int} (h : l.formed ∧ -1 ≤ y ∧ y < 512) (h1 : isPr key) (h2 : isPr sec) (h3 : gexpV 4 sec = l.p) : facE l y key sec = 0 := (((if_pos h).trans (if_pos h1)).trans (if_pos h2)).trans (if_pos h3)
theorem pfN_ri (x y : Int) : Ri (pfN x y) := by
  have := fmulV_rng y ((mpow 2305843009213688669 x.toNat 2305843009213688667 : Nat) : Int)
  unfold pfN Ri; omega
theorem make_fn (f b p v x : Int) (re : Bool) (pa : Dig) (k : Int) (h : Heap) (hok : (Lk.mk f b p v x re pa 0 0).ok) (hG : Gl h) : Fn0 Tryz.prog 5 [.int .i64 f, .int .i64 b, .int .i64 p, .int .i64 v, .int .i64 x, .bool re, .agg ⟨dcells pa⟩, .int .i64 k] h (.tuple ⟨[.agg ⟨(mkL (Lk.mk f b p v x re pa 0 0) k).cells⟩, .int .i64 (mkE (Lk.mk f b p v x re pa 0 0) k)]⟩) := by
  refine Tr_of Tryz.func5 rfl rfl Tryz.ntmps5 rfl [(0, .int .i64 f), (1, .int .i64 b), (2, .int .i64 p), (3, .int .i64 v), (4, .int .i64 x), (5, .bool re), (6, .agg ⟨dcells pa⟩), (7, .int .i64 k)] rfl ?_
  intro Lf
  refine den_seq ?_
  -- region 0
  refine den_region rfl ?_
  refine WL_box rfl rfl rfl fun b14 => ?_
  refine WL_alloc zer27 rfl rfl fun b16 => ?_
  refine WL_v (v_assign rfl) rfl ?_
  refine WL_nil ?_
  refine den_seq ?_
  -- region 1
  refine den_region rfl ?_
  refine WL_v (v_move rfl) rfl ?_
  refine WL_v (v_move rfl) rfl ?_
  refine WL_v (v_move rfl) rfl ?_
  refine WL_v (v_move rfl) rfl ?_
  refine WL_v (v_move rfl) rfl ?_
  refine WL_v (v_move rfl) rfl ?_
  refine WL_v (v_loadn many23 rfl (Kn.own 1 rfl) (show cut 0 32 (dcells pa) = some (dcells pa) from rfl)) rfl ?_
  refine WL_v (v_builds (r := (Lk.mk f b p v x re pa 0 0).cells) Tryz.underlying27 zer27 plc27 rfl rfl rfl) rfl ?_
  refine WL_v (v_builds (r := (Lk.mk f b p v x re pa 0 0).cells) Tryz.underlying64 zer64 plc64 rfl rfl rfl) rfl ?_
  refine WL_alloc zer64 rfl rfl fun b18 => ?_
  refine WL_store0 rfl rfl (us := (Lk.mk f b p v x re pa 0 0).cells) rfl siz64 (by exact spl_all (Lk.len40 _)) (Lk.one _) rfl ?_
  refine WL_nil ?_
  refine den_seq ?_
  refine den_seq ?_
  -- region 2
  refine den_region rfl ?_
  refine WL_v (v_loadn many64 rfl (Kn.own 0 rfl) (show cut 0 40 (Lk.mk f b p v x re pa 0 0).cells = some (Lk.mk f b p v x re pa 0 0).cells from Lk.cutS _)) rfl ?_
  refine WL_callq rfl (lvalid_fn _ _) rfl ?_
  first | refine WL_v (v_notd rfl) rfl ?_ | refine WL_v (v_not rfl) rfl ?_
  refine WL_nil ?_
  first | refine den_ifd rfl (fun hfm => ?_) (fun hfm => ?_) | refine den_if rfl (fun hfm => ?_) (fun hfm => ?_)
  · skip
    refine den_seq ?_
    -- region 3
    refine den_region rfl ?_
    refine WL_v (v_loadn many27 rfl (Kn.own 1 rfl) (show cut 0 40 lkz.cells = some lkz.cells from Lk.cutS _)) rfl ?_
    refine WL_store1 rfl rfl (us := lkz.cells) rfl siz27 (by exact spl_all (Lk.len40 _)) (Lk.one _) rfl ?_
    refine WL_v (v_assign rfl) rfl ?_
    refine WL_nil ?_
    refine den_ret ?_
    exact endsr2 Tryz.results5 (rv_n many27 rfl (Kn.own 1 rfl) (show cut 0 40 lkz.cells = some lkz.cells from Lk.cutS _)) (rv_t rfl) (Heap.le.refl _) (.cons _ (.cons _ (.cons _ (List.Sublist.refl _)))) ⟨by rw [mkL_no (fun g => hfm g.1), mkE1 hfm], rfl⟩
  · skip
    have hfm := Decidable.of_not_not hfm
    refine den_skip ?_
    refine den_seq ?_
    -- region 4
    refine den_region rfl ?_
    refine WL_v (v_move rfl) rfl ?_
    refine WL_v (v_loadn many64 rfl (Kn.own 0 rfl) (show cut 0 40 (Lk.mk f b p v x re pa 0 0).cells = some (Lk.mk f b p v x re pa 0 0).cells from Lk.cutS _)) rfl ?_
    refine WL_callp rfl (lmessage_fn (Lk.mk f b p v x re pa 0 0) _ hok hG) rfl fun v36 h36 hl36 hbs => ?_
    refine WL_callq rfl (sign_fn k v36 _ _ hbs (by simp) (hG.le hl36)) rfl ?_
    refine WL_v (v_move rfl) rfl ?_
    refine WL_v (v_extract rfl rfl) rfl ?_
    refine WL_v (v_extract rfl rfl) rfl ?_
    refine WL_alloc zer25 rfl rfl fun b19 => ?_
    refine WL_store0 rfl rfl rfl siz25 rfl rfl rfl ?_
    refine WL_v (v_assign rfl) rfl ?_
    refine WL_nil ?_
    refine den_seq ?_
    refine den_seq ?_
    -- region 5
    refine den_region rfl ?_
    refine WL_v (v_move rfl) rfl ?_
    refine WL_v (v_neq rfl rfl) rfl ?_
    refine WL_nil ?_
    first | refine den_ifd rfl (fun hE => ?_) (fun hE => ?_) | refine den_if rfl (fun hE => ?_) (fun hE => ?_)
    · skip
      have hx : ¬ isPr k := fun g => by rw [if_pos g] at hE; exact hE rfl
      refine den_seq ?_
      -- region 6
      refine den_region rfl ?_
      refine WL_v (v_loadn many27 rfl (Kn.own 2 rfl) (show cut 0 40 lkz.cells = some lkz.cells from Lk.cutS _)) rfl ?_
      refine WL_v (v_move rfl) rfl ?_
      refine WL_store2 rfl rfl (us := lkz.cells) rfl siz27 (by exact spl_all (Lk.len40 _)) (Lk.one _) rfl ?_
      refine WL_v (v_assign rfl) rfl ?_
      refine WL_nil ?_
      refine den_ret ?_
      exact endsr2 Tryz.results5 (rv_n many27 rfl (Kn.own 2 rfl) (show cut 0 40 lkz.cells = some lkz.cells from Lk.cutS _)) (rv_t rfl) hl36 (.cons _ (.cons _ (.cons _ (.cons _ (List.Sublist.refl _))))) ⟨by rw [mkL_no (fun g => hx g.2), mkE2 hfm], rfl⟩
    · skip
      have hx : isPr k := by by_cases g : isPr k; exact g; rw [if_neg g] at hE; omega
      simp only [if_pos hx]
      refine den_skip ?_
      refine den_seq ?_
      -- region 7
      refine den_region rfl ?_
      refine WL_v (v_loadn many25 rfl (by first | exact Kn.own 0 rfl | exact Kn.own 1 rfl | exact Kn.own 2 rfl | exact Kn.own 3 rfl | exact Kn.own 4 rfl | exact Kn.own 5 rfl | exact Kn.per ‹_›) rfl) rfl ?_
      refine WL_v (v_faddr Tryz.underlying64 rfl siz27 rfl) rfl ?_
      refine WL_v (v_faddr Tryz.underlying27 rfl siz25 rfl) rfl ?_
      refine WL_store1 rfl rfl (us := [.int .i64 (sgR k (lmsg (Lk.mk f b p v x re pa 0 0)).toList), .int .i64 (sgS k (lmsg (Lk.mk f b p v x re pa 0 0)).toList)]) rfl siz25 (Lk.spl_sig ..) rfl rfl ?_
      refine WL_nil ?_
      refine den_seq ?_
      -- region 8
      refine den_region rfl ?_
      refine WL_v (v_faddr Tryz.underlying64 rfl siz27 rfl) rfl ?_
      refine WL_v (v_loadn many27 rfl (Kn.own 1 rfl) (show cut 0 40 (Lk.mk f b p v x re pa (sgR k (lmsg (Lk.mk f b p v x re pa 0 0)).toList) (sgS k (lmsg (Lk.mk f b p v x re pa 0 0)).toList)).cells = some (Lk.mk f b p v x re pa (sgR k (lmsg (Lk.mk f b p v x re pa 0 0)).toList) (sgS k (lmsg (Lk.mk f b p v x re pa 0 0)).toList)).cells from Lk.cutS _)) rfl ?_
      refine WL_store2 rfl rfl (us := (Lk.mk f b p v x re pa (sgR k (lmsg (Lk.mk f b p v x re pa 0 0)).toList) (sgS k (lmsg (Lk.mk f b p v x re pa 0 0)).toList)).cells) rfl siz27 (by exact spl_all (Lk.len40 _)) (Lk.one _) rfl ?_
      refine WL_v (v_assign rfl) rfl ?_
      refine WL_nil ?_
      refine den_ret ?_
      exact endsr2 Tryz.results5 (rv_n many27 rfl (Kn.own 2 rfl) (show cut 0 40 (Lk.mk f b p v x re pa (sgR k (lmsg (Lk.mk f b p v x re pa 0 0)).toList) (sgS k (lmsg (Lk.mk f b p v x re pa 0 0)).toList)).cells = some (Lk.mk f b p v x re pa (sgR k (lmsg (Lk.mk f b p v x re pa 0 0)).toList) (sgS k (lmsg (Lk.mk f b p v x re pa 0 0)).toList)).cells from Lk.cutS _)) (rv_t rfl) hl36 (.cons _ (.cons _ (.cons _ (.cons _ (List.Sublist.refl _))))) ⟨by rw [mkL_ok hfm hx, mkE2 hfm, if_pos hx], rfl⟩

theorem rmake_fn (f b p v x : Int) (re : Bool) (pa : Dig) (k : Int) (h : Heap) (hok : (Lk.mk f b p v x re pa 0 0).ok) : Fn0 Tryz.prog 6 [.int .i64 f, .int .i64 b, .int .i64 p, .int .i64 v, .int .i64 x, .bool re, .agg ⟨dcells pa⟩, .int .i64 k] h (.tuple ⟨[.agg ⟨(mkL (Lk.mk f b p v x re pa 0 0) k).cells⟩, .int .i64 (mkE (Lk.mk f b p v x re pa 0 0) k)]⟩) := by
  refine Tr_of Tryz.func6 rfl rfl Tryz.ntmps6 rfl [(0, .int .i64 f), (1, .int .i64 b), (2, .int .i64 p), (3, .int .i64 v), (4, .int .i64 x), (5, .bool re), (6, .agg ⟨dcells pa⟩), (7, .int .i64 k)] rfl ?_
  intro Lf
  refine den_seq ?_
  -- region 0
  refine den_region rfl ?_
  refine WL_box rfl rfl rfl fun b14 => ?_
  refine WL_alloc zer27 rfl rfl fun b16 => ?_
  refine WL_v (v_assign rfl) rfl ?_
  refine WL_nil ?_
  refine den_seq ?_
  -- region 1
  refine den_region rfl ?_
  refine WL_v (v_move rfl) rfl ?_
  refine WL_v (v_move rfl) rfl ?_
  refine WL_v (v_move rfl) rfl ?_
  refine WL_v (v_move rfl) rfl ?_
  refine WL_v (v_move rfl) rfl ?_
  refine WL_v (v_move rfl) rfl ?_
  refine WL_v (v_loadn many23 rfl (Kn.own 1 rfl) (show cut 0 32 (dcells pa) = some (dcells pa) from rfl)) rfl ?_
  refine WL_v (v_builds (r := (Lk.mk f b p v x re pa 0 0).cells) Tryz.underlying27 zer27 plc27 rfl rfl rfl) rfl ?_
  refine WL_alloc zer27 rfl rfl fun b18 => ?_
  refine WL_store0 rfl rfl (us := (Lk.mk f b p v x re pa 0 0).cells) rfl siz27 (by exact spl_all (Lk.len40 _)) (Lk.one _) rfl ?_
  refine WL_nil ?_
  refine den_seq ?_
  refine den_seq ?_
  -- region 2
  refine den_region rfl ?_
  refine WL_v (v_loadn many27 rfl (Kn.own 0 rfl) (show cut 0 40 (Lk.mk f b p v x re pa 0 0).cells = some (Lk.mk f b p v x re pa 0 0).cells from Lk.cutS _)) rfl ?_
  refine WL_callq rfl (rformed40_fn _ _) rfl ?_
  first | refine WL_v (v_notd rfl) rfl ?_ | refine WL_v (v_not rfl) rfl ?_
  refine WL_nil ?_
  first | refine den_ifd rfl (fun hfm => ?_) (fun hfm => ?_) | refine den_if rfl (fun hfm => ?_) (fun hfm => ?_)
  · skip
    refine den_seq ?_
    -- region 3
    refine den_region rfl ?_
    refine WL_v (v_builds (r := lkz.cells) Tryz.underlying27 zer27 plc27 rfl rfl rfl) rfl ?_
    refine WL_store1 rfl rfl (us := lkz.cells) rfl siz27 (by exact spl_all (Lk.len40 _)) (Lk.one _) rfl ?_
    refine WL_v (v_assign rfl) rfl ?_
    refine WL_nil ?_
    refine den_ret ?_
    exact endsr2 Tryz.results6 (rv_n many27 rfl (Kn.own 1 rfl) (show cut 0 40 lkz.cells = some lkz.cells from Lk.cutS _)) (rv_t rfl) (Heap.le.refl _) (.cons _ (.cons _ (.cons _ (List.Sublist.refl _)))) ⟨by rw [mkL_no (fun g => hfm g.1), mkE1 hfm], rfl⟩
  · skip
    have hfm := Decidable.of_not_not hfm
    refine den_skip ?_
    refine den_seq ?_
    -- region 4
    refine den_region rfl ?_
    refine WL_v (v_move rfl) rfl ?_
    refine WL_callq rfl (rpublic_fn _ _) rfl ?_
    refine WL_v (v_move rfl) rfl ?_
    refine WL_v (v_extract rfl rfl) rfl ?_
    refine WL_v (v_extract rfl rfl) rfl ?_
    refine WL_v (v_assign rfl) rfl ?_
    refine WL_v (v_assign rfl) rfl ?_
    refine WL_nil ?_
    refine den_seq ?_
    refine den_seq ?_
    -- region 5
    refine den_region rfl ?_
    refine WL_v (v_move rfl) rfl ?_
    refine WL_v (v_neq rfl rfl) rfl ?_
    refine WL_nil ?_
    first | refine den_ifd rfl (fun hE => ?_) (fun hE => ?_) | refine den_if rfl (fun hE => ?_) (fun hE => ?_)
    · skip
      have hx : ¬ isPr k := fun g => by rw [if_pos g] at hE; exact hE rfl
      refine den_seq ?_
      -- region 6
      refine den_region rfl ?_
      refine WL_v (v_builds (r := lkz.cells) Tryz.underlying27 zer27 plc27 rfl rfl rfl) rfl ?_
      refine WL_v (v_move rfl) rfl ?_
      refine WL_store1 rfl rfl (us := lkz.cells) rfl siz27 (by exact spl_all (Lk.len40 _)) (Lk.one _) rfl ?_
      refine WL_v (v_assign rfl) rfl ?_
      refine WL_nil ?_
      refine den_ret ?_
      exact endsr2 Tryz.results6 (rv_n many27 rfl (Kn.own 1 rfl) (show cut 0 40 lkz.cells = some lkz.cells from Lk.cutS _)) (rv_t rfl) (Heap.le.refl _) (.cons _ (.cons _ (.cons _ (List.Sublist.refl _)))) ⟨by rw [mkL_no (fun g => hx g.2), mkE2 hfm], rfl⟩
    · skip
      have hx : isPr k := by by_cases g : isPr k; exact g; rw [if_neg g] at hE; omega
      refine den_skip ?_
      refine den_seq ?_
      -- region 7
      refine den_region rfl ?_
      refine WL_v (v_move rfl) rfl ?_
      refine WL_v (v_loadn many27 rfl (Kn.own 0 rfl) (show cut 0 40 (Lk.mk f b p v x re pa 0 0).cells = some (Lk.mk f b p v x re pa 0 0).cells from Lk.cutS _)) rfl ?_
      refine WL_callp rfl (rlmessage_fn (Lk.mk f b p v x re pa 0 0) _ hok) rfl fun v45 h45 hl45 hbs => ?_
      refine WL_callq rfl (rsign_fn k v45 _ _ hbs (by simp)) rfl ?_
      simp only [if_pos hx]
      refine WL_v (v_move rfl) rfl ?_
      refine WL_v (v_extract rfl rfl) rfl ?_
      refine WL_v (v_extract rfl rfl) rfl ?_
      refine WL_v (v_faddr Tryz.underlying27 rfl siz25 rfl) rfl ?_
      refine WL_store0 rfl rfl (us := [.int .i64 (sgR k (lmsg (Lk.mk f b p v x re pa 0 0)).toList), .int .i64 (sgS k (lmsg (Lk.mk f b p v x re pa 0 0)).toList)]) rfl siz25 (Lk.spl_sig ..) rfl rfl ?_
      refine WL_nil ?_
      refine den_seq ?_
      -- region 8
      refine den_region rfl ?_
      refine WL_v (v_loadn many27 rfl (Kn.own 0 rfl) (show cut 0 40 (Lk.mk f b p v x re pa (sgR k (lmsg (Lk.mk f b p v x re pa 0 0)).toList) (sgS k (lmsg (Lk.mk f b p v x re pa 0 0)).toList)).cells = some (Lk.mk f b p v x re pa (sgR k (lmsg (Lk.mk f b p v x re pa 0 0)).toList) (sgS k (lmsg (Lk.mk f b p v x re pa 0 0)).toList)).cells from Lk.cutS _)) rfl ?_
      refine WL_store1 rfl rfl (us := (Lk.mk f b p v x re pa (sgR k (lmsg (Lk.mk f b p v x re pa 0 0)).toList) (sgS k (lmsg (Lk.mk f b p v x re pa 0 0)).toList)).cells) rfl siz27 (by exact spl_all (Lk.len40 _)) (Lk.one _) rfl ?_
      refine WL_v (v_assign rfl) rfl ?_
      refine WL_nil ?_
      refine den_ret ?_
      exact endsr2 Tryz.results6 (rv_n many27 rfl (Kn.own 1 rfl) (show cut 0 40 (Lk.mk f b p v x re pa (sgR k (lmsg (Lk.mk f b p v x re pa 0 0)).toList) (sgS k (lmsg (Lk.mk f b p v x re pa 0 0)).toList)).cells = some (Lk.mk f b p v x re pa (sgR k (lmsg (Lk.mk f b p v x re pa 0 0)).toList) (sgS k (lmsg (Lk.mk f b p v x re pa 0 0)).toList)).cells from Lk.cutS _)) (rv_t rfl) hl45 (.cons _ (.cons _ (.cons _ (List.Sublist.refl _)))) ⟨by rw [mkL_ok hfm hx, mkE2 hfm, if_pos hx], rfl⟩

theorem factor_fn (l : Lk) (kc ks : Dig) (y key sec : Int) (h : Heap) (hok : l.ok) (hG : Gl h) : Fn0 Tryz.prog 7 [.agg ⟨l.cells⟩, .agg ⟨dcells kc ++ dcells ks⟩, .int .i64 y, .int .i64 key, .int .i64 sec] h (.tuple ⟨[.agg ⟨(facF l kc ks y key sec).cells⟩, .int .i64 (facE l y key sec)]⟩) := by
  refine Tr_of Tryz.func7 rfl rfl Tryz.ntmps7 rfl [(0, .agg ⟨l.cells⟩), (1, .agg ⟨dcells kc ++ dcells ks⟩), (2, .int .i64 y), (3, .int .i64 key), (4, .int .i64 sec)] rfl ?_
  intro Lf
  refine den_seq ?_
  -- region 0
  refine den_region rfl ?_
  refine WL_box rfl rfl rfl fun b5 => ?_
  refine WL_box rfl rfl rfl fun b6 => ?_
  refine WL_alloc zer36 rfl rfl fun b10 => ?_
  refine WL_v (v_assign rfl) rfl ?_
  refine WL_freeze1 fun h6 hl6 hb6 => ?_
  refine WL_freeze1 fun h5 hl5 hb5 => ?_
  have hb6 := hl5 _ _ hb6
  have hle5 := hl6.trans hl5
  refine WL_nil ?_
  refine den_seq ?_
  refine den_seq ?_
  -- region 1
  refine den_region rfl ?_
  refine WL_v (v_loadn many27 rfl (Kn.per hb5) (show cut 0 40 l.cells = some l.cells from Lk.cutS _)) rfl ?_
  refine WL_v (v_builds (r := l.cells) Tryz.underlying64 zer64 plc64 rfl rfl rfl) rfl ?_
  refine WL_callq rfl (lvalid_fn _ _) rfl ?_
  first | refine WL_v (v_notd rfl) rfl ?_ | refine WL_v (v_not rfl) rfl ?_
  refine WL_v (v_move rfl) rfl ?_
  first | refine WL_split (t := 20) rfl ?_ ?_
  · intro c1; try have c1 := of_decide_eq_true c1
    refine WL_skip (j := 4) (t := 20) (b := true) rfl rfl rfl rfl ?_
    refine WL_skip (j := 4) (t := 20) (b := true) rfl rfl rfl rfl ?_
    refine WL_v (v_pickt rfl rfl) rfl ?_
    refine WL_v (v_move rfl) rfl ?_
    refine WL_skip (j := 8) (t := 24) (b := true) rfl rfl rfl rfl ?_
    refine WL_skip (j := 8) (t := 24) (b := true) rfl rfl rfl rfl ?_
    refine WL_v (v_pickt rfl rfl) rfl ?_
    refine WL_nil ?_
    refine den_true rfl ?_
    refine den_seq ?_
    -- region 2
    refine den_region rfl ?_
    refine WL_v (v_loadn many36 rfl (Kn.own 0 rfl) (show cut 0 68 faz.cells = some faz.cells from Fa.cutS _)) rfl ?_
    refine WL_store0 rfl rfl (us := faz.cells) rfl siz36 (by exact spl_all (Fa.len68 _)) (Fa.one _) rfl ?_
    refine WL_v (v_assign rfl) rfl ?_
    refine WL_nil ?_
    refine den_ret ?_
    exact endsr2 Tryz.results7 (rv_n many36 rfl (Kn.own 0 rfl) (show cut 0 68 faz.cells = some faz.cells from Fa.cutS _)) (rv_t rfl) hle5 (.cons _ (List.Sublist.refl _)) ⟨by rw [facF_no (fun g => by obtain ⟨⟨q1, q2, q3⟩, _⟩ := g; first | omega | exact absurd q1 (by assumption)), facE_a (fun g => by obtain ⟨q1, q2, q3⟩ := g; first | omega | exact absurd q1 (by assumption))], rfl⟩
  · intro c2; try have c2 := of_decide_eq_false c2
    refine WL_vg rfl rfl (v_move rfl) rfl ?_
    refine WL_vg rfl rfl (v_lss rfl rfl) rfl ?_
    refine WL_v (v_pickf rfl rfl) rfl ?_
    refine WL_v (v_move rfl) rfl ?_
    first | refine WL_split (t := 24) rfl ?_ ?_
    · intro c3; try have c3 := of_decide_eq_true c3
      refine WL_skip (j := 8) (t := 24) (b := true) rfl rfl rfl rfl ?_
      refine WL_skip (j := 8) (t := 24) (b := true) rfl rfl rfl rfl ?_
      refine WL_v (v_pickt rfl rfl) rfl ?_
      refine WL_nil ?_
      refine den_true rfl ?_
      refine den_seq ?_
      -- region 2
      refine den_region rfl ?_
      refine WL_v (v_loadn many36 rfl (Kn.own 0 rfl) (show cut 0 68 faz.cells = some faz.cells from Fa.cutS _)) rfl ?_
      refine WL_store0 rfl rfl (us := faz.cells) rfl siz36 (by exact spl_all (Fa.len68 _)) (Fa.one _) rfl ?_
      refine WL_v (v_assign rfl) rfl ?_
      refine WL_nil ?_
      refine den_ret ?_
      exact endsr2 Tryz.results7 (rv_n many36 rfl (Kn.own 0 rfl) (show cut 0 68 faz.cells = some faz.cells from Fa.cutS _)) (rv_t rfl) hle5 (.cons _ (List.Sublist.refl _)) ⟨by rw [facF_no (fun g => by obtain ⟨⟨q1, q2, q3⟩, _⟩ := g; first | omega | exact absurd q1 (by assumption)), facE_a (fun g => by obtain ⟨q1, q2, q3⟩ := g; first | omega | exact absurd q1 (by assumption))], rfl⟩
    · intro c4; try have c4 := of_decide_eq_false c4
      refine WL_vg rfl rfl (v_move rfl) rfl ?_
      refine WL_vg rfl rfl (v_geq rfl rfl) rfl ?_
      refine WL_v (v_pickf rfl rfl) rfl ?_
      refine WL_nil ?_
      first | refine den_ifd rfl (fun hby => ?_) (fun hby => ?_) | refine den_if rfl (fun hby => ?_) (fun hby => ?_)
      · skip
        refine den_seq ?_
        -- region 2
        refine den_region rfl ?_
        refine WL_v (v_loadn many36 rfl (Kn.own 0 rfl) (show cut 0 68 faz.cells = some faz.cells from Fa.cutS _)) rfl ?_
        refine WL_store0 rfl rfl (us := faz.cells) rfl siz36 (by exact spl_all (Fa.len68 _)) (Fa.one _) rfl ?_
        refine WL_v (v_assign rfl) rfl ?_
        refine WL_nil ?_
        refine den_ret ?_
        exact endsr2 Tryz.results7 (rv_n many36 rfl (Kn.own 0 rfl) (show cut 0 68 faz.cells = some faz.cells from Fa.cutS _)) (rv_t rfl) hle5 (.cons _ (List.Sublist.refl _)) ⟨by rw [facF_no (fun g => by obtain ⟨⟨q1, q2, q3⟩, _⟩ := g; first | omega | exact absurd q1 (by assumption)), facE_a (fun g => by obtain ⟨q1, q2, q3⟩ := g; first | omega | exact absurd q1 (by assumption))], rfl⟩
      · skip
        have hfm : l.formed := Decidable.of_not_not (by assumption)
        have hfb : l.formed ∧ -1 ≤ y ∧ y < 512 := ⟨hfm, by omega, by omega⟩
        refine den_skip ?_
        refine den_seq ?_
        refine den_seq ?_
        -- region 3
        refine den_region rfl ?_
        refine WL_v (v_move rfl) rfl ?_
        refine WL_callq rfl (public_fn _ _) rfl ?_
        refine WL_v (v_move rfl) rfl ?_
        refine WL_v (v_extract rfl rfl) rfl ?_
        refine WL_v (v_extract rfl rfl) rfl ?_
        refine WL_v (v_assign rfl) rfl ?_
        refine WL_v (v_assign rfl) rfl ?_
        refine WL_nil ?_
        refine den_seq ?_
        -- region 4
        refine den_region rfl ?_
        refine WL_v (v_move rfl) rfl ?_
        refine WL_v (v_neq rfl rfl) rfl ?_
        refine WL_nil ?_
        first | refine den_ifd rfl (fun hE1 => ?_) (fun hE1 => ?_) | refine den_if rfl (fun hE1 => ?_) (fun hE1 => ?_)
        · skip
          have hx1 : ¬ isPr key := fun g => by rw [if_pos g] at hE1; exact hE1 rfl
          refine den_seq ?_
          -- region 5
          refine den_region rfl ?_
          refine WL_v (v_loadn many36 rfl (Kn.own 0 rfl) (show cut 0 68 faz.cells = some faz.cells from Fa.cutS _)) rfl ?_
          refine WL_v (v_move rfl) rfl ?_
          refine WL_store0 rfl rfl (us := faz.cells) rfl siz36 (by exact spl_all (Fa.len68 _)) (Fa.one _) rfl ?_
          refine WL_v (v_assign rfl) rfl ?_
          refine WL_nil ?_
          refine den_ret ?_
          exact endsr2 Tryz.results7 (rv_n many36 rfl (Kn.own 0 rfl) (show cut 0 68 faz.cells = some faz.cells from Fa.cutS _)) (rv_t rfl) hle5 (.cons _ (List.Sublist.refl _)) ⟨by rw [facF_no (fun g => hx1 g.2.1), facE_k hfb hx1, if_neg hx1], rfl⟩
        · skip
          have hx1 : isPr key := by by_cases g : isPr key; exact g; rw [if_neg g] at hE1; omega
          simp only [if_pos hx1]
          refine den_skip ?_
          refine den_seq ?_
          -- region 6
          refine den_region rfl ?_
          refine WL_v (v_move rfl) rfl ?_
          refine WL_callq rfl (public_fn _ _) rfl ?_
          refine WL_v (v_move rfl) rfl ?_
          refine WL_v (v_extract rfl rfl) rfl ?_
          refine WL_v (v_extract rfl rfl) rfl ?_
          refine WL_v (v_assign rfl) rfl ?_
          refine WL_v (v_assign rfl) rfl ?_
          refine WL_nil ?_
          refine den_seq ?_
          refine den_seq ?_
          -- region 7
          refine den_region rfl ?_
          refine WL_v (v_move rfl) rfl ?_
          refine WL_v (v_neq rfl rfl) rfl ?_
          refine WL_nil ?_
          first | refine den_ifd rfl (fun hE2 => ?_) (fun hE2 => ?_) | refine den_if rfl (fun hE2 => ?_) (fun hE2 => ?_)
          · skip
            have hx2 : ¬ isPr sec := fun g => by rw [if_pos g] at hE2; exact hE2 rfl
            refine den_seq ?_
            -- region 8
            refine den_region rfl ?_
            refine WL_v (v_loadn many36 rfl (Kn.own 0 rfl) (show cut 0 68 faz.cells = some faz.cells from Fa.cutS _)) rfl ?_
            refine WL_v (v_move rfl) rfl ?_
            refine WL_store0 rfl rfl (us := faz.cells) rfl siz36 (by exact spl_all (Fa.len68 _)) (Fa.one _) rfl ?_
            refine WL_v (v_assign rfl) rfl ?_
            refine WL_nil ?_
            refine den_ret ?_
            exact endsr2 Tryz.results7 (rv_n many36 rfl (Kn.own 0 rfl) (show cut 0 68 faz.cells = some faz.cells from Fa.cutS _)) (rv_t rfl) hle5 (.cons _ (List.Sublist.refl _)) ⟨by rw [facF_no (fun g => hx2 g.2.2.1), facE_s hfb hx1 hx2, if_neg hx2], rfl⟩
          · skip
            have hx2 : isPr sec := by by_cases g : isPr sec; exact g; rw [if_neg g] at hE2; omega
            simp only [if_pos hx2]
            refine den_skip ?_
            refine den_seq ?_
            refine den_seq ?_
            -- region 9
            refine den_region rfl ?_
            refine WL_v (v_move rfl) rfl ?_
            refine WL_v (v_faddr Tryz.underlying27 rfl siz3 rfl) rfl ?_
            refine WL_v (v_load1 one3 rfl (by first | exact Kn.own 0 rfl | exact Kn.own 1 rfl | exact Kn.own 2 rfl | exact Kn.own 3 rfl | exact Kn.own 4 rfl | exact Kn.own 5 rfl | exact Kn.per ‹_›) rfl) rfl ?_
            refine WL_v (v_neq rfl rfl) rfl ?_
            refine WL_nil ?_
            first | refine den_ifd rfl (fun hp => ?_) (fun hp => ?_) | refine den_if rfl (fun hp => ?_) (fun hp => ?_)
            · skip
              refine den_seq ?_
              -- region 10
              refine den_region rfl ?_
              refine WL_v (v_loadn many36 rfl (Kn.own 0 rfl) (show cut 0 68 faz.cells = some faz.cells from Fa.cutS _)) rfl ?_
              refine WL_store0 rfl rfl (us := faz.cells) rfl siz36 (by exact spl_all (Fa.len68 _)) (Fa.one _) rfl ?_
              refine WL_v (v_assign rfl) rfl ?_
              refine WL_nil ?_
              refine den_ret ?_
              exact endsr2 Tryz.results7 (rv_n many36 rfl (Kn.own 0 rfl) (show cut 0 68 faz.cells = some faz.cells from Fa.cutS _)) (rv_t rfl) hle5 (.cons _ (List.Sublist.refl _)) ⟨by rw [facF_no (fun g => hp g.2.2.2), facE_p hfb hx1 hx2 hp], rfl⟩
            · skip
              have hp := Decidable.of_not_not hp
              refine den_skip ?_
              refine den_seq ?_
              -- region 11
              refine den_draw [7] (by kernel_rfl) (by kernel_rfl) (NoP.fn) (rem := [0, 1, 2, 3, 4, 5, 6, 7]) (by kernel_rfl) ?_
              refine QS_v (i := 0) rfl (v_loadn many27 rfl (Kn.per hb5) (show cut 0 40 l.cells = some l.cells from Lk.cutS _)) (by kernel_rfl) (by kernel_rfl) (by kernel_rfl) (rem' := [1, 2, 3, 4, 5, 6, 7]) (by kernel_rfl) rfl ?_
              refine QS_v (i := 2) rfl (v_faddr Tryz.underlying30 rfl siz23 rfl) (by kernel_rfl) (by kernel_rfl) (by kernel_rfl) (rem' := [1, 3, 4, 5, 6, 7]) (by kernel_rfl) rfl ?_
              refine QS_v (i := 3) rfl (v_loadn many23 rfl (Kn.per hb6) (show cut 0 32 (dcells kc ++ dcells ks) = some (dcells kc) from rfl)) (by kernel_rfl) (by kernel_rfl) (by kernel_rfl) (rem' := [1, 4, 5, 6, 7]) (by kernel_rfl) rfl ?_
              refine QS_v (i := 4) rfl (v_move rfl) (by kernel_rfl) (by kernel_rfl) (by kernel_rfl) (rem' := [1, 5, 6, 7]) (by kernel_rfl) rfl ?_
              refine QS_step (is := [1, 6]) rfl (by kernel_rfl) ?_
              refine qall2 ?_ ?_
              · skip
                refine qs_callq rfl rfl (ID_fn _ _ hok (hG.le hle5)) rfl (rem' := [5, 6, 7]) (by kernel_rfl) ?_
                refine QS_v (i := 5) rfl (v_builds (r := (Fa.mk (lid l) kc y 0 0 0).cells) Tryz.underlying36 zer36 plc36 rfl rfl rfl) (by kernel_rfl) (by kernel_rfl) (by kernel_rfl) (rem' := [6, 7]) (by kernel_rfl) rfl ?_
                refine QS_step (is := [6]) rfl (by kernel_rfl) ?_
                refine qall1 ?_
                refine qs_new (g := fun b => .pointer (some ⟨b, 0, none⟩)) rfl (o_alloc zer36 rfl) rfl (rem' := [7]) (by kernel_rfl) fun b15 => ?_
                refine QS_step (is := [7]) rfl (by kernel_rfl) ?_
                refine qall1 ?_
                refine qs_store (A := []) rfl rfl rfl rfl siz36 (by exact spl_all (Fa.len68 _)) (Fa.one _) rfl rfl (rem' := []) (by kernel_rfl) rfl rfl ?_
                refine QS_nil ?_
                refine den_seq ?_
                refine den_seq ?_
                -- region 12
                refine den_region rfl ?_
                refine WL_v (v_faddr Tryz.underlying30 rfl siz28 rfl) rfl ?_
                refine WL_v (v_loadn many28 rfl (Kn.per hb6) (show cut 32 32 (dcells kc ++ dcells ks) = some (dcells ks) from rfl)) rfl ?_
                refine WL_callq rfl (slink_fn _ _ (hG.le hle5)) rfl ?_
                refine WL_v (v_move rfl) rfl ?_
                refine WL_callq rfl (pfac_fn _ _ _ (lnkS_pr _) hx2) rfl ?_
                refine WL_v (v_move rfl) rfl ?_
                refine WL_v (v_extract rfl rfl) rfl ?_
                refine WL_v (v_extract rfl rfl) rfl ?_
                refine WL_v (v_faddr Tryz.underlying36 rfl siz3 rfl) rfl ?_
                refine WL_store0 rfl rfl (us := [.int .i64 (pfN (lnkS ks) sec)]) rfl siz3 (Fa.spl_n ..) rfl rfl ?_
                refine WL_v (v_assign rfl) rfl ?_
                refine WL_nil ?_
                refine den_seq ?_
                -- region 13
                refine den_region rfl ?_
                refine WL_v (v_move rfl) rfl ?_
                refine WL_v (OpV.to (v' := .bool false) (v_neq rfl rfl) (by first | rfl | simp)) rfl ?_
                refine WL_nil ?_
                refine den_false rfl ?_
                refine den_skip ?_
                refine den_seq ?_
                refine den_seq ?_
                -- region 15
                refine den_region rfl ?_
                refine WL_v (v_move rfl) rfl ?_
                refine WL_v (v_loadn many36 rfl (Kn.own 0 rfl) (show cut 0 68 (Fa.mk (lid l) kc y (pfN (lnkS ks) sec) 0 0).cells = some (Fa.mk (lid l) kc y (pfN (lnkS ks) sec) 0 0).cells from Fa.cutS _)) rfl ?_
                refine WL_callp rfl (fmessage_fn (Fa.mk (lid l) kc y (pfN (lnkS ks) sec) 0 0) _ (show Ri y from ⟨by omega, by omega⟩) (pfN_ri _ _) (hG.le hle5)) rfl fun v74 h74 hl74 hbs => ?_
                refine WL_callq rfl (sign_fn key v74 _ _ hbs (by simp) (hG.le (hle5.trans hl74))) rfl ?_
                simp only [if_pos hx1]
                refine WL_v (v_move rfl) rfl ?_
                refine WL_v (v_extract rfl rfl) rfl ?_
                refine WL_v (v_extract rfl rfl) rfl ?_
                refine WL_v (v_faddr Tryz.underlying36 rfl siz25 rfl) rfl ?_
                refine WL_store0 rfl rfl (us := [.int .i64 (sgR key (fmsg (Fa.mk (lid l) kc y (pfN (lnkS ks) sec) 0 0)).toList), .int .i64 (sgS key (fmsg (Fa.mk (lid l) kc y (pfN (lnkS ks) sec) 0 0)).toList)]) rfl siz25 (Fa.spl_sig ..) rfl rfl ?_
                refine WL_v (v_assign rfl) rfl ?_
                refine WL_nil ?_
                refine den_seq ?_
                -- region 16
                refine den_region rfl ?_
                refine WL_v (v_move rfl) rfl ?_
                refine WL_v (OpV.to (v' := .bool false) (v_neq rfl rfl) (by first | rfl | simp)) rfl ?_
                refine WL_nil ?_
                refine den_false rfl ?_
                refine den_skip ?_
                refine den_seq ?_
                -- region 18
                refine den_region rfl ?_
                refine WL_v (v_loadn many36 rfl (Kn.own 0 rfl) (show cut 0 68 (Fa.mk (lid l) kc y (pfN (lnkS ks) sec) (sgR key (fmsg (Fa.mk (lid l) kc y (pfN (lnkS ks) sec) 0 0)).toList) (sgS key (fmsg (Fa.mk (lid l) kc y (pfN (lnkS ks) sec) 0 0)).toList)).cells = some (Fa.mk (lid l) kc y (pfN (lnkS ks) sec) (sgR key (fmsg (Fa.mk (lid l) kc y (pfN (lnkS ks) sec) 0 0)).toList) (sgS key (fmsg (Fa.mk (lid l) kc y (pfN (lnkS ks) sec) 0 0)).toList)).cells from Fa.cutS _)) rfl ?_
                refine WL_store1 rfl rfl (us := (Fa.mk (lid l) kc y (pfN (lnkS ks) sec) (sgR key (fmsg (Fa.mk (lid l) kc y (pfN (lnkS ks) sec) 0 0)).toList) (sgS key (fmsg (Fa.mk (lid l) kc y (pfN (lnkS ks) sec) 0 0)).toList)).cells) rfl siz36 (by exact spl_all (Fa.len68 _)) (Fa.one _) rfl ?_
                refine WL_v (v_assign rfl) rfl ?_
                refine WL_nil ?_
                refine den_ret ?_
                exact endsr2 Tryz.results7 (rv_n many36 rfl (Kn.own 1 rfl) (show cut 0 68 (Fa.mk (lid l) kc y (pfN (lnkS ks) sec) (sgR key (fmsg (Fa.mk (lid l) kc y (pfN (lnkS ks) sec) 0 0)).toList) (sgS key (fmsg (Fa.mk (lid l) kc y (pfN (lnkS ks) sec) 0 0)).toList)).cells = some (Fa.mk (lid l) kc y (pfN (lnkS ks) sec) (sgR key (fmsg (Fa.mk (lid l) kc y (pfN (lnkS ks) sec) 0 0)).toList) (sgS key (fmsg (Fa.mk (lid l) kc y (pfN (lnkS ks) sec) 0 0)).toList)).cells from Fa.cutS _)) (rv_t rfl) (hle5.trans hl74) (.cons _ (.cons _ (List.Sublist.refl _))) ⟨by rw [facF_ok ⟨hfb, hx1, hx2, hp⟩, facE_z hfb hx1 hx2 hp], rfl⟩
              · skip
                refine qs_new (g := fun b => .pointer (some ⟨b, 0, none⟩)) rfl (o_alloc zer36 rfl) rfl (rem' := [1, 5, 7]) (by kernel_rfl) fun b15 => ?_
                refine QS_step (is := [1]) rfl (by kernel_rfl) ?_
                refine qall1 ?_
                refine qs_callq rfl rfl (ID_fn _ _ hok (hG.le hle5)) rfl (rem' := [5, 7]) (by kernel_rfl) ?_
                refine QS_v (i := 5) rfl (v_builds (r := (Fa.mk (lid l) kc y 0 0 0).cells) Tryz.underlying36 zer36 plc36 rfl rfl rfl) (by kernel_rfl) (by kernel_rfl) (by kernel_rfl) (rem' := [7]) (by kernel_rfl) rfl ?_
                refine QS_step (is := [7]) rfl (by kernel_rfl) ?_
                refine qall1 ?_
                refine qs_store (A := []) rfl rfl rfl rfl siz36 (by exact spl_all (Fa.len68 _)) (Fa.one _) rfl rfl (rem' := []) (by kernel_rfl) rfl rfl ?_
                refine QS_nil ?_
                refine den_seq ?_
                refine den_seq ?_
                -- region 12
                refine den_region rfl ?_
                refine WL_v (v_faddr Tryz.underlying30 rfl siz28 rfl) rfl ?_
                refine WL_v (v_loadn many28 rfl (Kn.per hb6) (show cut 32 32 (dcells kc ++ dcells ks) = some (dcells ks) from rfl)) rfl ?_
                refine WL_callq rfl (slink_fn _ _ (hG.le hle5)) rfl ?_
                refine WL_v (v_move rfl) rfl ?_
                refine WL_callq rfl (pfac_fn _ _ _ (lnkS_pr _) hx2) rfl ?_
                refine WL_v (v_move rfl) rfl ?_
                refine WL_v (v_extract rfl rfl) rfl ?_
                refine WL_v (v_extract rfl rfl) rfl ?_
                refine WL_v (v_faddr Tryz.underlying36 rfl siz3 rfl) rfl ?_
                refine WL_store0 rfl rfl (us := [.int .i64 (pfN (lnkS ks) sec)]) rfl siz3 (Fa.spl_n ..) rfl rfl ?_
                refine WL_v (v_assign rfl) rfl ?_
                refine WL_nil ?_
                refine den_seq ?_
                -- region 13
                refine den_region rfl ?_
                refine WL_v (v_move rfl) rfl ?_
                refine WL_v (OpV.to (v' := .bool false) (v_neq rfl rfl) (by first | rfl | simp)) rfl ?_
                refine WL_nil ?_
                refine den_false rfl ?_
                refine den_skip ?_
                refine den_seq ?_
                refine den_seq ?_
                -- region 15
                refine den_region rfl ?_
                refine WL_v (v_move rfl) rfl ?_
                refine WL_v (v_loadn many36 rfl (Kn.own 0 rfl) (show cut 0 68 (Fa.mk (lid l) kc y (pfN (lnkS ks) sec) 0 0).cells = some (Fa.mk (lid l) kc y (pfN (lnkS ks) sec) 0 0).cells from Fa.cutS _)) rfl ?_
                refine WL_callp rfl (fmessage_fn (Fa.mk (lid l) kc y (pfN (lnkS ks) sec) 0 0) _ (show Ri y from ⟨by omega, by omega⟩) (pfN_ri _ _) (hG.le hle5)) rfl fun v74 h74 hl74 hbs => ?_
                refine WL_callq rfl (sign_fn key v74 _ _ hbs (by simp) (hG.le (hle5.trans hl74))) rfl ?_
                simp only [if_pos hx1]
                refine WL_v (v_move rfl) rfl ?_
                refine WL_v (v_extract rfl rfl) rfl ?_
                refine WL_v (v_extract rfl rfl) rfl ?_
                refine WL_v (v_faddr Tryz.underlying36 rfl siz25 rfl) rfl ?_
                refine WL_store0 rfl rfl (us := [.int .i64 (sgR key (fmsg (Fa.mk (lid l) kc y (pfN (lnkS ks) sec) 0 0)).toList), .int .i64 (sgS key (fmsg (Fa.mk (lid l) kc y (pfN (lnkS ks) sec) 0 0)).toList)]) rfl siz25 (Fa.spl_sig ..) rfl rfl ?_
                refine WL_v (v_assign rfl) rfl ?_
                refine WL_nil ?_
                refine den_seq ?_
                -- region 16
                refine den_region rfl ?_
                refine WL_v (v_move rfl) rfl ?_
                refine WL_v (OpV.to (v' := .bool false) (v_neq rfl rfl) (by first | rfl | simp)) rfl ?_
                refine WL_nil ?_
                refine den_false rfl ?_
                refine den_skip ?_
                refine den_seq ?_
                -- region 18
                refine den_region rfl ?_
                refine WL_v (v_loadn many36 rfl (Kn.own 0 rfl) (show cut 0 68 (Fa.mk (lid l) kc y (pfN (lnkS ks) sec) (sgR key (fmsg (Fa.mk (lid l) kc y (pfN (lnkS ks) sec) 0 0)).toList) (sgS key (fmsg (Fa.mk (lid l) kc y (pfN (lnkS ks) sec) 0 0)).toList)).cells = some (Fa.mk (lid l) kc y (pfN (lnkS ks) sec) (sgR key (fmsg (Fa.mk (lid l) kc y (pfN (lnkS ks) sec) 0 0)).toList) (sgS key (fmsg (Fa.mk (lid l) kc y (pfN (lnkS ks) sec) 0 0)).toList)).cells from Fa.cutS _)) rfl ?_
                refine WL_store1 rfl rfl (us := (Fa.mk (lid l) kc y (pfN (lnkS ks) sec) (sgR key (fmsg (Fa.mk (lid l) kc y (pfN (lnkS ks) sec) 0 0)).toList) (sgS key (fmsg (Fa.mk (lid l) kc y (pfN (lnkS ks) sec) 0 0)).toList)).cells) rfl siz36 (by exact spl_all (Fa.len68 _)) (Fa.one _) rfl ?_
                refine WL_v (v_assign rfl) rfl ?_
                refine WL_nil ?_
                refine den_ret ?_
                exact endsr2 Tryz.results7 (rv_n many36 rfl (Kn.own 1 rfl) (show cut 0 68 (Fa.mk (lid l) kc y (pfN (lnkS ks) sec) (sgR key (fmsg (Fa.mk (lid l) kc y (pfN (lnkS ks) sec) 0 0)).toList) (sgS key (fmsg (Fa.mk (lid l) kc y (pfN (lnkS ks) sec) 0 0)).toList)).cells = some (Fa.mk (lid l) kc y (pfN (lnkS ks) sec) (sgR key (fmsg (Fa.mk (lid l) kc y (pfN (lnkS ks) sec) 0 0)).toList) (sgS key (fmsg (Fa.mk (lid l) kc y (pfN (lnkS ks) sec) 0 0)).toList)).cells from Fa.cutS _)) (rv_t rfl) (hle5.trans hl74) (.cons _ (.cons _ (List.Sublist.refl _))) ⟨by rw [facF_ok ⟨hfb, hx1, hx2, hp⟩, facE_z hfb hx1 hx2 hp], rfl⟩

theorem rfactor_fn (l : Lk) (kc ks : Dig) (y key sec : Int) (h : Heap) (hok : l.ok) : Fn0 Tryz.prog 8 [.agg ⟨l.cells⟩, .agg ⟨dcells kc ++ dcells ks⟩, .int .i64 y, .int .i64 key, .int .i64 sec] h (.tuple ⟨[.agg ⟨(facF l kc ks y key sec).cells⟩, .int .i64 (facE l y key sec)]⟩) := by
  refine Tr_of Tryz.func8 rfl rfl Tryz.ntmps8 rfl [(0, .agg ⟨l.cells⟩), (1, .agg ⟨dcells kc ++ dcells ks⟩), (2, .int .i64 y), (3, .int .i64 key), (4, .int .i64 sec)] rfl ?_
  intro Lf
  refine den_seq ?_
  -- region 0
  refine den_region rfl ?_
  refine WL_box rfl rfl rfl fun b5 => ?_
  refine WL_box rfl rfl rfl fun b6 => ?_
  refine WL_alloc zer36 rfl rfl fun b10 => ?_
  refine WL_v (v_assign rfl) rfl ?_
  refine WL_freeze1 fun h6 hl6 hb6 => ?_
  refine WL_freeze1 fun h5 hl5 hb5 => ?_
  have hb6 := hl5 _ _ hb6
  have hle5 := hl6.trans hl5
  refine WL_nil ?_
  refine den_seq ?_
  refine den_seq ?_
  -- region 1
  refine den_region rfl ?_
  refine WL_v (v_loadn many27 rfl (Kn.per hb5) (show cut 0 40 l.cells = some l.cells from Lk.cutS _)) rfl ?_
  refine WL_callq rfl (rformed40_fn _ _) rfl ?_
  first | refine WL_v (v_notd rfl) rfl ?_ | refine WL_v (v_not rfl) rfl ?_
  refine WL_v (v_move rfl) rfl ?_
  first | refine WL_split (t := 19) rfl ?_ ?_
  · intro c1; try have c1 := of_decide_eq_true c1
    refine WL_skip (j := 3) (t := 19) (b := true) rfl rfl rfl rfl ?_
    refine WL_skip (j := 3) (t := 19) (b := true) rfl rfl rfl rfl ?_
    refine WL_v (v_pickt rfl rfl) rfl ?_
    refine WL_v (v_move rfl) rfl ?_
    refine WL_skip (j := 7) (t := 23) (b := true) rfl rfl rfl rfl ?_
    refine WL_skip (j := 7) (t := 23) (b := true) rfl rfl rfl rfl ?_
    refine WL_v (v_pickt rfl rfl) rfl ?_
    refine WL_nil ?_
    refine den_true rfl ?_
    refine den_seq ?_
    -- region 2
    refine den_region rfl ?_
    refine WL_v (v_builds (r := faz.cells) Tryz.underlying36 zer36 plc36 rfl rfl rfl) rfl ?_
    refine WL_store0 rfl rfl (us := faz.cells) rfl siz36 (by exact spl_all (Fa.len68 _)) (Fa.one _) rfl ?_
    refine WL_v (v_assign rfl) rfl ?_
    refine WL_nil ?_
    refine den_ret ?_
    exact endsr2 Tryz.results8 (rv_n many36 rfl (Kn.own 0 rfl) (show cut 0 68 faz.cells = some faz.cells from Fa.cutS _)) (rv_t rfl) hle5 (.cons _ (List.Sublist.refl _)) ⟨by rw [facF_no (fun g => by obtain ⟨⟨q1, q2, q3⟩, _⟩ := g; first | omega | exact absurd q1 (by assumption)), facE_a (fun g => by obtain ⟨q1, q2, q3⟩ := g; first | omega | exact absurd q1 (by assumption))], rfl⟩
  · intro c2; try have c2 := of_decide_eq_false c2
    refine WL_vg rfl rfl (v_move rfl) rfl ?_
    refine WL_vg rfl rfl (v_lss rfl rfl) rfl ?_
    refine WL_v (v_pickf rfl rfl) rfl ?_
    refine WL_v (v_move rfl) rfl ?_
    first | refine WL_split (t := 23) rfl ?_ ?_
    · intro c3; try have c3 := of_decide_eq_true c3
      refine WL_skip (j := 7) (t := 23) (b := true) rfl rfl rfl rfl ?_
      refine WL_skip (j := 7) (t := 23) (b := true) rfl rfl rfl rfl ?_
      refine WL_v (v_pickt rfl rfl) rfl ?_
      refine WL_nil ?_
      refine den_true rfl ?_
      refine den_seq ?_
      -- region 2
      refine den_region rfl ?_
      refine WL_v (v_builds (r := faz.cells) Tryz.underlying36 zer36 plc36 rfl rfl rfl) rfl ?_
      refine WL_store0 rfl rfl (us := faz.cells) rfl siz36 (by exact spl_all (Fa.len68 _)) (Fa.one _) rfl ?_
      refine WL_v (v_assign rfl) rfl ?_
      refine WL_nil ?_
      refine den_ret ?_
      exact endsr2 Tryz.results8 (rv_n many36 rfl (Kn.own 0 rfl) (show cut 0 68 faz.cells = some faz.cells from Fa.cutS _)) (rv_t rfl) hle5 (.cons _ (List.Sublist.refl _)) ⟨by rw [facF_no (fun g => by obtain ⟨⟨q1, q2, q3⟩, _⟩ := g; first | omega | exact absurd q1 (by assumption)), facE_a (fun g => by obtain ⟨q1, q2, q3⟩ := g; first | omega | exact absurd q1 (by assumption))], rfl⟩
    · intro c4; try have c4 := of_decide_eq_false c4
      refine WL_vg rfl rfl (v_move rfl) rfl ?_
      refine WL_vg rfl rfl (v_geq rfl rfl) rfl ?_
      refine WL_v (v_pickf rfl rfl) rfl ?_
      refine WL_nil ?_
      first | refine den_ifd rfl (fun hby => ?_) (fun hby => ?_) | refine den_if rfl (fun hby => ?_) (fun hby => ?_)
      · skip
        refine den_seq ?_
        -- region 2
        refine den_region rfl ?_
        refine WL_v (v_builds (r := faz.cells) Tryz.underlying36 zer36 plc36 rfl rfl rfl) rfl ?_
        refine WL_store0 rfl rfl (us := faz.cells) rfl siz36 (by exact spl_all (Fa.len68 _)) (Fa.one _) rfl ?_
        refine WL_v (v_assign rfl) rfl ?_
        refine WL_nil ?_
        refine den_ret ?_
        exact endsr2 Tryz.results8 (rv_n many36 rfl (Kn.own 0 rfl) (show cut 0 68 faz.cells = some faz.cells from Fa.cutS _)) (rv_t rfl) hle5 (.cons _ (List.Sublist.refl _)) ⟨by rw [facF_no (fun g => by obtain ⟨⟨q1, q2, q3⟩, _⟩ := g; first | omega | exact absurd q1 (by assumption)), facE_a (fun g => by obtain ⟨q1, q2, q3⟩ := g; first | omega | exact absurd q1 (by assumption))], rfl⟩
      · skip
        have hfm : l.formed := Decidable.of_not_not (by assumption)
        have hfb : l.formed ∧ -1 ≤ y ∧ y < 512 := ⟨hfm, by omega, by omega⟩
        refine den_skip ?_
        refine den_seq ?_
        -- region 3
        refine den_region rfl ?_
        refine WL_v (v_move rfl) rfl ?_
        refine WL_callq rfl (rpublic_fn _ _) rfl ?_
        refine WL_v (v_move rfl) rfl ?_
        refine WL_v (v_extract rfl rfl) rfl ?_
        refine WL_v (v_extract rfl rfl) rfl ?_
        refine WL_v (v_assign rfl) rfl ?_
        refine WL_v (v_assign rfl) rfl ?_
        refine WL_nil ?_
        refine den_seq ?_
        refine den_seq ?_
        -- region 4
        refine den_region rfl ?_
        refine WL_v (v_move rfl) rfl ?_
        refine WL_v (v_neq rfl rfl) rfl ?_
        refine WL_nil ?_
        first | refine den_ifd rfl (fun hE1 => ?_) (fun hE1 => ?_) | refine den_if rfl (fun hE1 => ?_) (fun hE1 => ?_)
        · skip
          have hx1 : ¬ isPr key := fun g => by rw [if_pos g] at hE1; exact hE1 rfl
          refine den_seq ?_
          -- region 5
          refine den_region rfl ?_
          refine WL_v (v_builds (r := faz.cells) Tryz.underlying36 zer36 plc36 rfl rfl rfl) rfl ?_
          refine WL_v (v_move rfl) rfl ?_
          refine WL_store0 rfl rfl (us := faz.cells) rfl siz36 (by exact spl_all (Fa.len68 _)) (Fa.one _) rfl ?_
          refine WL_v (v_assign rfl) rfl ?_
          refine WL_nil ?_
          refine den_ret ?_
          exact endsr2 Tryz.results8 (rv_n many36 rfl (Kn.own 0 rfl) (show cut 0 68 faz.cells = some faz.cells from Fa.cutS _)) (rv_t rfl) hle5 (.cons _ (List.Sublist.refl _)) ⟨by rw [facF_no (fun g => hx1 g.2.1), facE_k hfb hx1, if_neg hx1], rfl⟩
        · skip
          have hx1 : isPr key := by by_cases g : isPr key; exact g; rw [if_neg g] at hE1; omega
          simp only [if_pos hx1]
          refine den_skip ?_
          refine den_seq ?_
          -- region 6
          refine den_region rfl ?_
          refine WL_v (v_move rfl) rfl ?_
          refine WL_callq rfl (rpublic_fn _ _) rfl ?_
          refine WL_v (v_move rfl) rfl ?_
          refine WL_v (v_extract rfl rfl) rfl ?_
          refine WL_v (v_extract rfl rfl) rfl ?_
          refine WL_v (v_assign rfl) rfl ?_
          refine WL_v (v_assign rfl) rfl ?_
          refine WL_nil ?_
          refine den_seq ?_
          refine den_seq ?_
          -- region 7
          refine den_region rfl ?_
          refine WL_v (v_move rfl) rfl ?_
          refine WL_v (v_neq rfl rfl) rfl ?_
          refine WL_nil ?_
          first | refine den_ifd rfl (fun hE2 => ?_) (fun hE2 => ?_) | refine den_if rfl (fun hE2 => ?_) (fun hE2 => ?_)
          · skip
            have hx2 : ¬ isPr sec := fun g => by rw [if_pos g] at hE2; exact hE2 rfl
            refine den_seq ?_
            -- region 8
            refine den_region rfl ?_
            refine WL_v (v_builds (r := faz.cells) Tryz.underlying36 zer36 plc36 rfl rfl rfl) rfl ?_
            refine WL_v (v_move rfl) rfl ?_
            refine WL_store0 rfl rfl (us := faz.cells) rfl siz36 (by exact spl_all (Fa.len68 _)) (Fa.one _) rfl ?_
            refine WL_v (v_assign rfl) rfl ?_
            refine WL_nil ?_
            refine den_ret ?_
            exact endsr2 Tryz.results8 (rv_n many36 rfl (Kn.own 0 rfl) (show cut 0 68 faz.cells = some faz.cells from Fa.cutS _)) (rv_t rfl) hle5 (.cons _ (List.Sublist.refl _)) ⟨by rw [facF_no (fun g => hx2 g.2.2.1), facE_s hfb hx1 hx2, if_neg hx2], rfl⟩
          · skip
            have hx2 : isPr sec := by by_cases g : isPr sec; exact g; rw [if_neg g] at hE2; omega
            simp only [if_pos hx2]
            refine den_skip ?_
            refine den_seq ?_
            refine den_seq ?_
            -- region 9
            refine den_region rfl ?_
            refine WL_v (v_move rfl) rfl ?_
            refine WL_v (v_faddr Tryz.underlying27 rfl siz3 rfl) rfl ?_
            refine WL_v (v_load1 one3 rfl (by first | exact Kn.own 0 rfl | exact Kn.own 1 rfl | exact Kn.own 2 rfl | exact Kn.own 3 rfl | exact Kn.own 4 rfl | exact Kn.own 5 rfl | exact Kn.per ‹_›) rfl) rfl ?_
            refine WL_v (v_neq rfl rfl) rfl ?_
            refine WL_nil ?_
            first | refine den_ifd rfl (fun hp => ?_) (fun hp => ?_) | refine den_if rfl (fun hp => ?_) (fun hp => ?_)
            · skip
              refine den_seq ?_
              -- region 10
              refine den_region rfl ?_
              refine WL_v (v_builds (r := faz.cells) Tryz.underlying36 zer36 plc36 rfl rfl rfl) rfl ?_
              refine WL_store0 rfl rfl (us := faz.cells) rfl siz36 (by exact spl_all (Fa.len68 _)) (Fa.one _) rfl ?_
              refine WL_v (v_assign rfl) rfl ?_
              refine WL_nil ?_
              refine den_ret ?_
              exact endsr2 Tryz.results8 (rv_n many36 rfl (Kn.own 0 rfl) (show cut 0 68 faz.cells = some faz.cells from Fa.cutS _)) (rv_t rfl) hle5 (.cons _ (List.Sublist.refl _)) ⟨by rw [facF_no (fun g => hp g.2.2.2), facE_p hfb hx1 hx2 hp], rfl⟩
            · skip
              have hp := Decidable.of_not_not hp
              refine den_skip ?_
              refine den_seq ?_
              -- region 11
              refine den_draw [7] (by kernel_rfl) (by kernel_rfl) (NoP.fn) (rem := [0, 1, 2, 3, 4, 5, 6, 7]) (by kernel_rfl) ?_
              refine QS_v (i := 0) rfl (v_loadn many27 rfl (Kn.per hb5) (show cut 0 40 l.cells = some l.cells from Lk.cutS _)) (by kernel_rfl) (by kernel_rfl) (by kernel_rfl) (rem' := [1, 2, 3, 4, 5, 6, 7]) (by kernel_rfl) rfl ?_
              refine QS_v (i := 2) rfl (v_faddr Tryz.underlying30 rfl siz23 rfl) (by kernel_rfl) (by kernel_rfl) (by kernel_rfl) (rem' := [1, 3, 4, 5, 6, 7]) (by kernel_rfl) rfl ?_
              refine QS_v (i := 3) rfl (v_loadn many23 rfl (Kn.per hb6) (show cut 0 32 (dcells kc ++ dcells ks) = some (dcells kc) from rfl)) (by kernel_rfl) (by kernel_rfl) (by kernel_rfl) (rem' := [1, 4, 5, 6, 7]) (by kernel_rfl) rfl ?_
              refine QS_v (i := 4) rfl (v_move rfl) (by kernel_rfl) (by kernel_rfl) (by kernel_rfl) (rem' := [1, 5, 6, 7]) (by kernel_rfl) rfl ?_
              refine QS_step (is := [1, 6]) rfl (by kernel_rfl) ?_
              refine qall2 ?_ ?_
              · skip
                refine qs_callq rfl rfl (rlid_fn _ _ hok) rfl (rem' := [5, 6, 7]) (by kernel_rfl) ?_
                refine QS_v (i := 5) rfl (v_builds (r := (Fa.mk (lid l) kc y 0 0 0).cells) Tryz.underlying36 zer36 plc36 rfl rfl rfl) (by kernel_rfl) (by kernel_rfl) (by kernel_rfl) (rem' := [6, 7]) (by kernel_rfl) rfl ?_
                refine QS_step (is := [6]) rfl (by kernel_rfl) ?_
                refine qall1 ?_
                refine qs_new (g := fun b => .pointer (some ⟨b, 0, none⟩)) rfl (o_alloc zer36 rfl) rfl (rem' := [7]) (by kernel_rfl) fun b15 => ?_
                refine QS_step (is := [7]) rfl (by kernel_rfl) ?_
                refine qall1 ?_
                refine qs_store (A := []) rfl rfl rfl rfl siz36 (by exact spl_all (Fa.len68 _)) (Fa.one _) rfl rfl (rem' := []) (by kernel_rfl) rfl rfl ?_
                refine QS_nil ?_
                refine den_seq ?_
                -- region 12
                refine den_region rfl ?_
                refine WL_v (v_faddr Tryz.underlying30 rfl siz28 rfl) rfl ?_
                refine WL_v (v_loadn many28 rfl (Kn.per hb6) (show cut 32 32 (dcells kc ++ dcells ks) = some (dcells ks) from rfl)) rfl ?_
                refine WL_callq rfl (rslink_fn _ _) rfl ?_
                refine WL_v (v_move rfl) rfl ?_
                refine WL_callq rfl (rpfac_fn _ _ _ (lnkS_pr _) hx2) rfl ?_
                refine WL_v (v_move rfl) rfl ?_
                refine WL_v (v_extract rfl rfl) rfl ?_
                refine WL_v (v_extract rfl rfl) rfl ?_
                refine WL_v (v_faddr Tryz.underlying36 rfl siz3 rfl) rfl ?_
                refine WL_store0 rfl rfl (us := [.int .i64 (pfN (lnkS ks) sec)]) rfl siz3 (Fa.spl_n ..) rfl rfl ?_
                refine WL_nil ?_
                refine den_seq ?_
                -- region 13
                refine den_region rfl ?_
                refine WL_v (v_move rfl) rfl ?_
                refine WL_v (v_loadn many36 rfl (Kn.own 0 rfl) (show cut 0 68 (Fa.mk (lid l) kc y (pfN (lnkS ks) sec) 0 0).cells = some (Fa.mk (lid l) kc y (pfN (lnkS ks) sec) 0 0).cells from Fa.cutS _)) rfl ?_
                refine WL_callp rfl (rfmessage_fn (Fa.mk (lid l) kc y (pfN (lnkS ks) sec) 0 0) _ (show Ri y from ⟨by omega, by omega⟩) (pfN_ri _ _)) rfl fun v69 h69 hl69 hbs => ?_
                refine WL_callq rfl (rsign_fn key v69 _ _ hbs (by simp)) rfl ?_
                simp only [if_pos hx1]
                refine WL_v (v_move rfl) rfl ?_
                refine WL_v (v_extract rfl rfl) rfl ?_
                refine WL_v (v_extract rfl rfl) rfl ?_
                refine WL_v (v_faddr Tryz.underlying36 rfl siz25 rfl) rfl ?_
                refine WL_store0 rfl rfl (us := [.int .i64 (sgR key (fmsg (Fa.mk (lid l) kc y (pfN (lnkS ks) sec) 0 0)).toList), .int .i64 (sgS key (fmsg (Fa.mk (lid l) kc y (pfN (lnkS ks) sec) 0 0)).toList)]) rfl siz25 (Fa.spl_sig ..) rfl rfl ?_
                refine WL_nil ?_
                refine den_seq ?_
                -- region 14
                refine den_region rfl ?_
                refine WL_v (v_loadn many36 rfl (Kn.own 0 rfl) (show cut 0 68 (Fa.mk (lid l) kc y (pfN (lnkS ks) sec) (sgR key (fmsg (Fa.mk (lid l) kc y (pfN (lnkS ks) sec) 0 0)).toList) (sgS key (fmsg (Fa.mk (lid l) kc y (pfN (lnkS ks) sec) 0 0)).toList)).cells = some (Fa.mk (lid l) kc y (pfN (lnkS ks) sec) (sgR key (fmsg (Fa.mk (lid l) kc y (pfN (lnkS ks) sec) 0 0)).toList) (sgS key (fmsg (Fa.mk (lid l) kc y (pfN (lnkS ks) sec) 0 0)).toList)).cells from Fa.cutS _)) rfl ?_
                refine WL_store1 rfl rfl (us := (Fa.mk (lid l) kc y (pfN (lnkS ks) sec) (sgR key (fmsg (Fa.mk (lid l) kc y (pfN (lnkS ks) sec) 0 0)).toList) (sgS key (fmsg (Fa.mk (lid l) kc y (pfN (lnkS ks) sec) 0 0)).toList)).cells) rfl siz36 (by exact spl_all (Fa.len68 _)) (Fa.one _) rfl ?_
                refine WL_v (v_assign rfl) rfl ?_
                refine WL_nil ?_
                refine den_ret ?_
                exact endsr2 Tryz.results8 (rv_n many36 rfl (Kn.own 1 rfl) (show cut 0 68 (Fa.mk (lid l) kc y (pfN (lnkS ks) sec) (sgR key (fmsg (Fa.mk (lid l) kc y (pfN (lnkS ks) sec) 0 0)).toList) (sgS key (fmsg (Fa.mk (lid l) kc y (pfN (lnkS ks) sec) 0 0)).toList)).cells = some (Fa.mk (lid l) kc y (pfN (lnkS ks) sec) (sgR key (fmsg (Fa.mk (lid l) kc y (pfN (lnkS ks) sec) 0 0)).toList) (sgS key (fmsg (Fa.mk (lid l) kc y (pfN (lnkS ks) sec) 0 0)).toList)).cells from Fa.cutS _)) (rv_t rfl) (hle5.trans hl69) (.cons _ (.cons _ (List.Sublist.refl _))) ⟨by rw [facF_ok ⟨hfb, hx1, hx2, hp⟩, facE_z hfb hx1 hx2 hp], rfl⟩
              · skip
                refine qs_new (g := fun b => .pointer (some ⟨b, 0, none⟩)) rfl (o_alloc zer36 rfl) rfl (rem' := [1, 5, 7]) (by kernel_rfl) fun b15 => ?_
                refine QS_step (is := [1]) rfl (by kernel_rfl) ?_
                refine qall1 ?_
                refine qs_callq rfl rfl (rlid_fn _ _ hok) rfl (rem' := [5, 7]) (by kernel_rfl) ?_
                refine QS_v (i := 5) rfl (v_builds (r := (Fa.mk (lid l) kc y 0 0 0).cells) Tryz.underlying36 zer36 plc36 rfl rfl rfl) (by kernel_rfl) (by kernel_rfl) (by kernel_rfl) (rem' := [7]) (by kernel_rfl) rfl ?_
                refine QS_step (is := [7]) rfl (by kernel_rfl) ?_
                refine qall1 ?_
                refine qs_store (A := []) rfl rfl rfl rfl siz36 (by exact spl_all (Fa.len68 _)) (Fa.one _) rfl rfl (rem' := []) (by kernel_rfl) rfl rfl ?_
                refine QS_nil ?_
                refine den_seq ?_
                -- region 12
                refine den_region rfl ?_
                refine WL_v (v_faddr Tryz.underlying30 rfl siz28 rfl) rfl ?_
                refine WL_v (v_loadn many28 rfl (Kn.per hb6) (show cut 32 32 (dcells kc ++ dcells ks) = some (dcells ks) from rfl)) rfl ?_
                refine WL_callq rfl (rslink_fn _ _) rfl ?_
                refine WL_v (v_move rfl) rfl ?_
                refine WL_callq rfl (rpfac_fn _ _ _ (lnkS_pr _) hx2) rfl ?_
                refine WL_v (v_move rfl) rfl ?_
                refine WL_v (v_extract rfl rfl) rfl ?_
                refine WL_v (v_extract rfl rfl) rfl ?_
                refine WL_v (v_faddr Tryz.underlying36 rfl siz3 rfl) rfl ?_
                refine WL_store0 rfl rfl (us := [.int .i64 (pfN (lnkS ks) sec)]) rfl siz3 (Fa.spl_n ..) rfl rfl ?_
                refine WL_nil ?_
                refine den_seq ?_
                -- region 13
                refine den_region rfl ?_
                refine WL_v (v_move rfl) rfl ?_
                refine WL_v (v_loadn many36 rfl (Kn.own 0 rfl) (show cut 0 68 (Fa.mk (lid l) kc y (pfN (lnkS ks) sec) 0 0).cells = some (Fa.mk (lid l) kc y (pfN (lnkS ks) sec) 0 0).cells from Fa.cutS _)) rfl ?_
                refine WL_callp rfl (rfmessage_fn (Fa.mk (lid l) kc y (pfN (lnkS ks) sec) 0 0) _ (show Ri y from ⟨by omega, by omega⟩) (pfN_ri _ _)) rfl fun v69 h69 hl69 hbs => ?_
                refine WL_callq rfl (rsign_fn key v69 _ _ hbs (by simp)) rfl ?_
                simp only [if_pos hx1]
                refine WL_v (v_move rfl) rfl ?_
                refine WL_v (v_extract rfl rfl) rfl ?_
                refine WL_v (v_extract rfl rfl) rfl ?_
                refine WL_v (v_faddr Tryz.underlying36 rfl siz25 rfl) rfl ?_
                refine WL_store0 rfl rfl (us := [.int .i64 (sgR key (fmsg (Fa.mk (lid l) kc y (pfN (lnkS ks) sec) 0 0)).toList), .int .i64 (sgS key (fmsg (Fa.mk (lid l) kc y (pfN (lnkS ks) sec) 0 0)).toList)]) rfl siz25 (Fa.spl_sig ..) rfl rfl ?_
                refine WL_nil ?_
                refine den_seq ?_
                -- region 14
                refine den_region rfl ?_
                refine WL_v (v_loadn many36 rfl (Kn.own 0 rfl) (show cut 0 68 (Fa.mk (lid l) kc y (pfN (lnkS ks) sec) (sgR key (fmsg (Fa.mk (lid l) kc y (pfN (lnkS ks) sec) 0 0)).toList) (sgS key (fmsg (Fa.mk (lid l) kc y (pfN (lnkS ks) sec) 0 0)).toList)).cells = some (Fa.mk (lid l) kc y (pfN (lnkS ks) sec) (sgR key (fmsg (Fa.mk (lid l) kc y (pfN (lnkS ks) sec) 0 0)).toList) (sgS key (fmsg (Fa.mk (lid l) kc y (pfN (lnkS ks) sec) 0 0)).toList)).cells from Fa.cutS _)) rfl ?_
                refine WL_store1 rfl rfl (us := (Fa.mk (lid l) kc y (pfN (lnkS ks) sec) (sgR key (fmsg (Fa.mk (lid l) kc y (pfN (lnkS ks) sec) 0 0)).toList) (sgS key (fmsg (Fa.mk (lid l) kc y (pfN (lnkS ks) sec) 0 0)).toList)).cells) rfl siz36 (by exact spl_all (Fa.len68 _)) (Fa.one _) rfl ?_
                refine WL_v (v_assign rfl) rfl ?_
                refine WL_nil ?_
                refine den_ret ?_
                exact endsr2 Tryz.results8 (rv_n many36 rfl (Kn.own 1 rfl) (show cut 0 68 (Fa.mk (lid l) kc y (pfN (lnkS ks) sec) (sgR key (fmsg (Fa.mk (lid l) kc y (pfN (lnkS ks) sec) 0 0)).toList) (sgS key (fmsg (Fa.mk (lid l) kc y (pfN (lnkS ks) sec) 0 0)).toList)).cells = some (Fa.mk (lid l) kc y (pfN (lnkS ks) sec) (sgR key (fmsg (Fa.mk (lid l) kc y (pfN (lnkS ks) sec) 0 0)).toList) (sgS key (fmsg (Fa.mk (lid l) kc y (pfN (lnkS ks) sec) 0 0)).toList)).cells from Fa.cutS _)) (rv_t rfl) (hle5.trans hl69) (.cons _ (.cons _ (List.Sublist.refl _))) ⟨by rw [facF_ok ⟨hfb, hx1, hx2, hp⟩, facE_z hfb hx1 hx2 hp], rfl⟩

end Go.Proofs.Ch
