/- Walks of the program's functions, printed by my own generator (layer P7). -/
import Derived.Test.YtmeakefbepbapaaGreatDoorP5
import Derived.Test.YtmeakefbepbapaaGreatDoorS3
namespace Go.Proofs.Ch
open Go Go.Proofs
set_option maxRecDepth 4000
set_option maxHeartbeats 1000000

theorem exact_eq {p : Pol} {xs : List Lst} {it : Dig} {cs : List Con} (hg : p.good) : decide (expE p xs it cs = 0) = decide ((if p.two = true then 2 else 1) ≤ (setI (ows xs it cs)).length) := by
  rw [decide_eq_decide]
  unfold expE
  rw [if_pos hg]
  cases p.two
  · by_cases h : (setI (ows xs it cs)).length = 0 <;> simp [h] <;> omega
  · by_cases h : (setI (ows xs it cs)).length = 0
    · simp [h]
    · by_cases h1 : (setI (ows xs it cs)).length = 1
      · simp [h1]
      · simp [h, h1]; omega
theorem lawx_fn (p : Pol) (a b x y : Option Addr) (ca cb cx cy : Nat) (xs : List Lst) (it : Dig) (cs : List Con) (h : Heap) (ha : Sl1 h a p.le.length (fun i => .int .i64 (p.le.getD i 0))) (hb : Sl1 h b p.ri.length (fun i => .int .i64 (p.ri.getD i 0))) (hx : Sln h x xs.length 5 (fun i => (xs.getD i lstz).cells)) (hy : Sln h y cs.length 3 (fun i => (cs.getD i conz).cells)) (hok : ∀ c ∈ cs, c.ok) (hG : Gl h) : Fn0 Tryz.prog 6 [.agg ⟨p.cells a b ca cb⟩, .slice x xs.length cx, .agg ⟨dcells it ++ [.slice y cs.length cy]⟩] h (.bool true) := by
  refine Tr_of Tryz.func6 rfl rfl Tryz.ntmps6 rfl [(0, .agg ⟨p.cells a b ca cb⟩), (1, .slice x xs.length cx), (2, .agg ⟨dcells it ++ [.slice y cs.length cy]⟩)] rfl ?_
  intro Lf
  refine den_seq ?_
  -- region 0
  refine den_region rfl ?_
  refine WL_box (zs := p.cells a b ca cb) rfl rfl rfl fun b3 => ?_
  refine WL_box (zs := (dcells it ++ [.slice y cs.length cy])) rfl rfl rfl fun b5 => ?_
  refine WL_freeze fun h5 hl5 hb5 => ?_
  refine WL_freeze fun h3 hl3 hb3 => ?_
  have hb5 := hl3 _ _ hb5
  have z := hl5.trans hl3
  have hG := hG.le z
  have ha := ha.le z
  have hb := hb.le z
  have hx := hx.le z
  have hy := hy.le z
  refine WL_v (v_assign rfl) rfl ?_
  refine WL_nil ?_
  refine den_seq ?_
  refine den_seq ?_
  -- region 1
  refine den_region rfl ?_
  refine WL_callq rfl (sane46_fn _ hG) rfl ?_
  refine WL_v (OpV.to (v' := .bool false) (v_not rfl) (by first | rfl | simp)) rfl ?_
  refine WL_nil ?_
  refine den_false rfl ?_
  refine den_skip ?_
  refine den_seq ?_
  refine den_seq ?_
  -- region 3
  refine den_region rfl ?_
  refine WL_v (v_loadn many24 rfl (Kn.per hb3) (p.cutS a b ca cb)) rfl ?_
  refine WL_callq rfl (fewp_fn p a b ca cb _) rfl ?_
  first | refine WL_v (v_notd rfl) rfl ?_ | refine WL_v (v_not rfl) rfl ?_
  refine WL_v (v_move rfl) rfl ?_
  first | refine WL_split (t := 23) rfl ?_ ?_
  · intro c1; try have c1 := of_decide_eq_true c1
    refine WL_skip (j := 3) (t := 23) (b := true) rfl rfl rfl rfl ?_
    refine WL_skip (j := 3) (t := 23) (b := true) rfl rfl rfl rfl ?_
    refine WL_skip (j := 3) (t := 23) (b := true) rfl rfl rfl rfl ?_
    refine WL_skip (j := 3) (t := 23) (b := true) rfl rfl rfl rfl ?_
    refine WL_skip (j := 3) (t := 23) (b := true) rfl rfl rfl rfl ?_
    refine WL_v (v_pickt rfl rfl) rfl ?_
    refine WL_v (v_move rfl) rfl ?_
    refine WL_skip (j := 10) (t := 30) (b := true) rfl rfl rfl rfl ?_
    refine WL_skip (j := 10) (t := 30) (b := true) rfl rfl rfl rfl ?_
    refine WL_skip (j := 10) (t := 30) (b := true) rfl rfl rfl rfl ?_
    refine WL_v (v_pickt rfl rfl) rfl ?_
    refine WL_nil ?_
    refine den_true rfl ?_
    refine den_seq ?_
    -- region 4
    refine den_region rfl ?_
    refine WL_v (v_assign rfl) rfl ?_
    refine WL_nil ?_
    refine den_ret ?_
    exact ends1 Tryz.results6 rfl (by first | exact z.trans hle1 | exact z) (by first | exact List.Sublist.refl _ | exact .cons _ (List.Sublist.refl _)) ⟨rfl, rfl⟩
  · intro c2; try have c2 := of_decide_eq_false c2
    refine WL_vg rfl rfl (v_loadn many41 rfl (Kn.per hb5) (cut_self rfl)) rfl ?_
    refine WL_buildSliceg rfl rfl Tryz.underlying43 zer41 rfl siz41 rfl rfl rfl rfl rfl fun b25 => ?_
    refine WL_freeze fun h25 hl25 hb25 => ?_
    have hb5 := hl25 _ _ hb5
    have hb3 := hl25 _ _ hb3
    have hG := hG.le hl25
    have ha := ha.le hl25
    have hb := hb.le hl25
    have hx := hx.le hl25
    have hy := hy.le hl25
    have z := z.trans hl25
    refine WL_vg rfl rfl (v_move rfl) rfl ?_
    refine WL_callqg rfl rfl rfl (fewe_fn b25 cy cx xs.length y x it cs _ hb25) rfl ?_
    first | refine WL_vg rfl rfl (v_notd rfl) rfl ?_ | refine WL_vg rfl rfl (v_not rfl) rfl ?_
    refine WL_v (v_pickf rfl rfl) rfl ?_
    refine WL_v (v_move rfl) rfl ?_
    first | refine WL_split (t := 30) rfl ?_ ?_
    · intro c3; try have c3 := of_decide_eq_true c3
      refine WL_skip (j := 10) (t := 30) (b := true) rfl rfl rfl rfl ?_
      refine WL_skip (j := 10) (t := 30) (b := true) rfl rfl rfl rfl ?_
      refine WL_skip (j := 10) (t := 30) (b := true) rfl rfl rfl rfl ?_
      refine WL_v (v_pickt rfl rfl) rfl ?_
      refine WL_nil ?_
      refine den_true rfl ?_
      refine den_seq ?_
      -- region 4
      refine den_region rfl ?_
      refine WL_v (v_assign rfl) rfl ?_
      refine WL_nil ?_
      refine den_ret ?_
      exact ends1 Tryz.results6 rfl (by first | exact z.trans hle1 | exact z) (by first | exact List.Sublist.refl _ | exact .cons _ (List.Sublist.refl _)) ⟨rfl, rfl⟩
    · intro c4; try have c4 := of_decide_eq_false c4
      have hfp : p.le.length ≤ 10 ∧ p.ri.length ≤ 10 := by simpa using c2
      have hfe : cs.length ≤ 5 ∧ xs.length ≤ 10 := by simpa using c4
      have ha1 : SlI _ a p.le := ⟨ha, by omega⟩
      have hb1 : SlI _ b p.ri := ⟨hb, by omega⟩
      have hx1 : SlL _ x xs := ⟨hx, by omega⟩
      have hy1 : SlC _ y cs := ⟨hy, by omega⟩
      refine WL_vg rfl rfl (v_loadn many24 rfl (Kn.per hb3) (p.cutS a b ca cb)) rfl ?_
      refine WL_callqg rfl rfl rfl (check_fn p a b ca cb _ ha1 hb1) rfl ?_
      refine WL_vg rfl rfl (v_neq rfl rfl) rfl ?_
      refine WL_v (v_pickf rfl rfl) rfl ?_
      refine WL_nil ?_
      first | refine den_ifd rfl (fun hq => ?_) (fun hq => ?_) | refine den_if rfl (fun hq => ?_) (fun hq => ?_)
      · skip
        refine den_seq ?_
        -- region 4
        refine den_region rfl ?_
        refine WL_v (v_assign rfl) rfl ?_
        refine WL_nil ?_
        refine den_ret ?_
        exact ends1 Tryz.results6 rfl (by first | exact z.trans hle1 | exact z) (by first | exact List.Sublist.refl _ | exact .cons _ (List.Sublist.refl _)) ⟨rfl, rfl⟩
      · skip
        have hgood : p.good := polE_0 (by simpa using hq)
        refine den_skip ?_
        refine den_seq ?_
        -- region 5
        refine den_region rfl ?_
        refine WL_makeMap rfl fun b35 => ?_
        refine WL_v (v_assign rfl) rfl ?_
        refine WL_nil ?_
        refine den_seq ?_
        refine den_seq ?_
        -- region 6
        refine den_region rfl ?_
        refine WL_v (v_faddr Tryz.underlying41 rfl siz39 rfl) rfl ?_
        refine WL_v (v_load1 one39 rfl (Kn.per hb5) (show (dcells it ++ [.slice y cs.length cy])[32]? = some (.slice y cs.length cy) from rfl)) rfl ?_
        refine WL_v (v_lens Tryz.underlying39 rfl) rfl ?_
        refine WL_v (v_move rfl) rfl ?_
        refine WL_nil ?_
        refine den_block ?_
        refine den_loopI (ι := Nat) (fun i => [(1, .slice x xs.length cx), (3, .pointer (some ⟨b3, 0, none⟩)), (5, .pointer (some ⟨b5, 0, none⟩)), (7, .map (some b35)), (37, .slice y cs.length cy), (38, .int .i64 ((cs.length : Nat) : Int)), (39, .int .i64 ((i : Nat) : Int))]) (fun i h' L' => i ≤ cs.length ∧ Heap.le h25 h' ∧ L' = (b35, Mo (.bool true) (setI (ows xs it (cs.take i)))) :: Lf) (fun i => cs.length - i) 0 (sub_cons rfl (sub_cons rfl (sub_cons rfl (sub_cons rfl (sub_cons rfl (sub_cons rfl (sub_cons rfl sub_nil))))))) ⟨by omega, Heap.le.refl _, rfl⟩ ?_
        rintro i h1 _ ⟨i1, hle1, rfl⟩
        refine den_seq ?_
        -- region 7
        refine den_region rfl ?_
        refine WL_v (v_lss rfl rfl) rfl ?_
        refine WL_nil ?_
        refine den_seq ?_
        first | refine den_ifd rfl (fun hi => ?_) (fun hi => ?_) | refine den_if rfl (fun hi => ?_) (fun hi => ?_)
        · skip
          have hi : i < cs.length := by omega
          obtain ⟨bb, off, all, T, fr, rfl, hbb, hxi⟩ := hy1.1 i hi
          have hbb := hle1 _ _ hbb
          have hrd : Ri (cs.getD i conz).d := (hok _ (by simp [hi])).1
          refine den_skip ?_
          refine den_seq ?_
          refine den_block ?_
          refine den_seq ?_
          -- region 8
          refine den_region rfl ?_
          refine WL_v (v_iaddrs Tryz.underlying39 siz32 rfl rfl rfl hi) rfl ?_
          refine WL_v (v_loadn many32 rfl (Kn.per hbb) hxi) rfl ?_
          refine WL_alloc zer32 rfl rfl fun b9 => ?_
          refine WL_store0 rfl rfl (us := (cs.getD i conz).cells) rfl siz32 (by exact spl_all (Con.len _)) (Con.one _) rfl ?_
          refine WL_freeze fun h9 hl9 hb9 => ?_
          have hle9 := hle1.trans hl9
          refine WL_nil ?_
          refine den_seq ?_
          -- region 9
          refine den_draw [] (by kernel_rfl) (by kernel_rfl) (NoP.fn) (rem := [0, 1, 2, 3, 4, 5, 6, 7, 8, 9, 10, 11, 12, 13, 14]) (by kernel_rfl) ?_
          refine QS_v (i := 0) rfl (v_faddr Tryz.underlying41 rfl siz26 rfl) (by kernel_rfl) (by kernel_rfl) (by kernel_rfl) (rem' := [1, 2, 3, 4, 5, 6, 7, 8, 9, 10, 11, 12, 13, 14]) (by kernel_rfl) rfl ?_
          refine QS_v (i := 1) rfl (v_slicea0 Tryz.underlying26 siz5 rfl) (by kernel_rfl) (by kernel_rfl) (by kernel_rfl) (rem' := [2, 3, 4, 5, 6, 7, 8, 9, 10, 11, 12, 13, 14]) (by kernel_rfl) rfl ?_
          refine QS_v (i := 2) rfl (OpV.to (v' := .string (dstr (it))) (v_tostr (bs := (it).toList) Tryz.underlying53 Tryz.underlying9 Tryz.underlying5 rfl (Kn.per (hle9 _ _ hb5)) (by rw [← dcells_eq (it)]; exact cut_left (dcells it) _)) rfl) (by kernel_rfl) (by kernel_rfl) (by kernel_rfl) (rem' := [3, 4, 5, 6, 7, 8, 9, 10, 11, 12, 13, 14]) (by kernel_rfl) rfl ?_
          refine QS_v (i := 3) rfl (v_builds (r := tC it) Tryz.underlying58 zer58 plc58 rfl rfl rfl) (by kernel_rfl) (by kernel_rfl) (by kernel_rfl) (rem' := [4, 5, 6, 7, 8, 9, 10, 11, 12, 13, 14]) (by kernel_rfl) rfl ?_
          refine QS_v (i := 4) rfl (v_faddr Tryz.underlying32 rfl siz3 rfl) (by kernel_rfl) (by kernel_rfl) (by kernel_rfl) (rem' := [5, 6, 7, 8, 9, 10, 11, 12, 13, 14]) (by kernel_rfl) rfl ?_
          refine QS_v (i := 5) rfl (v_load1 one3 rfl (Kn.per hb9) (show (cs.getD i conz).cells[0]? = some (.int .i64 (cs.getD i conz).d) from rfl)) (by kernel_rfl) (by kernel_rfl) (by kernel_rfl) (rem' := [6, 7, 8, 9, 10, 11, 12, 13, 14]) (by kernel_rfl) rfl ?_
          refine QS_v (i := 6) rfl (v_builds (r := iC (cs.getD i conz).d) Tryz.underlying58 zer58 plc58 rfl rfl rfl) (by kernel_rfl) (by kernel_rfl) (by kernel_rfl) (rem' := [7, 8, 9, 10, 11, 12, 13, 14]) (by kernel_rfl) rfl ?_
          refine QS_step (is := [7]) rfl (by kernel_rfl) ?_
          refine qall1 ?_
          refine qs_newp (g := fun b => .slice (some ⟨b, 0, none⟩) 2 2) rfl (o_buildSlice Tryz.underlying56 zer58 rfl siz58 rfl rfl rfl rfl) rfl (rem' := [8, 9, 10, 11, 12, 13, 14]) (by kernel_rfl) fun b51 h51 hl51 hb51 => ?_
          refine QS_v (i := 8) rfl (v_builds Tryz.underlying58 zer58 plc58 rfl rfl rfl) (by kernel_rfl) (by kernel_rfl) (by kernel_rfl) (rem' := [9, 10, 11, 12, 13, 14]) (by kernel_rfl) rfl ?_
          refine QS_step (is := [9]) rfl (by kernel_rfl) ?_
          refine qall1 ?_
          have hvr := VR.rows (rows := [tC it, iC (cs.getD i conz).d]) (ms := [.text (dstr it), .int (cs.getD i conz).d]) (pad := []) (cap := 2) (n := 2) hb51 (pm_vrs hrd _) rfl (by decide)
          refine qs_callp rfl rfl (Tr.frzS (g := fun u => .tuple ⟨[u, .int .i64 0]⟩) (encode_fn _ (.list [.text (dstr it), .int (cs.getD i conz).d]) _ hvr (pm_dep it (cs.getD i conz).d) (by have := pm_len (it := it) hrd; omega))) rfl (rem' := [10, 11, 12, 13, 14]) (by kernel_rfl) fun v53 h53 hl53 hg53 => ?_
          obtain ⟨u53, rfl, hbs⟩ := hg53
          have hle53 := hle9.trans (hl51.trans hl53)
          have hb9 := hl53 _ _ (hl51 _ _ hb9)
          refine QS_v (i := 10) rfl (v_move rfl) (by kernel_rfl) (by kernel_rfl) (by kernel_rfl) (rem' := [11, 12, 13, 14]) (by kernel_rfl) rfl ?_
          refine QS_v (i := 11) rfl (v_extract rfl rfl) (by kernel_rfl) (by kernel_rfl) (by kernel_rfl) (rem' := [12, 13, 14]) (by kernel_rfl) rfl ?_
          refine QS_v (i := 12) rfl (v_extract rfl rfl) (by kernel_rfl) (by kernel_rfl) (by kernel_rfl) (rem' := [13, 14]) (by kernel_rfl) rfl ?_
          refine QS_v (i := 13) rfl (v_assign rfl) (by kernel_rfl) (by kernel_rfl) (by kernel_rfl) (rem' := [14]) (by kernel_rfl) rfl ?_
          refine QS_v (i := 14) rfl (v_assign rfl) (by kernel_rfl) (by kernel_rfl) (by kernel_rfl) (rem' := []) (by kernel_rfl) rfl ?_
          refine QS_nil ?_
          refine den_seq ?_
          -- region 10
          refine den_region rfl ?_
          refine WL_v (v_move rfl) rfl ?_
          refine WL_callq rfl (tagged_fn ⟨⟨[101, 120, 112, 111, 114, 116]⟩⟩ _ _ _ (by decide) hbs (by have := pm_len (it := it) hrd; omega) (hG.le hle53)) rfl ?_
          refine WL_alloc zer26 rfl rfl fun b12 => ?_
          refine WL_store0 rfl rfl (us := dcells (pmsg it (cs.getD i conz).d)) rfl siz26 (by exact spl_all rfl) rfl rfl ?_
          refine WL_freeze fun h12 hl12 hb12 => ?_
          have hle12 := hle53.trans hl12
          have hb9 := hl12 _ _ hb9
          refine WL_nil ?_
          refine den_seq ?_
          -- region 11
          refine den_region rfl ?_
          refine WL_v (v_faddr Tryz.underlying32 rfl siz3 rfl) rfl ?_
          refine WL_v (v_load1 one3 rfl (Kn.per hb9) (show (cs.getD i conz).cells[0]? = some (.int .i64 (cs.getD i conz).d) from rfl)) rfl ?_
          refine WL_callq rfl (owner_fn (cs.getD i conz).d _) rfl ?_
          refine WL_v (v_move rfl) rfl ?_
          refine WL_v (v_extract rfl rfl) rfl ?_
          refine WL_v (v_extract rfl rfl) rfl ?_
          refine WL_v (v_assign rfl) rfl ?_
          refine WL_v (v_assign rfl) rfl ?_
          refine WL_nil ?_
          refine den_seq ?_
          refine den_seq ?_
          -- region 12
          refine den_region rfl ?_
          refine WL_v (v_move rfl) rfl ?_
          refine WL_v (OpV.to (v' := .bool false) (v_neq rfl rfl) (by first | rfl | simp)) rfl ?_
          refine WL_nil ?_
          refine den_false rfl ?_
          refine den_skip ?_
          refine den_seq ?_
          -- region 14
          refine den_region rfl ?_
          refine WL_v (v_move rfl) rfl ?_
          refine WL_v (v_lens Tryz.underlying38 rfl) rfl ?_
          refine WL_v (v_move rfl) rfl ?_
          refine WL_nil ?_
          refine den_block ?_
          refine den_loopI (ι := Nat) (fun k => [(1, .slice x xs.length cx), (3, .pointer (some ⟨b3, 0, none⟩)), (5, .pointer (some ⟨b5, 0, none⟩)), (7, .map (some b35)), (37, .slice (some ⟨bb, off, none⟩) cs.length cy), (38, .int .i64 ((cs.length : Nat) : Int)), (39, .int .i64 ((i : Nat) : Int)), (9, .pointer (some ⟨b9, 0, none⟩)), (12, .pointer (some ⟨b12, 0, none⟩)), (13, .int .i64 (ownV (cs.getD i conz).d)), (14, .int .i64 (ownE (cs.getD i conz).d)), (66, .slice x xs.length cx), (67, .int .i64 ((xs.length : Nat) : Int)), (68, .int .i64 ((k : Nat) : Int))]) (fun k h' L' => k ≤ xs.length ∧ Heap.le h12 h' ∧ L' = (b35, Mo (.bool true) (setI (ows xs it (cs.take i)))) :: Lf ∧ ∀ j, j < k → (xs.getD j lstz).d ≠ (cs.getD i conz).d) (fun k => xs.length - k) 0 (sub_cons rfl (sub_cons rfl (sub_cons rfl (sub_cons rfl (sub_cons rfl (sub_cons rfl (sub_cons rfl (sub_cons rfl (sub_cons rfl (sub_cons rfl (sub_cons rfl (sub_cons rfl (sub_cons rfl (sub_cons rfl sub_nil)))))))))))))) ⟨by omega, Heap.le.refl _, rfl, fun j hj => by omega⟩ ?_
          rintro k h2 _ ⟨k1, hle2, rfl, hall⟩
          refine den_seq ?_
          -- region 15
          refine den_region rfl ?_
          refine WL_v (v_lss rfl rfl) rfl ?_
          refine WL_nil ?_
          refine den_seq ?_
          first | refine den_ifd rfl (fun hk => ?_) (fun hk => ?_) | refine den_if rfl (fun hk => ?_) (fun hk => ?_)
          · skip
            have hk : k < xs.length := by omega
            obtain ⟨bz, oz, allz, Tz, frz, rfl, hbz, hxz⟩ := hx1.1 k hk
            have hbz := hle2 _ _ (hle12 _ _ hbz)
            refine den_skip ?_
            refine den_seq ?_
            refine den_block ?_
            refine den_seq ?_
            -- region 16
            refine den_region rfl ?_
            refine WL_v (v_iaddrs Tryz.underlying38 siz49 rfl rfl rfl hk) rfl ?_
            refine WL_v (v_loadn many49 rfl (Kn.per hbz) hxz) rfl ?_
            refine WL_alloc zer49 rfl rfl fun b16 => ?_
            refine WL_store0 rfl rfl (us := (xs.getD k lstz).cells) rfl siz49 (by exact spl_all (Lst.len _)) rfl rfl ?_
            refine WL_freeze fun h16 hl16 hb16 => ?_
            have hle16 := hle2.trans hl16
            have hb9 := hle16 _ _ hb9
            have hb12 := hle16 _ _ hb12
            refine WL_nil ?_
            refine den_seq ?_
            refine den_seq ?_
            -- region 17
            refine den_region rfl ?_
            refine WL_v (v_faddr Tryz.underlying49 rfl siz3 rfl) rfl ?_
            refine WL_v (v_load1 one3 rfl (Kn.per hb16) (show (xs.getD k lstz).cells[0]? = some (.int .i64 (xs.getD k lstz).d) from rfl)) rfl ?_
            refine WL_v (v_faddr Tryz.underlying32 rfl siz3 rfl) rfl ?_
            refine WL_v (v_load1 one3 rfl (Kn.per hb9) (show (cs.getD i conz).cells[0]? = some (.int .i64 (cs.getD i conz).d) from rfl)) rfl ?_
            refine WL_v (v_neq rfl rfl) rfl ?_
            refine WL_nil ?_
            first | refine den_ifd rfl (fun hz => ?_) (fun hz => ?_) | refine den_if rfl (fun hz => ?_) (fun hz => ?_)
            · skip
              refine den_exit rfl ?_
              -- region 20
              refine den_region rfl ?_
              refine WL_v (v_addj (n := 1) rfl rfl (by show _ < 9223372036854775808; omega)) rfl ?_
              refine WL_v (v_move rfl) rfl ?_
              refine WL_nil ?_
              refine den_again ⟨rfl, (k + 1), (by show xs.length - (k + 1) < xs.length - k; omega), (sub_cons rfl (sub_cons rfl (sub_cons rfl (sub_cons rfl (sub_cons rfl (sub_cons rfl (sub_cons rfl (sub_cons rfl (sub_cons rfl (sub_cons rfl (sub_cons rfl (sub_cons rfl (sub_cons rfl (sub_cons rfl sub_nil)))))))))))))), ⟨by omega, hle16, rfl, fun j hj => by rcases Nat.lt_succ_iff_lt_or_eq.1 hj with g | rfl; exact hall j g; exact hz⟩⟩
            · skip
              refine den_skip ?_
              refine den_seq ?_
              refine den_seq ?_
              -- region 18
              refine den_draw [] (by kernel_rfl) (by kernel_rfl) (NoP.fn) (rem := [0, 1, 2, 3, 4, 5, 6, 7, 8, 9, 10, 11, 12, 13, 14]) (by kernel_rfl) ?_
              have hdz : (xs.getD k lstz).d = (cs.getD i conz).d := by simpa using hz
              have hat : (k : Int) = at_ xs (cs.getD i conz).d := (at_some hk hdz hall).symm
              refine QS_v (i := 0) rfl (v_faddr Tryz.underlying49 rfl siz4 rfl) (by kernel_rfl) (by kernel_rfl) (by kernel_rfl) (rem' := [1, 2, 3, 4, 5, 6, 7, 8, 9, 10, 11, 12, 13, 14]) (by kernel_rfl) rfl ?_
              refine QS_v (i := 1) rfl (v_load1 one4 rfl (Kn.per hb16) (show (xs.getD k lstz).cells[4]? = some (.bool (xs.getD k lstz).g) from rfl)) (by kernel_rfl) (by kernel_rfl) (by kernel_rfl) (rem' := [2, 3, 4, 5, 6, 7, 8, 9, 10, 11, 12, 13, 14]) (by kernel_rfl) rfl ?_
              first | refine QS_v (i := 2) rfl (v_notd rfl) (by kernel_rfl) (by kernel_rfl) (by kernel_rfl) (rem' := [3, 4, 5, 6, 7, 8, 9, 10, 11, 12, 13, 14]) (by kernel_rfl) rfl ?_ | refine QS_v (i := 2) rfl (v_not rfl) (by kernel_rfl) (by kernel_rfl) (by kernel_rfl) (rem' := [3, 4, 5, 6, 7, 8, 9, 10, 11, 12, 13, 14]) (by kernel_rfl) rfl ?_
              refine QS_v (i := 3) rfl (v_move rfl) (by kernel_rfl) (by kernel_rfl) (by kernel_rfl) (rem' := [4, 5, 6, 7, 8, 9, 10, 11, 12, 13, 14]) (by kernel_rfl) rfl ?_
              refine QS_split (t := 80) rfl ?_ ?_
              · intro c13; try have c13 := of_decide_eq_true c13
                refine QS_vg (i := 4) rfl rfl rfl (v_move rfl) (by kernel_rfl) (by kernel_rfl) (by kernel_rfl) (rem' := [5, 6, 7, 8, 9, 10, 11, 12, 13, 14]) (by kernel_rfl) rfl ?_
                refine QS_vg (i := 5) rfl rfl rfl (v_eql rfl rfl) (by kernel_rfl) (by kernel_rfl) (by kernel_rfl) (rem' := [6, 7, 8, 9, 10, 11, 12, 13, 14]) (by kernel_rfl) rfl ?_
                refine QS_v (i := 6) rfl (v_pickt rfl rfl) (by kernel_rfl) (by kernel_rfl) (by kernel_rfl) (rem' := [7, 8, 9, 10, 11, 12, 13, 14]) (by kernel_rfl) rfl ?_
                refine QS_v (i := 7) rfl (v_move rfl) (by kernel_rfl) (by kernel_rfl) (by kernel_rfl) (rem' := [8, 9, 10, 11, 12, 13, 14]) (by kernel_rfl) rfl ?_
                refine QS_split (t := 84) rfl ?_ ?_
                · intro c15; try have c15 := of_decide_eq_true c15
                  refine QS_vg (i := 8) rfl rfl rfl (v_faddr Tryz.underlying49 rfl siz3 rfl) (by kernel_rfl) (by kernel_rfl) (by kernel_rfl) (rem' := [9, 10, 11, 12, 13, 14]) (by kernel_rfl) rfl ?_
                  refine QS_vg (i := 9) rfl rfl rfl (v_load1 one3 rfl (Kn.per hb16) (show (xs.getD k lstz).cells[1]? = some (.int .i64 (xs.getD k lstz).v) from rfl)) (by kernel_rfl) (by kernel_rfl) (by kernel_rfl) (rem' := [10, 11, 12, 13, 14]) (by kernel_rfl) rfl ?_
                  refine QS_vg (i := 10) rfl rfl rfl (v_slicea0 Tryz.underlying26 siz5 rfl) (by kernel_rfl) (by kernel_rfl) (by kernel_rfl) (rem' := [11, 12, 13, 14]) (by kernel_rfl) rfl ?_
                  refine QS_vg (i := 11) rfl rfl rfl (v_faddr Tryz.underlying32 rfl siz30 rfl) (by kernel_rfl) (by kernel_rfl) (by kernel_rfl) (rem' := [12, 13, 14]) (by kernel_rfl) rfl ?_
                  refine QS_vg (i := 12) rfl rfl rfl (v_loadn many30 rfl (Kn.per hb9) (show cut 1 2 (cs.getD i conz).cells = some [.int .i64 (cs.getD i conz).r, .int .i64 (cs.getD i conz).s] from rfl)) (by kernel_rfl) (by kernel_rfl) (by kernel_rfl) (rem' := [13, 14]) (by kernel_rfl) rfl ?_
                  refine QS_step (is := [13]) rfl (by kernel_rfl) ?_
                  refine qall1 ?_
                  refine qs_callqg rfl rfl rfl rfl (verify_fn _ _ _ _ _ _ (Bs.dig hb12 (by decide)) (by simp) (hG.le (hle12.trans hle16))) rfl (rem' := [14]) (by kernel_rfl) ?_
                  refine QS_v (i := 14) rfl (v_pickt rfl rfl) (by kernel_rfl) (by kernel_rfl) (by kernel_rfl) (rem' := []) (by kernel_rfl) rfl ?_
                  refine QS_nil ?_
                  first | refine den_ifd rfl (fun hv => ?_) (fun hv => ?_) | refine den_if rfl (fun hv => ?_) (fun hv => ?_)
                  · skip
                    have hck : cok xs it (cs.getD i conz) := (cok_at hat).2 ⟨by simp_all, by simp_all [ownE], by simp_all⟩
                    -- region 19
                    refine den_region rfl ?_
                    refine WL_v (v_move rfl) rfl ?_
                    refine WL_v (v_move rfl) rfl ?_
                    refine WL_addI (A := []) (B := Lf) Tryz.underlying52 Tryz.underlying3 rfl rfl rfl rfl ?_
                    refine WL_nil ?_
                    refine den_exit rfl ?_
                    refine den_blk ?_
                    -- region 21
                    refine den_region rfl ?_
                    refine WL_v (v_addj (n := 1) rfl rfl (by show _ < 9223372036854775808; omega)) rfl ?_
                    refine WL_v (v_move rfl) rfl ?_
                    refine WL_nil ?_
                    refine den_again ⟨rfl, (i + 1), (by show cs.length - (i + 1) < cs.length - i; omega), (sub_cons rfl (sub_cons rfl (sub_cons rfl (sub_cons rfl (sub_cons rfl (sub_cons rfl (sub_cons rfl sub_nil))))))), (by first | exact ⟨by omega, hle12.trans hle16, by rw [ows_yes hi hck, setI_app]; show _ = (b35, Mo (.bool true) (addI _ (own (cs.getD i conz).d))) :: Lf; rw [show own (cs.getD i conz).d = ownV (cs.getD i conz).d from (if_pos hck.2.2.1).symm]; rfl⟩ | exact ⟨by omega, hle12.trans hle2, by rw [ows_no hi (fun g => by first | exact cok_neg (by rw [at_none (by assumption)]; decide) g | (obtain ⟨g1, g2, g3⟩ := (cok_at hat).1 g; simp_all [ownE]; done))]; done⟩ | exact ⟨by omega, hle12.trans hle16, by rw [ows_no hi (fun g => by first | exact cok_neg (by rw [at_none (by assumption)]; decide) g | (obtain ⟨g1, g2, g3⟩ := (cok_at hat).1 g; simp_all [ownE]; done))]; done⟩)⟩
                  · skip
                    refine den_skip ?_
                    refine den_exit rfl ?_
                    refine den_blk ?_
                    -- region 21
                    refine den_region rfl ?_
                    refine WL_v (v_addj (n := 1) rfl rfl (by show _ < 9223372036854775808; omega)) rfl ?_
                    refine WL_v (v_move rfl) rfl ?_
                    refine WL_nil ?_
                    refine den_again ⟨rfl, (i + 1), (by show cs.length - (i + 1) < cs.length - i; omega), (sub_cons rfl (sub_cons rfl (sub_cons rfl (sub_cons rfl (sub_cons rfl (sub_cons rfl (sub_cons rfl sub_nil))))))), (by first | exact ⟨by omega, hle12.trans hle16, by rw [ows_yes hi hck, setI_app]; show _ = (b35, Mo (.bool true) (addI _ (own (cs.getD i conz).d))) :: Lf; rw [show own (cs.getD i conz).d = ownV (cs.getD i conz).d from (if_pos hck.2.2.1).symm]; rfl⟩ | exact ⟨by omega, hle12.trans hle2, by rw [ows_no hi (fun g => by first | exact cok_neg (by rw [at_none (by assumption)]; decide) g | (obtain ⟨g1, g2, g3⟩ := (cok_at hat).1 g; simp_all [ownE]; done))]; done⟩ | exact ⟨by omega, hle12.trans hle16, by rw [ows_no hi (fun g => by first | exact cok_neg (by rw [at_none (by assumption)]; decide) g | (obtain ⟨g1, g2, g3⟩ := (cok_at hat).1 g; simp_all [ownE]; done))]; done⟩)⟩
                · intro c16; try have c16 := of_decide_eq_false c16
                  refine QS_skip (i := 8) (j := 7) (t := 84) (b := false) rfl rfl rfl (by kernel_rfl) (by kernel_rfl) (by kernel_rfl) (rem' := [9, 10, 11, 12, 13, 14]) (by kernel_rfl) rfl ?_
                  refine QS_skip (i := 9) (j := 7) (t := 84) (b := false) rfl rfl rfl (by kernel_rfl) (by kernel_rfl) (by kernel_rfl) (rem' := [10, 11, 12, 13, 14]) (by kernel_rfl) rfl ?_
                  refine QS_skip (i := 10) (j := 7) (t := 84) (b := false) rfl rfl rfl (by kernel_rfl) (by kernel_rfl) (by kernel_rfl) (rem' := [11, 12, 13, 14]) (by kernel_rfl) rfl ?_
                  refine QS_skip (i := 11) (j := 7) (t := 84) (b := false) rfl rfl rfl (by kernel_rfl) (by kernel_rfl) (by kernel_rfl) (rem' := [12, 13, 14]) (by kernel_rfl) rfl ?_
                  refine QS_skip (i := 12) (j := 7) (t := 84) (b := false) rfl rfl rfl (by kernel_rfl) (by kernel_rfl) (by kernel_rfl) (rem' := [13, 14]) (by kernel_rfl) rfl ?_
                  refine QS_skip (i := 13) (j := 7) (t := 84) (b := false) rfl rfl rfl (by kernel_rfl) (by kernel_rfl) (by kernel_rfl) (rem' := [14]) (by kernel_rfl) rfl ?_
                  refine QS_v (i := 14) rfl (v_pickf rfl rfl) (by kernel_rfl) (by kernel_rfl) (by kernel_rfl) (rem' := []) (by kernel_rfl) rfl ?_
                  refine QS_nil ?_
                  refine den_false rfl ?_
                  refine den_skip ?_
                  refine den_exit rfl ?_
                  refine den_blk ?_
                  -- region 21
                  refine den_region rfl ?_
                  refine WL_v (v_addj (n := 1) rfl rfl (by show _ < 9223372036854775808; omega)) rfl ?_
                  refine WL_v (v_move rfl) rfl ?_
                  refine WL_nil ?_
                  refine den_again ⟨rfl, (i + 1), (by show cs.length - (i + 1) < cs.length - i; omega), (sub_cons rfl (sub_cons rfl (sub_cons rfl (sub_cons rfl (sub_cons rfl (sub_cons rfl (sub_cons rfl sub_nil))))))), (by first | exact ⟨by omega, hle12.trans hle16, by rw [ows_yes hi hck, setI_app]; show _ = (b35, Mo (.bool true) (addI _ (own (cs.getD i conz).d))) :: Lf; rw [show own (cs.getD i conz).d = ownV (cs.getD i conz).d from (if_pos hck.2.2.1).symm]; rfl⟩ | exact ⟨by omega, hle12.trans hle2, by rw [ows_no hi (fun g => by first | exact cok_neg (by rw [at_none (by assumption)]; decide) g | (obtain ⟨g1, g2, g3⟩ := (cok_at hat).1 g; simp_all [ownE]; done))]; done⟩ | exact ⟨by omega, hle12.trans hle16, by rw [ows_no hi (fun g => by first | exact cok_neg (by rw [at_none (by assumption)]; decide) g | (obtain ⟨g1, g2, g3⟩ := (cok_at hat).1 g; simp_all [ownE]; done))]; done⟩)⟩
              · intro c14; try have c14 := of_decide_eq_false c14
                refine QS_skip (i := 4) (j := 3) (t := 80) (b := false) rfl rfl rfl (by kernel_rfl) (by kernel_rfl) (by kernel_rfl) (rem' := [5, 6, 7, 8, 9, 10, 11, 12, 13, 14]) (by kernel_rfl) rfl ?_
                refine QS_skip (i := 5) (j := 3) (t := 80) (b := false) rfl rfl rfl (by kernel_rfl) (by kernel_rfl) (by kernel_rfl) (rem' := [6, 7, 8, 9, 10, 11, 12, 13, 14]) (by kernel_rfl) rfl ?_
                refine QS_v (i := 6) rfl (v_pickf rfl rfl) (by kernel_rfl) (by kernel_rfl) (by kernel_rfl) (rem' := [7, 8, 9, 10, 11, 12, 13, 14]) (by kernel_rfl) rfl ?_
                refine QS_v (i := 7) rfl (v_move rfl) (by kernel_rfl) (by kernel_rfl) (by kernel_rfl) (rem' := [8, 9, 10, 11, 12, 13, 14]) (by kernel_rfl) rfl ?_
                refine QS_skip (i := 8) (j := 7) (t := 84) (b := false) rfl rfl rfl (by kernel_rfl) (by kernel_rfl) (by kernel_rfl) (rem' := [9, 10, 11, 12, 13, 14]) (by kernel_rfl) rfl ?_
                refine QS_skip (i := 9) (j := 7) (t := 84) (b := false) rfl rfl rfl (by kernel_rfl) (by kernel_rfl) (by kernel_rfl) (rem' := [10, 11, 12, 13, 14]) (by kernel_rfl) rfl ?_
                refine QS_skip (i := 10) (j := 7) (t := 84) (b := false) rfl rfl rfl (by kernel_rfl) (by kernel_rfl) (by kernel_rfl) (rem' := [11, 12, 13, 14]) (by kernel_rfl) rfl ?_
                refine QS_skip (i := 11) (j := 7) (t := 84) (b := false) rfl rfl rfl (by kernel_rfl) (by kernel_rfl) (by kernel_rfl) (rem' := [12, 13, 14]) (by kernel_rfl) rfl ?_
                refine QS_skip (i := 12) (j := 7) (t := 84) (b := false) rfl rfl rfl (by kernel_rfl) (by kernel_rfl) (by kernel_rfl) (rem' := [13, 14]) (by kernel_rfl) rfl ?_
                refine QS_skip (i := 13) (j := 7) (t := 84) (b := false) rfl rfl rfl (by kernel_rfl) (by kernel_rfl) (by kernel_rfl) (rem' := [14]) (by kernel_rfl) rfl ?_
                refine QS_v (i := 14) rfl (v_pickf rfl rfl) (by kernel_rfl) (by kernel_rfl) (by kernel_rfl) (rem' := []) (by kernel_rfl) rfl ?_
                refine QS_nil ?_
                refine den_false rfl ?_
                refine den_skip ?_
                refine den_exit rfl ?_
                refine den_blk ?_
                -- region 21
                refine den_region rfl ?_
                refine WL_v (v_addj (n := 1) rfl rfl (by show _ < 9223372036854775808; omega)) rfl ?_
                refine WL_v (v_move rfl) rfl ?_
                refine WL_nil ?_
                refine den_again ⟨rfl, (i + 1), (by show cs.length - (i + 1) < cs.length - i; omega), (sub_cons rfl (sub_cons rfl (sub_cons rfl (sub_cons rfl (sub_cons rfl (sub_cons rfl (sub_cons rfl sub_nil))))))), (by first | exact ⟨by omega, hle12.trans hle16, by rw [ows_yes hi hck, setI_app]; show _ = (b35, Mo (.bool true) (addI _ (own (cs.getD i conz).d))) :: Lf; rw [show own (cs.getD i conz).d = ownV (cs.getD i conz).d from (if_pos hck.2.2.1).symm]; rfl⟩ | exact ⟨by omega, hle12.trans hle2, by rw [ows_no hi (fun g => by first | exact cok_neg (by rw [at_none (by assumption)]; decide) g | (obtain ⟨g1, g2, g3⟩ := (cok_at hat).1 g; simp_all [ownE]; done))]; done⟩ | exact ⟨by omega, hle12.trans hle16, by rw [ows_no hi (fun g => by first | exact cok_neg (by rw [at_none (by assumption)]; decide) g | (obtain ⟨g1, g2, g3⟩ := (cok_at hat).1 g; simp_all [ownE]; done))]; done⟩)⟩
          · skip
            have hkl : k = xs.length := by omega
            subst hkl
            refine den_exit rfl ?_
            refine den_blk ?_
            -- region 21
            refine den_region rfl ?_
            refine WL_v (v_addj (n := 1) rfl rfl (by show _ < 9223372036854775808; omega)) rfl ?_
            refine WL_v (v_move rfl) rfl ?_
            refine WL_nil ?_
            refine den_again ⟨rfl, (i + 1), (by show cs.length - (i + 1) < cs.length - i; omega), (sub_cons rfl (sub_cons rfl (sub_cons rfl (sub_cons rfl (sub_cons rfl (sub_cons rfl (sub_cons rfl sub_nil))))))), (by first | exact ⟨by omega, hle12.trans hle16, by rw [ows_yes hi hck, setI_app]; show _ = (b35, Mo (.bool true) (addI _ (own (cs.getD i conz).d))) :: Lf; rw [show own (cs.getD i conz).d = ownV (cs.getD i conz).d from (if_pos hck.2.2.1).symm]; rfl⟩ | exact ⟨by omega, hle12.trans hle2, by rw [ows_no hi (fun g => by first | exact cok_neg (by rw [at_none (by assumption)]; decide) g | (obtain ⟨g1, g2, g3⟩ := (cok_at hat).1 g; simp_all [ownE]; done))]; done⟩ | exact ⟨by omega, hle12.trans hle16, by rw [ows_no hi (fun g => by first | exact cok_neg (by rw [at_none (by assumption)]; decide) g | (obtain ⟨g1, g2, g3⟩ := (cok_at hat).1 g; simp_all [ownE]; done))]; done⟩)⟩
        · skip
          have hil : i = cs.length := by omega
          subst hil
          rw [List.take_length]
          refine den_exit rfl ?_
          refine den_seq ?_
          -- region 22
          refine den_region rfl ?_
          refine WL_v (v_assign rfl) rfl ?_
          refine WL_nil ?_
          refine den_seq ?_
          refine den_seq ?_
          -- region 23
          refine den_region rfl ?_
          refine WL_v (v_faddr Tryz.underlying24 rfl siz4 rfl) rfl ?_
          refine WL_v (v_load1 one4 rfl (Kn.per (hle1 _ _ hb3)) (show (p.cells a b ca cb)[1]? = some (.bool p.two) from rfl)) rfl ?_
          refine WL_nil ?_
          first | refine den_ifd rfl (fun ht => ?_) (fun ht => ?_) | refine den_if rfl (fun ht => ?_) (fun ht => ?_)
          · skip
            -- region 24
            refine den_region rfl ?_
            refine WL_v (v_assign rfl) rfl ?_
            refine WL_nil ?_
            refine den_seq ?_
            -- region 25
            refine den_region rfl ?_
            refine WL_v (v_loadn many24 rfl (Kn.per (hle1 _ _ hb3)) (p.cutS a b ca cb)) rfl ?_
            refine WL_v (v_move rfl) rfl ?_
            refine WL_v (v_loadn many41 rfl (Kn.per (hle1 _ _ hb5)) (cut_self rfl)) rfl ?_
            refine WL_callq rfl (export_fn p a b x y ca cb cx cy xs it cs _ (ha1.le hle1) (hb1.le hle1) (hx1.le hle1) (hy1.le hle1) (hG.le hle1)) rfl ?_
            refine WL_v (v_eql rfl rfl) rfl ?_
            refine WL_v (v_move rfl) rfl ?_
            refine WL_v (v_lenMo Tryz.underlying52 rfl (Kn.own 0 rfl)) rfl ?_
            refine WL_v (v_move rfl) rfl ?_
            refine WL_v (v_geq rfl rfl) rfl ?_
            refine WL_v (OpV.to (v' := .bool true) (v_beql Tryz.underlying4 rfl rfl) (by rw [exact_eq hgood]; first | (rw [if_pos ht]; simp; omega) | (rw [if_neg (by simpa using ht)]; simp; omega))) rfl ?_
            refine WL_v (v_assign rfl) rfl ?_
            refine WL_nil ?_
            refine den_ret ?_
            exact ends1 Tryz.results6 rfl (by first | exact z.trans hle1 | exact z) (by first | exact List.Sublist.refl _ | exact .cons _ (List.Sublist.refl _)) ⟨rfl, rfl⟩
          · skip
            refine den_skip ?_
            refine den_seq ?_
            -- region 25
            refine den_region rfl ?_
            refine WL_v (v_loadn many24 rfl (Kn.per (hle1 _ _ hb3)) (p.cutS a b ca cb)) rfl ?_
            refine WL_v (v_move rfl) rfl ?_
            refine WL_v (v_loadn many41 rfl (Kn.per (hle1 _ _ hb5)) (cut_self rfl)) rfl ?_
            refine WL_callq rfl (export_fn p a b x y ca cb cx cy xs it cs _ (ha1.le hle1) (hb1.le hle1) (hx1.le hle1) (hy1.le hle1) (hG.le hle1)) rfl ?_
            refine WL_v (v_eql rfl rfl) rfl ?_
            refine WL_v (v_move rfl) rfl ?_
            refine WL_v (v_lenMo Tryz.underlying52 rfl (Kn.own 0 rfl)) rfl ?_
            refine WL_v (v_move rfl) rfl ?_
            refine WL_v (v_geq rfl rfl) rfl ?_
            refine WL_v (OpV.to (v' := .bool true) (v_beql Tryz.underlying4 rfl rfl) (by rw [exact_eq hgood]; first | (rw [if_pos ht]; simp; omega) | (rw [if_neg (by simpa using ht)]; simp; omega))) rfl ?_
            refine WL_v (v_assign rfl) rfl ?_
            refine WL_nil ?_
            refine den_ret ?_
            exact ends1 Tryz.results6 rfl (by first | exact z.trans hle1 | exact z) (by first | exact List.Sublist.refl _ | exact .cons _ (List.Sublist.refl _)) ⟨rfl, rfl⟩

end Go.Proofs.Ch
