/- Walks of the program's functions, printed by my own generator (layer P3). -/
import Derived.Test.YtmeakefbepbapaaGreatDoorP2
import Derived.Test.YtmeakefbepbapaaGreatDoorS3
namespace Go.Proofs.Ch
open Go Go.Proofs
set_option maxRecDepth 4000
set_option maxHeartbeats 1000000
theorem one72 : One Tryz.prog 72 := One.of Tryz.underlying72 rfl
theorem siz72 : Siz Tryz.prog 72 1 := by show _ = _; kernel_rfl
theorem siz74 : Siz Tryz.prog 74 8 := by show _ = _; kernel_rfl
theorem many74 : Many Tryz.prog 74 8 := Many.of Tryz.underlying74 rfl siz74
theorem zer33 : Zer Tryz.prog 33 (.int .i64 0) := by show _ = _; kernel_rfl
theorem one65 : One Tryz.prog 65 := One.of Tryz.underlying65 rfl
theorem siz65 : Siz Tryz.prog 65 1 := by show _ = _; kernel_rfl
theorem zer120 : Zer Tryz.prog 120 (.map none) := by show _ = _; kernel_rfl
theorem zer122 : Zer Tryz.prog 122 (.map none) := by show _ = _; kernel_rfl
theorem siz120 : Siz Tryz.prog 120 1 := by show _ = _; kernel_rfl
theorem siz122 : Siz Tryz.prog 122 1 := by show _ = _; kernel_rfl
theorem one43 : One Tryz.prog 43 := One.of Tryz.underlying43 rfl
theorem one120 : One Tryz.prog 120 := One.of Tryz.underlying120 rfl
theorem siz43 : Siz Tryz.prog 43 1 := by show _ = _; kernel_rfl
theorem zer41 : Zer Tryz.prog 41 (.agg ⟨[.int .u8 0, .int .u8 0, .int .u8 0, .int .u8 0, .int .u8 0, .int .u8 0, .int .u8 0, .int .u8 0, .int .u8 0, .int .u8 0, .int .u8 0, .int .u8 0, .int .u8 0, .int .u8 0, .int .u8 0, .int .u8 0, .int .u8 0, .int .u8 0, .int .u8 0, .int .u8 0, .int .u8 0, .int .u8 0, .int .u8 0, .int .u8 0, .int .u8 0, .int .u8 0, .int .u8 0, .int .u8 0, .int .u8 0, .int .u8 0, .int .u8 0, .int .u8 0, .slice none 0 0]⟩) := by show _ = _; kernel_rfl
theorem one104 : One Tryz.prog 104 := One.of Tryz.underlying104 rfl
theorem one61 : One Tryz.prog 61 := One.of Tryz.underlying61 rfl
theorem siz61 : Siz Tryz.prog 61 1 := by show _ = _; kernel_rfl
theorem siz127 : Siz Tryz.prog 127 1 := by show _ = _; kernel_rfl
theorem one127 : One Tryz.prog 127 := One.of Tryz.underlying127 rfl
theorem of_fn (pc : List Value) (h : Heap)  : Fnp Tryz.prog 50 [.agg ⟨recz⟩, .agg ⟨pc⟩] h (fun v h' => ∃ b2 b3, v = .func (.func 98) ⟨[]⟩ ⟨[.pointer (some ⟨b2, 0, none⟩), .pointer (some ⟨b3, 0, none⟩)]⟩ ∧ h' b2 = some (.cells ⟨recz⟩ 74 (0, 0))) := by
  refine Tr_of Tryz.func50 rfl rfl Tryz.ntmps50 rfl [(0, .agg ⟨recz⟩), (1, .agg ⟨pc⟩)] rfl ?_
  intro Lf
  refine den_seq ?_
  -- region 0
  refine den_region rfl ?_
  refine WL_box (zs := recz) rfl rfl rfl fun b2 => ?_
  refine WL_freeze fun h2 hl2 hb2 => ?_
  refine WL_box (zs := pc) rfl rfl rfl fun b3 => ?_
  refine WL_v (v_assign rfl) rfl ?_
  refine WL_nil ?_
  refine den_seq ?_
  -- region 1
  refine den_region rfl ?_
  refine WL_v (v_func rfl rfl) rfl ?_
  refine WL_v (v_assign rfl) rfl ?_
  refine WL_nil ?_
  refine den_ret ?_
  exact ends1 Tryz.results50 rfl hl2 (.cons _ (List.Sublist.refl _)) ⟨⟨b2, b3, rfl, hb2⟩, rfl⟩

theorem of_iter (b2 b3 : Nat) (h : Heap) (hb2 : h b2 = some (.cells ⟨recz⟩ 74 (0, 0))) : Iter Tryz.prog 98 [] [.pointer (some ⟨b2, 0, none⟩), .pointer (some ⟨b3, 0, none⟩)] [] 0 (fun _ _ _ => False) h := by
  intro y Sx X hS hY h0 M0 hle0 hS0
  refine Tr_of Tryz.func98 rfl rfl Tryz.ntmps98 rfl [(0, y), (1, .pointer (some ⟨b2, 0, none⟩)), (2, .pointer (some ⟨b3, 0, none⟩))] rfl ?_
  intro Lf
  have hb2 := hle0 _ _ hb2
  refine den_seq ?_
  -- region 0
  refine den_region rfl ?_
  refine WL_v (v_faddr Tryz.underlying74 rfl siz72 rfl) rfl ?_
  refine WL_v (v_load1 one72 rfl (Kn.per hb2) (show recz[7]? = some (.slice none 0 0) from rfl)) rfl ?_
  refine WL_v (v_lens Tryz.underlying72 rfl) rfl ?_
  refine WL_v (v_move rfl) rfl ?_
  refine WL_nil ?_
  refine den_block ?_
  refine den_loopI (ι := Nat) (fun i => [(8, .int .i64 ((0 : Nat) : Int)), (9, .int .i64 ((i : Nat) : Int))]) (fun i h' L' => i = 0 ∧ h0 = h' ∧ L' = M0 ++ Lf) (fun i => 0) 0 (sub_cons rfl (sub_cons rfl sub_nil)) ⟨rfl, rfl, by rw [List.append_nil]⟩ ?_
  rintro i _ _ ⟨rfl, rfl, rfl⟩
  refine den_seq ?_
  -- region 1
  refine den_region rfl ?_
  refine WL_v (v_lss rfl rfl) rfl ?_
  refine WL_nil ?_
  refine den_seq ?_
  first | refine den_ifd rfl (fun hi => ?_) (fun hi => ?_) | refine den_if rfl (fun hi => ?_) (fun hi => ?_)
  · skip
    omega
  · skip
    refine den_exit rfl ?_
    refine den_nil ?_
    exact ends0 Tryz.results98 (Heap.le.refl _) (List.Sublist.refl _) (.inl hS0)

theorem apartz_fn (p : Pol) (a b : Option Addr) (ca cb : Nat) (h : Heap) (ha : SlI h a p.le) (hb : SlI h b p.ri) : Fn0 Tryz.prog 21 [.agg ⟨recz⟩, .slice none 0 0, .agg ⟨p.cells a b ca cb⟩] h (.int .i64 (polE p)) := by
  refine Tr_of Tryz.func21 rfl rfl Tryz.ntmps21 rfl [(0, .agg ⟨recz⟩), (1, .slice none 0 0), (2, .agg ⟨p.cells a b ca cb⟩)] rfl ?_
  intro Lf
  refine den_seq ?_
  -- region 0
  refine den_region rfl ?_
  refine WL_box (zs := recz) rfl rfl rfl fun b3 => ?_
  refine WL_freeze fun h3 hl3 hb3 => ?_
  refine WL_box rfl rfl rfl fun b4 => ?_
  refine WL_box (zs := p.cells a b ca cb) rfl rfl rfl fun b5 => ?_
  refine WL_freeze fun h5 hl5 hb5 => ?_
  have hb3 := hl5 _ _ hb3
  have ha := ha.le (hl3.trans hl5)
  have hb := hb.le (hl3.trans hl5)
  refine WL_alloc zer33 rfl rfl fun b6 => ?_
  refine WL_nil ?_
  refine den_seq ?_
  refine den_seq ?_
  -- region 1
  refine den_region rfl ?_
  refine WL_v (v_loadn many24 rfl (Kn.per hb5) (p.cutS a b ca cb)) rfl ?_
  refine WL_callq rfl (check_fn _ _ _ _ _ _ ha hb) rfl ?_
  obtain ⟨e, he⟩ : ∃ e, e = polE p := ⟨_, rfl⟩
  rw [← he]
  refine WL_v (v_assign rfl) rfl ?_
  refine WL_nil ?_
  refine den_seq ?_
  -- region 2
  refine den_region rfl ?_
  refine WL_v (v_move rfl) rfl ?_
  refine WL_v (v_neq rfl rfl) rfl ?_
  refine WL_nil ?_
  first | refine den_ifd rfl (fun hq => ?_) (fun hq => ?_) | refine den_if rfl (fun hq => ?_) (fun hq => ?_)
  · skip
    refine den_seq ?_
    -- region 3
    refine den_region rfl ?_
    refine WL_v (v_move rfl) rfl ?_
    refine WL_store0 rfl rfl rfl siz33 rfl rfl rfl ?_
    refine WL_nil ?_
    refine den_ret ?_
    exact endsr1 Tryz.results21 (rv_1 one33 rfl (Kn.own 0 rfl) rfl) (hl3.trans hl5) (.cons _ (.cons _ (List.Sublist.refl _))) ⟨by rw [he], rfl⟩
  · skip
    refine den_skip ?_
    refine den_seq ?_
    -- region 4
    refine den_draw0 [] (by kernel_rfl) (by kernel_rfl) (NoP.fn) (rem := [0, 1, 2, 3, 4, 5, 6, 7, 8, 9]) (by kernel_rfl) ?_
    refine QB_v (i := 0) rfl (v_faddr Tryz.underlying24 rfl siz22 rfl) (by kernel_rfl) (by kernel_rfl) (by kernel_rfl) (rem' := [1, 2, 3, 4, 5, 6, 7, 8, 9]) (by kernel_rfl) rfl ?_
    refine QB_v (i := 1) rfl (v_load1 one22 rfl (Kn.per (by assumption)) (show (p.cells a b ca cb)[2]? = some (.slice a p.le.length ca) from rfl)) (by kernel_rfl) (by kernel_rfl) (by kernel_rfl) (rem' := [2, 3, 4, 5, 6, 7, 8, 9]) (by kernel_rfl) rfl ?_
    refine QB_v (i := 3) rfl (v_faddr Tryz.underlying24 rfl siz22 rfl) (by kernel_rfl) (by kernel_rfl) (by kernel_rfl) (rem' := [2, 4, 5, 6, 7, 8, 9]) (by kernel_rfl) rfl ?_
    refine QB_v (i := 4) rfl (v_load1 one22 rfl (Kn.per (by assumption)) (show (p.cells a b ca cb)[3]? = some (.slice b p.ri.length cb) from rfl)) (by kernel_rfl) (by kernel_rfl) (by kernel_rfl) (rem' := [2, 5, 6, 7, 8, 9]) (by kernel_rfl) rfl ?_
    refine QB_step (is := [2, 6, 7]) rfl (by kernel_rfl) ?_
    refine qall3 ?_ ?_ ?_
    · skip
      refine qb_e rfl rfl (op1_call (L1 := []) rfl rfl (TrV.of0 (setof_fn _ _ _ _ ha))) rfl (rem' := [5, 6, 7, 8, 9]) (by kernel_rfl) ?_
      rintro _ h23 _ ⟨_, rfl, hl23, ⟨bs, rfl, hbs⟩, rfl⟩
      refine ⟨hl23, ?_⟩
      have hb5 := hl23 _ _ hb5
      have hb3 := hl23 _ _ hb3
      refine QB_step (is := [5, 6, 7]) rfl (by kernel_rfl) ?_
      refine qall3 ?_ ?_ ?_
      · skip
        refine qb_e rfl rfl (op1_call (L1 := []) rfl rfl (TrV.of0 (setof_fn _ _ _ _ (hb.le hl23)))) rfl (rem' := [6, 7, 8, 9]) (by kernel_rfl) ?_
        rintro _ h26 _ ⟨_, rfl, hl26, ⟨bt, rfl, hbt⟩, rfl⟩
        refine ⟨hl26, ?_⟩
        have hb5 := hl26 _ _ hb5
        have hb3 := hl26 _ _ hb3
        refine QB_step (is := [6, 7]) rfl (by kernel_rfl) ?_
        refine qall2 ?_ ?_
        · skip
          refine qb_e rfl rfl (o_alloc zer84 rfl) rfl (rem' := [7, 8, 9]) (by kernel_rfl) ?_
          rintro _ _ _ ⟨b8, rfl, rfl, rfl⟩
          refine ⟨Heap.le.refl _, ?_⟩
          refine QB_step (is := [7]) rfl (by kernel_rfl) ?_
          refine qall1 ?_
          refine qb_e rfl rfl (o_alloc zer84 rfl) rfl (rem' := [8, 9]) (by kernel_rfl) ?_
          rintro _ _ _ ⟨b9, rfl, rfl, rfl⟩
          refine ⟨Heap.le.refl _, ?_⟩
          refine QB_step (is := [8]) rfl (by kernel_rfl) ?_
          refine qall1 ?_
          first | refine qb_e rfl rfl (op1_store (A := []) (v := .map (some bs)) (vs := [.map (some bs)]) rfl siz84 rfl rfl rfl rfl) rfl (rem' := [9]) (by kernel_rfl) ?_ | refine qb_e rfl rfl (op1_store (A := [_]) (v := .map (some bs)) (vs := [.map (some bs)]) rfl siz84 rfl rfl rfl rfl) rfl (rem' := [9]) (by kernel_rfl) ?_ | refine qb_e rfl rfl (op1_store (A := [_, _]) (v := .map (some bs)) (vs := [.map (some bs)]) rfl siz84 rfl rfl rfl rfl) rfl (rem' := [9]) (by kernel_rfl) ?_ | refine qb_e rfl rfl (op1_store (A := [_, _, _]) (v := .map (some bs)) (vs := [.map (some bs)]) rfl siz84 rfl rfl rfl rfl) rfl (rem' := [9]) (by kernel_rfl) ?_
          rintro _ _ _ ⟨rfl, rfl, rfl⟩
          refine ⟨Heap.le.refl _, ?_⟩
          refine QB_step (is := [9]) rfl (by kernel_rfl) ?_
          refine qall1 ?_
          first | refine qb_e rfl rfl (op1_store (A := []) (v := .map (some bt)) (vs := [.map (some bt)]) rfl siz84 rfl rfl rfl rfl) rfl (rem' := []) (by kernel_rfl) ?_ | refine qb_e rfl rfl (op1_store (A := [_]) (v := .map (some bt)) (vs := [.map (some bt)]) rfl siz84 rfl rfl rfl rfl) rfl (rem' := []) (by kernel_rfl) ?_ | refine qb_e rfl rfl (op1_store (A := [_, _]) (v := .map (some bt)) (vs := [.map (some bt)]) rfl siz84 rfl rfl rfl rfl) rfl (rem' := []) (by kernel_rfl) ?_ | refine qb_e rfl rfl (op1_store (A := [_, _, _]) (v := .map (some bt)) (vs := [.map (some bt)]) rfl siz84 rfl rfl rfl rfl) rfl (rem' := []) (by kernel_rfl) ?_
          rintro _ _ _ ⟨rfl, rfl, rfl⟩
          refine ⟨Heap.le.refl _, ?_⟩
          refine QB_nil ?_
          refine den_seq ?_
          refine den_seq ?_
          -- region 5
          refine den_region rfl ?_
          refine WL_v (v_loadn many74 rfl (Kn.per hb3) (show cut 0 8 recz = some recz from rfl)) rfl ?_
          refine WL_v (v_loadn many24 rfl (Kn.per hb5) (p.cutS a b ca cb)) rfl ?_
          refine WL_callp rfl (of_fn _ _) rfl fun v29 h29 hl29 hg29 => ?_
          obtain ⟨b20, b30, rfl, hb20⟩ := hg29
          refine WL_nil ?_
          refine den_block ?_
          refine den_each (Lb := []) (Lc := []) (of_iter b20 b30 _ hb20) (fun i h' L' => L' = []) (fun c h' L' => False) rfl rfl (by kernel_rfl) (fun i args hq hx => hx.elim) (fun _ _ _ _ _ x => x) rfl ?_ ?_ ?_
          · intro lp i args hq L1 r1 Lx hi hleq hitem hinv hrec
            exact hitem.elim
          · intro D hd Ld hled hI
            subst hI
            refine den_blk ?_
            refine den_seq ?_
            -- region 21
            refine den_region rfl ?_
            first | refine WL_store0 rfl rfl rfl siz33 rfl rfl rfl ?_ | refine WL_store1 rfl rfl rfl siz33 rfl rfl rfl ?_ | refine WL_store2 rfl rfl rfl siz33 rfl rfl rfl ?_ | refine WL_store3 rfl rfl rfl siz33 rfl rfl rfl ?_ | refine WL_store4 rfl rfl rfl siz33 rfl rfl rfl ?_ | refine WL_store5 rfl rfl rfl siz33 rfl rfl rfl ?_ | refine WL_store6 rfl rfl rfl siz33 rfl rfl rfl ?_ | refine WL_store7 rfl rfl rfl siz33 rfl rfl rfl ?_
            refine WL_nil ?_
            refine den_ret ?_
            refine ends_mark (A := []) ?_
            exact endsr1 Tryz.results21 (rv_1 one33 rfl (by first | exact Kn.own 0 rfl | exact Kn.own 1 rfl | exact Kn.own 2 rfl | exact Kn.own 3 rfl | exact Kn.own 4 rfl | exact Kn.own 5 rfl | exact Kn.own 6 rfl) rfl) (hl3.trans (hl5.trans (hl23.trans (hl26.trans (hl29.trans hled))))) (.cons _ (.cons _ (.cons _ (.cons _ (.cons _ (List.Sublist.refl _)))))) ⟨by first | exact congrArg (Value.int .i64) (by omega) | (rw [← he]; exact congrArg (Value.int .i64) (by omega)), rfl⟩
          · intro D c hd Ld hled hX
            exact hX.elim
        · skip
          refine qb_e rfl rfl (o_alloc zer84 rfl) rfl (rem' := [6, 8, 9]) (by kernel_rfl) ?_
          rintro _ _ _ ⟨b9, rfl, rfl, rfl⟩
          refine ⟨Heap.le.refl _, ?_⟩
          refine QB_step (is := [6]) rfl (by kernel_rfl) ?_
          refine qall1 ?_
          refine qb_e rfl rfl (o_alloc zer84 rfl) rfl (rem' := [8, 9]) (by kernel_rfl) ?_
          rintro _ _ _ ⟨b8, rfl, rfl, rfl⟩
          refine ⟨Heap.le.refl _, ?_⟩
          refine QB_step (is := [8]) rfl (by kernel_rfl) ?_
          refine qall1 ?_
          first | refine qb_e rfl rfl (op1_store (A := []) (v := .map (some bs)) (vs := [.map (some bs)]) rfl siz84 rfl rfl rfl rfl) rfl (rem' := [9]) (by kernel_rfl) ?_ | refine qb_e rfl rfl (op1_store (A := [_]) (v := .map (some bs)) (vs := [.map (some bs)]) rfl siz84 rfl rfl rfl rfl) rfl (rem' := [9]) (by kernel_rfl) ?_ | refine qb_e rfl rfl (op1_store (A := [_, _]) (v := .map (some bs)) (vs := [.map (some bs)]) rfl siz84 rfl rfl rfl rfl) rfl (rem' := [9]) (by kernel_rfl) ?_ | refine qb_e rfl rfl (op1_store (A := [_, _, _]) (v := .map (some bs)) (vs := [.map (some bs)]) rfl siz84 rfl rfl rfl rfl) rfl (rem' := [9]) (by kernel_rfl) ?_
          rintro _ _ _ ⟨rfl, rfl, rfl⟩
          refine ⟨Heap.le.refl _, ?_⟩
          refine QB_step (is := [9]) rfl (by kernel_rfl) ?_
          refine qall1 ?_
          first | refine qb_e rfl rfl (op1_store (A := []) (v := .map (some bt)) (vs := [.map (some bt)]) rfl siz84 rfl rfl rfl rfl) rfl (rem' := []) (by kernel_rfl) ?_ | refine qb_e rfl rfl (op1_store (A := [_]) (v := .map (some bt)) (vs := [.map (some bt)]) rfl siz84 rfl rfl rfl rfl) rfl (rem' := []) (by kernel_rfl) ?_ | refine qb_e rfl rfl (op1_store (A := [_, _]) (v := .map (some bt)) (vs := [.map (some bt)]) rfl siz84 rfl rfl rfl rfl) rfl (rem' := []) (by kernel_rfl) ?_ | refine qb_e rfl rfl (op1_store (A := [_, _, _]) (v := .map (some bt)) (vs := [.map (some bt)]) rfl siz84 rfl rfl rfl rfl) rfl (rem' := []) (by kernel_rfl) ?_
          rintro _ _ _ ⟨rfl, rfl, rfl⟩
          refine ⟨Heap.le.refl _, ?_⟩
          refine QB_nil ?_
          refine den_seq ?_
          refine den_seq ?_
          -- region 5
          refine den_region rfl ?_
          refine WL_v (v_loadn many74 rfl (Kn.per hb3) (show cut 0 8 recz = some recz from rfl)) rfl ?_
          refine WL_v (v_loadn many24 rfl (Kn.per hb5) (p.cutS a b ca cb)) rfl ?_
          refine WL_callp rfl (of_fn _ _) rfl fun v29 h29 hl29 hg29 => ?_
          obtain ⟨b20, b30, rfl, hb20⟩ := hg29
          refine WL_nil ?_
          refine den_block ?_
          refine den_each (Lb := []) (Lc := []) (of_iter b20 b30 _ hb20) (fun i h' L' => L' = []) (fun c h' L' => False) rfl rfl (by kernel_rfl) (fun i args hq hx => hx.elim) (fun _ _ _ _ _ x => x) rfl ?_ ?_ ?_
          · intro lp i args hq L1 r1 Lx hi hleq hitem hinv hrec
            exact hitem.elim
          · intro D hd Ld hled hI
            subst hI
            refine den_blk ?_
            refine den_seq ?_
            -- region 21
            refine den_region rfl ?_
            first | refine WL_store0 rfl rfl rfl siz33 rfl rfl rfl ?_ | refine WL_store1 rfl rfl rfl siz33 rfl rfl rfl ?_ | refine WL_store2 rfl rfl rfl siz33 rfl rfl rfl ?_ | refine WL_store3 rfl rfl rfl siz33 rfl rfl rfl ?_ | refine WL_store4 rfl rfl rfl siz33 rfl rfl rfl ?_ | refine WL_store5 rfl rfl rfl siz33 rfl rfl rfl ?_ | refine WL_store6 rfl rfl rfl siz33 rfl rfl rfl ?_ | refine WL_store7 rfl rfl rfl siz33 rfl rfl rfl ?_
            refine WL_nil ?_
            refine den_ret ?_
            refine ends_mark (A := []) ?_
            exact endsr1 Tryz.results21 (rv_1 one33 rfl (by first | exact Kn.own 0 rfl | exact Kn.own 1 rfl | exact Kn.own 2 rfl | exact Kn.own 3 rfl | exact Kn.own 4 rfl | exact Kn.own 5 rfl | exact Kn.own 6 rfl) rfl) (hl3.trans (hl5.trans (hl23.trans (hl26.trans (hl29.trans hled))))) (.cons _ (.cons _ (.cons _ (.cons _ (.cons _ (List.Sublist.refl _)))))) ⟨by first | exact congrArg (Value.int .i64) (by omega) | (rw [← he]; exact congrArg (Value.int .i64) (by omega)), rfl⟩
          · intro D c hd Ld hled hX
            exact hX.elim
      · skip
        refine qb_e rfl rfl (o_alloc zer84 rfl) rfl (rem' := [5, 7, 8, 9]) (by kernel_rfl) ?_
        rintro _ _ _ ⟨b8, rfl, rfl, rfl⟩
        refine ⟨Heap.le.refl _, ?_⟩
        refine QB_step (is := [5, 7]) rfl (by kernel_rfl) ?_
        refine qall2 ?_ ?_
        · skip
          refine qb_e rfl rfl (op1_call (L1 := []) rfl rfl (TrV.of0 (setof_fn _ _ _ _ (hb.le hl23)))) rfl (rem' := [7, 8, 9]) (by kernel_rfl) ?_
          rintro _ h26 _ ⟨_, rfl, hl26, ⟨bt, rfl, hbt⟩, rfl⟩
          refine ⟨hl26, ?_⟩
          have hb5 := hl26 _ _ hb5
          have hb3 := hl26 _ _ hb3
          refine QB_step (is := [7]) rfl (by kernel_rfl) ?_
          refine qall1 ?_
          refine qb_e rfl rfl (o_alloc zer84 rfl) rfl (rem' := [8, 9]) (by kernel_rfl) ?_
          rintro _ _ _ ⟨b9, rfl, rfl, rfl⟩
          refine ⟨Heap.le.refl _, ?_⟩
          refine QB_step (is := [8]) rfl (by kernel_rfl) ?_
          refine qall1 ?_
          first | refine qb_e rfl rfl (op1_store (A := []) (v := .map (some bs)) (vs := [.map (some bs)]) rfl siz84 rfl rfl rfl rfl) rfl (rem' := [9]) (by kernel_rfl) ?_ | refine qb_e rfl rfl (op1_store (A := [_]) (v := .map (some bs)) (vs := [.map (some bs)]) rfl siz84 rfl rfl rfl rfl) rfl (rem' := [9]) (by kernel_rfl) ?_ | refine qb_e rfl rfl (op1_store (A := [_, _]) (v := .map (some bs)) (vs := [.map (some bs)]) rfl siz84 rfl rfl rfl rfl) rfl (rem' := [9]) (by kernel_rfl) ?_ | refine qb_e rfl rfl (op1_store (A := [_, _, _]) (v := .map (some bs)) (vs := [.map (some bs)]) rfl siz84 rfl rfl rfl rfl) rfl (rem' := [9]) (by kernel_rfl) ?_
          rintro _ _ _ ⟨rfl, rfl, rfl⟩
          refine ⟨Heap.le.refl _, ?_⟩
          refine QB_step (is := [9]) rfl (by kernel_rfl) ?_
          refine qall1 ?_
          first | refine qb_e rfl rfl (op1_store (A := []) (v := .map (some bt)) (vs := [.map (some bt)]) rfl siz84 rfl rfl rfl rfl) rfl (rem' := []) (by kernel_rfl) ?_ | refine qb_e rfl rfl (op1_store (A := [_]) (v := .map (some bt)) (vs := [.map (some bt)]) rfl siz84 rfl rfl rfl rfl) rfl (rem' := []) (by kernel_rfl) ?_ | refine qb_e rfl rfl (op1_store (A := [_, _]) (v := .map (some bt)) (vs := [.map (some bt)]) rfl siz84 rfl rfl rfl rfl) rfl (rem' := []) (by kernel_rfl) ?_ | refine qb_e rfl rfl (op1_store (A := [_, _, _]) (v := .map (some bt)) (vs := [.map (some bt)]) rfl siz84 rfl rfl rfl rfl) rfl (rem' := []) (by kernel_rfl) ?_
          rintro _ _ _ ⟨rfl, rfl, rfl⟩
          refine ⟨Heap.le.refl _, ?_⟩
          refine QB_nil ?_
          refine den_seq ?_
          refine den_seq ?_
          -- region 5
          refine den_region rfl ?_
          refine WL_v (v_loadn many74 rfl (Kn.per hb3) (show cut 0 8 recz = some recz from rfl)) rfl ?_
          refine WL_v (v_loadn many24 rfl (Kn.per hb5) (p.cutS a b ca cb)) rfl ?_
          refine WL_callp rfl (of_fn _ _) rfl fun v29 h29 hl29 hg29 => ?_
          obtain ⟨b20, b30, rfl, hb20⟩ := hg29
          refine WL_nil ?_
          refine den_block ?_
          refine den_each (Lb := []) (Lc := []) (of_iter b20 b30 _ hb20) (fun i h' L' => L' = []) (fun c h' L' => False) rfl rfl (by kernel_rfl) (fun i args hq hx => hx.elim) (fun _ _ _ _ _ x => x) rfl ?_ ?_ ?_
          · intro lp i args hq L1 r1 Lx hi hleq hitem hinv hrec
            exact hitem.elim
          · intro D hd Ld hled hI
            subst hI
            refine den_blk ?_
            refine den_seq ?_
            -- region 21
            refine den_region rfl ?_
            first | refine WL_store0 rfl rfl rfl siz33 rfl rfl rfl ?_ | refine WL_store1 rfl rfl rfl siz33 rfl rfl rfl ?_ | refine WL_store2 rfl rfl rfl siz33 rfl rfl rfl ?_ | refine WL_store3 rfl rfl rfl siz33 rfl rfl rfl ?_ | refine WL_store4 rfl rfl rfl siz33 rfl rfl rfl ?_ | refine WL_store5 rfl rfl rfl siz33 rfl rfl rfl ?_ | refine WL_store6 rfl rfl rfl siz33 rfl rfl rfl ?_ | refine WL_store7 rfl rfl rfl siz33 rfl rfl rfl ?_
            refine WL_nil ?_
            refine den_ret ?_
            refine ends_mark (A := []) ?_
            exact endsr1 Tryz.results21 (rv_1 one33 rfl (by first | exact Kn.own 0 rfl | exact Kn.own 1 rfl | exact Kn.own 2 rfl | exact Kn.own 3 rfl | exact Kn.own 4 rfl | exact Kn.own 5 rfl | exact Kn.own 6 rfl) rfl) (hl3.trans (hl5.trans (hl23.trans (hl26.trans (hl29.trans hled))))) (.cons _ (.cons _ (.cons _ (.cons _ (.cons _ (List.Sublist.refl _)))))) ⟨by first | exact congrArg (Value.int .i64) (by omega) | (rw [← he]; exact congrArg (Value.int .i64) (by omega)), rfl⟩
          · intro D c hd Ld hled hX
            exact hX.elim
        · skip
          refine qb_e rfl rfl (o_alloc zer84 rfl) rfl (rem' := [5, 8, 9]) (by kernel_rfl) ?_
          rintro _ _ _ ⟨b9, rfl, rfl, rfl⟩
          refine ⟨Heap.le.refl _, ?_⟩
          refine QB_step (is := [5]) rfl (by kernel_rfl) ?_
          refine qall1 ?_
          refine qb_e rfl rfl (op1_call (L1 := []) rfl rfl (TrV.of0 (setof_fn _ _ _ _ (hb.le hl23)))) rfl (rem' := [8, 9]) (by kernel_rfl) ?_
          rintro _ h26 _ ⟨_, rfl, hl26, ⟨bt, rfl, hbt⟩, rfl⟩
          refine ⟨hl26, ?_⟩
          have hb5 := hl26 _ _ hb5
          have hb3 := hl26 _ _ hb3
          refine QB_step (is := [8]) rfl (by kernel_rfl) ?_
          refine qall1 ?_
          first | refine qb_e rfl rfl (op1_store (A := []) (v := .map (some bs)) (vs := [.map (some bs)]) rfl siz84 rfl rfl rfl rfl) rfl (rem' := [9]) (by kernel_rfl) ?_ | refine qb_e rfl rfl (op1_store (A := [_]) (v := .map (some bs)) (vs := [.map (some bs)]) rfl siz84 rfl rfl rfl rfl) rfl (rem' := [9]) (by kernel_rfl) ?_ | refine qb_e rfl rfl (op1_store (A := [_, _]) (v := .map (some bs)) (vs := [.map (some bs)]) rfl siz84 rfl rfl rfl rfl) rfl (rem' := [9]) (by kernel_rfl) ?_ | refine qb_e rfl rfl (op1_store (A := [_, _, _]) (v := .map (some bs)) (vs := [.map (some bs)]) rfl siz84 rfl rfl rfl rfl) rfl (rem' := [9]) (by kernel_rfl) ?_
          rintro _ _ _ ⟨rfl, rfl, rfl⟩
          refine ⟨Heap.le.refl _, ?_⟩
          refine QB_step (is := [9]) rfl (by kernel_rfl) ?_
          refine qall1 ?_
          first | refine qb_e rfl rfl (op1_store (A := []) (v := .map (some bt)) (vs := [.map (some bt)]) rfl siz84 rfl rfl rfl rfl) rfl (rem' := []) (by kernel_rfl) ?_ | refine qb_e rfl rfl (op1_store (A := [_]) (v := .map (some bt)) (vs := [.map (some bt)]) rfl siz84 rfl rfl rfl rfl) rfl (rem' := []) (by kernel_rfl) ?_ | refine qb_e rfl rfl (op1_store (A := [_, _]) (v := .map (some bt)) (vs := [.map (some bt)]) rfl siz84 rfl rfl rfl rfl) rfl (rem' := []) (by kernel_rfl) ?_ | refine qb_e rfl rfl (op1_store (A := [_, _, _]) (v := .map (some bt)) (vs := [.map (some bt)]) rfl siz84 rfl rfl rfl rfl) rfl (rem' := []) (by kernel_rfl) ?_
          rintro _ _ _ ⟨rfl, rfl, rfl⟩
          refine ⟨Heap.le.refl _, ?_⟩
          refine QB_nil ?_
          refine den_seq ?_
          refine den_seq ?_
          -- region 5
          refine den_region rfl ?_
          refine WL_v (v_loadn many74 rfl (Kn.per hb3) (show cut 0 8 recz = some recz from rfl)) rfl ?_
          refine WL_v (v_loadn many24 rfl (Kn.per hb5) (p.cutS a b ca cb)) rfl ?_
          refine WL_callp rfl (of_fn _ _) rfl fun v29 h29 hl29 hg29 => ?_
          obtain ⟨b20, b30, rfl, hb20⟩ := hg29
          refine WL_nil ?_
          refine den_block ?_
          refine den_each (Lb := []) (Lc := []) (of_iter b20 b30 _ hb20) (fun i h' L' => L' = []) (fun c h' L' => False) rfl rfl (by kernel_rfl) (fun i args hq hx => hx.elim) (fun _ _ _ _ _ x => x) rfl ?_ ?_ ?_
          · intro lp i args hq L1 r1 Lx hi hleq hitem hinv hrec
            exact hitem.elim
          · intro D hd Ld hled hI
            subst hI
            refine den_blk ?_
            refine den_seq ?_
            -- region 21
            refine den_region rfl ?_
            first | refine WL_store0 rfl rfl rfl siz33 rfl rfl rfl ?_ | refine WL_store1 rfl rfl rfl siz33 rfl rfl rfl ?_ | refine WL_store2 rfl rfl rfl siz33 rfl rfl rfl ?_ | refine WL_store3 rfl rfl rfl siz33 rfl rfl rfl ?_ | refine WL_store4 rfl rfl rfl siz33 rfl rfl rfl ?_ | refine WL_store5 rfl rfl rfl siz33 rfl rfl rfl ?_ | refine WL_store6 rfl rfl rfl siz33 rfl rfl rfl ?_ | refine WL_store7 rfl rfl rfl siz33 rfl rfl rfl ?_
            refine WL_nil ?_
            refine den_ret ?_
            refine ends_mark (A := []) ?_
            exact endsr1 Tryz.results21 (rv_1 one33 rfl (by first | exact Kn.own 0 rfl | exact Kn.own 1 rfl | exact Kn.own 2 rfl | exact Kn.own 3 rfl | exact Kn.own 4 rfl | exact Kn.own 5 rfl | exact Kn.own 6 rfl) rfl) (hl3.trans (hl5.trans (hl23.trans (hl26.trans (hl29.trans hled))))) (.cons _ (.cons _ (.cons _ (.cons _ (.cons _ (List.Sublist.refl _)))))) ⟨by first | exact congrArg (Value.int .i64) (by omega) | (rw [← he]; exact congrArg (Value.int .i64) (by omega)), rfl⟩
          · intro D c hd Ld hled hX
            exact hX.elim
      · skip
        refine qb_e rfl rfl (o_alloc zer84 rfl) rfl (rem' := [5, 6, 8, 9]) (by kernel_rfl) ?_
        rintro _ _ _ ⟨b9, rfl, rfl, rfl⟩
        refine ⟨Heap.le.refl _, ?_⟩
        refine QB_step (is := [5, 6]) rfl (by kernel_rfl) ?_
        refine qall2 ?_ ?_
        · skip
          refine qb_e rfl rfl (op1_call (L1 := []) rfl rfl (TrV.of0 (setof_fn _ _ _ _ (hb.le hl23)))) rfl (rem' := [6, 8, 9]) (by kernel_rfl) ?_
          rintro _ h26 _ ⟨_, rfl, hl26, ⟨bt, rfl, hbt⟩, rfl⟩
          refine ⟨hl26, ?_⟩
          have hb5 := hl26 _ _ hb5
          have hb3 := hl26 _ _ hb3
          refine QB_step (is := [6]) rfl (by kernel_rfl) ?_
          refine qall1 ?_
          refine qb_e rfl rfl (o_alloc zer84 rfl) rfl (rem' := [8, 9]) (by kernel_rfl) ?_
          rintro _ _ _ ⟨b8, rfl, rfl, rfl⟩
          refine ⟨Heap.le.refl _, ?_⟩
          refine QB_step (is := [8]) rfl (by kernel_rfl) ?_
          refine qall1 ?_
          first | refine qb_e rfl rfl (op1_store (A := []) (v := .map (some bs)) (vs := [.map (some bs)]) rfl siz84 rfl rfl rfl rfl) rfl (rem' := [9]) (by kernel_rfl) ?_ | refine qb_e rfl rfl (op1_store (A := [_]) (v := .map (some bs)) (vs := [.map (some bs)]) rfl siz84 rfl rfl rfl rfl) rfl (rem' := [9]) (by kernel_rfl) ?_ | refine qb_e rfl rfl (op1_store (A := [_, _]) (v := .map (some bs)) (vs := [.map (some bs)]) rfl siz84 rfl rfl rfl rfl) rfl (rem' := [9]) (by kernel_rfl) ?_ | refine qb_e rfl rfl (op1_store (A := [_, _, _]) (v := .map (some bs)) (vs := [.map (some bs)]) rfl siz84 rfl rfl rfl rfl) rfl (rem' := [9]) (by kernel_rfl) ?_
          rintro _ _ _ ⟨rfl, rfl, rfl⟩
          refine ⟨Heap.le.refl _, ?_⟩
          refine QB_step (is := [9]) rfl (by kernel_rfl) ?_
          refine qall1 ?_
          first | refine qb_e rfl rfl (op1_store (A := []) (v := .map (some bt)) (vs := [.map (some bt)]) rfl siz84 rfl rfl rfl rfl) rfl (rem' := []) (by kernel_rfl) ?_ | refine qb_e rfl rfl (op1_store (A := [_]) (v := .map (some bt)) (vs := [.map (some bt)]) rfl siz84 rfl rfl rfl rfl) rfl (rem' := []) (by kernel_rfl) ?_ | refine qb_e rfl rfl (op1_store (A := [_, _]) (v := .map (some bt)) (vs := [.map (some bt)]) rfl siz84 rfl rfl rfl rfl) rfl (rem' := []) (by kernel_rfl) ?_ | refine qb_e rfl rfl (op1_store (A := [_, _, _]) (v := .map (some bt)) (vs := [.map (some bt)]) rfl siz84 rfl rfl rfl rfl) rfl (rem' := []) (by kernel_rfl) ?_
          rintro _ _ _ ⟨rfl, rfl, rfl⟩
          refine ⟨Heap.le.refl _, ?_⟩
          refine QB_nil ?_
          refine den_seq ?_
          refine den_seq ?_
          -- region 5
          refine den_region rfl ?_
          refine WL_v (v_loadn many74 rfl (Kn.per hb3) (show cut 0 8 recz = some recz from rfl)) rfl ?_
          refine WL_v (v_loadn many24 rfl (Kn.per hb5) (p.cutS a b ca cb)) rfl ?_
          refine WL_callp rfl (of_fn _ _) rfl fun v29 h29 hl29 hg29 => ?_
          obtain ⟨b20, b30, rfl, hb20⟩ := hg29
          refine WL_nil ?_
          refine den_block ?_
          refine den_each (Lb := []) (Lc := []) (of_iter b20 b30 _ hb20) (fun i h' L' => L' = []) (fun c h' L' => False) rfl rfl (by kernel_rfl) (fun i args hq hx => hx.elim) (fun _ _ _ _ _ x => x) rfl ?_ ?_ ?_
          · intro lp i args hq L1 r1 Lx hi hleq hitem hinv hrec
            exact hitem.elim
          · intro D hd Ld hled hI
            subst hI
            refine den_blk ?_
            refine den_seq ?_
            -- region 21
            refine den_region rfl ?_
            first | refine WL_store0 rfl rfl rfl siz33 rfl rfl rfl ?_ | refine WL_store1 rfl rfl rfl siz33 rfl rfl rfl ?_ | refine WL_store2 rfl rfl rfl siz33 rfl rfl rfl ?_ | refine WL_store3 rfl rfl rfl siz33 rfl rfl rfl ?_ | refine WL_store4 rfl rfl rfl siz33 rfl rfl rfl ?_ | refine WL_store5 rfl rfl rfl siz33 rfl rfl rfl ?_ | refine WL_store6 rfl rfl rfl siz33 rfl rfl rfl ?_ | refine WL_store7 rfl rfl rfl siz33 rfl rfl rfl ?_
            refine WL_nil ?_
            refine den_ret ?_
            refine ends_mark (A := []) ?_
            exact endsr1 Tryz.results21 (rv_1 one33 rfl (by first | exact Kn.own 0 rfl | exact Kn.own 1 rfl | exact Kn.own 2 rfl | exact Kn.own 3 rfl | exact Kn.own 4 rfl | exact Kn.own 5 rfl | exact Kn.own 6 rfl) rfl) (hl3.trans (hl5.trans (hl23.trans (hl26.trans (hl29.trans hled))))) (.cons _ (.cons _ (.cons _ (.cons _ (.cons _ (List.Sublist.refl _)))))) ⟨by first | exact congrArg (Value.int .i64) (by omega) | (rw [← he]; exact congrArg (Value.int .i64) (by omega)), rfl⟩
          · intro D c hd Ld hled hX
            exact hX.elim
        · skip
          refine qb_e rfl rfl (o_alloc zer84 rfl) rfl (rem' := [5, 8, 9]) (by kernel_rfl) ?_
          rintro _ _ _ ⟨b8, rfl, rfl, rfl⟩
          refine ⟨Heap.le.refl _, ?_⟩
          refine QB_step (is := [5]) rfl (by kernel_rfl) ?_
          refine qall1 ?_
          refine qb_e rfl rfl (op1_call (L1 := []) rfl rfl (TrV.of0 (setof_fn _ _ _ _ (hb.le hl23)))) rfl (rem' := [8, 9]) (by kernel_rfl) ?_
          rintro _ h26 _ ⟨_, rfl, hl26, ⟨bt, rfl, hbt⟩, rfl⟩
          refine ⟨hl26, ?_⟩
          have hb5 := hl26 _ _ hb5
          have hb3 := hl26 _ _ hb3
          refine QB_step (is := [8]) rfl (by kernel_rfl) ?_
          refine qall1 ?_
          first | refine qb_e rfl rfl (op1_store (A := []) (v := .map (some bs)) (vs := [.map (some bs)]) rfl siz84 rfl rfl rfl rfl) rfl (rem' := [9]) (by kernel_rfl) ?_ | refine qb_e rfl rfl (op1_store (A := [_]) (v := .map (some bs)) (vs := [.map (some bs)]) rfl siz84 rfl rfl rfl rfl) rfl (rem' := [9]) (by kernel_rfl) ?_ | refine qb_e rfl rfl (op1_store (A := [_, _]) (v := .map (some bs)) (vs := [.map (some bs)]) rfl siz84 rfl rfl rfl rfl) rfl (rem' := [9]) (by kernel_rfl) ?_ | refine qb_e rfl rfl (op1_store (A := [_, _, _]) (v := .map (some bs)) (vs := [.map (some bs)]) rfl siz84 rfl rfl rfl rfl) rfl (rem' := [9]) (by kernel_rfl) ?_
          rintro _ _ _ ⟨rfl, rfl, rfl⟩
          refine ⟨Heap.le.refl _, ?_⟩
          refine QB_step (is := [9]) rfl (by kernel_rfl) ?_
          refine qall1 ?_
          first | refine qb_e rfl rfl (op1_store (A := []) (v := .map (some bt)) (vs := [.map (some bt)]) rfl siz84 rfl rfl rfl rfl) rfl (rem' := []) (by kernel_rfl) ?_ | refine qb_e rfl rfl (op1_store (A := [_]) (v := .map (some bt)) (vs := [.map (some bt)]) rfl siz84 rfl rfl rfl rfl) rfl (rem' := []) (by kernel_rfl) ?_ | refine qb_e rfl rfl (op1_store (A := [_, _]) (v := .map (some bt)) (vs := [.map (some bt)]) rfl siz84 rfl rfl rfl rfl) rfl (rem' := []) (by kernel_rfl) ?_ | refine qb_e rfl rfl (op1_store (A := [_, _, _]) (v := .map (some bt)) (vs := [.map (some bt)]) rfl siz84 rfl rfl rfl rfl) rfl (rem' := []) (by kernel_rfl) ?_
          rintro _ _ _ ⟨rfl, rfl, rfl⟩
          refine ⟨Heap.le.refl _, ?_⟩
          refine QB_nil ?_
          refine den_seq ?_
          refine den_seq ?_
          -- region 5
          refine den_region rfl ?_
          refine WL_v (v_loadn many74 rfl (Kn.per hb3) (show cut 0 8 recz = some recz from rfl)) rfl ?_
          refine WL_v (v_loadn many24 rfl (Kn.per hb5) (p.cutS a b ca cb)) rfl ?_
          refine WL_callp rfl (of_fn _ _) rfl fun v29 h29 hl29 hg29 => ?_
          obtain ⟨b20, b30, rfl, hb20⟩ := hg29
          refine WL_nil ?_
          refine den_block ?_
          refine den_each (Lb := []) (Lc := []) (of_iter b20 b30 _ hb20) (fun i h' L' => L' = []) (fun c h' L' => False) rfl rfl (by kernel_rfl) (fun i args hq hx => hx.elim) (fun _ _ _ _ _ x => x) rfl ?_ ?_ ?_
          · intro lp i args hq L1 r1 Lx hi hleq hitem hinv hrec
            exact hitem.elim
          · intro D hd Ld hled hI
            subst hI
            refine den_blk ?_
            refine den_seq ?_
            -- region 21
            refine den_region rfl ?_
            first | refine WL_store0 rfl rfl rfl siz33 rfl rfl rfl ?_ | refine WL_store1 rfl rfl rfl siz33 rfl rfl rfl ?_ | refine WL_store2 rfl rfl rfl siz33 rfl rfl rfl ?_ | refine WL_store3 rfl rfl rfl siz33 rfl rfl rfl ?_ | refine WL_store4 rfl rfl rfl siz33 rfl rfl rfl ?_ | refine WL_store5 rfl rfl rfl siz33 rfl rfl rfl ?_ | refine WL_store6 rfl rfl rfl siz33 rfl rfl rfl ?_ | refine WL_store7 rfl rfl rfl siz33 rfl rfl rfl ?_
            refine WL_nil ?_
            refine den_ret ?_
            refine ends_mark (A := []) ?_
            exact endsr1 Tryz.results21 (rv_1 one33 rfl (by first | exact Kn.own 0 rfl | exact Kn.own 1 rfl | exact Kn.own 2 rfl | exact Kn.own 3 rfl | exact Kn.own 4 rfl | exact Kn.own 5 rfl | exact Kn.own 6 rfl) rfl) (hl3.trans (hl5.trans (hl23.trans (hl26.trans (hl29.trans hled))))) (.cons _ (.cons _ (.cons _ (.cons _ (.cons _ (List.Sublist.refl _)))))) ⟨by first | exact congrArg (Value.int .i64) (by omega) | (rw [← he]; exact congrArg (Value.int .i64) (by omega)), rfl⟩
          · intro D c hd Ld hled hX
            exact hX.elim
    · skip
      refine qb_e rfl rfl (o_alloc zer84 rfl) rfl (rem' := [2, 5, 7, 8, 9]) (by kernel_rfl) ?_
      rintro _ _ _ ⟨b8, rfl, rfl, rfl⟩
      refine ⟨Heap.le.refl _, ?_⟩
      refine QB_step (is := [2, 7]) rfl (by kernel_rfl) ?_
      refine qall2 ?_ ?_
      · skip
        refine qb_e rfl rfl (op1_call (L1 := []) rfl rfl (TrV.of0 (setof_fn _ _ _ _ ha))) rfl (rem' := [5, 7, 8, 9]) (by kernel_rfl) ?_
        rintro _ h23 _ ⟨_, rfl, hl23, ⟨bs, rfl, hbs⟩, rfl⟩
        refine ⟨hl23, ?_⟩
        have hb5 := hl23 _ _ hb5
        have hb3 := hl23 _ _ hb3
        refine QB_step (is := [5, 7]) rfl (by kernel_rfl) ?_
        refine qall2 ?_ ?_
        · skip
          refine qb_e rfl rfl (op1_call (L1 := []) rfl rfl (TrV.of0 (setof_fn _ _ _ _ (hb.le hl23)))) rfl (rem' := [7, 8, 9]) (by kernel_rfl) ?_
          rintro _ h26 _ ⟨_, rfl, hl26, ⟨bt, rfl, hbt⟩, rfl⟩
          refine ⟨hl26, ?_⟩
          have hb5 := hl26 _ _ hb5
          have hb3 := hl26 _ _ hb3
          refine QB_step (is := [7]) rfl (by kernel_rfl) ?_
          refine qall1 ?_
          refine qb_e rfl rfl (o_alloc zer84 rfl) rfl (rem' := [8, 9]) (by kernel_rfl) ?_
          rintro _ _ _ ⟨b9, rfl, rfl, rfl⟩
          refine ⟨Heap.le.refl _, ?_⟩
          refine QB_step (is := [8]) rfl (by kernel_rfl) ?_
          refine qall1 ?_
          first | refine qb_e rfl rfl (op1_store (A := []) (v := .map (some bs)) (vs := [.map (some bs)]) rfl siz84 rfl rfl rfl rfl) rfl (rem' := [9]) (by kernel_rfl) ?_ | refine qb_e rfl rfl (op1_store (A := [_]) (v := .map (some bs)) (vs := [.map (some bs)]) rfl siz84 rfl rfl rfl rfl) rfl (rem' := [9]) (by kernel_rfl) ?_ | refine qb_e rfl rfl (op1_store (A := [_, _]) (v := .map (some bs)) (vs := [.map (some bs)]) rfl siz84 rfl rfl rfl rfl) rfl (rem' := [9]) (by kernel_rfl) ?_ | refine qb_e rfl rfl (op1_store (A := [_, _, _]) (v := .map (some bs)) (vs := [.map (some bs)]) rfl siz84 rfl rfl rfl rfl) rfl (rem' := [9]) (by kernel_rfl) ?_
          rintro _ _ _ ⟨rfl, rfl, rfl⟩
          refine ⟨Heap.le.refl _, ?_⟩
          refine QB_step (is := [9]) rfl (by kernel_rfl) ?_
          refine qall1 ?_
          first | refine qb_e rfl rfl (op1_store (A := []) (v := .map (some bt)) (vs := [.map (some bt)]) rfl siz84 rfl rfl rfl rfl) rfl (rem' := []) (by kernel_rfl) ?_ | refine qb_e rfl rfl (op1_store (A := [_]) (v := .map (some bt)) (vs := [.map (some bt)]) rfl siz84 rfl rfl rfl rfl) rfl (rem' := []) (by kernel_rfl) ?_ | refine qb_e rfl rfl (op1_store (A := [_, _]) (v := .map (some bt)) (vs := [.map (some bt)]) rfl siz84 rfl rfl rfl rfl) rfl (rem' := []) (by kernel_rfl) ?_ | refine qb_e rfl rfl (op1_store (A := [_, _, _]) (v := .map (some bt)) (vs := [.map (some bt)]) rfl siz84 rfl rfl rfl rfl) rfl (rem' := []) (by kernel_rfl) ?_
          rintro _ _ _ ⟨rfl, rfl, rfl⟩
          refine ⟨Heap.le.refl _, ?_⟩
          refine QB_nil ?_
          refine den_seq ?_
          refine den_seq ?_
          -- region 5
          refine den_region rfl ?_
          refine WL_v (v_loadn many74 rfl (Kn.per hb3) (show cut 0 8 recz = some recz from rfl)) rfl ?_
          refine WL_v (v_loadn many24 rfl (Kn.per hb5) (p.cutS a b ca cb)) rfl ?_
          refine WL_callp rfl (of_fn _ _) rfl fun v29 h29 hl29 hg29 => ?_
          obtain ⟨b20, b30, rfl, hb20⟩ := hg29
          refine WL_nil ?_
          refine den_block ?_
          refine den_each (Lb := []) (Lc := []) (of_iter b20 b30 _ hb20) (fun i h' L' => L' = []) (fun c h' L' => False) rfl rfl (by kernel_rfl) (fun i args hq hx => hx.elim) (fun _ _ _ _ _ x => x) rfl ?_ ?_ ?_
          · intro lp i args hq L1 r1 Lx hi hleq hitem hinv hrec
            exact hitem.elim
          · intro D hd Ld hled hI
            subst hI
            refine den_blk ?_
            refine den_seq ?_
            -- region 21
            refine den_region rfl ?_
            first | refine WL_store0 rfl rfl rfl siz33 rfl rfl rfl ?_ | refine WL_store1 rfl rfl rfl siz33 rfl rfl rfl ?_ | refine WL_store2 rfl rfl rfl siz33 rfl rfl rfl ?_ | refine WL_store3 rfl rfl rfl siz33 rfl rfl rfl ?_ | refine WL_store4 rfl rfl rfl siz33 rfl rfl rfl ?_ | refine WL_store5 rfl rfl rfl siz33 rfl rfl rfl ?_ | refine WL_store6 rfl rfl rfl siz33 rfl rfl rfl ?_ | refine WL_store7 rfl rfl rfl siz33 rfl rfl rfl ?_
            refine WL_nil ?_
            refine den_ret ?_
            refine ends_mark (A := []) ?_
            exact endsr1 Tryz.results21 (rv_1 one33 rfl (by first | exact Kn.own 0 rfl | exact Kn.own 1 rfl | exact Kn.own 2 rfl | exact Kn.own 3 rfl | exact Kn.own 4 rfl | exact Kn.own 5 rfl | exact Kn.own 6 rfl) rfl) (hl3.trans (hl5.trans (hl23.trans (hl26.trans (hl29.trans hled))))) (.cons _ (.cons _ (.cons _ (.cons _ (.cons _ (List.Sublist.refl _)))))) ⟨by first | exact congrArg (Value.int .i64) (by omega) | (rw [← he]; exact congrArg (Value.int .i64) (by omega)), rfl⟩
          · intro D c hd Ld hled hX
            exact hX.elim
        · skip
          refine qb_e rfl rfl (o_alloc zer84 rfl) rfl (rem' := [5, 8, 9]) (by kernel_rfl) ?_
          rintro _ _ _ ⟨b9, rfl, rfl, rfl⟩
          refine ⟨Heap.le.refl _, ?_⟩
          refine QB_step (is := [5]) rfl (by kernel_rfl) ?_
          refine qall1 ?_
          refine qb_e rfl rfl (op1_call (L1 := []) rfl rfl (TrV.of0 (setof_fn _ _ _ _ (hb.le hl23)))) rfl (rem' := [8, 9]) (by kernel_rfl) ?_
          rintro _ h26 _ ⟨_, rfl, hl26, ⟨bt, rfl, hbt⟩, rfl⟩
          refine ⟨hl26, ?_⟩
          have hb5 := hl26 _ _ hb5
          have hb3 := hl26 _ _ hb3
          refine QB_step (is := [8]) rfl (by kernel_rfl) ?_
          refine qall1 ?_
          first | refine qb_e rfl rfl (op1_store (A := []) (v := .map (some bs)) (vs := [.map (some bs)]) rfl siz84 rfl rfl rfl rfl) rfl (rem' := [9]) (by kernel_rfl) ?_ | refine qb_e rfl rfl (op1_store (A := [_]) (v := .map (some bs)) (vs := [.map (some bs)]) rfl siz84 rfl rfl rfl rfl) rfl (rem' := [9]) (by kernel_rfl) ?_ | refine qb_e rfl rfl (op1_store (A := [_, _]) (v := .map (some bs)) (vs := [.map (some bs)]) rfl siz84 rfl rfl rfl rfl) rfl (rem' := [9]) (by kernel_rfl) ?_ | refine qb_e rfl rfl (op1_store (A := [_, _, _]) (v := .map (some bs)) (vs := [.map (some bs)]) rfl siz84 rfl rfl rfl rfl) rfl (rem' := [9]) (by kernel_rfl) ?_
          rintro _ _ _ ⟨rfl, rfl, rfl⟩
          refine ⟨Heap.le.refl _, ?_⟩
          refine QB_step (is := [9]) rfl (by kernel_rfl) ?_
          refine qall1 ?_
          first | refine qb_e rfl rfl (op1_store (A := []) (v := .map (some bt)) (vs := [.map (some bt)]) rfl siz84 rfl rfl rfl rfl) rfl (rem' := []) (by kernel_rfl) ?_ | refine qb_e rfl rfl (op1_store (A := [_]) (v := .map (some bt)) (vs := [.map (some bt)]) rfl siz84 rfl rfl rfl rfl) rfl (rem' := []) (by kernel_rfl) ?_ | refine qb_e rfl rfl (op1_store (A := [_, _]) (v := .map (some bt)) (vs := [.map (some bt)]) rfl siz84 rfl rfl rfl rfl) rfl (rem' := []) (by kernel_rfl) ?_ | refine qb_e rfl rfl (op1_store (A := [_, _, _]) (v := .map (some bt)) (vs := [.map (some bt)]) rfl siz84 rfl rfl rfl rfl) rfl (rem' := []) (by kernel_rfl) ?_
          rintro _ _ _ ⟨rfl, rfl, rfl⟩
          refine ⟨Heap.le.refl _, ?_⟩
          refine QB_nil ?_
          refine den_seq ?_
          refine den_seq ?_
          -- region 5
          refine den_region rfl ?_
          refine WL_v (v_loadn many74 rfl (Kn.per hb3) (show cut 0 8 recz = some recz from rfl)) rfl ?_
          refine WL_v (v_loadn many24 rfl (Kn.per hb5) (p.cutS a b ca cb)) rfl ?_
          refine WL_callp rfl (of_fn _ _) rfl fun v29 h29 hl29 hg29 => ?_
          obtain ⟨b20, b30, rfl, hb20⟩ := hg29
          refine WL_nil ?_
          refine den_block ?_
          refine den_each (Lb := []) (Lc := []) (of_iter b20 b30 _ hb20) (fun i h' L' => L' = []) (fun c h' L' => False) rfl rfl (by kernel_rfl) (fun i args hq hx => hx.elim) (fun _ _ _ _ _ x => x) rfl ?_ ?_ ?_
          · intro lp i args hq L1 r1 Lx hi hleq hitem hinv hrec
            exact hitem.elim
          · intro D hd Ld hled hI
            subst hI
            refine den_blk ?_
            refine den_seq ?_
            -- region 21
            refine den_region rfl ?_
            first | refine WL_store0 rfl rfl rfl siz33 rfl rfl rfl ?_ | refine WL_store1 rfl rfl rfl siz33 rfl rfl rfl ?_ | refine WL_store2 rfl rfl rfl siz33 rfl rfl rfl ?_ | refine WL_store3 rfl rfl rfl siz33 rfl rfl rfl ?_ | refine WL_store4 rfl rfl rfl siz33 rfl rfl rfl ?_ | refine WL_store5 rfl rfl rfl siz33 rfl rfl rfl ?_ | refine WL_store6 rfl rfl rfl siz33 rfl rfl rfl ?_ | refine WL_store7 rfl rfl rfl siz33 rfl rfl rfl ?_
            refine WL_nil ?_
            refine den_ret ?_
            refine ends_mark (A := []) ?_
            exact endsr1 Tryz.results21 (rv_1 one33 rfl (by first | exact Kn.own 0 rfl | exact Kn.own 1 rfl | exact Kn.own 2 rfl | exact Kn.own 3 rfl | exact Kn.own 4 rfl | exact Kn.own 5 rfl | exact Kn.own 6 rfl) rfl) (hl3.trans (hl5.trans (hl23.trans (hl26.trans (hl29.trans hled))))) (.cons _ (.cons _ (.cons _ (.cons _ (.cons _ (List.Sublist.refl _)))))) ⟨by first | exact congrArg (Value.int .i64) (by omega) | (rw [← he]; exact congrArg (Value.int .i64) (by omega)), rfl⟩
          · intro D c hd Ld hled hX
            exact hX.elim
      · skip
        refine qb_e rfl rfl (o_alloc zer84 rfl) rfl (rem' := [2, 5, 8, 9]) (by kernel_rfl) ?_
        rintro _ _ _ ⟨b9, rfl, rfl, rfl⟩
        refine ⟨Heap.le.refl _, ?_⟩
        refine QB_step (is := [2]) rfl (by kernel_rfl) ?_
        refine qall1 ?_
        refine qb_e rfl rfl (op1_call (L1 := []) rfl rfl (TrV.of0 (setof_fn _ _ _ _ ha))) rfl (rem' := [5, 8, 9]) (by kernel_rfl) ?_
        rintro _ h23 _ ⟨_, rfl, hl23, ⟨bs, rfl, hbs⟩, rfl⟩
        refine ⟨hl23, ?_⟩
        have hb5 := hl23 _ _ hb5
        have hb3 := hl23 _ _ hb3
        refine QB_step (is := [5]) rfl (by kernel_rfl) ?_
        refine qall1 ?_
        refine qb_e rfl rfl (op1_call (L1 := []) rfl rfl (TrV.of0 (setof_fn _ _ _ _ (hb.le hl23)))) rfl (rem' := [8, 9]) (by kernel_rfl) ?_
        rintro _ h26 _ ⟨_, rfl, hl26, ⟨bt, rfl, hbt⟩, rfl⟩
        refine ⟨hl26, ?_⟩
        have hb5 := hl26 _ _ hb5
        have hb3 := hl26 _ _ hb3
        refine QB_step (is := [8]) rfl (by kernel_rfl) ?_
        refine qall1 ?_
        first | refine qb_e rfl rfl (op1_store (A := []) (v := .map (some bs)) (vs := [.map (some bs)]) rfl siz84 rfl rfl rfl rfl) rfl (rem' := [9]) (by kernel_rfl) ?_ | refine qb_e rfl rfl (op1_store (A := [_]) (v := .map (some bs)) (vs := [.map (some bs)]) rfl siz84 rfl rfl rfl rfl) rfl (rem' := [9]) (by kernel_rfl) ?_ | refine qb_e rfl rfl (op1_store (A := [_, _]) (v := .map (some bs)) (vs := [.map (some bs)]) rfl siz84 rfl rfl rfl rfl) rfl (rem' := [9]) (by kernel_rfl) ?_ | refine qb_e rfl rfl (op1_store (A := [_, _, _]) (v := .map (some bs)) (vs := [.map (some bs)]) rfl siz84 rfl rfl rfl rfl) rfl (rem' := [9]) (by kernel_rfl) ?_
        rintro _ _ _ ⟨rfl, rfl, rfl⟩
        refine ⟨Heap.le.refl _, ?_⟩
        refine QB_step (is := [9]) rfl (by kernel_rfl) ?_
        refine qall1 ?_
        first | refine qb_e rfl rfl (op1_store (A := []) (v := .map (some bt)) (vs := [.map (some bt)]) rfl siz84 rfl rfl rfl rfl) rfl (rem' := []) (by kernel_rfl) ?_ | refine qb_e rfl rfl (op1_store (A := [_]) (v := .map (some bt)) (vs := [.map (some bt)]) rfl siz84 rfl rfl rfl rfl) rfl (rem' := []) (by kernel_rfl) ?_ | refine qb_e rfl rfl (op1_store (A := [_, _]) (v := .map (some bt)) (vs := [.map (some bt)]) rfl siz84 rfl rfl rfl rfl) rfl (rem' := []) (by kernel_rfl) ?_ | refine qb_e rfl rfl (op1_store (A := [_, _, _]) (v := .map (some bt)) (vs := [.map (some bt)]) rfl siz84 rfl rfl rfl rfl) rfl (rem' := []) (by kernel_rfl) ?_
        rintro _ _ _ ⟨rfl, rfl, rfl⟩
        refine ⟨Heap.le.refl _, ?_⟩
        refine QB_nil ?_
        refine den_seq ?_
        refine den_seq ?_
        -- region 5
        refine den_region rfl ?_
        refine WL_v (v_loadn many74 rfl (Kn.per hb3) (show cut 0 8 recz = some recz from rfl)) rfl ?_
        refine WL_v (v_loadn many24 rfl (Kn.per hb5) (p.cutS a b ca cb)) rfl ?_
        refine WL_callp rfl (of_fn _ _) rfl fun v29 h29 hl29 hg29 => ?_
        obtain ⟨b20, b30, rfl, hb20⟩ := hg29
        refine WL_nil ?_
        refine den_block ?_
        refine den_each (Lb := []) (Lc := []) (of_iter b20 b30 _ hb20) (fun i h' L' => L' = []) (fun c h' L' => False) rfl rfl (by kernel_rfl) (fun i args hq hx => hx.elim) (fun _ _ _ _ _ x => x) rfl ?_ ?_ ?_
        · intro lp i args hq L1 r1 Lx hi hleq hitem hinv hrec
          exact hitem.elim
        · intro D hd Ld hled hI
          subst hI
          refine den_blk ?_
          refine den_seq ?_
          -- region 21
          refine den_region rfl ?_
          first | refine WL_store0 rfl rfl rfl siz33 rfl rfl rfl ?_ | refine WL_store1 rfl rfl rfl siz33 rfl rfl rfl ?_ | refine WL_store2 rfl rfl rfl siz33 rfl rfl rfl ?_ | refine WL_store3 rfl rfl rfl siz33 rfl rfl rfl ?_ | refine WL_store4 rfl rfl rfl siz33 rfl rfl rfl ?_ | refine WL_store5 rfl rfl rfl siz33 rfl rfl rfl ?_ | refine WL_store6 rfl rfl rfl siz33 rfl rfl rfl ?_ | refine WL_store7 rfl rfl rfl siz33 rfl rfl rfl ?_
          refine WL_nil ?_
          refine den_ret ?_
          refine ends_mark (A := []) ?_
          exact endsr1 Tryz.results21 (rv_1 one33 rfl (by first | exact Kn.own 0 rfl | exact Kn.own 1 rfl | exact Kn.own 2 rfl | exact Kn.own 3 rfl | exact Kn.own 4 rfl | exact Kn.own 5 rfl | exact Kn.own 6 rfl) rfl) (hl3.trans (hl5.trans (hl23.trans (hl26.trans (hl29.trans hled))))) (.cons _ (.cons _ (.cons _ (.cons _ (.cons _ (List.Sublist.refl _)))))) ⟨by first | exact congrArg (Value.int .i64) (by omega) | (rw [← he]; exact congrArg (Value.int .i64) (by omega)), rfl⟩
        · intro D c hd Ld hled hX
          exact hX.elim
    · skip
      refine qb_e rfl rfl (o_alloc zer84 rfl) rfl (rem' := [2, 5, 6, 8, 9]) (by kernel_rfl) ?_
      rintro _ _ _ ⟨b9, rfl, rfl, rfl⟩
      refine ⟨Heap.le.refl _, ?_⟩
      refine QB_step (is := [2, 6]) rfl (by kernel_rfl) ?_
      refine qall2 ?_ ?_
      · skip
        refine qb_e rfl rfl (op1_call (L1 := []) rfl rfl (TrV.of0 (setof_fn _ _ _ _ ha))) rfl (rem' := [5, 6, 8, 9]) (by kernel_rfl) ?_
        rintro _ h23 _ ⟨_, rfl, hl23, ⟨bs, rfl, hbs⟩, rfl⟩
        refine ⟨hl23, ?_⟩
        have hb5 := hl23 _ _ hb5
        have hb3 := hl23 _ _ hb3
        refine QB_step (is := [5, 6]) rfl (by kernel_rfl) ?_
        refine qall2 ?_ ?_
        · skip
          refine qb_e rfl rfl (op1_call (L1 := []) rfl rfl (TrV.of0 (setof_fn _ _ _ _ (hb.le hl23)))) rfl (rem' := [6, 8, 9]) (by kernel_rfl) ?_
          rintro _ h26 _ ⟨_, rfl, hl26, ⟨bt, rfl, hbt⟩, rfl⟩
          refine ⟨hl26, ?_⟩
          have hb5 := hl26 _ _ hb5
          have hb3 := hl26 _ _ hb3
          refine QB_step (is := [6]) rfl (by kernel_rfl) ?_
          refine qall1 ?_
          refine qb_e rfl rfl (o_alloc zer84 rfl) rfl (rem' := [8, 9]) (by kernel_rfl) ?_
          rintro _ _ _ ⟨b8, rfl, rfl, rfl⟩
          refine ⟨Heap.le.refl _, ?_⟩
          refine QB_step (is := [8]) rfl (by kernel_rfl) ?_
          refine qall1 ?_
          first | refine qb_e rfl rfl (op1_store (A := []) (v := .map (some bs)) (vs := [.map (some bs)]) rfl siz84 rfl rfl rfl rfl) rfl (rem' := [9]) (by kernel_rfl) ?_ | refine qb_e rfl rfl (op1_store (A := [_]) (v := .map (some bs)) (vs := [.map (some bs)]) rfl siz84 rfl rfl rfl rfl) rfl (rem' := [9]) (by kernel_rfl) ?_ | refine qb_e rfl rfl (op1_store (A := [_, _]) (v := .map (some bs)) (vs := [.map (some bs)]) rfl siz84 rfl rfl rfl rfl) rfl (rem' := [9]) (by kernel_rfl) ?_ | refine qb_e rfl rfl (op1_store (A := [_, _, _]) (v := .map (some bs)) (vs := [.map (some bs)]) rfl siz84 rfl rfl rfl rfl) rfl (rem' := [9]) (by kernel_rfl) ?_
          rintro _ _ _ ⟨rfl, rfl, rfl⟩
          refine ⟨Heap.le.refl _, ?_⟩
          refine QB_step (is := [9]) rfl (by kernel_rfl) ?_
          refine qall1 ?_
          first | refine qb_e rfl rfl (op1_store (A := []) (v := .map (some bt)) (vs := [.map (some bt)]) rfl siz84 rfl rfl rfl rfl) rfl (rem' := []) (by kernel_rfl) ?_ | refine qb_e rfl rfl (op1_store (A := [_]) (v := .map (some bt)) (vs := [.map (some bt)]) rfl siz84 rfl rfl rfl rfl) rfl (rem' := []) (by kernel_rfl) ?_ | refine qb_e rfl rfl (op1_store (A := [_, _]) (v := .map (some bt)) (vs := [.map (some bt)]) rfl siz84 rfl rfl rfl rfl) rfl (rem' := []) (by kernel_rfl) ?_ | refine qb_e rfl rfl (op1_store (A := [_, _, _]) (v := .map (some bt)) (vs := [.map (some bt)]) rfl siz84 rfl rfl rfl rfl) rfl (rem' := []) (by kernel_rfl) ?_
          rintro _ _ _ ⟨rfl, rfl, rfl⟩
          refine ⟨Heap.le.refl _, ?_⟩
          refine QB_nil ?_
          refine den_seq ?_
          refine den_seq ?_
          -- region 5
          refine den_region rfl ?_
          refine WL_v (v_loadn many74 rfl (Kn.per hb3) (show cut 0 8 recz = some recz from rfl)) rfl ?_
          refine WL_v (v_loadn many24 rfl (Kn.per hb5) (p.cutS a b ca cb)) rfl ?_
          refine WL_callp rfl (of_fn _ _) rfl fun v29 h29 hl29 hg29 => ?_
          obtain ⟨b20, b30, rfl, hb20⟩ := hg29
          refine WL_nil ?_
          refine den_block ?_
          refine den_each (Lb := []) (Lc := []) (of_iter b20 b30 _ hb20) (fun i h' L' => L' = []) (fun c h' L' => False) rfl rfl (by kernel_rfl) (fun i args hq hx => hx.elim) (fun _ _ _ _ _ x => x) rfl ?_ ?_ ?_
          · intro lp i args hq L1 r1 Lx hi hleq hitem hinv hrec
            exact hitem.elim
          · intro D hd Ld hled hI
            subst hI
            refine den_blk ?_
            refine den_seq ?_
            -- region 21
            refine den_region rfl ?_
            first | refine WL_store0 rfl rfl rfl siz33 rfl rfl rfl ?_ | refine WL_store1 rfl rfl rfl siz33 rfl rfl rfl ?_ | refine WL_store2 rfl rfl rfl siz33 rfl rfl rfl ?_ | refine WL_store3 rfl rfl rfl siz33 rfl rfl rfl ?_ | refine WL_store4 rfl rfl rfl siz33 rfl rfl rfl ?_ | refine WL_store5 rfl rfl rfl siz33 rfl rfl rfl ?_ | refine WL_store6 rfl rfl rfl siz33 rfl rfl rfl ?_ | refine WL_store7 rfl rfl rfl siz33 rfl rfl rfl ?_
            refine WL_nil ?_
            refine den_ret ?_
            refine ends_mark (A := []) ?_
            exact endsr1 Tryz.results21 (rv_1 one33 rfl (by first | exact Kn.own 0 rfl | exact Kn.own 1 rfl | exact Kn.own 2 rfl | exact Kn.own 3 rfl | exact Kn.own 4 rfl | exact Kn.own 5 rfl | exact Kn.own 6 rfl) rfl) (hl3.trans (hl5.trans (hl23.trans (hl26.trans (hl29.trans hled))))) (.cons _ (.cons _ (.cons _ (.cons _ (.cons _ (List.Sublist.refl _)))))) ⟨by first | exact congrArg (Value.int .i64) (by omega) | (rw [← he]; exact congrArg (Value.int .i64) (by omega)), rfl⟩
          · intro D c hd Ld hled hX
            exact hX.elim
        · skip
          refine qb_e rfl rfl (o_alloc zer84 rfl) rfl (rem' := [5, 8, 9]) (by kernel_rfl) ?_
          rintro _ _ _ ⟨b8, rfl, rfl, rfl⟩
          refine ⟨Heap.le.refl _, ?_⟩
          refine QB_step (is := [5]) rfl (by kernel_rfl) ?_
          refine qall1 ?_
          refine qb_e rfl rfl (op1_call (L1 := []) rfl rfl (TrV.of0 (setof_fn _ _ _ _ (hb.le hl23)))) rfl (rem' := [8, 9]) (by kernel_rfl) ?_
          rintro _ h26 _ ⟨_, rfl, hl26, ⟨bt, rfl, hbt⟩, rfl⟩
          refine ⟨hl26, ?_⟩
          have hb5 := hl26 _ _ hb5
          have hb3 := hl26 _ _ hb3
          refine QB_step (is := [8]) rfl (by kernel_rfl) ?_
          refine qall1 ?_
          first | refine qb_e rfl rfl (op1_store (A := []) (v := .map (some bs)) (vs := [.map (some bs)]) rfl siz84 rfl rfl rfl rfl) rfl (rem' := [9]) (by kernel_rfl) ?_ | refine qb_e rfl rfl (op1_store (A := [_]) (v := .map (some bs)) (vs := [.map (some bs)]) rfl siz84 rfl rfl rfl rfl) rfl (rem' := [9]) (by kernel_rfl) ?_ | refine qb_e rfl rfl (op1_store (A := [_, _]) (v := .map (some bs)) (vs := [.map (some bs)]) rfl siz84 rfl rfl rfl rfl) rfl (rem' := [9]) (by kernel_rfl) ?_ | refine qb_e rfl rfl (op1_store (A := [_, _, _]) (v := .map (some bs)) (vs := [.map (some bs)]) rfl siz84 rfl rfl rfl rfl) rfl (rem' := [9]) (by kernel_rfl) ?_
          rintro _ _ _ ⟨rfl, rfl, rfl⟩
          refine ⟨Heap.le.refl _, ?_⟩
          refine QB_step (is := [9]) rfl (by kernel_rfl) ?_
          refine qall1 ?_
          first | refine qb_e rfl rfl (op1_store (A := []) (v := .map (some bt)) (vs := [.map (some bt)]) rfl siz84 rfl rfl rfl rfl) rfl (rem' := []) (by kernel_rfl) ?_ | refine qb_e rfl rfl (op1_store (A := [_]) (v := .map (some bt)) (vs := [.map (some bt)]) rfl siz84 rfl rfl rfl rfl) rfl (rem' := []) (by kernel_rfl) ?_ | refine qb_e rfl rfl (op1_store (A := [_, _]) (v := .map (some bt)) (vs := [.map (some bt)]) rfl siz84 rfl rfl rfl rfl) rfl (rem' := []) (by kernel_rfl) ?_ | refine qb_e rfl rfl (op1_store (A := [_, _, _]) (v := .map (some bt)) (vs := [.map (some bt)]) rfl siz84 rfl rfl rfl rfl) rfl (rem' := []) (by kernel_rfl) ?_
          rintro _ _ _ ⟨rfl, rfl, rfl⟩
          refine ⟨Heap.le.refl _, ?_⟩
          refine QB_nil ?_
          refine den_seq ?_
          refine den_seq ?_
          -- region 5
          refine den_region rfl ?_
          refine WL_v (v_loadn many74 rfl (Kn.per hb3) (show cut 0 8 recz = some recz from rfl)) rfl ?_
          refine WL_v (v_loadn many24 rfl (Kn.per hb5) (p.cutS a b ca cb)) rfl ?_
          refine WL_callp rfl (of_fn _ _) rfl fun v29 h29 hl29 hg29 => ?_
          obtain ⟨b20, b30, rfl, hb20⟩ := hg29
          refine WL_nil ?_
          refine den_block ?_
          refine den_each (Lb := []) (Lc := []) (of_iter b20 b30 _ hb20) (fun i h' L' => L' = []) (fun c h' L' => False) rfl rfl (by kernel_rfl) (fun i args hq hx => hx.elim) (fun _ _ _ _ _ x => x) rfl ?_ ?_ ?_
          · intro lp i args hq L1 r1 Lx hi hleq hitem hinv hrec
            exact hitem.elim
          · intro D hd Ld hled hI
            subst hI
            refine den_blk ?_
            refine den_seq ?_
            -- region 21
            refine den_region rfl ?_
            first | refine WL_store0 rfl rfl rfl siz33 rfl rfl rfl ?_ | refine WL_store1 rfl rfl rfl siz33 rfl rfl rfl ?_ | refine WL_store2 rfl rfl rfl siz33 rfl rfl rfl ?_ | refine WL_store3 rfl rfl rfl siz33 rfl rfl rfl ?_ | refine WL_store4 rfl rfl rfl siz33 rfl rfl rfl ?_ | refine WL_store5 rfl rfl rfl siz33 rfl rfl rfl ?_ | refine WL_store6 rfl rfl rfl siz33 rfl rfl rfl ?_ | refine WL_store7 rfl rfl rfl siz33 rfl rfl rfl ?_
            refine WL_nil ?_
            refine den_ret ?_
            refine ends_mark (A := []) ?_
            exact endsr1 Tryz.results21 (rv_1 one33 rfl (by first | exact Kn.own 0 rfl | exact Kn.own 1 rfl | exact Kn.own 2 rfl | exact Kn.own 3 rfl | exact Kn.own 4 rfl | exact Kn.own 5 rfl | exact Kn.own 6 rfl) rfl) (hl3.trans (hl5.trans (hl23.trans (hl26.trans (hl29.trans hled))))) (.cons _ (.cons _ (.cons _ (.cons _ (.cons _ (List.Sublist.refl _)))))) ⟨by first | exact congrArg (Value.int .i64) (by omega) | (rw [← he]; exact congrArg (Value.int .i64) (by omega)), rfl⟩
          · intro D c hd Ld hled hX
            exact hX.elim
      · skip
        refine qb_e rfl rfl (o_alloc zer84 rfl) rfl (rem' := [2, 5, 8, 9]) (by kernel_rfl) ?_
        rintro _ _ _ ⟨b8, rfl, rfl, rfl⟩
        refine ⟨Heap.le.refl _, ?_⟩
        refine QB_step (is := [2]) rfl (by kernel_rfl) ?_
        refine qall1 ?_
        refine qb_e rfl rfl (op1_call (L1 := []) rfl rfl (TrV.of0 (setof_fn _ _ _ _ ha))) rfl (rem' := [5, 8, 9]) (by kernel_rfl) ?_
        rintro _ h23 _ ⟨_, rfl, hl23, ⟨bs, rfl, hbs⟩, rfl⟩
        refine ⟨hl23, ?_⟩
        have hb5 := hl23 _ _ hb5
        have hb3 := hl23 _ _ hb3
        refine QB_step (is := [5]) rfl (by kernel_rfl) ?_
        refine qall1 ?_
        refine qb_e rfl rfl (op1_call (L1 := []) rfl rfl (TrV.of0 (setof_fn _ _ _ _ (hb.le hl23)))) rfl (rem' := [8, 9]) (by kernel_rfl) ?_
        rintro _ h26 _ ⟨_, rfl, hl26, ⟨bt, rfl, hbt⟩, rfl⟩
        refine ⟨hl26, ?_⟩
        have hb5 := hl26 _ _ hb5
        have hb3 := hl26 _ _ hb3
        refine QB_step (is := [8]) rfl (by kernel_rfl) ?_
        refine qall1 ?_
        first | refine qb_e rfl rfl (op1_store (A := []) (v := .map (some bs)) (vs := [.map (some bs)]) rfl siz84 rfl rfl rfl rfl) rfl (rem' := [9]) (by kernel_rfl) ?_ | refine qb_e rfl rfl (op1_store (A := [_]) (v := .map (some bs)) (vs := [.map (some bs)]) rfl siz84 rfl rfl rfl rfl) rfl (rem' := [9]) (by kernel_rfl) ?_ | refine qb_e rfl rfl (op1_store (A := [_, _]) (v := .map (some bs)) (vs := [.map (some bs)]) rfl siz84 rfl rfl rfl rfl) rfl (rem' := [9]) (by kernel_rfl) ?_ | refine qb_e rfl rfl (op1_store (A := [_, _, _]) (v := .map (some bs)) (vs := [.map (some bs)]) rfl siz84 rfl rfl rfl rfl) rfl (rem' := [9]) (by kernel_rfl) ?_
        rintro _ _ _ ⟨rfl, rfl, rfl⟩
        refine ⟨Heap.le.refl _, ?_⟩
        refine QB_step (is := [9]) rfl (by kernel_rfl) ?_
        refine qall1 ?_
        first | refine qb_e rfl rfl (op1_store (A := []) (v := .map (some bt)) (vs := [.map (some bt)]) rfl siz84 rfl rfl rfl rfl) rfl (rem' := []) (by kernel_rfl) ?_ | refine qb_e rfl rfl (op1_store (A := [_]) (v := .map (some bt)) (vs := [.map (some bt)]) rfl siz84 rfl rfl rfl rfl) rfl (rem' := []) (by kernel_rfl) ?_ | refine qb_e rfl rfl (op1_store (A := [_, _]) (v := .map (some bt)) (vs := [.map (some bt)]) rfl siz84 rfl rfl rfl rfl) rfl (rem' := []) (by kernel_rfl) ?_ | refine qb_e rfl rfl (op1_store (A := [_, _, _]) (v := .map (some bt)) (vs := [.map (some bt)]) rfl siz84 rfl rfl rfl rfl) rfl (rem' := []) (by kernel_rfl) ?_
        rintro _ _ _ ⟨rfl, rfl, rfl⟩
        refine ⟨Heap.le.refl _, ?_⟩
        refine QB_nil ?_
        refine den_seq ?_
        refine den_seq ?_
        -- region 5
        refine den_region rfl ?_
        refine WL_v (v_loadn many74 rfl (Kn.per hb3) (show cut 0 8 recz = some recz from rfl)) rfl ?_
        refine WL_v (v_loadn many24 rfl (Kn.per hb5) (p.cutS a b ca cb)) rfl ?_
        refine WL_callp rfl (of_fn _ _) rfl fun v29 h29 hl29 hg29 => ?_
        obtain ⟨b20, b30, rfl, hb20⟩ := hg29
        refine WL_nil ?_
        refine den_block ?_
        refine den_each (Lb := []) (Lc := []) (of_iter b20 b30 _ hb20) (fun i h' L' => L' = []) (fun c h' L' => False) rfl rfl (by kernel_rfl) (fun i args hq hx => hx.elim) (fun _ _ _ _ _ x => x) rfl ?_ ?_ ?_
        · intro lp i args hq L1 r1 Lx hi hleq hitem hinv hrec
          exact hitem.elim
        · intro D hd Ld hled hI
          subst hI
          refine den_blk ?_
          refine den_seq ?_
          -- region 21
          refine den_region rfl ?_
          first | refine WL_store0 rfl rfl rfl siz33 rfl rfl rfl ?_ | refine WL_store1 rfl rfl rfl siz33 rfl rfl rfl ?_ | refine WL_store2 rfl rfl rfl siz33 rfl rfl rfl ?_ | refine WL_store3 rfl rfl rfl siz33 rfl rfl rfl ?_ | refine WL_store4 rfl rfl rfl siz33 rfl rfl rfl ?_ | refine WL_store5 rfl rfl rfl siz33 rfl rfl rfl ?_ | refine WL_store6 rfl rfl rfl siz33 rfl rfl rfl ?_ | refine WL_store7 rfl rfl rfl siz33 rfl rfl rfl ?_
          refine WL_nil ?_
          refine den_ret ?_
          refine ends_mark (A := []) ?_
          exact endsr1 Tryz.results21 (rv_1 one33 rfl (by first | exact Kn.own 0 rfl | exact Kn.own 1 rfl | exact Kn.own 2 rfl | exact Kn.own 3 rfl | exact Kn.own 4 rfl | exact Kn.own 5 rfl | exact Kn.own 6 rfl) rfl) (hl3.trans (hl5.trans (hl23.trans (hl26.trans (hl29.trans hled))))) (.cons _ (.cons _ (.cons _ (.cons _ (.cons _ (List.Sublist.refl _)))))) ⟨by first | exact congrArg (Value.int .i64) (by omega) | (rw [← he]; exact congrArg (Value.int .i64) (by omega)), rfl⟩
        · intro D c hd Ld hled hX
          exact hX.elim

theorem setdz_fn (h : Heap) : Fnp Tryz.prog 53 [.slice none 0 0] h (fun v h' => ∃ b, v = .map (some b)) := by
  refine Tr_of Tryz.func53 rfl rfl Tryz.ntmps53 rfl [(0, .slice none 0 0)] rfl ?_
  intro Lf
  refine den_seq ?_
  -- region 0
  refine den_region rfl ?_
  refine WL_v (v_assign rfl) rfl ?_
  refine WL_nil ?_
  refine den_seq ?_
  -- region 1
  refine den_region rfl ?_
  refine WL_makeMap rfl fun b6 => ?_
  refine WL_v (v_assign rfl) rfl ?_
  refine WL_nil ?_
  refine den_seq ?_
  refine den_seq ?_
  -- region 2
  refine den_region rfl ?_
  refine WL_v (v_move rfl) rfl ?_
  refine WL_v (v_lens Tryz.underlying61 rfl) rfl ?_
  refine WL_v (v_move rfl) rfl ?_
  refine WL_nil ?_
  refine den_block ?_
  refine den_loopI (ι := Nat) (fun i => [(3, .map (some b6)), (8, .int .i64 ((0 : Nat) : Int)), (9, .int .i64 ((i : Nat) : Int))]) (fun i h' L' => i = 0 ∧ h = h' ∧ L' = (b6, .map #[] 0) :: Lf) (fun i => 0) 0 (sub_cons rfl (sub_cons rfl (sub_cons rfl sub_nil))) ⟨rfl, rfl, rfl⟩ ?_
  rintro i _ _ ⟨rfl, rfl, rfl⟩
  refine den_seq ?_
  -- region 3
  refine den_region rfl ?_
  refine WL_v (v_lss rfl rfl) rfl ?_
  refine WL_nil ?_
  refine den_seq ?_
  first | refine den_ifd rfl (fun hi => ?_) (fun hi => ?_) | refine den_if rfl (fun hi => ?_) (fun hi => ?_)
  · skip
    omega
  · skip
    refine den_exit rfl ?_
    refine den_seq ?_
    -- region 7
    refine den_region rfl ?_
    refine WL_v (v_move rfl) rfl ?_
    refine WL_v (v_assign rfl) rfl ?_
    refine WL_nil ?_
    refine den_ret ?_
    exact ends1 Tryz.results53 rfl (Heap.le.refl _) (.cons _ (List.Sublist.refl _)) ⟨⟨b6, rfl⟩, rfl⟩

theorem ixf_fn (fv : Value) (h : Heap) : Fn0 Tryz.prog 102 [.slice none 0 0, fv] h (.int .i64 (-1)) := by
  refine Tr_of Tryz.func102 rfl rfl Tryz.ntmps102 rfl [(0, .slice none 0 0), (1, fv)] rfl ?_
  intro Lf
  refine den_seq ?_
  -- region 0
  refine den_region rfl ?_
  refine WL_v (v_assign rfl) rfl ?_
  refine WL_nil ?_
  refine den_seq ?_
  refine den_seq ?_
  -- region 1
  refine den_region rfl ?_
  refine WL_v (v_move rfl) rfl ?_
  refine WL_v (v_lens Tryz.underlying65 rfl) rfl ?_
  refine WL_v (v_move rfl) rfl ?_
  refine WL_nil ?_
  refine den_block ?_
  refine den_loopI (ι := Nat) (fun i => [(7, .int .i64 ((0 : Nat) : Int)), (8, .int .i64 ((i : Nat) : Int))]) (fun i h' L' => i = 0 ∧ h = h' ∧ L' = Lf) (fun i => 0) 0 (sub_cons rfl (sub_cons rfl sub_nil)) ⟨rfl, rfl, rfl⟩ ?_
  rintro i _ _ ⟨rfl, rfl, rfl⟩
  refine den_seq ?_
  -- region 2
  refine den_region rfl ?_
  refine WL_v (v_lss rfl rfl) rfl ?_
  refine WL_nil ?_
  refine den_seq ?_
  first | refine den_ifd rfl (fun hi => ?_) (fun hi => ?_) | refine den_if rfl (fun hi => ?_) (fun hi => ?_)
  · skip
    omega
  · skip
    refine den_exit rfl ?_
    refine den_seq ?_
    -- region 7
    refine den_region rfl ?_
    refine WL_v (v_assign rfl) rfl ?_
    refine WL_nil ?_
    refine den_ret ?_
    exact ends1 Tryz.results102 rfl (Heap.le.refl _) (by simp) ⟨rfl, rfl⟩

theorem agesz_fn (x : Int) (h : Heap) : Fn0 Tryz.prog 54 [.agg ⟨recz⟩, .int .i64 x] h (.map none) := by
  refine Tr_of Tryz.func54 rfl rfl Tryz.ntmps54 rfl [(0, .agg ⟨recz⟩), (1, .int .i64 x)] rfl ?_
  intro Lf
  refine den_seq ?_
  -- region 0
  refine den_region rfl ?_
  refine WL_box (zs := recz) rfl rfl rfl fun b2 => ?_
  refine WL_box rfl rfl rfl fun b3 => ?_
  refine WL_v (v_assign rfl) rfl ?_
  refine WL_nil ?_
  refine den_seq ?_
  -- region 1
  refine den_region rfl ?_
  refine WL_v (v_faddr Tryz.underlying74 rfl siz65 rfl) rfl ?_
  refine WL_v (v_load1 one65 rfl (Kn.own 1 rfl) (show recz[0]? = some (.slice none 0 0) from rfl)) rfl ?_
  refine WL_v (v_func rfl rfl) rfl ?_
  refine WL_callq rfl (ixf_fn _ _) rfl ?_
  refine WL_v (v_assign rfl) rfl ?_
  refine WL_nil ?_
  refine den_seq ?_
  refine den_seq ?_
  -- region 2
  refine den_region rfl ?_
  refine WL_v (v_move rfl) rfl ?_
  refine WL_v (OpV.to (v' := .bool true) (v_lss rfl rfl) (by first | rfl | simp)) rfl ?_
  refine WL_nil ?_
  refine den_true rfl ?_
  refine den_seq ?_
  -- region 3
  refine den_region rfl ?_
  refine WL_v (v_assign rfl) rfl ?_
  refine WL_nil ?_
  refine den_ret ?_
  exact ends1 Tryz.results54 rfl (Heap.le.refl _) (by simp) ⟨rfl, rfl⟩

theorem retainz_fn (p : Pol) (a b : Option Addr) (ca cb : Nat) (h : Heap) (ha : SlI h a p.le) (hb : SlI h b p.ri) : Fn0 Tryz.prog 22 [.agg ⟨recz⟩, .agg ⟨p.cells a b ca cb⟩, .slice none 0 0] h (.int .i64 (polE p)) := by
  refine Tr_of Tryz.func22 rfl rfl Tryz.ntmps22 rfl [(0, .agg ⟨recz⟩), (1, .agg ⟨p.cells a b ca cb⟩), (2, .slice none 0 0)] rfl ?_
  intro Lf
  refine den_seq ?_
  -- region 0
  refine den_region rfl ?_
  refine WL_box (zs := recz) rfl rfl rfl fun b3 => ?_
  refine WL_freeze fun h3 hl3 hb3 => ?_
  refine WL_box (zs := p.cells a b ca cb) rfl rfl rfl fun b4 => ?_
  refine WL_freeze fun h4 hl4 hb4 => ?_
  have hb3 := hl4 _ _ hb3
  have ha := ha.le (hl3.trans hl4)
  have hb := hb.le (hl3.trans hl4)
  refine WL_alloc zer33 rfl rfl fun b6 => ?_
  refine WL_nil ?_
  refine den_seq ?_
  refine den_seq ?_
  -- region 1
  refine den_region rfl ?_
  refine WL_v (v_loadn many24 rfl (Kn.per hb4) (p.cutS a b ca cb)) rfl ?_
  refine WL_callq rfl (check_fn _ _ _ _ _ _ ha hb) rfl ?_
  obtain ⟨e, he⟩ : ∃ e, e = polE p := ⟨_, rfl⟩
  rw [← he]
  refine WL_v (v_assign rfl) rfl ?_
  refine WL_nil ?_
  refine den_seq ?_
  -- region 2
  refine den_region rfl ?_
  refine WL_v (v_move rfl) rfl ?_
  refine WL_v (v_neq rfl rfl) rfl ?_
  refine WL_nil ?_
  first | refine den_ifd rfl (fun hq => ?_) (fun hq => ?_) | refine den_if rfl (fun hq => ?_) (fun hq => ?_)
  · skip
    refine den_seq ?_
    -- region 3
    refine den_region rfl ?_
    refine WL_v (v_move rfl) rfl ?_
    refine WL_store0 rfl rfl rfl siz33 rfl rfl rfl ?_
    refine WL_nil ?_
    refine den_ret ?_
    exact endsr1 Tryz.results22 (rv_1 one33 rfl (Kn.own 0 rfl) rfl) (hl3.trans hl4) (.cons _ (List.Sublist.refl _)) ⟨by rw [he], rfl⟩
  · skip
    refine den_skip ?_
    refine den_seq ?_
    -- region 4
    refine den_draw0 [] (by kernel_rfl) (by kernel_rfl) (NoP.fn) (rem := [0, 1, 2, 3, 4, 5, 6, 7, 8, 9]) (by kernel_rfl) ?_
    refine QB_v (i := 0) rfl (v_move rfl) (by kernel_rfl) (by kernel_rfl) (by kernel_rfl) (rem' := [1, 2, 3, 4, 5, 6, 7, 8, 9]) (by kernel_rfl) rfl ?_
    refine QB_v (i := 2) rfl (v_loadn many74 rfl (Kn.per (by assumption)) (show cut 0 8 recz = some recz from rfl)) (by kernel_rfl) (by kernel_rfl) (by kernel_rfl) (rem' := [1, 3, 4, 5, 6, 7, 8, 9]) (by kernel_rfl) rfl ?_
    refine QB_v (i := 3) rfl (v_faddr Tryz.underlying24 rfl siz3 rfl) (by kernel_rfl) (by kernel_rfl) (by kernel_rfl) (rem' := [1, 4, 5, 6, 7, 8, 9]) (by kernel_rfl) rfl ?_
    refine QB_v (i := 4) rfl (v_load1 one3 rfl (Kn.per (by assumption)) (show (p.cells a b ca cb)[0]? = some (.int .i64 p.fo) from rfl)) (by kernel_rfl) (by kernel_rfl) (by kernel_rfl) (rem' := [1, 5, 6, 7, 8, 9]) (by kernel_rfl) rfl ?_
    refine QB_step (is := [1, 6, 7]) rfl (by kernel_rfl) ?_
    refine qall3 ?_ ?_ ?_
    · skip
      refine qb_e rfl rfl (op1_call (L1 := []) rfl rfl (TrV.of0 (setdz_fn _))) rfl (rem' := [5, 6, 7, 8, 9]) (by kernel_rfl) ?_
      rintro _ h20 _ ⟨_, rfl, hl20, ⟨bs, rfl⟩, rfl⟩
      refine ⟨hl20, ?_⟩
      have hb4 := hl20 _ _ hb4
      have hb3 := hl20 _ _ hb3
      refine QB_step (is := [5, 6, 7]) rfl (by kernel_rfl) ?_
      refine qall3 ?_ ?_ ?_
      · skip
        refine qb_e rfl rfl (op1_call (L1 := []) rfl rfl (TrV.of0 (agesz_fn _ _))) rfl (rem' := [6, 7, 8, 9]) (by kernel_rfl) ?_
        rintro _ h25 _ ⟨_, rfl, hl25, rfl, rfl⟩
        refine ⟨hl25, ?_⟩
        have hb4 := hl25 _ _ hb4
        have hb3 := hl25 _ _ hb3
        refine QB_step (is := [6, 7]) rfl (by kernel_rfl) ?_
        refine qall2 ?_ ?_
        · skip
          refine qb_e rfl rfl (o_alloc zer120 rfl) rfl (rem' := [7, 8, 9]) (by kernel_rfl) ?_
          rintro _ _ _ ⟨b8, rfl, rfl, rfl⟩
          refine ⟨Heap.le.refl _, ?_⟩
          refine QB_step (is := [7]) rfl (by kernel_rfl) ?_
          refine qall1 ?_
          refine qb_e rfl rfl (o_alloc zer122 rfl) rfl (rem' := [8, 9]) (by kernel_rfl) ?_
          rintro _ _ _ ⟨b9, rfl, rfl, rfl⟩
          refine ⟨Heap.le.refl _, ?_⟩
          refine QB_step (is := [8]) rfl (by kernel_rfl) ?_
          refine qall1 ?_
          first | refine qb_e rfl rfl (op1_store (A := []) (v := .map (some bs)) (vs := [.map (some bs)]) rfl siz120 rfl rfl rfl rfl) rfl (rem' := [9]) (by kernel_rfl) ?_ | refine qb_e rfl rfl (op1_store (A := [_]) (v := .map (some bs)) (vs := [.map (some bs)]) rfl siz120 rfl rfl rfl rfl) rfl (rem' := [9]) (by kernel_rfl) ?_ | refine qb_e rfl rfl (op1_store (A := [_, _]) (v := .map (some bs)) (vs := [.map (some bs)]) rfl siz120 rfl rfl rfl rfl) rfl (rem' := [9]) (by kernel_rfl) ?_ | refine qb_e rfl rfl (op1_store (A := [_, _, _]) (v := .map (some bs)) (vs := [.map (some bs)]) rfl siz120 rfl rfl rfl rfl) rfl (rem' := [9]) (by kernel_rfl) ?_
          rintro _ _ _ ⟨rfl, rfl, rfl⟩
          refine ⟨Heap.le.refl _, ?_⟩
          refine QB_step (is := [9]) rfl (by kernel_rfl) ?_
          refine qall1 ?_
          first | refine qb_e rfl rfl (op1_store (A := []) (v := .map none) (vs := [.map none]) rfl siz122 rfl rfl rfl rfl) rfl (rem' := []) (by kernel_rfl) ?_ | refine qb_e rfl rfl (op1_store (A := [_]) (v := .map none) (vs := [.map none]) rfl siz122 rfl rfl rfl rfl) rfl (rem' := []) (by kernel_rfl) ?_ | refine qb_e rfl rfl (op1_store (A := [_, _]) (v := .map none) (vs := [.map none]) rfl siz122 rfl rfl rfl rfl) rfl (rem' := []) (by kernel_rfl) ?_ | refine qb_e rfl rfl (op1_store (A := [_, _, _]) (v := .map none) (vs := [.map none]) rfl siz122 rfl rfl rfl rfl) rfl (rem' := []) (by kernel_rfl) ?_
          rintro _ _ _ ⟨rfl, rfl, rfl⟩
          refine ⟨Heap.le.refl _, ?_⟩
          refine QB_nil ?_
          refine den_seq ?_
          refine den_seq ?_
          -- region 5
          refine den_region rfl ?_
          refine WL_v (v_loadn many74 rfl (Kn.per hb3) (show cut 0 8 recz = some recz from rfl)) rfl ?_
          refine WL_v (v_loadn many24 rfl (Kn.per hb4) (p.cutS a b ca cb)) rfl ?_
          refine WL_callp rfl (of_fn _ _) rfl fun v27 h27 hl27 hg27 => ?_
          obtain ⟨b20, b30, rfl, hb20⟩ := hg27
          refine WL_nil ?_
          refine den_block ?_
          refine den_each (Lb := []) (Lc := []) (of_iter b20 b30 _ hb20) (fun i h' L' => L' = []) (fun c h' L' => False) rfl rfl (by kernel_rfl) (fun i args hq hx => hx.elim) (fun _ _ _ _ _ x => x) rfl ?_ ?_ ?_
          · intro lp i args hq L1 r1 Lx hi hleq hitem hinv hrec
            exact hitem.elim
          · intro D hd Ld hled hI
            subst hI
            refine den_blk ?_
            refine den_seq ?_
            -- region 12
            refine den_region rfl ?_
            first | refine WL_store0 rfl rfl rfl siz33 rfl rfl rfl ?_ | refine WL_store1 rfl rfl rfl siz33 rfl rfl rfl ?_ | refine WL_store2 rfl rfl rfl siz33 rfl rfl rfl ?_ | refine WL_store3 rfl rfl rfl siz33 rfl rfl rfl ?_ | refine WL_store4 rfl rfl rfl siz33 rfl rfl rfl ?_ | refine WL_store5 rfl rfl rfl siz33 rfl rfl rfl ?_ | refine WL_store6 rfl rfl rfl siz33 rfl rfl rfl ?_ | refine WL_store7 rfl rfl rfl siz33 rfl rfl rfl ?_
            refine WL_nil ?_
            refine den_ret ?_
            refine ends_mark (A := []) ?_
            exact endsr1 Tryz.results22 (rv_1 one33 rfl (by first | exact Kn.own 0 rfl | exact Kn.own 1 rfl | exact Kn.own 2 rfl | exact Kn.own 3 rfl | exact Kn.own 4 rfl | exact Kn.own 5 rfl | exact Kn.own 6 rfl) rfl) (hl3.trans (hl4.trans (hl20.trans (hl25.trans (hl27.trans hled))))) (.cons _ (.cons _ (.cons _ (.cons _ (List.Sublist.refl _))))) ⟨by first | exact congrArg (Value.int .i64) (by omega) | (rw [← he]; exact congrArg (Value.int .i64) (by omega)), rfl⟩
          · intro D c hd Ld hled hX
            exact hX.elim
        · skip
          refine qb_e rfl rfl (o_alloc zer122 rfl) rfl (rem' := [6, 8, 9]) (by kernel_rfl) ?_
          rintro _ _ _ ⟨b9, rfl, rfl, rfl⟩
          refine ⟨Heap.le.refl _, ?_⟩
          refine QB_step (is := [6]) rfl (by kernel_rfl) ?_
          refine qall1 ?_
          refine qb_e rfl rfl (o_alloc zer120 rfl) rfl (rem' := [8, 9]) (by kernel_rfl) ?_
          rintro _ _ _ ⟨b8, rfl, rfl, rfl⟩
          refine ⟨Heap.le.refl _, ?_⟩
          refine QB_step (is := [8]) rfl (by kernel_rfl) ?_
          refine qall1 ?_
          first | refine qb_e rfl rfl (op1_store (A := []) (v := .map (some bs)) (vs := [.map (some bs)]) rfl siz120 rfl rfl rfl rfl) rfl (rem' := [9]) (by kernel_rfl) ?_ | refine qb_e rfl rfl (op1_store (A := [_]) (v := .map (some bs)) (vs := [.map (some bs)]) rfl siz120 rfl rfl rfl rfl) rfl (rem' := [9]) (by kernel_rfl) ?_ | refine qb_e rfl rfl (op1_store (A := [_, _]) (v := .map (some bs)) (vs := [.map (some bs)]) rfl siz120 rfl rfl rfl rfl) rfl (rem' := [9]) (by kernel_rfl) ?_ | refine qb_e rfl rfl (op1_store (A := [_, _, _]) (v := .map (some bs)) (vs := [.map (some bs)]) rfl siz120 rfl rfl rfl rfl) rfl (rem' := [9]) (by kernel_rfl) ?_
          rintro _ _ _ ⟨rfl, rfl, rfl⟩
          refine ⟨Heap.le.refl _, ?_⟩
          refine QB_step (is := [9]) rfl (by kernel_rfl) ?_
          refine qall1 ?_
          first | refine qb_e rfl rfl (op1_store (A := []) (v := .map none) (vs := [.map none]) rfl siz122 rfl rfl rfl rfl) rfl (rem' := []) (by kernel_rfl) ?_ | refine qb_e rfl rfl (op1_store (A := [_]) (v := .map none) (vs := [.map none]) rfl siz122 rfl rfl rfl rfl) rfl (rem' := []) (by kernel_rfl) ?_ | refine qb_e rfl rfl (op1_store (A := [_, _]) (v := .map none) (vs := [.map none]) rfl siz122 rfl rfl rfl rfl) rfl (rem' := []) (by kernel_rfl) ?_ | refine qb_e rfl rfl (op1_store (A := [_, _, _]) (v := .map none) (vs := [.map none]) rfl siz122 rfl rfl rfl rfl) rfl (rem' := []) (by kernel_rfl) ?_
          rintro _ _ _ ⟨rfl, rfl, rfl⟩
          refine ⟨Heap.le.refl _, ?_⟩
          refine QB_nil ?_
          refine den_seq ?_
          refine den_seq ?_
          -- region 5
          refine den_region rfl ?_
          refine WL_v (v_loadn many74 rfl (Kn.per hb3) (show cut 0 8 recz = some recz from rfl)) rfl ?_
          refine WL_v (v_loadn many24 rfl (Kn.per hb4) (p.cutS a b ca cb)) rfl ?_
          refine WL_callp rfl (of_fn _ _) rfl fun v27 h27 hl27 hg27 => ?_
          obtain ⟨b20, b30, rfl, hb20⟩ := hg27
          refine WL_nil ?_
          refine den_block ?_
          refine den_each (Lb := []) (Lc := []) (of_iter b20 b30 _ hb20) (fun i h' L' => L' = []) (fun c h' L' => False) rfl rfl (by kernel_rfl) (fun i args hq hx => hx.elim) (fun _ _ _ _ _ x => x) rfl ?_ ?_ ?_
          · intro lp i args hq L1 r1 Lx hi hleq hitem hinv hrec
            exact hitem.elim
          · intro D hd Ld hled hI
            subst hI
            refine den_blk ?_
            refine den_seq ?_
            -- region 12
            refine den_region rfl ?_
            first | refine WL_store0 rfl rfl rfl siz33 rfl rfl rfl ?_ | refine WL_store1 rfl rfl rfl siz33 rfl rfl rfl ?_ | refine WL_store2 rfl rfl rfl siz33 rfl rfl rfl ?_ | refine WL_store3 rfl rfl rfl siz33 rfl rfl rfl ?_ | refine WL_store4 rfl rfl rfl siz33 rfl rfl rfl ?_ | refine WL_store5 rfl rfl rfl siz33 rfl rfl rfl ?_ | refine WL_store6 rfl rfl rfl siz33 rfl rfl rfl ?_ | refine WL_store7 rfl rfl rfl siz33 rfl rfl rfl ?_
            refine WL_nil ?_
            refine den_ret ?_
            refine ends_mark (A := []) ?_
            exact endsr1 Tryz.results22 (rv_1 one33 rfl (by first | exact Kn.own 0 rfl | exact Kn.own 1 rfl | exact Kn.own 2 rfl | exact Kn.own 3 rfl | exact Kn.own 4 rfl | exact Kn.own 5 rfl | exact Kn.own 6 rfl) rfl) (hl3.trans (hl4.trans (hl20.trans (hl25.trans (hl27.trans hled))))) (.cons _ (.cons _ (.cons _ (.cons _ (List.Sublist.refl _))))) ⟨by first | exact congrArg (Value.int .i64) (by omega) | (rw [← he]; exact congrArg (Value.int .i64) (by omega)), rfl⟩
          · intro D c hd Ld hled hX
            exact hX.elim
      · skip
        refine qb_e rfl rfl (o_alloc zer120 rfl) rfl (rem' := [5, 7, 8, 9]) (by kernel_rfl) ?_
        rintro _ _ _ ⟨b8, rfl, rfl, rfl⟩
        refine ⟨Heap.le.refl _, ?_⟩
        refine QB_step (is := [5, 7]) rfl (by kernel_rfl) ?_
        refine qall2 ?_ ?_
        · skip
          refine qb_e rfl rfl (op1_call (L1 := []) rfl rfl (TrV.of0 (agesz_fn _ _))) rfl (rem' := [7, 8, 9]) (by kernel_rfl) ?_
          rintro _ h25 _ ⟨_, rfl, hl25, rfl, rfl⟩
          refine ⟨hl25, ?_⟩
          have hb4 := hl25 _ _ hb4
          have hb3 := hl25 _ _ hb3
          refine QB_step (is := [7]) rfl (by kernel_rfl) ?_
          refine qall1 ?_
          refine qb_e rfl rfl (o_alloc zer122 rfl) rfl (rem' := [8, 9]) (by kernel_rfl) ?_
          rintro _ _ _ ⟨b9, rfl, rfl, rfl⟩
          refine ⟨Heap.le.refl _, ?_⟩
          refine QB_step (is := [8]) rfl (by kernel_rfl) ?_
          refine qall1 ?_
          first | refine qb_e rfl rfl (op1_store (A := []) (v := .map (some bs)) (vs := [.map (some bs)]) rfl siz120 rfl rfl rfl rfl) rfl (rem' := [9]) (by kernel_rfl) ?_ | refine qb_e rfl rfl (op1_store (A := [_]) (v := .map (some bs)) (vs := [.map (some bs)]) rfl siz120 rfl rfl rfl rfl) rfl (rem' := [9]) (by kernel_rfl) ?_ | refine qb_e rfl rfl (op1_store (A := [_, _]) (v := .map (some bs)) (vs := [.map (some bs)]) rfl siz120 rfl rfl rfl rfl) rfl (rem' := [9]) (by kernel_rfl) ?_ | refine qb_e rfl rfl (op1_store (A := [_, _, _]) (v := .map (some bs)) (vs := [.map (some bs)]) rfl siz120 rfl rfl rfl rfl) rfl (rem' := [9]) (by kernel_rfl) ?_
          rintro _ _ _ ⟨rfl, rfl, rfl⟩
          refine ⟨Heap.le.refl _, ?_⟩
          refine QB_step (is := [9]) rfl (by kernel_rfl) ?_
          refine qall1 ?_
          first | refine qb_e rfl rfl (op1_store (A := []) (v := .map none) (vs := [.map none]) rfl siz122 rfl rfl rfl rfl) rfl (rem' := []) (by kernel_rfl) ?_ | refine qb_e rfl rfl (op1_store (A := [_]) (v := .map none) (vs := [.map none]) rfl siz122 rfl rfl rfl rfl) rfl (rem' := []) (by kernel_rfl) ?_ | refine qb_e rfl rfl (op1_store (A := [_, _]) (v := .map none) (vs := [.map none]) rfl siz122 rfl rfl rfl rfl) rfl (rem' := []) (by kernel_rfl) ?_ | refine qb_e rfl rfl (op1_store (A := [_, _, _]) (v := .map none) (vs := [.map none]) rfl siz122 rfl rfl rfl rfl) rfl (rem' := []) (by kernel_rfl) ?_
          rintro _ _ _ ⟨rfl, rfl, rfl⟩
          refine ⟨Heap.le.refl _, ?_⟩
          refine QB_nil ?_
          refine den_seq ?_
          refine den_seq ?_
          -- region 5
          refine den_region rfl ?_
          refine WL_v (v_loadn many74 rfl (Kn.per hb3) (show cut 0 8 recz = some recz from rfl)) rfl ?_
          refine WL_v (v_loadn many24 rfl (Kn.per hb4) (p.cutS a b ca cb)) rfl ?_
          refine WL_callp rfl (of_fn _ _) rfl fun v27 h27 hl27 hg27 => ?_
          obtain ⟨b20, b30, rfl, hb20⟩ := hg27
          refine WL_nil ?_
          refine den_block ?_
          refine den_each (Lb := []) (Lc := []) (of_iter b20 b30 _ hb20) (fun i h' L' => L' = []) (fun c h' L' => False) rfl rfl (by kernel_rfl) (fun i args hq hx => hx.elim) (fun _ _ _ _ _ x => x) rfl ?_ ?_ ?_
          · intro lp i args hq L1 r1 Lx hi hleq hitem hinv hrec
            exact hitem.elim
          · intro D hd Ld hled hI
            subst hI
            refine den_blk ?_
            refine den_seq ?_
            -- region 12
            refine den_region rfl ?_
            first | refine WL_store0 rfl rfl rfl siz33 rfl rfl rfl ?_ | refine WL_store1 rfl rfl rfl siz33 rfl rfl rfl ?_ | refine WL_store2 rfl rfl rfl siz33 rfl rfl rfl ?_ | refine WL_store3 rfl rfl rfl siz33 rfl rfl rfl ?_ | refine WL_store4 rfl rfl rfl siz33 rfl rfl rfl ?_ | refine WL_store5 rfl rfl rfl siz33 rfl rfl rfl ?_ | refine WL_store6 rfl rfl rfl siz33 rfl rfl rfl ?_ | refine WL_store7 rfl rfl rfl siz33 rfl rfl rfl ?_
            refine WL_nil ?_
            refine den_ret ?_
            refine ends_mark (A := []) ?_
            exact endsr1 Tryz.results22 (rv_1 one33 rfl (by first | exact Kn.own 0 rfl | exact Kn.own 1 rfl | exact Kn.own 2 rfl | exact Kn.own 3 rfl | exact Kn.own 4 rfl | exact Kn.own 5 rfl | exact Kn.own 6 rfl) rfl) (hl3.trans (hl4.trans (hl20.trans (hl25.trans (hl27.trans hled))))) (.cons _ (.cons _ (.cons _ (.cons _ (List.Sublist.refl _))))) ⟨by first | exact congrArg (Value.int .i64) (by omega) | (rw [← he]; exact congrArg (Value.int .i64) (by omega)), rfl⟩
          · intro D c hd Ld hled hX
            exact hX.elim
        · skip
          refine qb_e rfl rfl (o_alloc zer122 rfl) rfl (rem' := [5, 8, 9]) (by kernel_rfl) ?_
          rintro _ _ _ ⟨b9, rfl, rfl, rfl⟩
          refine ⟨Heap.le.refl _, ?_⟩
          refine QB_step (is := [5]) rfl (by kernel_rfl) ?_
          refine qall1 ?_
          refine qb_e rfl rfl (op1_call (L1 := []) rfl rfl (TrV.of0 (agesz_fn _ _))) rfl (rem' := [8, 9]) (by kernel_rfl) ?_
          rintro _ h25 _ ⟨_, rfl, hl25, rfl, rfl⟩
          refine ⟨hl25, ?_⟩
          have hb4 := hl25 _ _ hb4
          have hb3 := hl25 _ _ hb3
          refine QB_step (is := [8]) rfl (by kernel_rfl) ?_
          refine qall1 ?_
          first | refine qb_e rfl rfl (op1_store (A := []) (v := .map (some bs)) (vs := [.map (some bs)]) rfl siz120 rfl rfl rfl rfl) rfl (rem' := [9]) (by kernel_rfl) ?_ | refine qb_e rfl rfl (op1_store (A := [_]) (v := .map (some bs)) (vs := [.map (some bs)]) rfl siz120 rfl rfl rfl rfl) rfl (rem' := [9]) (by kernel_rfl) ?_ | refine qb_e rfl rfl (op1_store (A := [_, _]) (v := .map (some bs)) (vs := [.map (some bs)]) rfl siz120 rfl rfl rfl rfl) rfl (rem' := [9]) (by kernel_rfl) ?_ | refine qb_e rfl rfl (op1_store (A := [_, _, _]) (v := .map (some bs)) (vs := [.map (some bs)]) rfl siz120 rfl rfl rfl rfl) rfl (rem' := [9]) (by kernel_rfl) ?_
          rintro _ _ _ ⟨rfl, rfl, rfl⟩
          refine ⟨Heap.le.refl _, ?_⟩
          refine QB_step (is := [9]) rfl (by kernel_rfl) ?_
          refine qall1 ?_
          first | refine qb_e rfl rfl (op1_store (A := []) (v := .map none) (vs := [.map none]) rfl siz122 rfl rfl rfl rfl) rfl (rem' := []) (by kernel_rfl) ?_ | refine qb_e rfl rfl (op1_store (A := [_]) (v := .map none) (vs := [.map none]) rfl siz122 rfl rfl rfl rfl) rfl (rem' := []) (by kernel_rfl) ?_ | refine qb_e rfl rfl (op1_store (A := [_, _]) (v := .map none) (vs := [.map none]) rfl siz122 rfl rfl rfl rfl) rfl (rem' := []) (by kernel_rfl) ?_ | refine qb_e rfl rfl (op1_store (A := [_, _, _]) (v := .map none) (vs := [.map none]) rfl siz122 rfl rfl rfl rfl) rfl (rem' := []) (by kernel_rfl) ?_
          rintro _ _ _ ⟨rfl, rfl, rfl⟩
          refine ⟨Heap.le.refl _, ?_⟩
          refine QB_nil ?_
          refine den_seq ?_
          refine den_seq ?_
          -- region 5
          refine den_region rfl ?_
          refine WL_v (v_loadn many74 rfl (Kn.per hb3) (show cut 0 8 recz = some recz from rfl)) rfl ?_
          refine WL_v (v_loadn many24 rfl (Kn.per hb4) (p.cutS a b ca cb)) rfl ?_
          refine WL_callp rfl (of_fn _ _) rfl fun v27 h27 hl27 hg27 => ?_
          obtain ⟨b20, b30, rfl, hb20⟩ := hg27
          refine WL_nil ?_
          refine den_block ?_
          refine den_each (Lb := []) (Lc := []) (of_iter b20 b30 _ hb20) (fun i h' L' => L' = []) (fun c h' L' => False) rfl rfl (by kernel_rfl) (fun i args hq hx => hx.elim) (fun _ _ _ _ _ x => x) rfl ?_ ?_ ?_
          · intro lp i args hq L1 r1 Lx hi hleq hitem hinv hrec
            exact hitem.elim
          · intro D hd Ld hled hI
            subst hI
            refine den_blk ?_
            refine den_seq ?_
            -- region 12
            refine den_region rfl ?_
            first | refine WL_store0 rfl rfl rfl siz33 rfl rfl rfl ?_ | refine WL_store1 rfl rfl rfl siz33 rfl rfl rfl ?_ | refine WL_store2 rfl rfl rfl siz33 rfl rfl rfl ?_ | refine WL_store3 rfl rfl rfl siz33 rfl rfl rfl ?_ | refine WL_store4 rfl rfl rfl siz33 rfl rfl rfl ?_ | refine WL_store5 rfl rfl rfl siz33 rfl rfl rfl ?_ | refine WL_store6 rfl rfl rfl siz33 rfl rfl rfl ?_ | refine WL_store7 rfl rfl rfl siz33 rfl rfl rfl ?_
            refine WL_nil ?_
            refine den_ret ?_
            refine ends_mark (A := []) ?_
            exact endsr1 Tryz.results22 (rv_1 one33 rfl (by first | exact Kn.own 0 rfl | exact Kn.own 1 rfl | exact Kn.own 2 rfl | exact Kn.own 3 rfl | exact Kn.own 4 rfl | exact Kn.own 5 rfl | exact Kn.own 6 rfl) rfl) (hl3.trans (hl4.trans (hl20.trans (hl25.trans (hl27.trans hled))))) (.cons _ (.cons _ (.cons _ (.cons _ (List.Sublist.refl _))))) ⟨by first | exact congrArg (Value.int .i64) (by omega) | (rw [← he]; exact congrArg (Value.int .i64) (by omega)), rfl⟩
          · intro D c hd Ld hled hX
            exact hX.elim
      · skip
        refine qb_e rfl rfl (o_alloc zer122 rfl) rfl (rem' := [5, 6, 8, 9]) (by kernel_rfl) ?_
        rintro _ _ _ ⟨b9, rfl, rfl, rfl⟩
        refine ⟨Heap.le.refl _, ?_⟩
        refine QB_step (is := [5, 6]) rfl (by kernel_rfl) ?_
        refine qall2 ?_ ?_
        · skip
          refine qb_e rfl rfl (op1_call (L1 := []) rfl rfl (TrV.of0 (agesz_fn _ _))) rfl (rem' := [6, 8, 9]) (by kernel_rfl) ?_
          rintro _ h25 _ ⟨_, rfl, hl25, rfl, rfl⟩
          refine ⟨hl25, ?_⟩
          have hb4 := hl25 _ _ hb4
          have hb3 := hl25 _ _ hb3
          refine QB_step (is := [6]) rfl (by kernel_rfl) ?_
          refine qall1 ?_
          refine qb_e rfl rfl (o_alloc zer120 rfl) rfl (rem' := [8, 9]) (by kernel_rfl) ?_
          rintro _ _ _ ⟨b8, rfl, rfl, rfl⟩
          refine ⟨Heap.le.refl _, ?_⟩
          refine QB_step (is := [8]) rfl (by kernel_rfl) ?_
          refine qall1 ?_
          first | refine qb_e rfl rfl (op1_store (A := []) (v := .map (some bs)) (vs := [.map (some bs)]) rfl siz120 rfl rfl rfl rfl) rfl (rem' := [9]) (by kernel_rfl) ?_ | refine qb_e rfl rfl (op1_store (A := [_]) (v := .map (some bs)) (vs := [.map (some bs)]) rfl siz120 rfl rfl rfl rfl) rfl (rem' := [9]) (by kernel_rfl) ?_ | refine qb_e rfl rfl (op1_store (A := [_, _]) (v := .map (some bs)) (vs := [.map (some bs)]) rfl siz120 rfl rfl rfl rfl) rfl (rem' := [9]) (by kernel_rfl) ?_ | refine qb_e rfl rfl (op1_store (A := [_, _, _]) (v := .map (some bs)) (vs := [.map (some bs)]) rfl siz120 rfl rfl rfl rfl) rfl (rem' := [9]) (by kernel_rfl) ?_
          rintro _ _ _ ⟨rfl, rfl, rfl⟩
          refine ⟨Heap.le.refl _, ?_⟩
          refine QB_step (is := [9]) rfl (by kernel_rfl) ?_
          refine qall1 ?_
          first | refine qb_e rfl rfl (op1_store (A := []) (v := .map none) (vs := [.map none]) rfl siz122 rfl rfl rfl rfl) rfl (rem' := []) (by kernel_rfl) ?_ | refine qb_e rfl rfl (op1_store (A := [_]) (v := .map none) (vs := [.map none]) rfl siz122 rfl rfl rfl rfl) rfl (rem' := []) (by kernel_rfl) ?_ | refine qb_e rfl rfl (op1_store (A := [_, _]) (v := .map none) (vs := [.map none]) rfl siz122 rfl rfl rfl rfl) rfl (rem' := []) (by kernel_rfl) ?_ | refine qb_e rfl rfl (op1_store (A := [_, _, _]) (v := .map none) (vs := [.map none]) rfl siz122 rfl rfl rfl rfl) rfl (rem' := []) (by kernel_rfl) ?_
          rintro _ _ _ ⟨rfl, rfl, rfl⟩
          refine ⟨Heap.le.refl _, ?_⟩
          refine QB_nil ?_
          refine den_seq ?_
          refine den_seq ?_
          -- region 5
          refine den_region rfl ?_
          refine WL_v (v_loadn many74 rfl (Kn.per hb3) (show cut 0 8 recz = some recz from rfl)) rfl ?_
          refine WL_v (v_loadn many24 rfl (Kn.per hb4) (p.cutS a b ca cb)) rfl ?_
          refine WL_callp rfl (of_fn _ _) rfl fun v27 h27 hl27 hg27 => ?_
          obtain ⟨b20, b30, rfl, hb20⟩ := hg27
          refine WL_nil ?_
          refine den_block ?_
          refine den_each (Lb := []) (Lc := []) (of_iter b20 b30 _ hb20) (fun i h' L' => L' = []) (fun c h' L' => False) rfl rfl (by kernel_rfl) (fun i args hq hx => hx.elim) (fun _ _ _ _ _ x => x) rfl ?_ ?_ ?_
          · intro lp i args hq L1 r1 Lx hi hleq hitem hinv hrec
            exact hitem.elim
          · intro D hd Ld hled hI
            subst hI
            refine den_blk ?_
            refine den_seq ?_
            -- region 12
            refine den_region rfl ?_
            first | refine WL_store0 rfl rfl rfl siz33 rfl rfl rfl ?_ | refine WL_store1 rfl rfl rfl siz33 rfl rfl rfl ?_ | refine WL_store2 rfl rfl rfl siz33 rfl rfl rfl ?_ | refine WL_store3 rfl rfl rfl siz33 rfl rfl rfl ?_ | refine WL_store4 rfl rfl rfl siz33 rfl rfl rfl ?_ | refine WL_store5 rfl rfl rfl siz33 rfl rfl rfl ?_ | refine WL_store6 rfl rfl rfl siz33 rfl rfl rfl ?_ | refine WL_store7 rfl rfl rfl siz33 rfl rfl rfl ?_
            refine WL_nil ?_
            refine den_ret ?_
            refine ends_mark (A := []) ?_
            exact endsr1 Tryz.results22 (rv_1 one33 rfl (by first | exact Kn.own 0 rfl | exact Kn.own 1 rfl | exact Kn.own 2 rfl | exact Kn.own 3 rfl | exact Kn.own 4 rfl | exact Kn.own 5 rfl | exact Kn.own 6 rfl) rfl) (hl3.trans (hl4.trans (hl20.trans (hl25.trans (hl27.trans hled))))) (.cons _ (.cons _ (.cons _ (.cons _ (List.Sublist.refl _))))) ⟨by first | exact congrArg (Value.int .i64) (by omega) | (rw [← he]; exact congrArg (Value.int .i64) (by omega)), rfl⟩
          · intro D c hd Ld hled hX
            exact hX.elim
        · skip
          refine qb_e rfl rfl (o_alloc zer120 rfl) rfl (rem' := [5, 8, 9]) (by kernel_rfl) ?_
          rintro _ _ _ ⟨b8, rfl, rfl, rfl⟩
          refine ⟨Heap.le.refl _, ?_⟩
          refine QB_step (is := [5]) rfl (by kernel_rfl) ?_
          refine qall1 ?_
          refine qb_e rfl rfl (op1_call (L1 := []) rfl rfl (TrV.of0 (agesz_fn _ _))) rfl (rem' := [8, 9]) (by kernel_rfl) ?_
          rintro _ h25 _ ⟨_, rfl, hl25, rfl, rfl⟩
          refine ⟨hl25, ?_⟩
          have hb4 := hl25 _ _ hb4
          have hb3 := hl25 _ _ hb3
          refine QB_step (is := [8]) rfl (by kernel_rfl) ?_
          refine qall1 ?_
          first | refine qb_e rfl rfl (op1_store (A := []) (v := .map (some bs)) (vs := [.map (some bs)]) rfl siz120 rfl rfl rfl rfl) rfl (rem' := [9]) (by kernel_rfl) ?_ | refine qb_e rfl rfl (op1_store (A := [_]) (v := .map (some bs)) (vs := [.map (some bs)]) rfl siz120 rfl rfl rfl rfl) rfl (rem' := [9]) (by kernel_rfl) ?_ | refine qb_e rfl rfl (op1_store (A := [_, _]) (v := .map (some bs)) (vs := [.map (some bs)]) rfl siz120 rfl rfl rfl rfl) rfl (rem' := [9]) (by kernel_rfl) ?_ | refine qb_e rfl rfl (op1_store (A := [_, _, _]) (v := .map (some bs)) (vs := [.map (some bs)]) rfl siz120 rfl rfl rfl rfl) rfl (rem' := [9]) (by kernel_rfl) ?_
          rintro _ _ _ ⟨rfl, rfl, rfl⟩
          refine ⟨Heap.le.refl _, ?_⟩
          refine QB_step (is := [9]) rfl (by kernel_rfl) ?_
          refine qall1 ?_
          first | refine qb_e rfl rfl (op1_store (A := []) (v := .map none) (vs := [.map none]) rfl siz122 rfl rfl rfl rfl) rfl (rem' := []) (by kernel_rfl) ?_ | refine qb_e rfl rfl (op1_store (A := [_]) (v := .map none) (vs := [.map none]) rfl siz122 rfl rfl rfl rfl) rfl (rem' := []) (by kernel_rfl) ?_ | refine qb_e rfl rfl (op1_store (A := [_, _]) (v := .map none) (vs := [.map none]) rfl siz122 rfl rfl rfl rfl) rfl (rem' := []) (by kernel_rfl) ?_ | refine qb_e rfl rfl (op1_store (A := [_, _, _]) (v := .map none) (vs := [.map none]) rfl siz122 rfl rfl rfl rfl) rfl (rem' := []) (by kernel_rfl) ?_
          rintro _ _ _ ⟨rfl, rfl, rfl⟩
          refine ⟨Heap.le.refl _, ?_⟩
          refine QB_nil ?_
          refine den_seq ?_
          refine den_seq ?_
          -- region 5
          refine den_region rfl ?_
          refine WL_v (v_loadn many74 rfl (Kn.per hb3) (show cut 0 8 recz = some recz from rfl)) rfl ?_
          refine WL_v (v_loadn many24 rfl (Kn.per hb4) (p.cutS a b ca cb)) rfl ?_
          refine WL_callp rfl (of_fn _ _) rfl fun v27 h27 hl27 hg27 => ?_
          obtain ⟨b20, b30, rfl, hb20⟩ := hg27
          refine WL_nil ?_
          refine den_block ?_
          refine den_each (Lb := []) (Lc := []) (of_iter b20 b30 _ hb20) (fun i h' L' => L' = []) (fun c h' L' => False) rfl rfl (by kernel_rfl) (fun i args hq hx => hx.elim) (fun _ _ _ _ _ x => x) rfl ?_ ?_ ?_
          · intro lp i args hq L1 r1 Lx hi hleq hitem hinv hrec
            exact hitem.elim
          · intro D hd Ld hled hI
            subst hI
            refine den_blk ?_
            refine den_seq ?_
            -- region 12
            refine den_region rfl ?_
            first | refine WL_store0 rfl rfl rfl siz33 rfl rfl rfl ?_ | refine WL_store1 rfl rfl rfl siz33 rfl rfl rfl ?_ | refine WL_store2 rfl rfl rfl siz33 rfl rfl rfl ?_ | refine WL_store3 rfl rfl rfl siz33 rfl rfl rfl ?_ | refine WL_store4 rfl rfl rfl siz33 rfl rfl rfl ?_ | refine WL_store5 rfl rfl rfl siz33 rfl rfl rfl ?_ | refine WL_store6 rfl rfl rfl siz33 rfl rfl rfl ?_ | refine WL_store7 rfl rfl rfl siz33 rfl rfl rfl ?_
            refine WL_nil ?_
            refine den_ret ?_
            refine ends_mark (A := []) ?_
            exact endsr1 Tryz.results22 (rv_1 one33 rfl (by first | exact Kn.own 0 rfl | exact Kn.own 1 rfl | exact Kn.own 2 rfl | exact Kn.own 3 rfl | exact Kn.own 4 rfl | exact Kn.own 5 rfl | exact Kn.own 6 rfl) rfl) (hl3.trans (hl4.trans (hl20.trans (hl25.trans (hl27.trans hled))))) (.cons _ (.cons _ (.cons _ (.cons _ (List.Sublist.refl _))))) ⟨by first | exact congrArg (Value.int .i64) (by omega) | (rw [← he]; exact congrArg (Value.int .i64) (by omega)), rfl⟩
          · intro D c hd Ld hled hX
            exact hX.elim
    · skip
      refine qb_e rfl rfl (o_alloc zer120 rfl) rfl (rem' := [1, 5, 7, 8, 9]) (by kernel_rfl) ?_
      rintro _ _ _ ⟨b8, rfl, rfl, rfl⟩
      refine ⟨Heap.le.refl _, ?_⟩
      refine QB_step (is := [1, 7]) rfl (by kernel_rfl) ?_
      refine qall2 ?_ ?_
      · skip
        refine qb_e rfl rfl (op1_call (L1 := []) rfl rfl (TrV.of0 (setdz_fn _))) rfl (rem' := [5, 7, 8, 9]) (by kernel_rfl) ?_
        rintro _ h20 _ ⟨_, rfl, hl20, ⟨bs, rfl⟩, rfl⟩
        refine ⟨hl20, ?_⟩
        have hb4 := hl20 _ _ hb4
        have hb3 := hl20 _ _ hb3
        refine QB_step (is := [5, 7]) rfl (by kernel_rfl) ?_
        refine qall2 ?_ ?_
        · skip
          refine qb_e rfl rfl (op1_call (L1 := []) rfl rfl (TrV.of0 (agesz_fn _ _))) rfl (rem' := [7, 8, 9]) (by kernel_rfl) ?_
          rintro _ h25 _ ⟨_, rfl, hl25, rfl, rfl⟩
          refine ⟨hl25, ?_⟩
          have hb4 := hl25 _ _ hb4
          have hb3 := hl25 _ _ hb3
          refine QB_step (is := [7]) rfl (by kernel_rfl) ?_
          refine qall1 ?_
          refine qb_e rfl rfl (o_alloc zer122 rfl) rfl (rem' := [8, 9]) (by kernel_rfl) ?_
          rintro _ _ _ ⟨b9, rfl, rfl, rfl⟩
          refine ⟨Heap.le.refl _, ?_⟩
          refine QB_step (is := [8]) rfl (by kernel_rfl) ?_
          refine qall1 ?_
          first | refine qb_e rfl rfl (op1_store (A := []) (v := .map (some bs)) (vs := [.map (some bs)]) rfl siz120 rfl rfl rfl rfl) rfl (rem' := [9]) (by kernel_rfl) ?_ | refine qb_e rfl rfl (op1_store (A := [_]) (v := .map (some bs)) (vs := [.map (some bs)]) rfl siz120 rfl rfl rfl rfl) rfl (rem' := [9]) (by kernel_rfl) ?_ | refine qb_e rfl rfl (op1_store (A := [_, _]) (v := .map (some bs)) (vs := [.map (some bs)]) rfl siz120 rfl rfl rfl rfl) rfl (rem' := [9]) (by kernel_rfl) ?_ | refine qb_e rfl rfl (op1_store (A := [_, _, _]) (v := .map (some bs)) (vs := [.map (some bs)]) rfl siz120 rfl rfl rfl rfl) rfl (rem' := [9]) (by kernel_rfl) ?_
          rintro _ _ _ ⟨rfl, rfl, rfl⟩
          refine ⟨Heap.le.refl _, ?_⟩
          refine QB_step (is := [9]) rfl (by kernel_rfl) ?_
          refine qall1 ?_
          first | refine qb_e rfl rfl (op1_store (A := []) (v := .map none) (vs := [.map none]) rfl siz122 rfl rfl rfl rfl) rfl (rem' := []) (by kernel_rfl) ?_ | refine qb_e rfl rfl (op1_store (A := [_]) (v := .map none) (vs := [.map none]) rfl siz122 rfl rfl rfl rfl) rfl (rem' := []) (by kernel_rfl) ?_ | refine qb_e rfl rfl (op1_store (A := [_, _]) (v := .map none) (vs := [.map none]) rfl siz122 rfl rfl rfl rfl) rfl (rem' := []) (by kernel_rfl) ?_ | refine qb_e rfl rfl (op1_store (A := [_, _, _]) (v := .map none) (vs := [.map none]) rfl siz122 rfl rfl rfl rfl) rfl (rem' := []) (by kernel_rfl) ?_
          rintro _ _ _ ⟨rfl, rfl, rfl⟩
          refine ⟨Heap.le.refl _, ?_⟩
          refine QB_nil ?_
          refine den_seq ?_
          refine den_seq ?_
          -- region 5
          refine den_region rfl ?_
          refine WL_v (v_loadn many74 rfl (Kn.per hb3) (show cut 0 8 recz = some recz from rfl)) rfl ?_
          refine WL_v (v_loadn many24 rfl (Kn.per hb4) (p.cutS a b ca cb)) rfl ?_
          refine WL_callp rfl (of_fn _ _) rfl fun v27 h27 hl27 hg27 => ?_
          obtain ⟨b20, b30, rfl, hb20⟩ := hg27
          refine WL_nil ?_
          refine den_block ?_
          refine den_each (Lb := []) (Lc := []) (of_iter b20 b30 _ hb20) (fun i h' L' => L' = []) (fun c h' L' => False) rfl rfl (by kernel_rfl) (fun i args hq hx => hx.elim) (fun _ _ _ _ _ x => x) rfl ?_ ?_ ?_
          · intro lp i args hq L1 r1 Lx hi hleq hitem hinv hrec
            exact hitem.elim
          · intro D hd Ld hled hI
            subst hI
            refine den_blk ?_
            refine den_seq ?_
            -- region 12
            refine den_region rfl ?_
            first | refine WL_store0 rfl rfl rfl siz33 rfl rfl rfl ?_ | refine WL_store1 rfl rfl rfl siz33 rfl rfl rfl ?_ | refine WL_store2 rfl rfl rfl siz33 rfl rfl rfl ?_ | refine WL_store3 rfl rfl rfl siz33 rfl rfl rfl ?_ | refine WL_store4 rfl rfl rfl siz33 rfl rfl rfl ?_ | refine WL_store5 rfl rfl rfl siz33 rfl rfl rfl ?_ | refine WL_store6 rfl rfl rfl siz33 rfl rfl rfl ?_ | refine WL_store7 rfl rfl rfl siz33 rfl rfl rfl ?_
            refine WL_nil ?_
            refine den_ret ?_
            refine ends_mark (A := []) ?_
            exact endsr1 Tryz.results22 (rv_1 one33 rfl (by first | exact Kn.own 0 rfl | exact Kn.own 1 rfl | exact Kn.own 2 rfl | exact Kn.own 3 rfl | exact Kn.own 4 rfl | exact Kn.own 5 rfl | exact Kn.own 6 rfl) rfl) (hl3.trans (hl4.trans (hl20.trans (hl25.trans (hl27.trans hled))))) (.cons _ (.cons _ (.cons _ (.cons _ (List.Sublist.refl _))))) ⟨by first | exact congrArg (Value.int .i64) (by omega) | (rw [← he]; exact congrArg (Value.int .i64) (by omega)), rfl⟩
          · intro D c hd Ld hled hX
            exact hX.elim
        · skip
          refine qb_e rfl rfl (o_alloc zer122 rfl) rfl (rem' := [5, 8, 9]) (by kernel_rfl) ?_
          rintro _ _ _ ⟨b9, rfl, rfl, rfl⟩
          refine ⟨Heap.le.refl _, ?_⟩
          refine QB_step (is := [5]) rfl (by kernel_rfl) ?_
          refine qall1 ?_
          refine qb_e rfl rfl (op1_call (L1 := []) rfl rfl (TrV.of0 (agesz_fn _ _))) rfl (rem' := [8, 9]) (by kernel_rfl) ?_
          rintro _ h25 _ ⟨_, rfl, hl25, rfl, rfl⟩
          refine ⟨hl25, ?_⟩
          have hb4 := hl25 _ _ hb4
          have hb3 := hl25 _ _ hb3
          refine QB_step (is := [8]) rfl (by kernel_rfl) ?_
          refine qall1 ?_
          first | refine qb_e rfl rfl (op1_store (A := []) (v := .map (some bs)) (vs := [.map (some bs)]) rfl siz120 rfl rfl rfl rfl) rfl (rem' := [9]) (by kernel_rfl) ?_ | refine qb_e rfl rfl (op1_store (A := [_]) (v := .map (some bs)) (vs := [.map (some bs)]) rfl siz120 rfl rfl rfl rfl) rfl (rem' := [9]) (by kernel_rfl) ?_ | refine qb_e rfl rfl (op1_store (A := [_, _]) (v := .map (some bs)) (vs := [.map (some bs)]) rfl siz120 rfl rfl rfl rfl) rfl (rem' := [9]) (by kernel_rfl) ?_ | refine qb_e rfl rfl (op1_store (A := [_, _, _]) (v := .map (some bs)) (vs := [.map (some bs)]) rfl siz120 rfl rfl rfl rfl) rfl (rem' := [9]) (by kernel_rfl) ?_
          rintro _ _ _ ⟨rfl, rfl, rfl⟩
          refine ⟨Heap.le.refl _, ?_⟩
          refine QB_step (is := [9]) rfl (by kernel_rfl) ?_
          refine qall1 ?_
          first | refine qb_e rfl rfl (op1_store (A := []) (v := .map none) (vs := [.map none]) rfl siz122 rfl rfl rfl rfl) rfl (rem' := []) (by kernel_rfl) ?_ | refine qb_e rfl rfl (op1_store (A := [_]) (v := .map none) (vs := [.map none]) rfl siz122 rfl rfl rfl rfl) rfl (rem' := []) (by kernel_rfl) ?_ | refine qb_e rfl rfl (op1_store (A := [_, _]) (v := .map none) (vs := [.map none]) rfl siz122 rfl rfl rfl rfl) rfl (rem' := []) (by kernel_rfl) ?_ | refine qb_e rfl rfl (op1_store (A := [_, _, _]) (v := .map none) (vs := [.map none]) rfl siz122 rfl rfl rfl rfl) rfl (rem' := []) (by kernel_rfl) ?_
          rintro _ _ _ ⟨rfl, rfl, rfl⟩
          refine ⟨Heap.le.refl _, ?_⟩
          refine QB_nil ?_
          refine den_seq ?_
          refine den_seq ?_
          -- region 5
          refine den_region rfl ?_
          refine WL_v (v_loadn many74 rfl (Kn.per hb3) (show cut 0 8 recz = some recz from rfl)) rfl ?_
          refine WL_v (v_loadn many24 rfl (Kn.per hb4) (p.cutS a b ca cb)) rfl ?_
          refine WL_callp rfl (of_fn _ _) rfl fun v27 h27 hl27 hg27 => ?_
          obtain ⟨b20, b30, rfl, hb20⟩ := hg27
          refine WL_nil ?_
          refine den_block ?_
          refine den_each (Lb := []) (Lc := []) (of_iter b20 b30 _ hb20) (fun i h' L' => L' = []) (fun c h' L' => False) rfl rfl (by kernel_rfl) (fun i args hq hx => hx.elim) (fun _ _ _ _ _ x => x) rfl ?_ ?_ ?_
          · intro lp i args hq L1 r1 Lx hi hleq hitem hinv hrec
            exact hitem.elim
          · intro D hd Ld hled hI
            subst hI
            refine den_blk ?_
            refine den_seq ?_
            -- region 12
            refine den_region rfl ?_
            first | refine WL_store0 rfl rfl rfl siz33 rfl rfl rfl ?_ | refine WL_store1 rfl rfl rfl siz33 rfl rfl rfl ?_ | refine WL_store2 rfl rfl rfl siz33 rfl rfl rfl ?_ | refine WL_store3 rfl rfl rfl siz33 rfl rfl rfl ?_ | refine WL_store4 rfl rfl rfl siz33 rfl rfl rfl ?_ | refine WL_store5 rfl rfl rfl siz33 rfl rfl rfl ?_ | refine WL_store6 rfl rfl rfl siz33 rfl rfl rfl ?_ | refine WL_store7 rfl rfl rfl siz33 rfl rfl rfl ?_
            refine WL_nil ?_
            refine den_ret ?_
            refine ends_mark (A := []) ?_
            exact endsr1 Tryz.results22 (rv_1 one33 rfl (by first | exact Kn.own 0 rfl | exact Kn.own 1 rfl | exact Kn.own 2 rfl | exact Kn.own 3 rfl | exact Kn.own 4 rfl | exact Kn.own 5 rfl | exact Kn.own 6 rfl) rfl) (hl3.trans (hl4.trans (hl20.trans (hl25.trans (hl27.trans hled))))) (.cons _ (.cons _ (.cons _ (.cons _ (List.Sublist.refl _))))) ⟨by first | exact congrArg (Value.int .i64) (by omega) | (rw [← he]; exact congrArg (Value.int .i64) (by omega)), rfl⟩
          · intro D c hd Ld hled hX
            exact hX.elim
      · skip
        refine qb_e rfl rfl (o_alloc zer122 rfl) rfl (rem' := [1, 5, 8, 9]) (by kernel_rfl) ?_
        rintro _ _ _ ⟨b9, rfl, rfl, rfl⟩
        refine ⟨Heap.le.refl _, ?_⟩
        refine QB_step (is := [1]) rfl (by kernel_rfl) ?_
        refine qall1 ?_
        refine qb_e rfl rfl (op1_call (L1 := []) rfl rfl (TrV.of0 (setdz_fn _))) rfl (rem' := [5, 8, 9]) (by kernel_rfl) ?_
        rintro _ h20 _ ⟨_, rfl, hl20, ⟨bs, rfl⟩, rfl⟩
        refine ⟨hl20, ?_⟩
        have hb4 := hl20 _ _ hb4
        have hb3 := hl20 _ _ hb3
        refine QB_step (is := [5]) rfl (by kernel_rfl) ?_
        refine qall1 ?_
        refine qb_e rfl rfl (op1_call (L1 := []) rfl rfl (TrV.of0 (agesz_fn _ _))) rfl (rem' := [8, 9]) (by kernel_rfl) ?_
        rintro _ h25 _ ⟨_, rfl, hl25, rfl, rfl⟩
        refine ⟨hl25, ?_⟩
        have hb4 := hl25 _ _ hb4
        have hb3 := hl25 _ _ hb3
        refine QB_step (is := [8]) rfl (by kernel_rfl) ?_
        refine qall1 ?_
        first | refine qb_e rfl rfl (op1_store (A := []) (v := .map (some bs)) (vs := [.map (some bs)]) rfl siz120 rfl rfl rfl rfl) rfl (rem' := [9]) (by kernel_rfl) ?_ | refine qb_e rfl rfl (op1_store (A := [_]) (v := .map (some bs)) (vs := [.map (some bs)]) rfl siz120 rfl rfl rfl rfl) rfl (rem' := [9]) (by kernel_rfl) ?_ | refine qb_e rfl rfl (op1_store (A := [_, _]) (v := .map (some bs)) (vs := [.map (some bs)]) rfl siz120 rfl rfl rfl rfl) rfl (rem' := [9]) (by kernel_rfl) ?_ | refine qb_e rfl rfl (op1_store (A := [_, _, _]) (v := .map (some bs)) (vs := [.map (some bs)]) rfl siz120 rfl rfl rfl rfl) rfl (rem' := [9]) (by kernel_rfl) ?_
        rintro _ _ _ ⟨rfl, rfl, rfl⟩
        refine ⟨Heap.le.refl _, ?_⟩
        refine QB_step (is := [9]) rfl (by kernel_rfl) ?_
        refine qall1 ?_
        first | refine qb_e rfl rfl (op1_store (A := []) (v := .map none) (vs := [.map none]) rfl siz122 rfl rfl rfl rfl) rfl (rem' := []) (by kernel_rfl) ?_ | refine qb_e rfl rfl (op1_store (A := [_]) (v := .map none) (vs := [.map none]) rfl siz122 rfl rfl rfl rfl) rfl (rem' := []) (by kernel_rfl) ?_ | refine qb_e rfl rfl (op1_store (A := [_, _]) (v := .map none) (vs := [.map none]) rfl siz122 rfl rfl rfl rfl) rfl (rem' := []) (by kernel_rfl) ?_ | refine qb_e rfl rfl (op1_store (A := [_, _, _]) (v := .map none) (vs := [.map none]) rfl siz122 rfl rfl rfl rfl) rfl (rem' := []) (by kernel_rfl) ?_
        rintro _ _ _ ⟨rfl, rfl, rfl⟩
        refine ⟨Heap.le.refl _, ?_⟩
        refine QB_nil ?_
        refine den_seq ?_
        refine den_seq ?_
        -- region 5
        refine den_region rfl ?_
        refine WL_v (v_loadn many74 rfl (Kn.per hb3) (show cut 0 8 recz = some recz from rfl)) rfl ?_
        refine WL_v (v_loadn many24 rfl (Kn.per hb4) (p.cutS a b ca cb)) rfl ?_
        refine WL_callp rfl (of_fn _ _) rfl fun v27 h27 hl27 hg27 => ?_
        obtain ⟨b20, b30, rfl, hb20⟩ := hg27
        refine WL_nil ?_
        refine den_block ?_
        refine den_each (Lb := []) (Lc := []) (of_iter b20 b30 _ hb20) (fun i h' L' => L' = []) (fun c h' L' => False) rfl rfl (by kernel_rfl) (fun i args hq hx => hx.elim) (fun _ _ _ _ _ x => x) rfl ?_ ?_ ?_
        · intro lp i args hq L1 r1 Lx hi hleq hitem hinv hrec
          exact hitem.elim
        · intro D hd Ld hled hI
          subst hI
          refine den_blk ?_
          refine den_seq ?_
          -- region 12
          refine den_region rfl ?_
          first | refine WL_store0 rfl rfl rfl siz33 rfl rfl rfl ?_ | refine WL_store1 rfl rfl rfl siz33 rfl rfl rfl ?_ | refine WL_store2 rfl rfl rfl siz33 rfl rfl rfl ?_ | refine WL_store3 rfl rfl rfl siz33 rfl rfl rfl ?_ | refine WL_store4 rfl rfl rfl siz33 rfl rfl rfl ?_ | refine WL_store5 rfl rfl rfl siz33 rfl rfl rfl ?_ | refine WL_store6 rfl rfl rfl siz33 rfl rfl rfl ?_ | refine WL_store7 rfl rfl rfl siz33 rfl rfl rfl ?_
          refine WL_nil ?_
          refine den_ret ?_
          refine ends_mark (A := []) ?_
          exact endsr1 Tryz.results22 (rv_1 one33 rfl (by first | exact Kn.own 0 rfl | exact Kn.own 1 rfl | exact Kn.own 2 rfl | exact Kn.own 3 rfl | exact Kn.own 4 rfl | exact Kn.own 5 rfl | exact Kn.own 6 rfl) rfl) (hl3.trans (hl4.trans (hl20.trans (hl25.trans (hl27.trans hled))))) (.cons _ (.cons _ (.cons _ (.cons _ (List.Sublist.refl _))))) ⟨by first | exact congrArg (Value.int .i64) (by omega) | (rw [← he]; exact congrArg (Value.int .i64) (by omega)), rfl⟩
        · intro D c hd Ld hled hX
          exact hX.elim
    · skip
      refine qb_e rfl rfl (o_alloc zer122 rfl) rfl (rem' := [1, 5, 6, 8, 9]) (by kernel_rfl) ?_
      rintro _ _ _ ⟨b9, rfl, rfl, rfl⟩
      refine ⟨Heap.le.refl _, ?_⟩
      refine QB_step (is := [1, 6]) rfl (by kernel_rfl) ?_
      refine qall2 ?_ ?_
      · skip
        refine qb_e rfl rfl (op1_call (L1 := []) rfl rfl (TrV.of0 (setdz_fn _))) rfl (rem' := [5, 6, 8, 9]) (by kernel_rfl) ?_
        rintro _ h20 _ ⟨_, rfl, hl20, ⟨bs, rfl⟩, rfl⟩
        refine ⟨hl20, ?_⟩
        have hb4 := hl20 _ _ hb4
        have hb3 := hl20 _ _ hb3
        refine QB_step (is := [5, 6]) rfl (by kernel_rfl) ?_
        refine qall2 ?_ ?_
        · skip
          refine qb_e rfl rfl (op1_call (L1 := []) rfl rfl (TrV.of0 (agesz_fn _ _))) rfl (rem' := [6, 8, 9]) (by kernel_rfl) ?_
          rintro _ h25 _ ⟨_, rfl, hl25, rfl, rfl⟩
          refine ⟨hl25, ?_⟩
          have hb4 := hl25 _ _ hb4
          have hb3 := hl25 _ _ hb3
          refine QB_step (is := [6]) rfl (by kernel_rfl) ?_
          refine qall1 ?_
          refine qb_e rfl rfl (o_alloc zer120 rfl) rfl (rem' := [8, 9]) (by kernel_rfl) ?_
          rintro _ _ _ ⟨b8, rfl, rfl, rfl⟩
          refine ⟨Heap.le.refl _, ?_⟩
          refine QB_step (is := [8]) rfl (by kernel_rfl) ?_
          refine qall1 ?_
          first | refine qb_e rfl rfl (op1_store (A := []) (v := .map (some bs)) (vs := [.map (some bs)]) rfl siz120 rfl rfl rfl rfl) rfl (rem' := [9]) (by kernel_rfl) ?_ | refine qb_e rfl rfl (op1_store (A := [_]) (v := .map (some bs)) (vs := [.map (some bs)]) rfl siz120 rfl rfl rfl rfl) rfl (rem' := [9]) (by kernel_rfl) ?_ | refine qb_e rfl rfl (op1_store (A := [_, _]) (v := .map (some bs)) (vs := [.map (some bs)]) rfl siz120 rfl rfl rfl rfl) rfl (rem' := [9]) (by kernel_rfl) ?_ | refine qb_e rfl rfl (op1_store (A := [_, _, _]) (v := .map (some bs)) (vs := [.map (some bs)]) rfl siz120 rfl rfl rfl rfl) rfl (rem' := [9]) (by kernel_rfl) ?_
          rintro _ _ _ ⟨rfl, rfl, rfl⟩
          refine ⟨Heap.le.refl _, ?_⟩
          refine QB_step (is := [9]) rfl (by kernel_rfl) ?_
          refine qall1 ?_
          first | refine qb_e rfl rfl (op1_store (A := []) (v := .map none) (vs := [.map none]) rfl siz122 rfl rfl rfl rfl) rfl (rem' := []) (by kernel_rfl) ?_ | refine qb_e rfl rfl (op1_store (A := [_]) (v := .map none) (vs := [.map none]) rfl siz122 rfl rfl rfl rfl) rfl (rem' := []) (by kernel_rfl) ?_ | refine qb_e rfl rfl (op1_store (A := [_, _]) (v := .map none) (vs := [.map none]) rfl siz122 rfl rfl rfl rfl) rfl (rem' := []) (by kernel_rfl) ?_ | refine qb_e rfl rfl (op1_store (A := [_, _, _]) (v := .map none) (vs := [.map none]) rfl siz122 rfl rfl rfl rfl) rfl (rem' := []) (by kernel_rfl) ?_
          rintro _ _ _ ⟨rfl, rfl, rfl⟩
          refine ⟨Heap.le.refl _, ?_⟩
          refine QB_nil ?_
          refine den_seq ?_
          refine den_seq ?_
          -- region 5
          refine den_region rfl ?_
          refine WL_v (v_loadn many74 rfl (Kn.per hb3) (show cut 0 8 recz = some recz from rfl)) rfl ?_
          refine WL_v (v_loadn many24 rfl (Kn.per hb4) (p.cutS a b ca cb)) rfl ?_
          refine WL_callp rfl (of_fn _ _) rfl fun v27 h27 hl27 hg27 => ?_
          obtain ⟨b20, b30, rfl, hb20⟩ := hg27
          refine WL_nil ?_
          refine den_block ?_
          refine den_each (Lb := []) (Lc := []) (of_iter b20 b30 _ hb20) (fun i h' L' => L' = []) (fun c h' L' => False) rfl rfl (by kernel_rfl) (fun i args hq hx => hx.elim) (fun _ _ _ _ _ x => x) rfl ?_ ?_ ?_
          · intro lp i args hq L1 r1 Lx hi hleq hitem hinv hrec
            exact hitem.elim
          · intro D hd Ld hled hI
            subst hI
            refine den_blk ?_
            refine den_seq ?_
            -- region 12
            refine den_region rfl ?_
            first | refine WL_store0 rfl rfl rfl siz33 rfl rfl rfl ?_ | refine WL_store1 rfl rfl rfl siz33 rfl rfl rfl ?_ | refine WL_store2 rfl rfl rfl siz33 rfl rfl rfl ?_ | refine WL_store3 rfl rfl rfl siz33 rfl rfl rfl ?_ | refine WL_store4 rfl rfl rfl siz33 rfl rfl rfl ?_ | refine WL_store5 rfl rfl rfl siz33 rfl rfl rfl ?_ | refine WL_store6 rfl rfl rfl siz33 rfl rfl rfl ?_ | refine WL_store7 rfl rfl rfl siz33 rfl rfl rfl ?_
            refine WL_nil ?_
            refine den_ret ?_
            refine ends_mark (A := []) ?_
            exact endsr1 Tryz.results22 (rv_1 one33 rfl (by first | exact Kn.own 0 rfl | exact Kn.own 1 rfl | exact Kn.own 2 rfl | exact Kn.own 3 rfl | exact Kn.own 4 rfl | exact Kn.own 5 rfl | exact Kn.own 6 rfl) rfl) (hl3.trans (hl4.trans (hl20.trans (hl25.trans (hl27.trans hled))))) (.cons _ (.cons _ (.cons _ (.cons _ (List.Sublist.refl _))))) ⟨by first | exact congrArg (Value.int .i64) (by omega) | (rw [← he]; exact congrArg (Value.int .i64) (by omega)), rfl⟩
          · intro D c hd Ld hled hX
            exact hX.elim
        · skip
          refine qb_e rfl rfl (o_alloc zer120 rfl) rfl (rem' := [5, 8, 9]) (by kernel_rfl) ?_
          rintro _ _ _ ⟨b8, rfl, rfl, rfl⟩
          refine ⟨Heap.le.refl _, ?_⟩
          refine QB_step (is := [5]) rfl (by kernel_rfl) ?_
          refine qall1 ?_
          refine qb_e rfl rfl (op1_call (L1 := []) rfl rfl (TrV.of0 (agesz_fn _ _))) rfl (rem' := [8, 9]) (by kernel_rfl) ?_
          rintro _ h25 _ ⟨_, rfl, hl25, rfl, rfl⟩
          refine ⟨hl25, ?_⟩
          have hb4 := hl25 _ _ hb4
          have hb3 := hl25 _ _ hb3
          refine QB_step (is := [8]) rfl (by kernel_rfl) ?_
          refine qall1 ?_
          first | refine qb_e rfl rfl (op1_store (A := []) (v := .map (some bs)) (vs := [.map (some bs)]) rfl siz120 rfl rfl rfl rfl) rfl (rem' := [9]) (by kernel_rfl) ?_ | refine qb_e rfl rfl (op1_store (A := [_]) (v := .map (some bs)) (vs := [.map (some bs)]) rfl siz120 rfl rfl rfl rfl) rfl (rem' := [9]) (by kernel_rfl) ?_ | refine qb_e rfl rfl (op1_store (A := [_, _]) (v := .map (some bs)) (vs := [.map (some bs)]) rfl siz120 rfl rfl rfl rfl) rfl (rem' := [9]) (by kernel_rfl) ?_ | refine qb_e rfl rfl (op1_store (A := [_, _, _]) (v := .map (some bs)) (vs := [.map (some bs)]) rfl siz120 rfl rfl rfl rfl) rfl (rem' := [9]) (by kernel_rfl) ?_
          rintro _ _ _ ⟨rfl, rfl, rfl⟩
          refine ⟨Heap.le.refl _, ?_⟩
          refine QB_step (is := [9]) rfl (by kernel_rfl) ?_
          refine qall1 ?_
          first | refine qb_e rfl rfl (op1_store (A := []) (v := .map none) (vs := [.map none]) rfl siz122 rfl rfl rfl rfl) rfl (rem' := []) (by kernel_rfl) ?_ | refine qb_e rfl rfl (op1_store (A := [_]) (v := .map none) (vs := [.map none]) rfl siz122 rfl rfl rfl rfl) rfl (rem' := []) (by kernel_rfl) ?_ | refine qb_e rfl rfl (op1_store (A := [_, _]) (v := .map none) (vs := [.map none]) rfl siz122 rfl rfl rfl rfl) rfl (rem' := []) (by kernel_rfl) ?_ | refine qb_e rfl rfl (op1_store (A := [_, _, _]) (v := .map none) (vs := [.map none]) rfl siz122 rfl rfl rfl rfl) rfl (rem' := []) (by kernel_rfl) ?_
          rintro _ _ _ ⟨rfl, rfl, rfl⟩
          refine ⟨Heap.le.refl _, ?_⟩
          refine QB_nil ?_
          refine den_seq ?_
          refine den_seq ?_
          -- region 5
          refine den_region rfl ?_
          refine WL_v (v_loadn many74 rfl (Kn.per hb3) (show cut 0 8 recz = some recz from rfl)) rfl ?_
          refine WL_v (v_loadn many24 rfl (Kn.per hb4) (p.cutS a b ca cb)) rfl ?_
          refine WL_callp rfl (of_fn _ _) rfl fun v27 h27 hl27 hg27 => ?_
          obtain ⟨b20, b30, rfl, hb20⟩ := hg27
          refine WL_nil ?_
          refine den_block ?_
          refine den_each (Lb := []) (Lc := []) (of_iter b20 b30 _ hb20) (fun i h' L' => L' = []) (fun c h' L' => False) rfl rfl (by kernel_rfl) (fun i args hq hx => hx.elim) (fun _ _ _ _ _ x => x) rfl ?_ ?_ ?_
          · intro lp i args hq L1 r1 Lx hi hleq hitem hinv hrec
            exact hitem.elim
          · intro D hd Ld hled hI
            subst hI
            refine den_blk ?_
            refine den_seq ?_
            -- region 12
            refine den_region rfl ?_
            first | refine WL_store0 rfl rfl rfl siz33 rfl rfl rfl ?_ | refine WL_store1 rfl rfl rfl siz33 rfl rfl rfl ?_ | refine WL_store2 rfl rfl rfl siz33 rfl rfl rfl ?_ | refine WL_store3 rfl rfl rfl siz33 rfl rfl rfl ?_ | refine WL_store4 rfl rfl rfl siz33 rfl rfl rfl ?_ | refine WL_store5 rfl rfl rfl siz33 rfl rfl rfl ?_ | refine WL_store6 rfl rfl rfl siz33 rfl rfl rfl ?_ | refine WL_store7 rfl rfl rfl siz33 rfl rfl rfl ?_
            refine WL_nil ?_
            refine den_ret ?_
            refine ends_mark (A := []) ?_
            exact endsr1 Tryz.results22 (rv_1 one33 rfl (by first | exact Kn.own 0 rfl | exact Kn.own 1 rfl | exact Kn.own 2 rfl | exact Kn.own 3 rfl | exact Kn.own 4 rfl | exact Kn.own 5 rfl | exact Kn.own 6 rfl) rfl) (hl3.trans (hl4.trans (hl20.trans (hl25.trans (hl27.trans hled))))) (.cons _ (.cons _ (.cons _ (.cons _ (List.Sublist.refl _))))) ⟨by first | exact congrArg (Value.int .i64) (by omega) | (rw [← he]; exact congrArg (Value.int .i64) (by omega)), rfl⟩
          · intro D c hd Ld hled hX
            exact hX.elim
      · skip
        refine qb_e rfl rfl (o_alloc zer120 rfl) rfl (rem' := [1, 5, 8, 9]) (by kernel_rfl) ?_
        rintro _ _ _ ⟨b8, rfl, rfl, rfl⟩
        refine ⟨Heap.le.refl _, ?_⟩
        refine QB_step (is := [1]) rfl (by kernel_rfl) ?_
        refine qall1 ?_
        refine qb_e rfl rfl (op1_call (L1 := []) rfl rfl (TrV.of0 (setdz_fn _))) rfl (rem' := [5, 8, 9]) (by kernel_rfl) ?_
        rintro _ h20 _ ⟨_, rfl, hl20, ⟨bs, rfl⟩, rfl⟩
        refine ⟨hl20, ?_⟩
        have hb4 := hl20 _ _ hb4
        have hb3 := hl20 _ _ hb3
        refine QB_step (is := [5]) rfl (by kernel_rfl) ?_
        refine qall1 ?_
        refine qb_e rfl rfl (op1_call (L1 := []) rfl rfl (TrV.of0 (agesz_fn _ _))) rfl (rem' := [8, 9]) (by kernel_rfl) ?_
        rintro _ h25 _ ⟨_, rfl, hl25, rfl, rfl⟩
        refine ⟨hl25, ?_⟩
        have hb4 := hl25 _ _ hb4
        have hb3 := hl25 _ _ hb3
        refine QB_step (is := [8]) rfl (by kernel_rfl) ?_
        refine qall1 ?_
        first | refine qb_e rfl rfl (op1_store (A := []) (v := .map (some bs)) (vs := [.map (some bs)]) rfl siz120 rfl rfl rfl rfl) rfl (rem' := [9]) (by kernel_rfl) ?_ | refine qb_e rfl rfl (op1_store (A := [_]) (v := .map (some bs)) (vs := [.map (some bs)]) rfl siz120 rfl rfl rfl rfl) rfl (rem' := [9]) (by kernel_rfl) ?_ | refine qb_e rfl rfl (op1_store (A := [_, _]) (v := .map (some bs)) (vs := [.map (some bs)]) rfl siz120 rfl rfl rfl rfl) rfl (rem' := [9]) (by kernel_rfl) ?_ | refine qb_e rfl rfl (op1_store (A := [_, _, _]) (v := .map (some bs)) (vs := [.map (some bs)]) rfl siz120 rfl rfl rfl rfl) rfl (rem' := [9]) (by kernel_rfl) ?_
        rintro _ _ _ ⟨rfl, rfl, rfl⟩
        refine ⟨Heap.le.refl _, ?_⟩
        refine QB_step (is := [9]) rfl (by kernel_rfl) ?_
        refine qall1 ?_
        first | refine qb_e rfl rfl (op1_store (A := []) (v := .map none) (vs := [.map none]) rfl siz122 rfl rfl rfl rfl) rfl (rem' := []) (by kernel_rfl) ?_ | refine qb_e rfl rfl (op1_store (A := [_]) (v := .map none) (vs := [.map none]) rfl siz122 rfl rfl rfl rfl) rfl (rem' := []) (by kernel_rfl) ?_ | refine qb_e rfl rfl (op1_store (A := [_, _]) (v := .map none) (vs := [.map none]) rfl siz122 rfl rfl rfl rfl) rfl (rem' := []) (by kernel_rfl) ?_ | refine qb_e rfl rfl (op1_store (A := [_, _, _]) (v := .map none) (vs := [.map none]) rfl siz122 rfl rfl rfl rfl) rfl (rem' := []) (by kernel_rfl) ?_
        rintro _ _ _ ⟨rfl, rfl, rfl⟩
        refine ⟨Heap.le.refl _, ?_⟩
        refine QB_nil ?_
        refine den_seq ?_
        refine den_seq ?_
        -- region 5
        refine den_region rfl ?_
        refine WL_v (v_loadn many74 rfl (Kn.per hb3) (show cut 0 8 recz = some recz from rfl)) rfl ?_
        refine WL_v (v_loadn many24 rfl (Kn.per hb4) (p.cutS a b ca cb)) rfl ?_
        refine WL_callp rfl (of_fn _ _) rfl fun v27 h27 hl27 hg27 => ?_
        obtain ⟨b20, b30, rfl, hb20⟩ := hg27
        refine WL_nil ?_
        refine den_block ?_
        refine den_each (Lb := []) (Lc := []) (of_iter b20 b30 _ hb20) (fun i h' L' => L' = []) (fun c h' L' => False) rfl rfl (by kernel_rfl) (fun i args hq hx => hx.elim) (fun _ _ _ _ _ x => x) rfl ?_ ?_ ?_
        · intro lp i args hq L1 r1 Lx hi hleq hitem hinv hrec
          exact hitem.elim
        · intro D hd Ld hled hI
          subst hI
          refine den_blk ?_
          refine den_seq ?_
          -- region 12
          refine den_region rfl ?_
          first | refine WL_store0 rfl rfl rfl siz33 rfl rfl rfl ?_ | refine WL_store1 rfl rfl rfl siz33 rfl rfl rfl ?_ | refine WL_store2 rfl rfl rfl siz33 rfl rfl rfl ?_ | refine WL_store3 rfl rfl rfl siz33 rfl rfl rfl ?_ | refine WL_store4 rfl rfl rfl siz33 rfl rfl rfl ?_ | refine WL_store5 rfl rfl rfl siz33 rfl rfl rfl ?_ | refine WL_store6 rfl rfl rfl siz33 rfl rfl rfl ?_ | refine WL_store7 rfl rfl rfl siz33 rfl rfl rfl ?_
          refine WL_nil ?_
          refine den_ret ?_
          refine ends_mark (A := []) ?_
          exact endsr1 Tryz.results22 (rv_1 one33 rfl (by first | exact Kn.own 0 rfl | exact Kn.own 1 rfl | exact Kn.own 2 rfl | exact Kn.own 3 rfl | exact Kn.own 4 rfl | exact Kn.own 5 rfl | exact Kn.own 6 rfl) rfl) (hl3.trans (hl4.trans (hl20.trans (hl25.trans (hl27.trans hled))))) (.cons _ (.cons _ (.cons _ (.cons _ (List.Sublist.refl _))))) ⟨by first | exact congrArg (Value.int .i64) (by omega) | (rw [← he]; exact congrArg (Value.int .i64) (by omega)), rfl⟩
        · intro D c hd Ld hled hX
          exact hX.elim

theorem hasdz_fn (b : Nat) (d : Dig) (h : Heap) (hb : h b = some (.map #[] 0)) : Fn0 Tryz.prog 55 [.map (some b), .agg ⟨dcells d⟩] h (.bool false) := by
  refine Tr_of Tryz.func55 rfl rfl Tryz.ntmps55 rfl [(0, .map (some b)), (1, .agg ⟨dcells d⟩)] rfl ?_
  intro Lf
  refine den_seq ?_
  -- region 0
  refine den_region rfl ?_
  refine WL_box (zs := dcells d) rfl rfl rfl fun b3 => ?_
  refine WL_v (v_assign rfl) rfl ?_
  refine WL_nil ?_
  refine den_seq ?_
  -- region 1
  refine den_region rfl ?_
  refine WL_v (v_move rfl) rfl ?_
  refine WL_v (v_loadn many26 rfl (Kn.own 0 rfl) (cut_self rfl)) rfl ?_
  refine WL_v (v_lookE Tryz.underlying120 Tryz.underlying26 siz5 one5 Tryz.underlying5 zer138 rfl rfl (Kn.per hb)) rfl ?_
  refine WL_v (v_move rfl) rfl ?_
  refine WL_v (v_extract rfl rfl) rfl ?_
  refine WL_v (v_extract rfl rfl) rfl ?_
  refine WL_alloc zer138 rfl rfl fun b5 => ?_
  refine WL_store0 rfl rfl (us := []) rfl siz138 rfl rfl rfl ?_
  refine WL_v (v_assign rfl) rfl ?_
  refine WL_nil ?_
  refine den_seq ?_
  -- region 2
  refine den_region rfl ?_
  refine WL_v (v_move rfl) rfl ?_
  refine WL_v (v_assign rfl) rfl ?_
  refine WL_nil ?_
  refine den_ret ?_
  exact ends1 Tryz.results55 rfl (Heap.le.refl _) (by simp) ⟨rfl, rfl⟩

theorem audit1_fn (p : Pol) (a b x y : Option Addr) (ca cb cx cy : Nat) (xs : List Lst) (it : Dig) (cs : List Con) (h : Heap) (ha : SlI h a p.le) (hb : SlI h b p.ri) (hx : SlL h x xs) (hy : SlC h y cs) (hG : Gl h) (b7 b6 b9 bm n : Nat) (ae : Option Addr) (h7 : h b7 = some (.cells ⟨(p.cells a b ca cb ++ [.slice ae n n, .slice none 0 0])⟩ 63 (0, 0))) (h6 : h b6 = some (.cells ⟨[.slice x xs.length cx]⟩ 38 (0, 0))) (h9 : h b9 = some (.cells ⟨[.map (some bm)]⟩ 120 (0, 0))) (hm : h bm = some (.map #[] 0)) (hn : n ≤ 1) (he : 0 < n → ∃ be, ae = some ⟨be, 0, none⟩ ∧ h be = some (.cells ⟨(dcells it ++ [.slice y cs.length cy])⟩ 41 (0, 0))) : Fn0 Tryz.prog 58 [.pointer (some ⟨b7, 0, none⟩), .pointer (some ⟨b6, 0, none⟩), .pointer (some ⟨b9, 0, none⟩)] h (.int .i64 (if n = 0 then 0 else if expE p xs it cs = 0 then 460 else expE p xs it cs)) := by
  refine Tr_of Tryz.func58 rfl rfl Tryz.ntmps58 rfl [(0, .pointer (some ⟨b7, 0, none⟩)), (1, .pointer (some ⟨b6, 0, none⟩)), (2, .pointer (some ⟨b9, 0, none⟩))] rfl ?_
  intro Lf
  refine den_seq ?_
  -- region 0
  refine den_region rfl ?_
  refine WL_v (v_assign rfl) rfl ?_
  refine WL_nil ?_
  refine den_seq ?_
  refine den_seq ?_
  -- region 1
  refine den_region rfl ?_
  refine WL_v (v_faddr Tryz.underlying63 rfl siz43 rfl) rfl ?_
  refine WL_v (v_load1 one43 rfl (Kn.per h7) (show (p.cells a b ca cb ++ [.slice ae n n, .slice none 0 0])[6]? = some (.slice ae n n) from rfl)) rfl ?_
  refine WL_v (v_lens Tryz.underlying43 rfl) rfl ?_
  refine WL_v (v_move rfl) rfl ?_
  refine WL_nil ?_
  refine den_block ?_
  refine den_loopI (ι := Nat) (fun i => [(0, .pointer (some ⟨b7, 0, none⟩)), (1, .pointer (some ⟨b6, 0, none⟩)), (2, .pointer (some ⟨b9, 0, none⟩)), (8, .slice ae n n), (9, .int .i64 ((n : Nat) : Int)), (10, .int .i64 ((i : Nat) : Int))]) (fun i h' L' => i = 0 ∧ h = h' ∧ L' = Lf) (fun i => 0) 0 (sub_cons rfl (sub_cons rfl (sub_cons rfl (sub_cons rfl (sub_cons rfl (sub_cons rfl sub_nil)))))) ⟨rfl, rfl, rfl⟩ ?_
  rintro i _ _ ⟨rfl, rfl, rfl⟩
  refine den_seq ?_
  -- region 2
  refine den_region rfl ?_
  refine WL_v (v_lss rfl rfl) rfl ?_
  refine WL_nil ?_
  refine den_seq ?_
  first | refine den_ifd rfl (fun hi => ?_) (fun hi => ?_) | refine den_if rfl (fun hi => ?_) (fun hi => ?_)
  · skip
    have hi : 0 < n := by omega
    obtain ⟨be, rfl, hbe⟩ := he hi
    refine den_skip ?_
    refine den_seq ?_
    refine den_block ?_
    refine den_seq ?_
    -- region 3
    refine den_region rfl ?_
    refine WL_v (v_iaddrs (n := 0) Tryz.underlying43 siz41 rfl rfl rfl hi) rfl ?_
    refine WL_v (v_loadn many41 rfl (Kn.per hbe) (show cut (0 + 0 * 33) 33 (dcells it ++ [.slice y cs.length cy]) = some (dcells it ++ [.slice y cs.length cy]) from cut_self rfl)) rfl ?_
    refine WL_alloc zer41 rfl rfl fun b5 => ?_
    refine WL_store0 rfl rfl (us := (dcells it ++ [.slice y cs.length cy])) rfl (show Siz _ _ (dcells it ++ [Value.slice y cs.length cy]).length from siz41) (by exact spl_all rfl) rfl rfl ?_
    refine WL_freeze fun h5 hl5 hb5 => ?_
    refine WL_nil ?_
    refine den_seq ?_
    refine den_seq ?_
    -- region 4
    refine den_region rfl ?_
    refine WL_v (v_faddr Tryz.underlying63 rfl siz24 rfl) rfl ?_
    refine WL_v (v_loadn many24 rfl (Kn.per (hl5 _ _ h7)) (show cut 0 6 (p.cells a b ca cb ++ [.slice (some ⟨be, 0, none⟩) n n, .slice none 0 0]) = some (p.cells a b ca cb) from rfl)) rfl ?_
    refine WL_v (v_load1 one38 rfl (Kn.per (hl5 _ _ h6)) rfl) rfl ?_
    refine WL_v (v_loadn many41 rfl (Kn.per hb5) (cut_self rfl)) rfl ?_
    refine WL_callq rfl (export_fn p a b x y ca cb cx cy xs it cs _ (ha.le hl5) (hb.le hl5) (hx.le hl5) (hy.le hl5) (hG.le hl5)) rfl ?_
    refine WL_v (v_assign rfl) rfl ?_
    refine WL_nil ?_
    refine den_seq ?_
    -- region 5
    refine den_region rfl ?_
    refine WL_v (v_move rfl) rfl ?_
    refine WL_v (v_neq rfl rfl) rfl ?_
    refine WL_nil ?_
    first | refine den_ifd rfl (fun hq => ?_) (fun hq => ?_) | refine den_if rfl (fun hq => ?_) (fun hq => ?_)
    · skip
      refine den_seq ?_
      -- region 6
      refine den_region rfl ?_
      refine WL_v (v_move rfl) rfl ?_
      refine WL_v (v_assign rfl) rfl ?_
      refine WL_nil ?_
      refine den_ret ?_
      exact ends1 Tryz.results58 rfl (by first | exact Heap.le.refl _ | exact hl5) (by simp) ⟨by congr 1; first | rw [if_pos (by omega)] | (rw [if_neg (by omega), if_neg hq]) | (rw [if_neg (by omega), if_pos (by omega)]), rfl⟩
    · skip
      refine den_skip ?_
      refine den_seq ?_
      -- region 7
      refine den_region rfl ?_
      refine WL_v (v_load1 one120 rfl (Kn.per (hl5 _ _ h9)) rfl) rfl ?_
      refine WL_v (v_faddr Tryz.underlying41 rfl siz26 rfl) rfl ?_
      refine WL_v (v_loadn many26 rfl (Kn.per hb5) (cut_left (dcells it) _)) rfl ?_
      refine WL_callq rfl (hasdz_fn _ _ _ (hl5 _ _ hm)) rfl ?_
      refine WL_v (OpV.to (v' := .bool true) (v_not rfl) (by first | rfl | simp)) rfl ?_
      refine WL_nil ?_
      refine den_true rfl ?_
      refine den_seq ?_
      -- region 8
      refine den_region rfl ?_
      refine WL_v (v_assign rfl) rfl ?_
      refine WL_nil ?_
      refine den_ret ?_
      exact ends1 Tryz.results58 rfl (by first | exact Heap.le.refl _ | exact hl5) (by simp) ⟨by congr 1; first | rw [if_pos (by omega)] | (rw [if_neg (by omega), if_neg hq]) | (rw [if_neg (by omega), if_pos (by omega)]), rfl⟩
  · skip
    refine den_exit rfl ?_
    refine den_seq ?_
    -- region 10
    refine den_region rfl ?_
    refine WL_v (v_assign rfl) rfl ?_
    refine WL_nil ?_
    refine den_ret ?_
    exact ends1 Tryz.results58 rfl (by first | exact Heap.le.refl _ | exact hl5) (by simp) ⟨by congr 1; first | rw [if_pos (by omega)] | (rw [if_neg (by omega), if_neg hq]) | (rw [if_neg (by omega), if_pos (by omega)]), rfl⟩

theorem audit2_fn (p : Pol) (a b : Option Addr) (ca cb : Nat) (h : Heap) (ha : SlI h a p.le) (hb : SlI h b p.ri) (n b4 b5 b7 : Nat) (ae : Option Addr) (h4 : h b4 = some (.cells ⟨recz⟩ 74 (0, 0))) (h5 : h b5 = some (.cells ⟨[.slice none 0 0]⟩ 104 (0, 0))) (h7 : h b7 = some (.cells ⟨(p.cells a b ca cb ++ [.slice ae n n, .slice none 0 0])⟩ 63 (0, 0))) : Fn0 Tryz.prog 59 [.pointer (some ⟨b4, 0, none⟩), .pointer (some ⟨b5, 0, none⟩), .pointer (some ⟨b7, 0, none⟩)] h (.int .i64 (polE p)) := by
  refine Tr_of Tryz.func59 rfl rfl Tryz.ntmps59 rfl [(0, .pointer (some ⟨b4, 0, none⟩)), (1, .pointer (some ⟨b5, 0, none⟩)), (2, .pointer (some ⟨b7, 0, none⟩))] rfl ?_
  intro Lf
  refine den_seq ?_
  -- region 0
  refine den_region rfl ?_
  refine WL_v (v_assign rfl) rfl ?_
  refine WL_nil ?_
  refine den_seq ?_
  -- region 1
  refine den_region rfl ?_
  refine WL_v (v_loadn many74 rfl (Kn.per h4) (show cut 0 8 recz = some recz from rfl)) rfl ?_
  refine WL_v (v_load1 one104 rfl (Kn.per h5) rfl) rfl ?_
  refine WL_v (v_faddr Tryz.underlying63 rfl siz24 rfl) rfl ?_
  refine WL_v (v_loadn many24 rfl (Kn.per h7) (show cut 0 6 (p.cells a b ca cb ++ [.slice ae n n, .slice none 0 0]) = some (p.cells a b ca cb) from rfl)) rfl ?_
  refine WL_callq rfl (apartz_fn _ _ _ _ _ _ ha hb) rfl ?_
  refine WL_v (v_assign rfl) rfl ?_
  refine WL_nil ?_
  refine den_ret ?_
  exact ends1 Tryz.results59 rfl (Heap.le.refl _) (by simp) ⟨rfl, rfl⟩

theorem audit3_fn (p : Pol) (a b : Option Addr) (ca cb : Nat) (h : Heap) (ha : SlI h a p.le) (hb : SlI h b p.ri) (n b4 b7 : Nat) (ae : Option Addr) (h4 : h b4 = some (.cells ⟨recz⟩ 74 (0, 0))) (h7 : h b7 = some (.cells ⟨(p.cells a b ca cb ++ [.slice ae n n, .slice none 0 0])⟩ 63 (0, 0))) : Fn0 Tryz.prog 60 [.pointer (some ⟨b4, 0, none⟩), .pointer (some ⟨b7, 0, none⟩)] h (.int .i64 (polE p)) := by
  refine Tr_of Tryz.func60 rfl rfl Tryz.ntmps60 rfl [(0, .pointer (some ⟨b4, 0, none⟩)), (1, .pointer (some ⟨b7, 0, none⟩))] rfl ?_
  intro Lf
  refine den_seq ?_
  -- region 0
  refine den_region rfl ?_
  refine WL_v (v_assign rfl) rfl ?_
  refine WL_nil ?_
  refine den_seq ?_
  -- region 1
  refine den_region rfl ?_
  refine WL_v (v_loadn many74 rfl (Kn.per h4) (show cut 0 8 recz = some recz from rfl)) rfl ?_
  refine WL_v (v_faddr Tryz.underlying63 rfl siz24 rfl) rfl ?_
  refine WL_v (v_loadn many24 rfl (Kn.per h7) (show cut 0 6 (p.cells a b ca cb ++ [.slice ae n n, .slice none 0 0]) = some (p.cells a b ca cb) from rfl)) rfl ?_
  refine WL_v (v_faddr Tryz.underlying63 rfl siz61 rfl) rfl ?_
  refine WL_v (v_load1 one61 rfl (Kn.per h7) (show (p.cells a b ca cb ++ [.slice ae n n, .slice none 0 0])[7]? = some (.slice none 0 0) from rfl)) rfl ?_
  refine WL_callq rfl (retainz_fn _ _ _ _ _ _ ha hb) rfl ?_
  refine WL_v (v_assign rfl) rfl ?_
  refine WL_nil ?_
  refine den_ret ?_
  exact ends1 Tryz.results60 rfl (Heap.le.refl _) (by simp) ⟨rfl, rfl⟩

def firstE : List Int → Int
  | [] => 0
  | e :: l => if e = 0 then firstE l else e
theorem firstE_at {l : List Int} : ∀ {i : Nat}, i < l.length → (∀ j, j < i → l.getD j 0 = 0) → l.getD i 0 ≠ 0 → firstE l = l.getD i 0 := by
  induction l with
  | nil => intro i hi; exact absurd hi (Nat.not_lt_zero i)
  | cons e l ih =>
    intro i hi hz hn
    cases i with
    | zero => simp only [firstE]; rw [if_neg (by simpa using hn)]; simp
    | succ i =>
      have h0 := hz 0 (by omega)
      simp only [firstE]
      rw [if_pos (by simpa using h0)]
      have := ih (i := i) (by simpa using hi) (fun j hj => by simpa using hz (j + 1) (by omega)) (by simpa using hn)
      simpa using this
theorem firstE_0 {l : List Int} (h : ∀ j, j < l.length → l.getD j 0 = 0) : firstE l = 0 := by
  induction l with
  | nil => rfl
  | cons e l ih =>
    have h0 := h 0 (by simp)
    simp only [firstE]
    rw [if_pos (by simpa using h0)]
    exact ih (fun j hj => by simpa using h (j + 1) (by simpa using hj))
theorem first_fn (b : Nat) (fs : List Value) (es : List Int) (h : Heap) (hl : fs.length = es.length) (hn : es.length < 1000) (hb : h b = some (.cells ⟨fs⟩ 127 (0, 0))) (hf : ∀ (i : Nat) (h9 : Heap), i < es.length → Heap.le h h9 → TrV Tryz.prog (fs.getD i undef) [] h9 [] (fun v _ L' => v = .int .i64 (es.getD i 0) ∧ L' = [])) : Fn0 Tryz.prog 61 [.slice (some ⟨b, 0, none⟩) es.length es.length] h (.int .i64 (firstE es)) := by
  refine Tr_of Tryz.func61 rfl rfl Tryz.ntmps61 rfl [(0, .slice (some ⟨b, 0, none⟩) es.length es.length)] rfl ?_
  intro Lf
  refine den_seq ?_
  -- region 0
  refine den_region rfl ?_
  refine WL_v (v_assign rfl) rfl ?_
  refine WL_nil ?_
  refine den_seq ?_
  refine den_seq ?_
  -- region 1
  refine den_region rfl ?_
  refine WL_v (v_move rfl) rfl ?_
  refine WL_v (v_lens Tryz.underlying184 rfl) rfl ?_
  refine WL_v (v_move rfl) rfl ?_
  refine WL_nil ?_
  refine den_block ?_
  refine den_loopI (ι := Nat) (fun i => [(6, .slice (some ⟨b, 0, none⟩) es.length es.length), (7, .int .i64 ((es.length : Nat) : Int)), (8, .int .i64 ((i : Nat) : Int))]) (fun i h' L' => i ≤ es.length ∧ Heap.le h h' ∧ L' = Lf ∧ ∀ j, j < i → es.getD j 0 = 0) (fun i => es.length - i) 0 (sub_cons rfl (sub_cons rfl (sub_cons rfl sub_nil))) ⟨by omega, Heap.le.refl _, rfl, fun j hj => by omega⟩ ?_
  rintro i h1 _ ⟨i1, hl1, rfl, hall⟩
  refine den_seq ?_
  -- region 2
  refine den_region rfl ?_
  refine WL_v (v_lss rfl rfl) rfl ?_
  refine WL_nil ?_
  refine den_seq ?_
  first | refine den_ifd rfl (fun hi => ?_) (fun hi => ?_) | refine den_if rfl (fun hi => ?_) (fun hi => ?_)
  · skip
    have hi : i < es.length := by omega
    have hx : fs[0 + i * 1]? = some (fs.getD i undef) := by rw [Nat.zero_add, Nat.mul_one]; simp [show i < fs.length by omega]
    refine den_skip ?_
    refine den_seq ?_
    refine den_block ?_
    refine den_seq ?_
    -- region 3
    refine den_region rfl ?_
    refine WL_v (v_iaddrs Tryz.underlying184 siz127 rfl rfl rfl hi) rfl ?_
    refine WL_v (v_load1 one127 rfl (Kn.per (hl1 _ _ hb)) hx) rfl ?_
    refine WL_v (v_assign rfl) rfl ?_
    refine WL_nil ?_
    refine den_seq ?_
    -- region 4
    refine den_region rfl ?_
    refine WL_v (v_move rfl) rfl ?_
    refine WL_call (L1 := []) rfl rfl (hf i _ hi hl1) rfl ?_
    rintro _ h13 _ hl13 ⟨rfl, rfl⟩
    refine WL_v (v_assign rfl) rfl ?_
    refine WL_nil ?_
    refine den_seq ?_
    -- region 5
    refine den_region rfl ?_
    refine WL_v (v_move rfl) rfl ?_
    refine WL_v (v_neq rfl rfl) rfl ?_
    refine WL_nil ?_
    first | refine den_ifd rfl (fun hq => ?_) (fun hq => ?_) | refine den_if rfl (fun hq => ?_) (fun hq => ?_)
    · skip
      refine den_seq ?_
      -- region 6
      refine den_region rfl ?_
      refine WL_v (v_move rfl) rfl ?_
      refine WL_v (v_assign rfl) rfl ?_
      refine WL_nil ?_
      refine den_ret ?_
      exact ends1 Tryz.results61 rfl (hl1.trans hl13) (List.Sublist.refl _) ⟨by rw [firstE_at hi hall hq], rfl⟩
    · skip
      refine den_skip ?_
      refine den_blk ?_
      -- region 7
      refine den_region rfl ?_
      refine WL_v (v_addj (n := 1) rfl rfl (by show _ < 9223372036854775808; omega)) rfl ?_
      refine WL_v (v_move rfl) rfl ?_
      refine WL_nil ?_
      refine den_again ⟨rfl, (i + 1), (by show es.length - (i + 1) < es.length - i; omega), (sub_cons rfl (sub_cons rfl (sub_cons rfl sub_nil))), ⟨by omega, hl1.trans hl13, rfl, fun j hj => by rcases Nat.lt_succ_iff_lt_or_eq.1 hj with g | rfl; exact hall j g; exact Decidable.of_not_not hq⟩⟩
  · skip
    have hil : i = es.length := by omega
    subst hil
    refine den_exit rfl ?_
    refine den_seq ?_
    -- region 8
    refine den_region rfl ?_
    refine WL_v (v_assign rfl) rfl ?_
    refine WL_nil ?_
    refine den_ret ?_
    exact ends1 Tryz.results61 rfl hl1 (List.Sublist.refl _) ⟨by rw [firstE_0 hall], rfl⟩

theorem listed_fn (d : Int) (h : Heap) (hd : dev d) : Fn0 Tryz.prog 17 [.int .i64 d] h (.agg ⟨(lsd d false).cells⟩) := by
  refine Tr_of Tryz.func17 rfl rfl Tryz.ntmps17 rfl [(0, .int .i64 d)] rfl ?_
  intro Lf
  have hd1 := hd.1
  have hd2 := hd.2
  refine den_seq ?_
  -- region 0
  refine den_region rfl ?_
  refine WL_alloc (zs := lstz.cells) zer49 rfl rfl fun b2 => ?_
  refine WL_nil ?_
  refine den_seq ?_
  -- region 1
  refine den_region rfl ?_
  refine WL_v (v_move rfl) rfl ?_
  refine WL_v (v_add rfl rfl (wrap_i64 (by omega) (by omega))) rfl ?_
  refine WL_callq rfl (public_fn _ _) rfl ?_
  refine WL_v (v_move rfl) rfl ?_
  refine WL_v (v_extract rfl rfl) rfl ?_
  refine WL_v (v_extract rfl rfl) rfl ?_
  refine WL_v (v_assign rfl) rfl ?_
  refine WL_v (v_assign rfl) rfl ?_
  refine WL_nil ?_
  refine den_seq ?_
  -- region 2
  refine den_region rfl ?_
  refine WL_v (v_move rfl) rfl ?_
  refine WL_v (v_move rfl) rfl ?_
  refine WL_v (v_move rfl) rfl ?_
  refine WL_v (v_builds (r := [.int .i64 d, .int .i64 (if isPr (d + 1) then gexpV 4 (d + 1) else 0), .int .i64 (if isPr (d + 1) then gexpV 4 (d + 1) else 0), .int .i64 1, .bool false]) Tryz.underlying49 zer49 plc49 rfl rfl rfl) rfl ?_
  refine WL_store0 rfl rfl (us := [.int .i64 d, .int .i64 (if isPr (d + 1) then gexpV 4 (d + 1) else 0), .int .i64 (if isPr (d + 1) then gexpV 4 (d + 1) else 0), .int .i64 1, .bool false]) rfl siz49 (spl_all rfl) rfl rfl ?_
  refine WL_nil ?_
  refine den_ret ?_
  exact endsr1 Tryz.results17 (rv_n many49 rfl (Kn.own 0 rfl) (show cut 0 5 [.int .i64 d, .int .i64 (if isPr (d + 1) then gexpV 4 (d + 1) else 0), .int .i64 (if isPr (d + 1) then gexpV 4 (d + 1) else 0), .int .i64 1, .bool false] = some [.int .i64 d, .int .i64 (if isPr (d + 1) then gexpV 4 (d + 1) else 0), .int .i64 (if isPr (d + 1) then gexpV 4 (d + 1) else 0), .int .i64 1, .bool false] from rfl)) (Heap.le.refl _) (.cons _ (List.Sublist.refl _)) ⟨rfl, rfl⟩

theorem fewp_fn (p : Pol) (a b : Option Addr) (ca cb : Nat) (h : Heap) : Fn0 Tryz.prog 8 [.agg ⟨p.cells a b ca cb⟩] h (.bool (decide (p.le.length ≤ 10 ∧ p.ri.length ≤ 10))) := by
  refine Tr_of Tryz.func8 rfl rfl Tryz.ntmps8 rfl [(0, .agg ⟨p.cells a b ca cb⟩)] rfl ?_
  intro Lf
  refine den_seq ?_
  -- region 0
  refine den_region rfl ?_
  refine WL_box (zs := p.cells a b ca cb) rfl rfl rfl fun b1 => ?_
  refine WL_v (v_assign rfl) rfl ?_
  refine WL_nil ?_
  refine den_seq ?_
  -- region 1
  refine den_region rfl ?_
  refine WL_v (v_faddr Tryz.underlying24 rfl siz22 rfl) rfl ?_
  refine WL_v (v_load1 one22 rfl (Kn.own 0 rfl) (show (p.cells a b ca cb)[2]? = some (.slice a p.le.length ca) from rfl)) rfl ?_
  refine WL_v (v_lens Tryz.underlying22 rfl) rfl ?_
  refine WL_v (v_leq rfl rfl) rfl ?_
  refine WL_v (v_move rfl) rfl ?_
  first | refine WL_split (t := 7) rfl ?_ ?_
  · intro c1; try have c1 := of_decide_eq_true c1
    refine WL_vg rfl rfl (v_faddr Tryz.underlying24 rfl siz22 rfl) rfl ?_
    refine WL_vg rfl rfl (v_load1 one22 rfl (Kn.own 0 rfl) (show (p.cells a b ca cb)[3]? = some (.slice b p.ri.length cb) from rfl)) rfl ?_
    refine WL_vg rfl rfl (v_lens Tryz.underlying22 rfl) rfl ?_
    refine WL_vg rfl rfl (v_leq rfl rfl) rfl ?_
    refine WL_v (v_pickt rfl rfl) rfl ?_
    refine WL_v (v_assign rfl) rfl ?_
    refine WL_nil ?_
    refine den_ret ?_
    exact ends1 Tryz.results8 rfl (Heap.le.refl _) (by simp) ⟨by congr 1; first | exact (decide_eq_false (fun g => by have := g.1; omega)).symm | (rw [decide_eq_decide]; exact ⟨fun g => by omega, fun g => by omega⟩), rfl⟩
  · intro c2; try have c2 := of_decide_eq_false c2
    refine WL_skip (j := 4) (t := 7) (b := false) rfl rfl rfl rfl ?_
    refine WL_skip (j := 4) (t := 7) (b := false) rfl rfl rfl rfl ?_
    refine WL_skip (j := 4) (t := 7) (b := false) rfl rfl rfl rfl ?_
    refine WL_skip (j := 4) (t := 7) (b := false) rfl rfl rfl rfl ?_
    refine WL_v (v_pickf rfl rfl) rfl ?_
    refine WL_v (v_assign rfl) rfl ?_
    refine WL_nil ?_
    refine den_ret ?_
    exact ends1 Tryz.results8 rfl (Heap.le.refl _) (by simp) ⟨by congr 1; first | exact (decide_eq_false (fun g => by have := g.1; omega)).symm | (rw [decide_eq_decide]; exact ⟨fun g => by omega, fun g => by omega⟩), rfl⟩

theorem fewe_fn (b cy cx m : Nat) (y x : Option Addr) (it : Dig) (cs : List Con) (h : Heap) (hb : h b = some (.cells ⟨(dcells it ++ [.slice y cs.length cy])⟩ 41 (0, 0))) : Fn0 Tryz.prog 13 [.slice (some ⟨b, 0, none⟩) 1 1, .slice x m cx] h (.bool (decide (cs.length ≤ 5 ∧ m ≤ 10))) := by
  refine Tr_of Tryz.func13 rfl rfl Tryz.ntmps13 rfl [(0, .slice (some ⟨b, 0, none⟩) 1 1), (1, .slice x m cx)] rfl ?_
  intro Lf
  refine den_seq ?_
  -- region 0
  refine den_region rfl ?_
  refine WL_v (v_assign rfl) rfl ?_
  refine WL_nil ?_
  refine den_seq ?_
  refine den_seq ?_
  -- region 1
  refine den_region rfl ?_
  refine WL_v (v_assign rfl) rfl ?_
  refine WL_nil ?_
  refine den_block ?_
  refine den_loopI (ι := Nat) (fun i => [(0, .slice (some ⟨b, 0, none⟩) 1 1), (1, .slice x m cx), (5, .int .i64 ((i : Nat) : Int))]) (fun i h' L' => i ≤ 1 ∧ h = h' ∧ L' = Lf ∧ (i = 1 → cs.length ≤ 5)) (fun i => 1 - i) 0 (sub_cons rfl (sub_cons rfl (sub_cons rfl sub_nil))) ⟨by omega, rfl, rfl, fun g => by omega⟩ ?_
  rintro i _ _ ⟨i1, rfl, rfl, hc⟩
  refine den_seq ?_
  refine den_seq ?_
  -- region 2
  refine den_region rfl ?_
  refine WL_v (v_move rfl) rfl ?_
  refine WL_v (v_move rfl) rfl ?_
  refine WL_v (v_lens Tryz.underlying43 rfl) rfl ?_
  refine WL_v (v_lss rfl rfl) rfl ?_
  refine WL_nil ?_
  first | refine den_ifd rfl (fun hi => ?_) (fun hi => ?_) | refine den_if rfl (fun hi => ?_) (fun hi => ?_)
  · skip
    have hi0 : i = 0 := by omega
    subst hi0
    refine den_skip ?_
    refine den_seq ?_
    refine den_block ?_
    refine den_seq ?_
    -- region 4
    refine den_region rfl ?_
    refine WL_v (v_move rfl) rfl ?_
    refine WL_v (v_move rfl) rfl ?_
    refine WL_v (v_iaddrs (n := 0) Tryz.underlying43 siz41 rfl rfl rfl (by decide)) rfl ?_
    refine WL_v (v_faddr Tryz.underlying41 rfl siz39 rfl) rfl ?_
    refine WL_v (v_load1 one39 rfl (Kn.per hb) (show (dcells it ++ [.slice y cs.length cy])[32]? = some (.slice y cs.length cy) from rfl)) rfl ?_
    refine WL_v (v_lens Tryz.underlying39 rfl) rfl ?_
    refine WL_v (v_gtr rfl rfl) rfl ?_
    refine WL_nil ?_
    first | refine den_ifd rfl (fun hq => ?_) (fun hq => ?_) | refine den_if rfl (fun hq => ?_) (fun hq => ?_)
    · skip
      refine den_seq ?_
      -- region 5
      refine den_region rfl ?_
      refine WL_v (v_assign rfl) rfl ?_
      refine WL_nil ?_
      refine den_ret ?_
      exact ends1 Tryz.results13 rfl (Heap.le.refl _) (by simp) ⟨by congr 1; first | exact (decide_eq_false (fun g => by have := g.1; omega)).symm | (rw [decide_eq_decide]; exact ⟨fun g => by omega, fun g => by omega⟩), rfl⟩
    · skip
      refine den_skip ?_
      refine den_blk ?_
      -- region 3
      refine den_region rfl ?_
      refine WL_v (v_move rfl) rfl ?_
      refine WL_v (v_addj (n := 1) rfl rfl (by show _ < 9223372036854775808; omega)) rfl ?_
      refine WL_v (v_assign rfl) rfl ?_
      refine WL_nil ?_
      refine den_again ⟨rfl, 1, (by show 1 - 1 < 1 - 0; omega), (sub_cons rfl (sub_cons rfl (sub_cons rfl sub_nil))), ⟨by omega, rfl, rfl, fun _ => by omega⟩⟩
  · skip
    have hc5 := hc (by omega)
    refine den_exit rfl ?_
    refine den_seq ?_
    -- region 6
    refine den_region rfl ?_
    refine WL_v (v_move rfl) rfl ?_
    refine WL_v (v_lens Tryz.underlying43 rfl) rfl ?_
    refine WL_v (v_leq rfl rfl) rfl ?_
    refine WL_v (v_move rfl) rfl ?_
    first | refine WL_split (t := 22) rfl ?_ ?_
    · intro c5; try have c5 := of_decide_eq_true c5
      refine WL_vg rfl rfl (v_move rfl) rfl ?_
      refine WL_vg rfl rfl (v_lens Tryz.underlying38 rfl) rfl ?_
      refine WL_vg rfl rfl (v_leq rfl rfl) rfl ?_
      refine WL_v (v_pickt rfl rfl) rfl ?_
      refine WL_v (v_assign rfl) rfl ?_
      refine WL_nil ?_
      refine den_ret ?_
      exact ends1 Tryz.results13 rfl (Heap.le.refl _) (by simp) ⟨by congr 1; first | exact (decide_eq_false (fun g => by have := g.1; omega)).symm | (rw [decide_eq_decide]; exact ⟨fun g => by omega, fun g => by omega⟩), rfl⟩
    · intro c6; try have c6 := of_decide_eq_false c6
      refine WL_skip (j := 3) (t := 22) (b := false) rfl rfl rfl rfl ?_
      refine WL_skip (j := 3) (t := 22) (b := false) rfl rfl rfl rfl ?_
      refine WL_skip (j := 3) (t := 22) (b := false) rfl rfl rfl rfl ?_
      refine WL_v (v_pickf rfl rfl) rfl ?_
      refine WL_v (v_assign rfl) rfl ?_
      refine WL_nil ?_
      refine den_ret ?_
      exact ends1 Tryz.results13 rfl (Heap.le.refl _) (by simp) ⟨by congr 1; first | exact (decide_eq_false (fun g => by have := g.1; omega)).symm | (rw [decide_eq_decide]; exact ⟨fun g => by omega, fun g => by omega⟩), rfl⟩

end Go.Proofs.Ch
