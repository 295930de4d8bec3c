/- Walks of the program's functions, printed by my own generator (layer L16). -/
import Derived.Test.YtglmkcfmcoianaaGreatDoorL15
namespace Go.Proofs.Ch
open Go Go.Proofs
set_option maxRecDepth 4000
set_option maxHeartbeats 1000000
theorem siz54 : Siz Tryz.prog 54 8 := by show _ = _; kernel_rfl
theorem siz45 : Siz Tryz.prog 45 1 := by show _ = _; kernel_rfl
theorem one45 : One Tryz.prog 45 := One.of Tryz.underlying45 rfl
theorem siz82 : Siz Tryz.prog 82 9 := by show _ = _; kernel_rfl
theorem many82 : Many Tryz.prog 82 9 := Many.of Tryz.underlying82 rfl siz82
theorem zer4 : Zer Tryz.prog 4 (.bool false) := by show _ = _; kernel_rfl
theorem many54 : Many Tryz.prog 54 8 := Many.of Tryz.underlying54 rfl siz54
theorem zer82 : Zer Tryz.prog 82 (.agg ⟨[.slice none 0 0, .slice none 0 0, .slice none 0 0, .slice none 0 0, .slice none 0 0, .slice none 0 0, .slice none 0 0, .slice none 0 0, .slice none 0 0]⟩) := by show _ = _; kernel_rfl
theorem plc82 : Plc Tryz.prog (match Tryz.prog.underlying 82 with | some (.struct fs) => fs | _ => #[]) [(0, 8), (8, 1)] := fun _ => by kernel_rfl
theorem siz61 : Siz Tryz.prog 61 1 := by show _ = _; kernel_rfl
theorem zer61 : Zer Tryz.prog 61 (.slice none 0 0) := by show _ = _; kernel_rfl
theorem one61 : One Tryz.prog 61 := One.of Tryz.underlying61 rfl
theorem siz42 : Siz Tryz.prog 42 34 := by show _ = _; kernel_rfl
theorem many42 : Many Tryz.prog 42 34 := Many.of Tryz.underlying42 rfl siz42
theorem zer42 : Zer Tryz.prog 42 (.agg ⟨[.int .i64 0, .int .i64 0, .int .u8 0, .int .u8 0, .int .u8 0, .int .u8 0, .int .u8 0, .int .u8 0, .int .u8 0, .int .u8 0, .int .u8 0, .int .u8 0, .int .u8 0, .int .u8 0, .int .u8 0, .int .u8 0, .int .u8 0, .int .u8 0, .int .u8 0, .int .u8 0, .int .u8 0, .int .u8 0, .int .u8 0, .int .u8 0, .int .u8 0, .int .u8 0, .int .u8 0, .int .u8 0, .int .u8 0, .int .u8 0, .int .u8 0, .int .u8 0, .int .u8 0, .int .u8 0]⟩) := by show _ = _; kernel_rfl
theorem ixf_fn (fv : Value) (h : Heap) : Fn0 Tryz.prog 115 [.slice none 0 0, fv] h (.int .i64 (-1)) := by
  refine Tr_of Tryz.func115 rfl rfl Tryz.ntmps115 rfl [(0, .slice none 0 0), (1, fv)] rfl ?_
  intro Lf
  refine den_seq ?_
  -- region 0
  refine den_region rfl ?_
  refine WL_v (v_assign rfl) rfl ?_
  refine WL_nil ?_
  refine den_seq ?_
  refine den_seq ?_
  -- region 1
  refine den_region rfl ?_
  refine WL_v (v_move rfl) rfl ?_
  refine WL_v (v_lens Tryz.underlying45 rfl) rfl ?_
  refine WL_v (v_move rfl) rfl ?_
  refine WL_nil ?_
  refine den_block ?_
  refine den_loopI (ι := Nat) (fun i => [(7, .int .i64 ((0 : Nat) : Int)), (8, .int .i64 ((i : Nat) : Int))]) (fun i h' L' => i = 0 ∧ h = h' ∧ L' = Lf) (fun i => 0) 0 (sub_cons rfl (sub_cons rfl sub_nil)) ⟨rfl, rfl, rfl⟩ ?_
  rintro i _ _ ⟨rfl, rfl, rfl⟩
  refine den_seq ?_
  -- region 2
  refine den_region rfl ?_
  refine WL_v (v_lss rfl rfl) rfl ?_
  refine WL_nil ?_
  refine den_seq ?_
  first | refine den_ifd rfl (fun hi => ?_) (fun hi => ?_) | refine den_if rfl (fun hi => ?_) (fun hi => ?_)
  · skip
    omega
  · skip
    refine den_exit rfl ?_
    refine den_seq ?_
    -- region 7
    refine den_region rfl ?_
    refine WL_v (v_assign rfl) rfl ?_
    refine WL_nil ?_
    refine den_ret ?_
    exact ends1 Tryz.results115 rfl (Heap.le.refl _) (by simp) ⟨rfl, rfl⟩

theorem groupsz_fn (x : Int) (h : Heap) : Fnp Tryz.prog 75 [.agg ⟨scz⟩, .int .i64 x] h (fun v h' => ∃ b2 b3, v = .func (.func 114) ⟨[]⟩ ⟨[.pointer (some ⟨b2, 0, none⟩), .pointer (some ⟨b3, 0, none⟩)]⟩ ∧ h' b2 = some (.cells ⟨scz⟩ 82 (0, 0))) := by
  refine Tr_of Tryz.func75 rfl rfl Tryz.ntmps75 rfl [(0, .agg ⟨scz⟩), (1, .int .i64 x)] rfl ?_
  intro Lf
  refine den_seq ?_
  -- region 0
  refine den_region rfl ?_
  refine WL_box (zs := scz) rfl rfl rfl fun b2 => ?_
  refine WL_freeze fun h2 hl2 hb2 => ?_
  refine WL_box rfl rfl rfl fun b3 => ?_
  refine WL_v (v_assign rfl) rfl ?_
  refine WL_nil ?_
  refine den_seq ?_
  -- region 1
  refine den_region rfl ?_
  refine WL_v (v_func rfl rfl) rfl ?_
  refine WL_v (v_assign rfl) rfl ?_
  refine WL_nil ?_
  refine den_ret ?_
  exact ends1 Tryz.results75 rfl hl2 (.cons _ (List.Sublist.refl _)) ⟨⟨b2, b3, rfl, hb2⟩, rfl⟩

theorem groupsz_iter (b2 b3 : Nat) (h : Heap) (hb2 : h b2 = some (.cells ⟨scz⟩ 82 (0, 0))) : Iter Tryz.prog 114 [] [.pointer (some ⟨b2, 0, none⟩), .pointer (some ⟨b3, 0, none⟩)] [] 0 (fun _ _ _ => False) h := by
  intro y Sx X hS hY h0 M0 hle0 hS0
  refine Tr_of Tryz.func114 rfl rfl Tryz.ntmps114 rfl [(0, y), (1, .pointer (some ⟨b2, 0, none⟩)), (2, .pointer (some ⟨b3, 0, none⟩))] rfl ?_
  intro Lf
  have hb2 := hle0 _ _ hb2
  refine den_seq ?_
  -- region 0
  refine den_region rfl ?_
  refine WL_v (v_faddr Tryz.underlying82 rfl siz54 rfl) rfl ?_
  refine WL_v (v_faddr Tryz.underlying54 rfl siz45 rfl) rfl ?_
  refine WL_v (v_load1 one45 rfl (by first | exact Kn.own 0 rfl | exact Kn.own 1 rfl | exact Kn.own 2 rfl | exact Kn.own 3 rfl | exact Kn.own 4 rfl | exact Kn.own 5 rfl | exact Kn.per ‹_›) rfl) rfl ?_
  refine WL_v (v_func rfl rfl) rfl ?_
  refine WL_callq rfl (ixf_fn _ _) rfl ?_
  refine WL_v (v_assign rfl) rfl ?_
  refine WL_nil ?_
  refine den_seq ?_
  refine den_seq ?_
  -- region 1
  refine den_region rfl ?_
  refine WL_v (v_move rfl) rfl ?_
  refine WL_v (OpV.to (v' := .bool true) (v_lss rfl rfl) (by first | rfl | simp)) rfl ?_
  refine WL_nil ?_
  refine den_true rfl ?_
  refine den_ret ?_
  exact ends0 Tryz.results114 (Heap.le.refl _) (by rw [List.append_nil]; exact List.Sublist.refl _) (.inl hS0)

theorem bydevz_fn (l : Lk) (h : Heap) : Fn0 Tryz.prog 69 [.agg ⟨scz⟩, .agg ⟨l.cells⟩] h (.bool false) := by
  refine Tr_of Tryz.func69 rfl rfl Tryz.ntmps69 rfl [(0, .agg ⟨scz⟩), (1, .agg ⟨l.cells⟩)] rfl ?_
  intro Lf
  refine den_seq ?_
  -- region 0
  refine den_region rfl ?_
  refine WL_box (zs := scz) rfl rfl rfl fun b2 => ?_
  refine WL_box (zs := l.cells) rfl rfl rfl fun b3 => ?_
  refine WL_alloc zer4 rfl rfl fun b4 => ?_
  refine WL_nil ?_
  refine den_seq ?_
  refine den_seq ?_
  -- region 1
  refine den_region rfl ?_
  refine WL_v (v_loadn many82 rfl (Kn.own 2 rfl) (show cut 0 9 scz = some scz from rfl)) rfl ?_
  refine WL_v (v_faddr Tryz.underlying64 rfl siz27 rfl) rfl ?_
  refine WL_v (v_faddr Tryz.underlying27 rfl siz3 rfl) rfl ?_
  refine WL_v (v_load1 one3 rfl (Kn.own 1 rfl) (show l.cells[0]? = some (.int .i64 l.f) from rfl)) rfl ?_
  refine WL_callp rfl (groupsz_fn _ _) rfl ?_
  rintro _ h10 hl10 ⟨b20, b30, rfl, hb20⟩
  refine WL_nil ?_
  refine den_block ?_
  refine den_each (Lb := []) (Lc := []) (groupsz_iter b20 b30 _ hb20) (fun i h' L' => L' = []) (fun c h' L' => False) rfl rfl (by kernel_rfl) (fun i args hq hx => hx.elim) (fun _ _ _ _ _ x => x) rfl ?_ ?_ ?_
  · intro lp i args hq L1 r1 Lx hi hleq hitem hinv hrec
    exact hitem.elim
  · intro D hd Ld hled hI
    subst hI
    refine den_blk ?_
    refine den_seq ?_
    -- region 5
    refine den_region rfl ?_
    refine WL_store1 rfl rfl rfl siz4 rfl rfl rfl ?_
    refine WL_nil ?_
    refine den_ret ?_
    refine ends_mark (A := []) ?_
    exact endsr1 Tryz.results69 (rv_1 one4 rfl (Kn.own 1 rfl) rfl) (hl10.trans hled) (.cons _ (.cons _ (.cons _ (.cons _ (List.Sublist.refl _))))) ⟨rfl, rfl⟩
  · intro D c hd Ld hled hX
    exact hX.elim

theorem acceptedz_fn (l : Lk) (h : Heap) (hnb : l.b ≠ -1) : Fn0 Tryz.prog 32 [.agg ⟨scz⟩, .agg ⟨l.cells⟩, .int .i64 256] h (.bool false) := by
  refine Tr_of Tryz.func32 rfl rfl Tryz.ntmps32 rfl [(0, .agg ⟨scz⟩), (1, .agg ⟨l.cells⟩), (2, .int .i64 256)] rfl ?_
  intro Lf
  refine den_seq ?_
  -- region 0
  refine den_region rfl ?_
  refine WL_box (zs := scz) rfl rfl rfl fun b3 => ?_
  refine WL_box (zs := l.cells) rfl rfl rfl fun b4 => ?_
  refine WL_v (v_assign rfl) rfl ?_
  refine WL_nil ?_
  refine den_seq ?_
  refine den_seq ?_
  -- region 1
  refine den_region rfl ?_
  refine WL_v (v_loadn many64 rfl (Kn.own 0 rfl) (show cut 0 40 l.cells = some l.cells from Lk.cutS _)) rfl ?_
  refine WL_callq rfl (lvalid_fn _ _) rfl ?_
  first | refine WL_v (v_notd rfl) rfl ?_ | refine WL_v (v_not rfl) rfl ?_
  refine WL_nil ?_
  first | refine den_ifd rfl (fun hf => ?_) (fun hf => ?_) | refine den_if rfl (fun hf => ?_) (fun hf => ?_)
  · skip
    refine den_seq ?_
    -- region 2
    refine den_region rfl ?_
    refine WL_v (v_assign rfl) rfl ?_
    refine WL_nil ?_
    refine den_ret ?_
    exact ends1 Tryz.results32 rfl (Heap.le.refl _) (.cons _ (.cons _ (List.Sublist.refl _))) ⟨rfl, rfl⟩
  · skip
    refine den_skip ?_
    refine den_seq ?_
    refine den_seq ?_
    -- region 3
    refine den_region rfl ?_
    refine WL_v (v_faddr Tryz.underlying64 rfl siz27 rfl) rfl ?_
    refine WL_v (v_faddr Tryz.underlying27 rfl siz3 rfl) rfl ?_
    refine WL_v (v_load1 one3 rfl (Kn.own 0 rfl) (show l.cells[1]? = some (.int .i64 l.b) from rfl)) rfl ?_
    refine WL_v (v_neq rfl rfl) rfl ?_
    refine WL_nil ?_
    first | refine den_ifd rfl (fun hb => ?_) (fun hb => ?_) | refine den_if rfl (fun hb => ?_) (fun hb => ?_)
    · skip
      refine den_seq ?_
      -- region 4
      refine den_region rfl ?_
      refine WL_v (v_loadn many82 rfl (Kn.own 1 rfl) (show cut 0 9 scz = some scz from rfl)) rfl ?_
      refine WL_v (v_loadn many64 rfl (Kn.own 0 rfl) (show cut 0 40 l.cells = some l.cells from Lk.cutS _)) rfl ?_
      refine WL_callq rfl (bydevz_fn _ _) rfl ?_
      refine WL_v (v_assign rfl) rfl ?_
      refine WL_nil ?_
      refine den_ret ?_
      exact ends1 Tryz.results32 rfl (Heap.le.refl _) (.cons _ (.cons _ (List.Sublist.refl _))) ⟨rfl, rfl⟩
    · skip
      exact absurd hnb hb

theorem Acceptedz_fn (l : Lk) (h : Heap) (hnb : l.b ≠ -1) : Fn0 Tryz.prog 13 [.agg ⟨recz⟩, .slice none 0 0, .agg ⟨l.cells⟩] h (.bool false) := by
  refine Tr_of Tryz.func13 rfl rfl Tryz.ntmps13 rfl [(0, .agg ⟨recz⟩), (1, .slice none 0 0), (2, .agg ⟨l.cells⟩)] rfl ?_
  intro Lf
  refine den_seq ?_
  -- region 0
  refine den_region rfl ?_
  refine WL_box (zs := recz) rfl rfl rfl fun b3 => ?_
  refine WL_box (zs := l.cells) rfl rfl rfl fun b5 => ?_
  refine WL_v (v_assign rfl) rfl ?_
  refine WL_nil ?_
  refine den_seq ?_
  -- region 1
  refine den_region rfl ?_
  refine WL_v (v_loadn many54 rfl (Kn.own 1 rfl) (show cut 0 8 recz = some recz from rfl)) rfl ?_
  refine WL_v (v_move rfl) rfl ?_
  refine WL_v (v_builds (r := scz) Tryz.underlying82 zer82 plc82 rfl rfl rfl) rfl ?_
  refine WL_v (v_loadn many27 rfl (Kn.own 0 rfl) (show cut 0 40 l.cells = some l.cells from Lk.cutS _)) rfl ?_
  refine WL_v (v_builds (r := l.cells) Tryz.underlying64 zer64 plc64 rfl rfl rfl) rfl ?_
  refine WL_callq rfl (acceptedz_fn _ _ hnb) rfl ?_
  refine WL_v (v_assign rfl) rfl ?_
  refine WL_nil ?_
  refine den_ret ?_
  exact ends1 Tryz.results13 rfl (Heap.le.refl _) (.cons _ (.cons _ (List.Sublist.refl _))) ⟨rfl, rfl⟩

theorem Reachz_fn (l : Lk) (h : Heap) (hnb : l.b ≠ -1) : Fn0 Tryz.prog 14 [.agg ⟨recz⟩, .slice none 0 0, .agg ⟨l.cells⟩] h (.slice none 0 0) := by
  refine Tr_of Tryz.func14 rfl rfl Tryz.ntmps14 rfl [(0, .agg ⟨recz⟩), (1, .slice none 0 0), (2, .agg ⟨l.cells⟩)] rfl ?_
  intro Lf
  refine den_seq ?_
  -- region 0
  refine den_region rfl ?_
  refine WL_box (zs := recz) rfl rfl rfl fun b3 => ?_
  refine WL_box (zs := l.cells) rfl rfl rfl fun b5 => ?_
  refine WL_alloc zer61 rfl rfl fun b6 => ?_
  refine WL_nil ?_
  refine den_seq ?_
  -- region 1
  refine den_region rfl ?_
  refine WL_v (v_loadn many54 rfl (Kn.own 2 rfl) (show cut 0 8 recz = some recz from rfl)) rfl ?_
  refine WL_v (v_move rfl) rfl ?_
  refine WL_v (v_builds (r := scz) Tryz.underlying82 zer82 plc82 rfl rfl rfl) rfl ?_
  refine WL_alloc zer82 rfl rfl fun b7 => ?_
  refine WL_store0 rfl rfl (us := scz) rfl siz82 (by exact spl_all rfl) rfl rfl ?_
  refine WL_nil ?_
  refine den_seq ?_
  refine den_seq ?_
  -- region 2
  refine den_region rfl ?_
  refine WL_v (v_loadn many82 rfl (Kn.own 0 rfl) (show cut 0 9 scz = some scz from rfl)) rfl ?_
  refine WL_v (v_loadn many27 rfl (Kn.own 2 rfl) (show cut 0 40 l.cells = some l.cells from Lk.cutS _)) rfl ?_
  refine WL_v (v_builds (r := l.cells) Tryz.underlying64 zer64 plc64 rfl rfl rfl) rfl ?_
  refine WL_callq rfl (acceptedz_fn _ _ hnb) rfl ?_
  refine WL_v (OpV.to (v' := .bool true) (v_not rfl) (by first | rfl | simp)) rfl ?_
  refine WL_nil ?_
  refine den_true rfl ?_
  refine den_seq ?_
  -- region 3
  refine den_region rfl ?_
  refine WL_store1 rfl rfl rfl siz61 rfl rfl rfl ?_
  refine WL_nil ?_
  refine den_ret ?_
  exact endsr1 Tryz.results14 (rv_1 one61 rfl (Kn.own 1 rfl) rfl) (Heap.le.refl _) (.cons _ (.cons _ (.cons _ (.cons _ (List.Sublist.refl _))))) ⟨rfl, rfl⟩

theorem Turnz_fn (l : Lk) (is : List Value) (h : Heap) (hnb : l.b ≠ -1) : Fn0 Tryz.prog 11 [.agg ⟨recz⟩, .slice none 0 0, .agg ⟨l.cells⟩, .agg ⟨is⟩] h (.tuple ⟨[.agg ⟨capz⟩, .int .i64 400]⟩) := by
  refine Tr_of Tryz.func11 rfl rfl Tryz.ntmps11 rfl [(0, .agg ⟨recz⟩), (1, .slice none 0 0), (2, .agg ⟨l.cells⟩), (3, .agg ⟨is⟩)] rfl ?_
  intro Lf
  refine den_seq ?_
  -- region 0
  refine den_region rfl ?_
  refine WL_box (zs := recz) rfl rfl rfl fun b4 => ?_
  refine WL_box (zs := l.cells) rfl rfl rfl fun b6 => ?_
  refine WL_box (zs := is) rfl rfl rfl fun b7 => ?_
  refine WL_alloc zer42 rfl rfl fun b8 => ?_
  refine WL_alloc zer32 rfl rfl fun b9 => ?_
  refine WL_nil ?_
  refine den_seq ?_
  -- region 1
  refine den_region rfl ?_
  refine WL_v (v_loadn many54 rfl (Kn.own 4 rfl) (show cut 0 8 recz = some recz from rfl)) rfl ?_
  refine WL_v (v_move rfl) rfl ?_
  refine WL_v (v_builds (r := scz) Tryz.underlying82 zer82 plc82 rfl rfl rfl) rfl ?_
  refine WL_alloc zer82 rfl rfl fun b10 => ?_
  refine WL_store0 rfl rfl (us := scz) rfl siz82 (by exact spl_all rfl) rfl rfl ?_
  refine WL_nil ?_
  refine den_seq ?_
  refine den_seq ?_
  -- region 2
  refine den_region rfl ?_
  refine WL_v (v_loadn many82 rfl (Kn.own 0 rfl) (show cut 0 9 scz = some scz from rfl)) rfl ?_
  refine WL_v (v_loadn many27 rfl (Kn.own 4 rfl) (show cut 0 40 l.cells = some l.cells from Lk.cutS _)) rfl ?_
  refine WL_v (v_builds (r := l.cells) Tryz.underlying64 zer64 plc64 rfl rfl rfl) rfl ?_
  refine WL_callq rfl (acceptedz_fn _ _ hnb) rfl ?_
  refine WL_v (OpV.to (v' := .bool true) (v_not rfl) (by first | rfl | simp)) rfl ?_
  refine WL_nil ?_
  refine den_true rfl ?_
  refine den_seq ?_
  -- region 3
  refine den_region rfl ?_
  refine WL_v (v_loadn many42 rfl (Kn.own 2 rfl) (show cut 0 34 capz = some capz from rfl)) rfl ?_
  refine WL_store2 rfl rfl (us := capz) rfl siz42 (by exact spl_all rfl) rfl rfl ?_
  refine WL_store1 rfl rfl rfl siz32 rfl rfl rfl ?_
  refine WL_nil ?_
  refine den_ret ?_
  exact endsr2 Tryz.results11 (rv_n many42 rfl (Kn.own 2 rfl) (show cut 0 34 capz = some capz from rfl)) (rv_1 one32 rfl (Kn.own 1 rfl) rfl) (Heap.le.refl _) (.cons _ (.cons _ (.cons _ (.cons _ (.cons _ (.cons _ (List.Sublist.refl _))))))) ⟨rfl, rfl⟩

end Go.Proofs.Ch
