/- Walks of the program's functions, printed by my own generator (layer P5). -/
import Derived.Test.YtmeakefbepbapaaGreatDoorP4
import Derived.Test.YtmeakefbepbapaaGreatDoorS3
namespace Go.Proofs.Ch
open Go Go.Proofs
set_option maxRecDepth 4000
set_option maxHeartbeats 1000000

theorem rdp {w : World} {cs : List Value} (h : Rd Tryz.prog w 24 cs) : cs.length = 6 ∧ Rd Tryz.prog w 3 ((cs.drop 0).take 1) ∧ Rd Tryz.prog w 4 ((cs.drop 1).take 1) ∧ Rd Tryz.prog w 22 ((cs.drop 2).take 1) ∧ Rd Tryz.prog w 22 ((cs.drop 3).take 1) ∧ Rd Tryz.prog w 3 ((cs.drop 4).take 1) ∧ Rd Tryz.prog w 3 ((cs.drop 5).take 1) := by
  obtain ⟨hl, hf⟩ := h.struct Tryz.underlying24 (N := 6) (by kernel_rfl)
  have f0 : Rd Tryz.prog w 3 ((cs.drop 0).take (Tryz.prog.cellsOf 3)) := hf 0 _ rfl
  rw [show Tryz.prog.cellsOf 3 = 1 from by kernel_rfl] at f0
  have f1 : Rd Tryz.prog w 4 ((cs.drop 1).take (Tryz.prog.cellsOf 4)) := hf 1 _ rfl
  rw [show Tryz.prog.cellsOf 4 = 1 from by kernel_rfl] at f1
  have f2 : Rd Tryz.prog w 22 ((cs.drop 2).take (Tryz.prog.cellsOf 22)) := hf 2 _ rfl
  rw [show Tryz.prog.cellsOf 22 = 1 from by kernel_rfl] at f2
  have f3 : Rd Tryz.prog w 22 ((cs.drop 3).take (Tryz.prog.cellsOf 22)) := hf 3 _ rfl
  rw [show Tryz.prog.cellsOf 22 = 1 from by kernel_rfl] at f3
  have f4 : Rd Tryz.prog w 3 ((cs.drop 4).take (Tryz.prog.cellsOf 3)) := hf 4 _ rfl
  rw [show Tryz.prog.cellsOf 3 = 1 from by kernel_rfl] at f4
  have f5 : Rd Tryz.prog w 3 ((cs.drop 5).take (Tryz.prog.cellsOf 3)) := hf 5 _ rfl
  rw [show Tryz.prog.cellsOf 3 = 1 from by kernel_rfl] at f5
  exact ⟨hl, f0, f1, f2, f3, f4, f5⟩
theorem rdc {w : World} {cs : List Value} (h : Rd Tryz.prog w 32 cs) : cs.length = 3 ∧ Rd Tryz.prog w 3 ((cs.drop 0).take 1) ∧ Rd Tryz.prog w 30 ((cs.drop 1).take 2) := by
  obtain ⟨hl, hf⟩ := h.struct Tryz.underlying32 (N := 3) (by kernel_rfl)
  have f0 : Rd Tryz.prog w 3 ((cs.drop 0).take (Tryz.prog.cellsOf 3)) := hf 0 _ rfl
  rw [show Tryz.prog.cellsOf 3 = 1 from by kernel_rfl] at f0
  have f1 : Rd Tryz.prog w 30 ((cs.drop 1).take (Tryz.prog.cellsOf 30)) := hf 1 _ rfl
  rw [show Tryz.prog.cellsOf 30 = 2 from by kernel_rfl] at f1
  exact ⟨hl, f0, f1⟩
theorem rdg {w : World} {cs : List Value} (h : Rd Tryz.prog w 30 cs) : cs.length = 2 ∧ Rd Tryz.prog w 3 ((cs.drop 0).take 1) ∧ Rd Tryz.prog w 3 ((cs.drop 1).take 1) := by
  obtain ⟨hl, hf⟩ := h.struct Tryz.underlying30 (N := 2) (by kernel_rfl)
  have f0 : Rd Tryz.prog w 3 ((cs.drop 0).take (Tryz.prog.cellsOf 3)) := hf 0 _ rfl
  rw [show Tryz.prog.cellsOf 3 = 1 from by kernel_rfl] at f0
  have f1 : Rd Tryz.prog w 3 ((cs.drop 1).take (Tryz.prog.cellsOf 3)) := hf 1 _ rfl
  rw [show Tryz.prog.cellsOf 3 = 1 from by kernel_rfl] at f1
  exact ⟨hl, f0, f1⟩
theorem rdl {w : World} {cs : List Value} (h : Rd Tryz.prog w 49 cs) : cs.length = 5 ∧ Rd Tryz.prog w 3 ((cs.drop 0).take 1) ∧ Rd Tryz.prog w 3 ((cs.drop 1).take 1) ∧ Rd Tryz.prog w 3 ((cs.drop 2).take 1) ∧ Rd Tryz.prog w 3 ((cs.drop 3).take 1) ∧ Rd Tryz.prog w 4 ((cs.drop 4).take 1) := by
  obtain ⟨hl, hf⟩ := h.struct Tryz.underlying49 (N := 5) (by kernel_rfl)
  have f0 : Rd Tryz.prog w 3 ((cs.drop 0).take (Tryz.prog.cellsOf 3)) := hf 0 _ rfl
  rw [show Tryz.prog.cellsOf 3 = 1 from by kernel_rfl] at f0
  have f1 : Rd Tryz.prog w 3 ((cs.drop 1).take (Tryz.prog.cellsOf 3)) := hf 1 _ rfl
  rw [show Tryz.prog.cellsOf 3 = 1 from by kernel_rfl] at f1
  have f2 : Rd Tryz.prog w 3 ((cs.drop 2).take (Tryz.prog.cellsOf 3)) := hf 2 _ rfl
  rw [show Tryz.prog.cellsOf 3 = 1 from by kernel_rfl] at f2
  have f3 : Rd Tryz.prog w 3 ((cs.drop 3).take (Tryz.prog.cellsOf 3)) := hf 3 _ rfl
  rw [show Tryz.prog.cellsOf 3 = 1 from by kernel_rfl] at f3
  have f4 : Rd Tryz.prog w 4 ((cs.drop 4).take (Tryz.prog.cellsOf 4)) := hf 4 _ rfl
  rw [show Tryz.prog.cellsOf 4 = 1 from by kernel_rfl] at f4
  exact ⟨hl, f0, f1, f2, f3, f4⟩
theorem rdye {w : World} {cs : List Value} (h : Rd Tryz.prog w 41 cs) : cs.length = 33 ∧ Rd Tryz.prog w 26 ((cs.drop 0).take 32) ∧ Rd Tryz.prog w 39 ((cs.drop 32).take 1) := by
  obtain ⟨hl, hf⟩ := h.struct Tryz.underlying41 (N := 33) (by kernel_rfl)
  have f0 : Rd Tryz.prog w 26 ((cs.drop 0).take (Tryz.prog.cellsOf 26)) := hf 0 _ rfl
  rw [show Tryz.prog.cellsOf 26 = 32 from by kernel_rfl] at f0
  have f1 : Rd Tryz.prog w 39 ((cs.drop 32).take (Tryz.prog.cellsOf 39)) := hf 1 _ rfl
  rw [show Tryz.prog.cellsOf 39 = 1 from by kernel_rfl] at f1
  exact ⟨hl, f0, f1⟩
theorem rd_pol {w : World} {cs : List Value} (h : Rd Tryz.prog w 24 cs) : ∃ (p : Pol) (a b : Option Addr) (ca cb : Nat), cs = p.cells a b ca cb ∧ Sl1 (whole w) a p.le.length (fun i => .int .i64 (p.le.getD i 0)) ∧ Sl1 (whole w) b p.ri.length (fun i => .int .i64 (p.ri.getD i 0)) := by
  obtain ⟨hl, f0, f1, f2, f3, f4, f5⟩ := rdp h
  match cs, hl with
  | [c0, c1, c2, c3, c4, c5], _ =>
    obtain ⟨x0, e0, _⟩ := f0.i64 Tryz.underlying3
    obtain ⟨x1, e1⟩ := f1.bool Tryz.underlying4
    obtain ⟨a, ca, le, e2, _, sa, _⟩ := f2.ints Tryz.underlying22 Tryz.underlying3 (by kernel_rfl)
    obtain ⟨b, cb, ri, e3, _, sb, _⟩ := f3.ints Tryz.underlying22 Tryz.underlying3 (by kernel_rfl)
    obtain ⟨x4, e4, _⟩ := f4.i64 Tryz.underlying3
    obtain ⟨x5, e5, _⟩ := f5.i64 Tryz.underlying3
    cases e0; cases e1; cases e2; cases e3; cases e4; cases e5
    exact ⟨⟨x0, x1, le, ri, x4, x5⟩, a, b, ca, cb, rfl, sa, sb⟩
def Con.ok (c : Con) : Prop := Ri c.d ∧ Ri c.r ∧ Ri c.s
theorem rd_con {w : World} {cs : List Value} (h : Rd Tryz.prog w 32 cs) : ∃ c : Con, cs = c.cells ∧ c.ok := by
  obtain ⟨hl, f0, f1⟩ := rdc h
  match cs, hl with
  | [c0, c1, c2], _ =>
    obtain ⟨_, g0, g1⟩ := rdg f1
    obtain ⟨x0, e0, r0⟩ := f0.i64 Tryz.underlying3
    obtain ⟨x1, e1, r1⟩ := g0.i64 Tryz.underlying3
    obtain ⟨x2, e2, r2⟩ := g1.i64 Tryz.underlying3
    cases e0; cases e1; cases e2
    exact ⟨⟨x0, x1, x2⟩, rfl, r0, r1, r2⟩
theorem rd_lst {w : World} {cs : List Value} (h : Rd Tryz.prog w 49 cs) : ∃ c : Lst, cs = c.cells ∧ True := by
  obtain ⟨hl, f0, f1, f2, f3, f4⟩ := rdl h
  match cs, hl with
  | [c0, c1, c2, c3, c4], _ =>
    obtain ⟨x0, e0, _⟩ := f0.i64 Tryz.underlying3
    obtain ⟨x1, e1, _⟩ := f1.i64 Tryz.underlying3
    obtain ⟨x2, e2, _⟩ := f2.i64 Tryz.underlying3
    obtain ⟨x3, e3, _⟩ := f3.i64 Tryz.underlying3
    obtain ⟨x4, e4⟩ := f4.bool Tryz.underlying4
    cases e0; cases e1; cases e2; cases e3; cases e4
    exact ⟨⟨x0, x1, x2, x3, x4⟩, rfl, trivial⟩
theorem rd_lsts {w : World} {cs : List Value} (h : Rd Tryz.prog w 38 cs) : ∃ (a : Option Addr) (cap : Nat) (l : List Lst), cs = [.slice a l.length cap] ∧ Sln (whole w) a l.length 5 (fun i => (l.getD i lstz).cells) := by
  obtain ⟨a, cap, l, e, _, s, _⟩ := h.rows lstz Lst.cells (fun _ => True) Tryz.underlying38 (k := 5) (by kernel_rfl) (by decide) (fun _ h => rd_lst h)
  exact ⟨a, cap, l, e, s⟩
theorem rd_exp {w : World} {cs : List Value} (h : Rd Tryz.prog w 41 cs) : ∃ (it : Dig) (y : Option Addr) (cy : Nat) (l : List Con), cs = dcells it ++ [.slice y l.length cy] ∧ (∀ c ∈ l, c.ok) ∧ Sln (whole w) y l.length 3 (fun i => (l.getD i conz).cells) := by
  obtain ⟨hl, f0, f1⟩ := rdye h
  obtain ⟨it, e0⟩ := f0.dig Tryz.underlying26 Tryz.underlying5 (by kernel_rfl) (by kernel_rfl)
  obtain ⟨y, cy, l, e1, hok, s, _⟩ := f1.rows conz Con.cells Con.ok Tryz.underlying39 (k := 3) (by kernel_rfl) (by decide) (fun _ h => rd_con h)
  refine ⟨it, y, cy, l, ?_, hok, s⟩
  rw [← e0, ← e1, List.drop_zero, List.take_of_length_le (l := cs.drop 32) (by simp [hl]), List.take_append_drop]

theorem lawe_fn (p : Pol) (a b x y : Option Addr) (ca cb cx cy : Nat) (xs : List Lst) (it : Dig) (cs : List Con) (h : Heap) (ha : Sl1 h a p.le.length (fun i => .int .i64 (p.le.getD i 0))) (hb : Sl1 h b p.ri.length (fun i => .int .i64 (p.ri.getD i 0))) (hx : Sln h x xs.length 5 (fun i => (xs.getD i lstz).cells)) (hy : Sln h y cs.length 3 (fun i => (cs.getD i conz).cells)) (hG : Gl h) : Fn0 Tryz.prog 4 [.agg ⟨p.cells a b ca cb⟩, .slice x xs.length cx, .agg ⟨dcells it ++ [.slice y cs.length cy]⟩] h (.bool true) := by
  refine Tr_of Tryz.func4 rfl rfl Tryz.ntmps4 rfl [(0, .agg ⟨p.cells a b ca cb⟩), (1, .slice x xs.length cx), (2, .agg ⟨dcells it ++ [.slice y cs.length cy]⟩)] rfl ?_
  intro Lf
  refine den_seq ?_
  -- region 0
  refine den_region rfl ?_
  refine WL_box (zs := p.cells a b ca cb) rfl rfl rfl fun b3 => ?_
  refine WL_box (zs := (dcells it ++ [.slice y cs.length cy])) rfl rfl rfl fun b5 => ?_
  refine WL_freeze fun h5 hl5 hb5 => ?_
  refine WL_freeze fun h3 hl3 hb3 => ?_
  have hb5 := hl3 _ _ hb5
  have z := hl5.trans hl3
  have hG := hG.le z
  have ha := ha.le z
  have hb := hb.le z
  have hx := hx.le z
  have hy := hy.le z
  refine WL_v (v_assign rfl) rfl ?_
  refine WL_nil ?_
  refine den_seq ?_
  refine den_seq ?_
  -- region 1
  refine den_region rfl ?_
  refine WL_callq rfl (sane46_fn _ hG) rfl ?_
  refine WL_v (OpV.to (v' := .bool false) (v_not rfl) (by first | rfl | simp)) rfl ?_
  refine WL_nil ?_
  refine den_false rfl ?_
  refine den_skip ?_
  refine den_seq ?_
  refine den_seq ?_
  -- region 3
  refine den_region rfl ?_
  refine WL_v (v_loadn many24 rfl (Kn.per (by first | exact hl14 _ _ hb3 | exact hb3)) (p.cutS a b ca cb)) rfl ?_
  refine WL_callq rfl (fewp_fn p a b ca cb _) rfl ?_
  first | refine WL_v (v_notd rfl) rfl ?_ | refine WL_v (v_not rfl) rfl ?_
  refine WL_v (v_move rfl) rfl ?_
  first | refine WL_split (t := 12) rfl ?_ ?_
  · intro c1; try have c1 := of_decide_eq_true c1
    refine WL_skip (j := 3) (t := 12) (b := true) rfl rfl rfl rfl ?_
    refine WL_skip (j := 3) (t := 12) (b := true) rfl rfl rfl rfl ?_
    refine WL_skip (j := 3) (t := 12) (b := true) rfl rfl rfl rfl ?_
    refine WL_skip (j := 3) (t := 12) (b := true) rfl rfl rfl rfl ?_
    refine WL_skip (j := 3) (t := 12) (b := true) rfl rfl rfl rfl ?_
    refine WL_v (v_pickt rfl rfl) rfl ?_
    refine WL_nil ?_
    refine den_true rfl ?_
    refine den_seq ?_
    -- region 4
    refine den_region rfl ?_
    refine WL_v (v_assign rfl) rfl ?_
    refine WL_nil ?_
    refine den_ret ?_
    exact ends1 Tryz.results4 rfl (by first | exact z.trans hl14 | exact z) (List.Sublist.refl _) ⟨rfl, rfl⟩
  · intro c2; try have c2 := of_decide_eq_false c2
    refine WL_vg rfl rfl (v_loadn many41 rfl (Kn.per (by first | exact hl14 _ _ hb5 | exact hb5)) (cut_self rfl)) rfl ?_
    refine WL_buildSliceg rfl rfl Tryz.underlying43 zer41 rfl siz41 rfl rfl rfl rfl rfl fun b14 => ?_
    refine WL_freeze fun h14 hl14 hb14 => ?_
    refine WL_vg rfl rfl (v_move rfl) rfl ?_
    refine WL_callqg rfl rfl rfl (fewe_fn b14 cy cx xs.length y x it cs _ hb14) rfl ?_
    first | refine WL_vg rfl rfl (v_notd rfl) rfl ?_ | refine WL_vg rfl rfl (v_not rfl) rfl ?_
    refine WL_v (v_pickf rfl rfl) rfl ?_
    refine WL_nil ?_
    first | refine den_ifd rfl (fun hf => ?_) (fun hf => ?_) | refine den_if rfl (fun hf => ?_) (fun hf => ?_)
    · skip
      refine den_seq ?_
      -- region 4
      refine den_region rfl ?_
      refine WL_v (v_assign rfl) rfl ?_
      refine WL_nil ?_
      refine den_ret ?_
      exact ends1 Tryz.results4 rfl (by first | exact z.trans hl14 | exact z) (List.Sublist.refl _) ⟨rfl, rfl⟩
    · skip
      have hfe : cs.length ≤ 5 ∧ xs.length ≤ 10 := by simpa using hf
      have hfp : p.le.length ≤ 10 ∧ p.ri.length ≤ 10 := by simpa using c2
      have ha1 : SlI _ a p.le := ⟨ha.le hl14, by omega⟩
      have hb1 : SlI _ b p.ri := ⟨hb.le hl14, by omega⟩
      have hx1 : SlL _ x xs := ⟨hx.le hl14, by omega⟩
      have hy1 : SlC _ y cs := ⟨hy.le hl14, by omega⟩
      refine den_skip ?_
      refine den_seq ?_
      -- region 5
      refine den_draw [] (by kernel_rfl) (by kernel_rfl) (NoP.fn) (rem := [0, 1, 2, 3, 4, 5, 6, 7, 8, 9]) (by kernel_rfl) ?_
      refine QS_v (i := 0) rfl (v_loadn many24 rfl (Kn.per (by first | exact hl14 _ _ hb3 | exact hb3)) (p.cutS a b ca cb)) (by kernel_rfl) (by kernel_rfl) (by kernel_rfl) (rem' := [1, 2, 3, 4, 5, 6, 7, 8, 9]) (by kernel_rfl) rfl ?_
      refine QS_v (i := 1) rfl (v_move rfl) (by kernel_rfl) (by kernel_rfl) (by kernel_rfl) (rem' := [2, 3, 4, 5, 6, 7, 8, 9]) (by kernel_rfl) rfl ?_
      refine QS_v (i := 2) rfl (v_loadn many41 rfl (Kn.per (by first | exact hl14 _ _ hb5 | exact hb5)) (cut_self rfl)) (by kernel_rfl) (by kernel_rfl) (by kernel_rfl) (rem' := [3, 4, 5, 6, 7, 8, 9]) (by kernel_rfl) rfl ?_
      refine QS_v (i := 4) rfl (v_loadn many24 rfl (Kn.per (by first | exact hl14 _ _ hb3 | exact hb3)) (p.cutS a b ca cb)) (by kernel_rfl) (by kernel_rfl) (by kernel_rfl) (rem' := [3, 5, 6, 7, 8, 9]) (by kernel_rfl) rfl ?_
      refine QS_v (i := 5) rfl (v_move rfl) (by kernel_rfl) (by kernel_rfl) (by kernel_rfl) (rem' := [3, 6, 7, 8, 9]) (by kernel_rfl) rfl ?_
      refine QS_v (i := 6) rfl (v_loadn many41 rfl (Kn.per (by first | exact hl14 _ _ hb5 | exact hb5)) (cut_self rfl)) (by kernel_rfl) (by kernel_rfl) (by kernel_rfl) (rem' := [3, 7, 8, 9]) (by kernel_rfl) rfl ?_
      refine QS_step (is := [3]) rfl (by kernel_rfl) ?_
      refine qall1 ?_
      refine qs_callq rfl rfl (export_fn p a b x y ca cb cx cy xs it cs _ ha1 hb1 hx1 hy1 (hG.le hl14)) rfl (rem' := [7, 8, 9]) (by kernel_rfl) ?_
      refine QS_step (is := [7]) rfl (by kernel_rfl) ?_
      refine qall1 ?_
      refine qs_callq rfl rfl (rexport_fn p a b x y ca cb cx cy xs it cs _ ha1 hb1 hx1 hy1 (by omega)) rfl (rem' := [8, 9]) (by kernel_rfl) ?_
      refine QS_v (i := 8) rfl (OpV.to (v' := .bool true) (v_eql rfl rfl) (by first | rfl | simp)) (by kernel_rfl) (by kernel_rfl) (by kernel_rfl) (rem' := [9]) (by kernel_rfl) rfl ?_
      refine QS_v (i := 9) rfl (v_assign rfl) (by kernel_rfl) (by kernel_rfl) (by kernel_rfl) (rem' := []) (by kernel_rfl) rfl ?_
      refine QS_nil ?_
      refine den_ret ?_
      exact ends1 Tryz.results4 rfl (by first | exact z.trans hl14 | exact z) (List.Sublist.refl _) ⟨rfl, rfl⟩

end Go.Proofs.Ch
