/- Walks of the program's functions, printed by my own generator (layer L14). -/
import Derived.Test.YtglmkcfmcoianaaGreatDoorL13
namespace Go.Proofs.Ch
open Go Go.Proofs
set_option maxRecDepth 4000
set_option maxHeartbeats 1000000
theorem siz27 : Siz Tryz.prog 27 40 := by show _ = _; kernel_rfl
theorem siz64 : Siz Tryz.prog 64 40 := by show _ = _; kernel_rfl
theorem many64 : Many Tryz.prog 64 40 := Many.of Tryz.underlying64 rfl siz64
theorem many27 : Many Tryz.prog 27 40 := Many.of Tryz.underlying27 rfl siz27
theorem byt78 : Byt Tryz.prog 78 56 := by show _ = _; kernel_rfl
theorem zer64 : Zer Tryz.prog 64 (.agg ⟨[.int .i64 0, .int .i64 0, .int .i64 0, .int .i64 0, .int .i64 0, .bool false, .int .u8 0, .int .u8 0, .int .u8 0, .int .u8 0, .int .u8 0, .int .u8 0, .int .u8 0, .int .u8 0, .int .u8 0, .int .u8 0, .int .u8 0, .int .u8 0, .int .u8 0, .int .u8 0, .int .u8 0, .int .u8 0, .int .u8 0, .int .u8 0, .int .u8 0, .int .u8 0, .int .u8 0, .int .u8 0, .int .u8 0, .int .u8 0, .int .u8 0, .int .u8 0, .int .u8 0, .int .u8 0, .int .u8 0, .int .u8 0, .int .u8 0, .int .u8 0, .int .i64 0, .int .i64 0]⟩) := by show _ = _; kernel_rfl
theorem plc64 : Plc Tryz.prog (match Tryz.prog.underlying 64 with | some (.struct fs) => fs | _ => #[]) [(0, 40)] := fun _ => by kernel_rfl
noncomputable def lmsg (l : Lk) : Dig := tagged [108, 105, 110, 107, 32, 115, 105, 103, 110] (V.enc (.list l.vs))
noncomputable def lid (l : Lk) : Dig := tagged [108, 105, 110, 107] (V.enc (.list l.vs2))
noncomputable def fmsg (f : Fa) : Dig := tagged [102, 97, 99, 116, 111, 114, 32, 115, 105, 103, 110] (V.enc (.list f.vs))
theorem lkc_len (l : Lk) : l.cells.length = 40 := rfl
theorem number_fn (n : Int) (h : Heap) : Fn0 Tryz.prog 60 [.int .i64 n] h (.agg ⟨iC n⟩) := by
  refine Tr_of Tryz.func60 rfl rfl Tryz.ntmps60 rfl [(0, .int .i64 n)] rfl ?_
  intro Lf
  refine den_seq ?_
  -- region 0
  refine den_region rfl ?_
  refine WL_alloc zer78 rfl rfl fun b2 => ?_
  refine WL_nil ?_
  refine den_seq ?_
  -- region 1
  refine den_region rfl ?_
  refine WL_v (v_move rfl) rfl ?_
  refine WL_v (v_builds Tryz.underlying78 zer78 plc78 rfl rfl rfl) rfl ?_
  refine WL_store0 rfl rfl rfl siz78 rfl rfl rfl ?_
  refine WL_nil ?_
  refine den_ret ?_
  exact endsr1 Tryz.results60 (rv_n many78 rfl (by first | exact Kn.own 0 rfl | exact Kn.own 1 rfl | exact Kn.own 2 rfl | exact Kn.own 3 rfl | exact Kn.own 4 rfl | exact Kn.own 5 rfl | exact Kn.per ‹_›) rfl) (Heap.le.refl _) (by simp) ⟨rfl, rfl⟩

theorem text_fn (d : Dig) (h : Heap) : Fn0 Tryz.prog 59 [.agg ⟨dcells d⟩] h (.agg ⟨tC d⟩) := by
  refine Tr_of Tryz.func59 rfl rfl Tryz.ntmps59 rfl [(0, .agg ⟨dcells d⟩)] rfl ?_
  intro Lf
  refine den_seq ?_
  -- region 0
  refine den_region rfl ?_
  refine WL_box rfl rfl rfl fun b1 => ?_
  refine WL_alloc zer78 rfl rfl fun b2 => ?_
  refine WL_nil ?_
  refine den_seq ?_
  -- region 1
  refine den_region rfl ?_
  refine WL_v (v_slicea0 Tryz.underlying23 siz5 rfl) rfl ?_
  refine WL_v (OpV.to (v' := .string (dstr (d))) (v_tostr (bs := (d).toList) Tryz.underlying55 Tryz.underlying9 Tryz.underlying5 rfl (Kn.own 1 rfl) (by rw [← dcells_eq (d)]; exact cut_self rfl)) rfl) rfl ?_
  refine WL_v (v_builds Tryz.underlying78 zer78 plc78 rfl rfl rfl) rfl ?_
  refine WL_store0 rfl rfl rfl siz78 rfl rfl rfl ?_
  refine WL_nil ?_
  refine den_ret ?_
  exact endsr1 Tryz.results59 (rv_n many78 rfl (by first | exact Kn.own 0 rfl | exact Kn.own 1 rfl | exact Kn.own 2 rfl | exact Kn.own 3 rfl | exact Kn.own 4 rfl | exact Kn.own 5 rfl | exact Kn.per ‹_›) rfl) (Heap.le.refl _) (by simp) ⟨rfl, rfl⟩

theorem lvalid_fn (l : Lk) (h : Heap) : Fn0 Tryz.prog 15 [.agg ⟨l.cells⟩] h (.bool (decide l.formed)) := by
  refine Tr_of Tryz.func15 rfl rfl Tryz.ntmps15 rfl [(0, .agg ⟨l.cells⟩)] rfl ?_
  intro Lf
  refine den_seq ?_
  -- region 0
  refine den_region rfl ?_
  refine WL_box rfl rfl rfl fun b1 => ?_
  refine WL_v (v_assign rfl) rfl ?_
  refine WL_nil ?_
  refine den_seq ?_
  -- region 1
  refine den_region rfl ?_
  refine WL_v (v_faddr Tryz.underlying64 rfl siz27 rfl) rfl ?_
  refine WL_v (v_faddr Tryz.underlying27 rfl siz3 rfl) rfl ?_
  refine WL_v (v_load1 one3 rfl (by first | exact Kn.own 0 rfl | exact Kn.own 1 rfl | exact Kn.own 2 rfl | exact Kn.own 3 rfl | exact Kn.own 4 rfl | exact Kn.own 5 rfl | exact Kn.per ‹_›) rfl) rfl ?_
  refine WL_v (v_geq rfl rfl) rfl ?_
  refine WL_v (v_move rfl) rfl ?_
  first | refine WL_split (t := 7) rfl ?_ ?_
  · intro c1; try have c1 := of_decide_eq_true c1
    refine WL_vg rfl rfl (v_faddr Tryz.underlying64 rfl siz27 rfl) rfl ?_
    refine WL_vg rfl rfl (v_faddr Tryz.underlying27 rfl siz3 rfl) rfl ?_
    refine WL_vg rfl rfl (v_load1 one3 rfl (by first | exact Kn.own 0 rfl | exact Kn.own 1 rfl | exact Kn.own 2 rfl | exact Kn.own 3 rfl | exact Kn.own 4 rfl | exact Kn.own 5 rfl | exact Kn.per ‹_›) rfl) rfl ?_
    refine WL_vg rfl rfl (v_lss rfl rfl) rfl ?_
    refine WL_v (v_pickt rfl rfl) rfl ?_
    refine WL_v (v_move rfl) rfl ?_
    first | refine WL_split (t := 13) rfl ?_ ?_
    · intro c3; try have c3 := of_decide_eq_true c3
      refine WL_vg rfl rfl (v_faddr Tryz.underlying64 rfl siz27 rfl) rfl ?_
      refine WL_vg rfl rfl (v_faddr Tryz.underlying27 rfl siz3 rfl) rfl ?_
      refine WL_vg rfl rfl (v_load1 one3 rfl (by first | exact Kn.own 0 rfl | exact Kn.own 1 rfl | exact Kn.own 2 rfl | exact Kn.own 3 rfl | exact Kn.own 4 rfl | exact Kn.own 5 rfl | exact Kn.per ‹_›) rfl) rfl ?_
      refine WL_vg rfl rfl (v_geq rfl rfl) rfl ?_
      refine WL_v (v_pickt rfl rfl) rfl ?_
      refine WL_v (v_move rfl) rfl ?_
      first | refine WL_split (t := 19) rfl ?_ ?_
      · intro c5; try have c5 := of_decide_eq_true c5
        refine WL_vg rfl rfl (v_faddr Tryz.underlying64 rfl siz27 rfl) rfl ?_
        refine WL_vg rfl rfl (v_faddr Tryz.underlying27 rfl siz3 rfl) rfl ?_
        refine WL_vg rfl rfl (v_load1 one3 rfl (by first | exact Kn.own 0 rfl | exact Kn.own 1 rfl | exact Kn.own 2 rfl | exact Kn.own 3 rfl | exact Kn.own 4 rfl | exact Kn.own 5 rfl | exact Kn.per ‹_›) rfl) rfl ?_
        refine WL_vg rfl rfl (v_lss rfl rfl) rfl ?_
        refine WL_v (v_pickt rfl rfl) rfl ?_
        refine WL_v (v_move rfl) rfl ?_
        first | refine WL_split (t := 25) rfl ?_ ?_
        · intro c7; try have c7 := of_decide_eq_true c7
          refine WL_vg rfl rfl (v_faddr Tryz.underlying64 rfl siz27 rfl) rfl ?_
          refine WL_vg rfl rfl (v_faddr Tryz.underlying27 rfl siz3 rfl) rfl ?_
          refine WL_vg rfl rfl (v_load1 one3 rfl (by first | exact Kn.own 0 rfl | exact Kn.own 1 rfl | exact Kn.own 2 rfl | exact Kn.own 3 rfl | exact Kn.own 4 rfl | exact Kn.own 5 rfl | exact Kn.per ‹_›) rfl) rfl ?_
          refine WL_callqg rfl rfl rfl (gcheck_fn _ _) rfl ?_
          refine WL_vg rfl rfl (OpV.to (v' := .bool (decide (GC l.p))) (v_eql rfl rfl) (by rw [gcE])) rfl ?_
          refine WL_v (v_pickt rfl rfl) rfl ?_
          refine WL_v (v_move rfl) rfl ?_
          first | refine WL_split (t := 32) rfl ?_ ?_
          · intro c9; try have c9 := of_decide_eq_true c9
            refine WL_vg rfl rfl (v_faddr Tryz.underlying64 rfl siz27 rfl) rfl ?_
            refine WL_vg rfl rfl (v_faddr Tryz.underlying27 rfl siz3 rfl) rfl ?_
            refine WL_vg rfl rfl (v_load1 one3 rfl (by first | exact Kn.own 0 rfl | exact Kn.own 1 rfl | exact Kn.own 2 rfl | exact Kn.own 3 rfl | exact Kn.own 4 rfl | exact Kn.own 5 rfl | exact Kn.per ‹_›) rfl) rfl ?_
            refine WL_callqg rfl rfl rfl (gcheck_fn _ _) rfl ?_
            refine WL_vg rfl rfl (OpV.to (v' := .bool (decide (GC l.v))) (v_eql rfl rfl) (by rw [gcE])) rfl ?_
            refine WL_v (v_pickt rfl rfl) rfl ?_
            refine WL_v (v_move rfl) rfl ?_
            first | refine WL_split (t := 39) rfl ?_ ?_
            · intro c11; try have c11 := of_decide_eq_true c11
              refine WL_vg rfl rfl (v_faddr Tryz.underlying64 rfl siz27 rfl) rfl ?_
              refine WL_vg rfl rfl (v_faddr Tryz.underlying27 rfl siz3 rfl) rfl ?_
              refine WL_vg rfl rfl (v_load1 one3 rfl (by first | exact Kn.own 0 rfl | exact Kn.own 1 rfl | exact Kn.own 2 rfl | exact Kn.own 3 rfl | exact Kn.own 4 rfl | exact Kn.own 5 rfl | exact Kn.per ‹_›) rfl) rfl ?_
              refine WL_vg rfl rfl (v_geq rfl rfl) rfl ?_
              refine WL_v (v_pickt rfl rfl) rfl ?_
              refine WL_v (v_move rfl) rfl ?_
              first | refine WL_split (t := 45) rfl ?_ ?_
              · intro c13; try have c13 := of_decide_eq_true c13
                refine WL_vg rfl rfl (v_faddr Tryz.underlying64 rfl siz27 rfl) rfl ?_
                refine WL_vg rfl rfl (v_faddr Tryz.underlying27 rfl siz3 rfl) rfl ?_
                refine WL_vg rfl rfl (v_load1 one3 rfl (by first | exact Kn.own 0 rfl | exact Kn.own 1 rfl | exact Kn.own 2 rfl | exact Kn.own 3 rfl | exact Kn.own 4 rfl | exact Kn.own 5 rfl | exact Kn.per ‹_›) rfl) rfl ?_
                refine WL_vg rfl rfl (v_leq rfl rfl) rfl ?_
                refine WL_v (v_pickt rfl rfl) rfl ?_
                refine WL_v (v_move rfl) rfl ?_
                first | refine WL_split (t := 51) rfl ?_ ?_
                · intro c15; try have c15 := of_decide_eq_true c15
                  refine WL_vg rfl rfl (v_faddr Tryz.underlying64 rfl siz27 rfl) rfl ?_
                  refine WL_vg rfl rfl (v_faddr Tryz.underlying27 rfl siz3 rfl) rfl ?_
                  refine WL_vg rfl rfl (v_load1 one3 rfl (by first | exact Kn.own 0 rfl | exact Kn.own 1 rfl | exact Kn.own 2 rfl | exact Kn.own 3 rfl | exact Kn.own 4 rfl | exact Kn.own 5 rfl | exact Kn.per ‹_›) rfl) rfl ?_
                  refine WL_vg rfl rfl (v_eql rfl rfl) rfl ?_
                  refine WL_vg rfl rfl (v_move rfl) rfl ?_
                  first | refine WL_split (t := 56) rfl ?_ ?_
                  · intro c17; try have c17 := of_decide_eq_true c17
                    refine WL_skip (j := 53) (t := 56) (b := true) rfl rfl rfl rfl ?_
                    refine WL_skip (j := 53) (t := 56) (b := true) rfl rfl rfl rfl ?_
                    refine WL_skip (j := 53) (t := 56) (b := true) rfl rfl rfl rfl ?_
                    refine WL_skip (j := 53) (t := 56) (b := true) rfl rfl rfl rfl ?_
                    refine WL_skip (j := 53) (t := 56) (b := true) rfl rfl rfl rfl ?_
                    refine WL_vg rfl rfl (v_pickt rfl rfl) rfl ?_
                    refine WL_v (v_pickt rfl rfl) rfl ?_
                    refine WL_v (v_assign rfl) rfl ?_
                    refine WL_nil ?_
                    refine den_ret ?_
                    exact ends1 Tryz.results15 rfl (Heap.le.refl _) (by simp) ⟨by congr 1; first | exact (decide_eq_false (fun g => by obtain ⟨g1, g2, g3, g4, g5, g6, g7, g8, g9⟩ := g; first | omega | exact absurd g5 ‹_› | exact absurd g6 ‹_›)).symm | exact (decide_eq_true (show l.formed from ⟨by omega, by omega, by omega, by omega, by assumption, by assumption, by omega, by omega, Or.inl (by omega)⟩)).symm | (rw [decide_eq_decide]; exact ⟨fun g => ⟨by omega, by omega, by omega, by omega, by assumption, by assumption, by omega, by omega, Or.inr g⟩, fun g => g.2.2.2.2.2.2.2.2.resolve_left (by omega)⟩), rfl⟩
                  · intro c18; try have c18 := of_decide_eq_false c18
                    refine WL_vg rfl rfl (v_faddr Tryz.underlying64 rfl siz27 rfl) rfl ?_
                    refine WL_vg rfl rfl (v_faddr Tryz.underlying27 rfl siz23 rfl) rfl ?_
                    refine WL_vg rfl rfl (v_loadn many23 rfl (Kn.own 0 rfl) (show cut 6 32 l.cells = some (dcells l.pa) from rfl)) rfl ?_
                    refine WL_vg rfl rfl (v_builda (r := dcells dz) Tryz.underlying23 zer23 siz5 rfl (by kernel_rfl)) rfl ?_
                    refine WL_vg rfl rfl (v_aeql (EqV.dig (d := 9998) Tryz.underlying23 siz5 one5 Tryz.underlying5) (by kernel_rfl) rfl rfl) rfl ?_
                    refine WL_vg rfl rfl (v_pickf rfl rfl) rfl ?_
                    refine WL_v (v_pickt rfl rfl) rfl ?_
                    refine WL_v (v_assign rfl) rfl ?_
                    refine WL_nil ?_
                    refine den_ret ?_
                    exact ends1 Tryz.results15 rfl (Heap.le.refl _) (by simp) ⟨by congr 1; first | exact (decide_eq_false (fun g => by obtain ⟨g1, g2, g3, g4, g5, g6, g7, g8, g9⟩ := g; first | omega | exact absurd g5 ‹_› | exact absurd g6 ‹_›)).symm | exact (decide_eq_true (show l.formed from ⟨by omega, by omega, by omega, by omega, by assumption, by assumption, by omega, by omega, Or.inl (by omega)⟩)).symm | (rw [decide_eq_decide]; exact ⟨fun g => ⟨by omega, by omega, by omega, by omega, by assumption, by assumption, by omega, by omega, Or.inr g⟩, fun g => g.2.2.2.2.2.2.2.2.resolve_left (by omega)⟩), rfl⟩
                · intro c16; try have c16 := of_decide_eq_false c16
                  refine WL_skip (j := 48) (t := 51) (b := false) rfl rfl rfl rfl ?_
                  refine WL_skip (j := 48) (t := 51) (b := false) rfl rfl rfl rfl ?_
                  refine WL_skip (j := 48) (t := 51) (b := false) rfl rfl rfl rfl ?_
                  refine WL_skip (j := 48) (t := 51) (b := false) rfl rfl rfl rfl ?_
                  refine WL_skip (j := 48) (t := 51) (b := false) rfl rfl rfl rfl ?_
                  refine WL_skipu (j := 53) (t := 56) rfl rfl rfl rfl ?_
                  refine WL_skipu (j := 53) (t := 56) rfl rfl rfl rfl ?_
                  refine WL_skipu (j := 53) (t := 56) rfl rfl rfl rfl ?_
                  refine WL_skipu (j := 53) (t := 56) rfl rfl rfl rfl ?_
                  refine WL_skipu (j := 53) (t := 56) rfl rfl rfl rfl ?_
                  refine WL_skip (j := 48) (t := 51) (b := false) rfl rfl rfl rfl ?_
                  refine WL_v (v_pickf rfl rfl) rfl ?_
                  refine WL_v (v_assign rfl) rfl ?_
                  refine WL_nil ?_
                  refine den_ret ?_
                  exact ends1 Tryz.results15 rfl (Heap.le.refl _) (by simp) ⟨by congr 1; first | exact (decide_eq_false (fun g => by obtain ⟨g1, g2, g3, g4, g5, g6, g7, g8, g9⟩ := g; first | omega | exact absurd g5 ‹_› | exact absurd g6 ‹_›)).symm | exact (decide_eq_true (show l.formed from ⟨by omega, by omega, by omega, by omega, by assumption, by assumption, by omega, by omega, Or.inl (by omega)⟩)).symm | (rw [decide_eq_decide]; exact ⟨fun g => ⟨by omega, by omega, by omega, by omega, by assumption, by assumption, by omega, by omega, Or.inr g⟩, fun g => g.2.2.2.2.2.2.2.2.resolve_left (by omega)⟩), rfl⟩
              · intro c14; try have c14 := of_decide_eq_false c14
                refine WL_skip (j := 42) (t := 45) (b := false) rfl rfl rfl rfl ?_
                refine WL_skip (j := 42) (t := 45) (b := false) rfl rfl rfl rfl ?_
                refine WL_skip (j := 42) (t := 45) (b := false) rfl rfl rfl rfl ?_
                refine WL_skip (j := 42) (t := 45) (b := false) rfl rfl rfl rfl ?_
                refine WL_v (v_pickf rfl rfl) rfl ?_
                refine WL_v (v_move rfl) rfl ?_
                refine WL_skip (j := 48) (t := 51) (b := false) rfl rfl rfl rfl ?_
                refine WL_skip (j := 48) (t := 51) (b := false) rfl rfl rfl rfl ?_
                refine WL_skip (j := 48) (t := 51) (b := false) rfl rfl rfl rfl ?_
                refine WL_skip (j := 48) (t := 51) (b := false) rfl rfl rfl rfl ?_
                refine WL_skip (j := 48) (t := 51) (b := false) rfl rfl rfl rfl ?_
                refine WL_skipu (j := 53) (t := 56) rfl rfl rfl rfl ?_
                refine WL_skipu (j := 53) (t := 56) rfl rfl rfl rfl ?_
                refine WL_skipu (j := 53) (t := 56) rfl rfl rfl rfl ?_
                refine WL_skipu (j := 53) (t := 56) rfl rfl rfl rfl ?_
                refine WL_skipu (j := 53) (t := 56) rfl rfl rfl rfl ?_
                refine WL_skip (j := 48) (t := 51) (b := false) rfl rfl rfl rfl ?_
                refine WL_v (v_pickf rfl rfl) rfl ?_
                refine WL_v (v_assign rfl) rfl ?_
                refine WL_nil ?_
                refine den_ret ?_
                exact ends1 Tryz.results15 rfl (Heap.le.refl _) (by simp) ⟨by congr 1; first | exact (decide_eq_false (fun g => by obtain ⟨g1, g2, g3, g4, g5, g6, g7, g8, g9⟩ := g; first | omega | exact absurd g5 ‹_› | exact absurd g6 ‹_›)).symm | exact (decide_eq_true (show l.formed from ⟨by omega, by omega, by omega, by omega, by assumption, by assumption, by omega, by omega, Or.inl (by omega)⟩)).symm | (rw [decide_eq_decide]; exact ⟨fun g => ⟨by omega, by omega, by omega, by omega, by assumption, by assumption, by omega, by omega, Or.inr g⟩, fun g => g.2.2.2.2.2.2.2.2.resolve_left (by omega)⟩), rfl⟩
            · intro c12; try have c12 := of_decide_eq_false c12
              refine WL_skip (j := 36) (t := 39) (b := false) rfl rfl rfl rfl ?_
              refine WL_skip (j := 36) (t := 39) (b := false) rfl rfl rfl rfl ?_
              refine WL_skip (j := 36) (t := 39) (b := false) rfl rfl rfl rfl ?_
              refine WL_skip (j := 36) (t := 39) (b := false) rfl rfl rfl rfl ?_
              refine WL_v (v_pickf rfl rfl) rfl ?_
              refine WL_v (v_move rfl) rfl ?_
              refine WL_skip (j := 42) (t := 45) (b := false) rfl rfl rfl rfl ?_
              refine WL_skip (j := 42) (t := 45) (b := false) rfl rfl rfl rfl ?_
              refine WL_skip (j := 42) (t := 45) (b := false) rfl rfl rfl rfl ?_
              refine WL_skip (j := 42) (t := 45) (b := false) rfl rfl rfl rfl ?_
              refine WL_v (v_pickf rfl rfl) rfl ?_
              refine WL_v (v_move rfl) rfl ?_
              refine WL_skip (j := 48) (t := 51) (b := false) rfl rfl rfl rfl ?_
              refine WL_skip (j := 48) (t := 51) (b := false) rfl rfl rfl rfl ?_
              refine WL_skip (j := 48) (t := 51) (b := false) rfl rfl rfl rfl ?_
              refine WL_skip (j := 48) (t := 51) (b := false) rfl rfl rfl rfl ?_
              refine WL_skip (j := 48) (t := 51) (b := false) rfl rfl rfl rfl ?_
              refine WL_skipu (j := 53) (t := 56) rfl rfl rfl rfl ?_
              refine WL_skipu (j := 53) (t := 56) rfl rfl rfl rfl ?_
              refine WL_skipu (j := 53) (t := 56) rfl rfl rfl rfl ?_
              refine WL_skipu (j := 53) (t := 56) rfl rfl rfl rfl ?_
              refine WL_skipu (j := 53) (t := 56) rfl rfl rfl rfl ?_
              refine WL_skip (j := 48) (t := 51) (b := false) rfl rfl rfl rfl ?_
              refine WL_v (v_pickf rfl rfl) rfl ?_
              refine WL_v (v_assign rfl) rfl ?_
              refine WL_nil ?_
              refine den_ret ?_
              exact ends1 Tryz.results15 rfl (Heap.le.refl _) (by simp) ⟨by congr 1; first | exact (decide_eq_false (fun g => by obtain ⟨g1, g2, g3, g4, g5, g6, g7, g8, g9⟩ := g; first | omega | exact absurd g5 ‹_› | exact absurd g6 ‹_›)).symm | exact (decide_eq_true (show l.formed from ⟨by omega, by omega, by omega, by omega, by assumption, by assumption, by omega, by omega, Or.inl (by omega)⟩)).symm | (rw [decide_eq_decide]; exact ⟨fun g => ⟨by omega, by omega, by omega, by omega, by assumption, by assumption, by omega, by omega, Or.inr g⟩, fun g => g.2.2.2.2.2.2.2.2.resolve_left (by omega)⟩), rfl⟩
          · intro c10; try have c10 := of_decide_eq_false c10
            refine WL_skip (j := 29) (t := 32) (b := false) rfl rfl rfl rfl ?_
            refine WL_skip (j := 29) (t := 32) (b := false) rfl rfl rfl rfl ?_
            refine WL_skip (j := 29) (t := 32) (b := false) rfl rfl rfl rfl ?_
            refine WL_skip (j := 29) (t := 32) (b := false) rfl rfl rfl rfl ?_
            refine WL_skip (j := 29) (t := 32) (b := false) rfl rfl rfl rfl ?_
            refine WL_v (v_pickf rfl rfl) rfl ?_
            refine WL_v (v_move rfl) rfl ?_
            refine WL_skip (j := 36) (t := 39) (b := false) rfl rfl rfl rfl ?_
            refine WL_skip (j := 36) (t := 39) (b := false) rfl rfl rfl rfl ?_
            refine WL_skip (j := 36) (t := 39) (b := false) rfl rfl rfl rfl ?_
            refine WL_skip (j := 36) (t := 39) (b := false) rfl rfl rfl rfl ?_
            refine WL_v (v_pickf rfl rfl) rfl ?_
            refine WL_v (v_move rfl) rfl ?_
            refine WL_skip (j := 42) (t := 45) (b := false) rfl rfl rfl rfl ?_
            refine WL_skip (j := 42) (t := 45) (b := false) rfl rfl rfl rfl ?_
            refine WL_skip (j := 42) (t := 45) (b := false) rfl rfl rfl rfl ?_
            refine WL_skip (j := 42) (t := 45) (b := false) rfl rfl rfl rfl ?_
            refine WL_v (v_pickf rfl rfl) rfl ?_
            refine WL_v (v_move rfl) rfl ?_
            refine WL_skip (j := 48) (t := 51) (b := false) rfl rfl rfl rfl ?_
            refine WL_skip (j := 48) (t := 51) (b := false) rfl rfl rfl rfl ?_
            refine WL_skip (j := 48) (t := 51) (b := false) rfl rfl rfl rfl ?_
            refine WL_skip (j := 48) (t := 51) (b := false) rfl rfl rfl rfl ?_
            refine WL_skip (j := 48) (t := 51) (b := false) rfl rfl rfl rfl ?_
            refine WL_skipu (j := 53) (t := 56) rfl rfl rfl rfl ?_
            refine WL_skipu (j := 53) (t := 56) rfl rfl rfl rfl ?_
            refine WL_skipu (j := 53) (t := 56) rfl rfl rfl rfl ?_
            refine WL_skipu (j := 53) (t := 56) rfl rfl rfl rfl ?_
            refine WL_skipu (j := 53) (t := 56) rfl rfl rfl rfl ?_
            refine WL_skip (j := 48) (t := 51) (b := false) rfl rfl rfl rfl ?_
            refine WL_v (v_pickf rfl rfl) rfl ?_
            refine WL_v (v_assign rfl) rfl ?_
            refine WL_nil ?_
            refine den_ret ?_
            exact ends1 Tryz.results15 rfl (Heap.le.refl _) (by simp) ⟨by congr 1; first | exact (decide_eq_false (fun g => by obtain ⟨g1, g2, g3, g4, g5, g6, g7, g8, g9⟩ := g; first | omega | exact absurd g5 ‹_› | exact absurd g6 ‹_›)).symm | exact (decide_eq_true (show l.formed from ⟨by omega, by omega, by omega, by omega, by assumption, by assumption, by omega, by omega, Or.inl (by omega)⟩)).symm | (rw [decide_eq_decide]; exact ⟨fun g => ⟨by omega, by omega, by omega, by omega, by assumption, by assumption, by omega, by omega, Or.inr g⟩, fun g => g.2.2.2.2.2.2.2.2.resolve_left (by omega)⟩), rfl⟩
        · intro c8; try have c8 := of_decide_eq_false c8
          refine WL_skip (j := 22) (t := 25) (b := false) rfl rfl rfl rfl ?_
          refine WL_skip (j := 22) (t := 25) (b := false) rfl rfl rfl rfl ?_
          refine WL_skip (j := 22) (t := 25) (b := false) rfl rfl rfl rfl ?_
          refine WL_skip (j := 22) (t := 25) (b := false) rfl rfl rfl rfl ?_
          refine WL_skip (j := 22) (t := 25) (b := false) rfl rfl rfl rfl ?_
          refine WL_v (v_pickf rfl rfl) rfl ?_
          refine WL_v (v_move rfl) rfl ?_
          refine WL_skip (j := 29) (t := 32) (b := false) rfl rfl rfl rfl ?_
          refine WL_skip (j := 29) (t := 32) (b := false) rfl rfl rfl rfl ?_
          refine WL_skip (j := 29) (t := 32) (b := false) rfl rfl rfl rfl ?_
          refine WL_skip (j := 29) (t := 32) (b := false) rfl rfl rfl rfl ?_
          refine WL_skip (j := 29) (t := 32) (b := false) rfl rfl rfl rfl ?_
          refine WL_v (v_pickf rfl rfl) rfl ?_
          refine WL_v (v_move rfl) rfl ?_
          refine WL_skip (j := 36) (t := 39) (b := false) rfl rfl rfl rfl ?_
          refine WL_skip (j := 36) (t := 39) (b := false) rfl rfl rfl rfl ?_
          refine WL_skip (j := 36) (t := 39) (b := false) rfl rfl rfl rfl ?_
          refine WL_skip (j := 36) (t := 39) (b := false) rfl rfl rfl rfl ?_
          refine WL_v (v_pickf rfl rfl) rfl ?_
          refine WL_v (v_move rfl) rfl ?_
          refine WL_skip (j := 42) (t := 45) (b := false) rfl rfl rfl rfl ?_
          refine WL_skip (j := 42) (t := 45) (b := false) rfl rfl rfl rfl ?_
          refine WL_skip (j := 42) (t := 45) (b := false) rfl rfl rfl rfl ?_
          refine WL_skip (j := 42) (t := 45) (b := false) rfl rfl rfl rfl ?_
          refine WL_v (v_pickf rfl rfl) rfl ?_
          refine WL_v (v_move rfl) rfl ?_
          refine WL_skip (j := 48) (t := 51) (b := false) rfl rfl rfl rfl ?_
          refine WL_skip (j := 48) (t := 51) (b := false) rfl rfl rfl rfl ?_
          refine WL_skip (j := 48) (t := 51) (b := false) rfl rfl rfl rfl ?_
          refine WL_skip (j := 48) (t := 51) (b := false) rfl rfl rfl rfl ?_
          refine WL_skip (j := 48) (t := 51) (b := false) rfl rfl rfl rfl ?_
          refine WL_skipu (j := 53) (t := 56) rfl rfl rfl rfl ?_
          refine WL_skipu (j := 53) (t := 56) rfl rfl rfl rfl ?_
          refine WL_skipu (j := 53) (t := 56) rfl rfl rfl rfl ?_
          refine WL_skipu (j := 53) (t := 56) rfl rfl rfl rfl ?_
          refine WL_skipu (j := 53) (t := 56) rfl rfl rfl rfl ?_
          refine WL_skip (j := 48) (t := 51) (b := false) rfl rfl rfl rfl ?_
          refine WL_v (v_pickf rfl rfl) rfl ?_
          refine WL_v (v_assign rfl) rfl ?_
          refine WL_nil ?_
          refine den_ret ?_
          exact ends1 Tryz.results15 rfl (Heap.le.refl _) (by simp) ⟨by congr 1; first | exact (decide_eq_false (fun g => by obtain ⟨g1, g2, g3, g4, g5, g6, g7, g8, g9⟩ := g; first | omega | exact absurd g5 ‹_› | exact absurd g6 ‹_›)).symm | exact (decide_eq_true (show l.formed from ⟨by omega, by omega, by omega, by omega, by assumption, by assumption, by omega, by omega, Or.inl (by omega)⟩)).symm | (rw [decide_eq_decide]; exact ⟨fun g => ⟨by omega, by omega, by omega, by omega, by assumption, by assumption, by omega, by omega, Or.inr g⟩, fun g => g.2.2.2.2.2.2.2.2.resolve_left (by omega)⟩), rfl⟩
      · intro c6; try have c6 := of_decide_eq_false c6
        refine WL_skip (j := 16) (t := 19) (b := false) rfl rfl rfl rfl ?_
        refine WL_skip (j := 16) (t := 19) (b := false) rfl rfl rfl rfl ?_
        refine WL_skip (j := 16) (t := 19) (b := false) rfl rfl rfl rfl ?_
        refine WL_skip (j := 16) (t := 19) (b := false) rfl rfl rfl rfl ?_
        refine WL_v (v_pickf rfl rfl) rfl ?_
        refine WL_v (v_move rfl) rfl ?_
        refine WL_skip (j := 22) (t := 25) (b := false) rfl rfl rfl rfl ?_
        refine WL_skip (j := 22) (t := 25) (b := false) rfl rfl rfl rfl ?_
        refine WL_skip (j := 22) (t := 25) (b := false) rfl rfl rfl rfl ?_
        refine WL_skip (j := 22) (t := 25) (b := false) rfl rfl rfl rfl ?_
        refine WL_skip (j := 22) (t := 25) (b := false) rfl rfl rfl rfl ?_
        refine WL_v (v_pickf rfl rfl) rfl ?_
        refine WL_v (v_move rfl) rfl ?_
        refine WL_skip (j := 29) (t := 32) (b := false) rfl rfl rfl rfl ?_
        refine WL_skip (j := 29) (t := 32) (b := false) rfl rfl rfl rfl ?_
        refine WL_skip (j := 29) (t := 32) (b := false) rfl rfl rfl rfl ?_
        refine WL_skip (j := 29) (t := 32) (b := false) rfl rfl rfl rfl ?_
        refine WL_skip (j := 29) (t := 32) (b := false) rfl rfl rfl rfl ?_
        refine WL_v (v_pickf rfl rfl) rfl ?_
        refine WL_v (v_move rfl) rfl ?_
        refine WL_skip (j := 36) (t := 39) (b := false) rfl rfl rfl rfl ?_
        refine WL_skip (j := 36) (t := 39) (b := false) rfl rfl rfl rfl ?_
        refine WL_skip (j := 36) (t := 39) (b := false) rfl rfl rfl rfl ?_
        refine WL_skip (j := 36) (t := 39) (b := false) rfl rfl rfl rfl ?_
        refine WL_v (v_pickf rfl rfl) rfl ?_
        refine WL_v (v_move rfl) rfl ?_
        refine WL_skip (j := 42) (t := 45) (b := false) rfl rfl rfl rfl ?_
        refine WL_skip (j := 42) (t := 45) (b := false) rfl rfl rfl rfl ?_
        refine WL_skip (j := 42) (t := 45) (b := false) rfl rfl rfl rfl ?_
        refine WL_skip (j := 42) (t := 45) (b := false) rfl rfl rfl rfl ?_
        refine WL_v (v_pickf rfl rfl) rfl ?_
        refine WL_v (v_move rfl) rfl ?_
        refine WL_skip (j := 48) (t := 51) (b := false) rfl rfl rfl rfl ?_
        refine WL_skip (j := 48) (t := 51) (b := false) rfl rfl rfl rfl ?_
        refine WL_skip (j := 48) (t := 51) (b := false) rfl rfl rfl rfl ?_
        refine WL_skip (j := 48) (t := 51) (b := false) rfl rfl rfl rfl ?_
        refine WL_skip (j := 48) (t := 51) (b := false) rfl rfl rfl rfl ?_
        refine WL_skipu (j := 53) (t := 56) rfl rfl rfl rfl ?_
        refine WL_skipu (j := 53) (t := 56) rfl rfl rfl rfl ?_
        refine WL_skipu (j := 53) (t := 56) rfl rfl rfl rfl ?_
        refine WL_skipu (j := 53) (t := 56) rfl rfl rfl rfl ?_
        refine WL_skipu (j := 53) (t := 56) rfl rfl rfl rfl ?_
        refine WL_skip (j := 48) (t := 51) (b := false) rfl rfl rfl rfl ?_
        refine WL_v (v_pickf rfl rfl) rfl ?_
        refine WL_v (v_assign rfl) rfl ?_
        refine WL_nil ?_
        refine den_ret ?_
        exact ends1 Tryz.results15 rfl (Heap.le.refl _) (by simp) ⟨by congr 1; first | exact (decide_eq_false (fun g => by obtain ⟨g1, g2, g3, g4, g5, g6, g7, g8, g9⟩ := g; first | omega | exact absurd g5 ‹_› | exact absurd g6 ‹_›)).symm | exact (decide_eq_true (show l.formed from ⟨by omega, by omega, by omega, by omega, by assumption, by assumption, by omega, by omega, Or.inl (by omega)⟩)).symm | (rw [decide_eq_decide]; exact ⟨fun g => ⟨by omega, by omega, by omega, by omega, by assumption, by assumption, by omega, by omega, Or.inr g⟩, fun g => g.2.2.2.2.2.2.2.2.resolve_left (by omega)⟩), rfl⟩
    · intro c4; try have c4 := of_decide_eq_false c4
      refine WL_skip (j := 10) (t := 13) (b := false) rfl rfl rfl rfl ?_
      refine WL_skip (j := 10) (t := 13) (b := false) rfl rfl rfl rfl ?_
      refine WL_skip (j := 10) (t := 13) (b := false) rfl rfl rfl rfl ?_
      refine WL_skip (j := 10) (t := 13) (b := false) rfl rfl rfl rfl ?_
      refine WL_v (v_pickf rfl rfl) rfl ?_
      refine WL_v (v_move rfl) rfl ?_
      refine WL_skip (j := 16) (t := 19) (b := false) rfl rfl rfl rfl ?_
      refine WL_skip (j := 16) (t := 19) (b := false) rfl rfl rfl rfl ?_
      refine WL_skip (j := 16) (t := 19) (b := false) rfl rfl rfl rfl ?_
      refine WL_skip (j := 16) (t := 19) (b := false) rfl rfl rfl rfl ?_
      refine WL_v (v_pickf rfl rfl) rfl ?_
      refine WL_v (v_move rfl) rfl ?_
      refine WL_skip (j := 22) (t := 25) (b := false) rfl rfl rfl rfl ?_
      refine WL_skip (j := 22) (t := 25) (b := false) rfl rfl rfl rfl ?_
      refine WL_skip (j := 22) (t := 25) (b := false) rfl rfl rfl rfl ?_
      refine WL_skip (j := 22) (t := 25) (b := false) rfl rfl rfl rfl ?_
      refine WL_skip (j := 22) (t := 25) (b := false) rfl rfl rfl rfl ?_
      refine WL_v (v_pickf rfl rfl) rfl ?_
      refine WL_v (v_move rfl) rfl ?_
      refine WL_skip (j := 29) (t := 32) (b := false) rfl rfl rfl rfl ?_
      refine WL_skip (j := 29) (t := 32) (b := false) rfl rfl rfl rfl ?_
      refine WL_skip (j := 29) (t := 32) (b := false) rfl rfl rfl rfl ?_
      refine WL_skip (j := 29) (t := 32) (b := false) rfl rfl rfl rfl ?_
      refine WL_skip (j := 29) (t := 32) (b := false) rfl rfl rfl rfl ?_
      refine WL_v (v_pickf rfl rfl) rfl ?_
      refine WL_v (v_move rfl) rfl ?_
      refine WL_skip (j := 36) (t := 39) (b := false) rfl rfl rfl rfl ?_
      refine WL_skip (j := 36) (t := 39) (b := false) rfl rfl rfl rfl ?_
      refine WL_skip (j := 36) (t := 39) (b := false) rfl rfl rfl rfl ?_
      refine WL_skip (j := 36) (t := 39) (b := false) rfl rfl rfl rfl ?_
      refine WL_v (v_pickf rfl rfl) rfl ?_
      refine WL_v (v_move rfl) rfl ?_
      refine WL_skip (j := 42) (t := 45) (b := false) rfl rfl rfl rfl ?_
      refine WL_skip (j := 42) (t := 45) (b := false) rfl rfl rfl rfl ?_
      refine WL_skip (j := 42) (t := 45) (b := false) rfl rfl rfl rfl ?_
      refine WL_skip (j := 42) (t := 45) (b := false) rfl rfl rfl rfl ?_
      refine WL_v (v_pickf rfl rfl) rfl ?_
      refine WL_v (v_move rfl) rfl ?_
      refine WL_skip (j := 48) (t := 51) (b := false) rfl rfl rfl rfl ?_
      refine WL_skip (j := 48) (t := 51) (b := false) rfl rfl rfl rfl ?_
      refine WL_skip (j := 48) (t := 51) (b := false) rfl rfl rfl rfl ?_
      refine WL_skip (j := 48) (t := 51) (b := false) rfl rfl rfl rfl ?_
      refine WL_skip (j := 48) (t := 51) (b := false) rfl rfl rfl rfl ?_
      refine WL_skipu (j := 53) (t := 56) rfl rfl rfl rfl ?_
      refine WL_skipu (j := 53) (t := 56) rfl rfl rfl rfl ?_
      refine WL_skipu (j := 53) (t := 56) rfl rfl rfl rfl ?_
      refine WL_skipu (j := 53) (t := 56) rfl rfl rfl rfl ?_
      refine WL_skipu (j := 53) (t := 56) rfl rfl rfl rfl ?_
      refine WL_skip (j := 48) (t := 51) (b := false) rfl rfl rfl rfl ?_
      refine WL_v (v_pickf rfl rfl) rfl ?_
      refine WL_v (v_assign rfl) rfl ?_
      refine WL_nil ?_
      refine den_ret ?_
      exact ends1 Tryz.results15 rfl (Heap.le.refl _) (by simp) ⟨by congr 1; first | exact (decide_eq_false (fun g => by obtain ⟨g1, g2, g3, g4, g5, g6, g7, g8, g9⟩ := g; first | omega | exact absurd g5 ‹_› | exact absurd g6 ‹_›)).symm | exact (decide_eq_true (show l.formed from ⟨by omega, by omega, by omega, by omega, by assumption, by assumption, by omega, by omega, Or.inl (by omega)⟩)).symm | (rw [decide_eq_decide]; exact ⟨fun g => ⟨by omega, by omega, by omega, by omega, by assumption, by assumption, by omega, by omega, Or.inr g⟩, fun g => g.2.2.2.2.2.2.2.2.resolve_left (by omega)⟩), rfl⟩
  · intro c2; try have c2 := of_decide_eq_false c2
    refine WL_skip (j := 4) (t := 7) (b := false) rfl rfl rfl rfl ?_
    refine WL_skip (j := 4) (t := 7) (b := false) rfl rfl rfl rfl ?_
    refine WL_skip (j := 4) (t := 7) (b := false) rfl rfl rfl rfl ?_
    refine WL_skip (j := 4) (t := 7) (b := false) rfl rfl rfl rfl ?_
    refine WL_v (v_pickf rfl rfl) rfl ?_
    refine WL_v (v_move rfl) rfl ?_
    refine WL_skip (j := 10) (t := 13) (b := false) rfl rfl rfl rfl ?_
    refine WL_skip (j := 10) (t := 13) (b := false) rfl rfl rfl rfl ?_
    refine WL_skip (j := 10) (t := 13) (b := false) rfl rfl rfl rfl ?_
    refine WL_skip (j := 10) (t := 13) (b := false) rfl rfl rfl rfl ?_
    refine WL_v (v_pickf rfl rfl) rfl ?_
    refine WL_v (v_move rfl) rfl ?_
    refine WL_skip (j := 16) (t := 19) (b := false) rfl rfl rfl rfl ?_
    refine WL_skip (j := 16) (t := 19) (b := false) rfl rfl rfl rfl ?_
    refine WL_skip (j := 16) (t := 19) (b := false) rfl rfl rfl rfl ?_
    refine WL_skip (j := 16) (t := 19) (b := false) rfl rfl rfl rfl ?_
    refine WL_v (v_pickf rfl rfl) rfl ?_
    refine WL_v (v_move rfl) rfl ?_
    refine WL_skip (j := 22) (t := 25) (b := false) rfl rfl rfl rfl ?_
    refine WL_skip (j := 22) (t := 25) (b := false) rfl rfl rfl rfl ?_
    refine WL_skip (j := 22) (t := 25) (b := false) rfl rfl rfl rfl ?_
    refine WL_skip (j := 22) (t := 25) (b := false) rfl rfl rfl rfl ?_
    refine WL_skip (j := 22) (t := 25) (b := false) rfl rfl rfl rfl ?_
    refine WL_v (v_pickf rfl rfl) rfl ?_
    refine WL_v (v_move rfl) rfl ?_
    refine WL_skip (j := 29) (t := 32) (b := false) rfl rfl rfl rfl ?_
    refine WL_skip (j := 29) (t := 32) (b := false) rfl rfl rfl rfl ?_
    refine WL_skip (j := 29) (t := 32) (b := false) rfl rfl rfl rfl ?_
    refine WL_skip (j := 29) (t := 32) (b := false) rfl rfl rfl rfl ?_
    refine WL_skip (j := 29) (t := 32) (b := false) rfl rfl rfl rfl ?_
    refine WL_v (v_pickf rfl rfl) rfl ?_
    refine WL_v (v_move rfl) rfl ?_
    refine WL_skip (j := 36) (t := 39) (b := false) rfl rfl rfl rfl ?_
    refine WL_skip (j := 36) (t := 39) (b := false) rfl rfl rfl rfl ?_
    refine WL_skip (j := 36) (t := 39) (b := false) rfl rfl rfl rfl ?_
    refine WL_skip (j := 36) (t := 39) (b := false) rfl rfl rfl rfl ?_
    refine WL_v (v_pickf rfl rfl) rfl ?_
    refine WL_v (v_move rfl) rfl ?_
    refine WL_skip (j := 42) (t := 45) (b := false) rfl rfl rfl rfl ?_
    refine WL_skip (j := 42) (t := 45) (b := false) rfl rfl rfl rfl ?_
    refine WL_skip (j := 42) (t := 45) (b := false) rfl rfl rfl rfl ?_
    refine WL_skip (j := 42) (t := 45) (b := false) rfl rfl rfl rfl ?_
    refine WL_v (v_pickf rfl rfl) rfl ?_
    refine WL_v (v_move rfl) rfl ?_
    refine WL_skip (j := 48) (t := 51) (b := false) rfl rfl rfl rfl ?_
    refine WL_skip (j := 48) (t := 51) (b := false) rfl rfl rfl rfl ?_
    refine WL_skip (j := 48) (t := 51) (b := false) rfl rfl rfl rfl ?_
    refine WL_skip (j := 48) (t := 51) (b := false) rfl rfl rfl rfl ?_
    refine WL_skip (j := 48) (t := 51) (b := false) rfl rfl rfl rfl ?_
    refine WL_skipu (j := 53) (t := 56) rfl rfl rfl rfl ?_
    refine WL_skipu (j := 53) (t := 56) rfl rfl rfl rfl ?_
    refine WL_skipu (j := 53) (t := 56) rfl rfl rfl rfl ?_
    refine WL_skipu (j := 53) (t := 56) rfl rfl rfl rfl ?_
    refine WL_skipu (j := 53) (t := 56) rfl rfl rfl rfl ?_
    refine WL_skip (j := 48) (t := 51) (b := false) rfl rfl rfl rfl ?_
    refine WL_v (v_pickf rfl rfl) rfl ?_
    refine WL_v (v_assign rfl) rfl ?_
    refine WL_nil ?_
    refine den_ret ?_
    exact ends1 Tryz.results15 rfl (Heap.le.refl _) (by simp) ⟨by congr 1; first | exact (decide_eq_false (fun g => by obtain ⟨g1, g2, g3, g4, g5, g6, g7, g8, g9⟩ := g; first | omega | exact absurd g5 ‹_› | exact absurd g6 ‹_›)).symm | exact (decide_eq_true (show l.formed from ⟨by omega, by omega, by omega, by omega, by assumption, by assumption, by omega, by omega, Or.inl (by omega)⟩)).symm | (rw [decide_eq_decide]; exact ⟨fun g => ⟨by omega, by omega, by omega, by omega, by assumption, by assumption, by omega, by omega, Or.inr g⟩, fun g => g.2.2.2.2.2.2.2.2.resolve_left (by omega)⟩), rfl⟩

theorem rformed40_fn (l : Lk) (h : Heap) : Fn0 Tryz.prog 18 [.agg ⟨l.cells⟩] h (.bool (decide l.formed)) := by
  refine Tr_of Tryz.func18 rfl rfl Tryz.ntmps18 rfl [(0, .agg ⟨l.cells⟩)] rfl ?_
  intro Lf
  refine den_seq ?_
  -- region 0
  refine den_region rfl ?_
  refine WL_box rfl rfl rfl fun b1 => ?_
  refine WL_v (v_assign rfl) rfl ?_
  refine WL_nil ?_
  refine den_seq ?_
  -- region 1
  refine den_region rfl ?_
  refine WL_v (v_faddr Tryz.underlying27 rfl siz3 rfl) rfl ?_
  refine WL_v (v_load1 one3 rfl (by first | exact Kn.own 0 rfl | exact Kn.own 1 rfl | exact Kn.own 2 rfl | exact Kn.own 3 rfl | exact Kn.own 4 rfl | exact Kn.own 5 rfl | exact Kn.per ‹_›) rfl) rfl ?_
  refine WL_v (v_geq rfl rfl) rfl ?_
  refine WL_v (v_move rfl) rfl ?_
  first | refine WL_split (t := 6) rfl ?_ ?_
  · intro c1; try have c1 := of_decide_eq_true c1
    refine WL_vg rfl rfl (v_faddr Tryz.underlying27 rfl siz3 rfl) rfl ?_
    refine WL_vg rfl rfl (v_load1 one3 rfl (by first | exact Kn.own 0 rfl | exact Kn.own 1 rfl | exact Kn.own 2 rfl | exact Kn.own 3 rfl | exact Kn.own 4 rfl | exact Kn.own 5 rfl | exact Kn.per ‹_›) rfl) rfl ?_
    refine WL_vg rfl rfl (v_lss rfl rfl) rfl ?_
    refine WL_v (v_pickt rfl rfl) rfl ?_
    refine WL_v (v_move rfl) rfl ?_
    first | refine WL_split (t := 11) rfl ?_ ?_
    · intro c3; try have c3 := of_decide_eq_true c3
      refine WL_vg rfl rfl (v_faddr Tryz.underlying27 rfl siz3 rfl) rfl ?_
      refine WL_vg rfl rfl (v_load1 one3 rfl (by first | exact Kn.own 0 rfl | exact Kn.own 1 rfl | exact Kn.own 2 rfl | exact Kn.own 3 rfl | exact Kn.own 4 rfl | exact Kn.own 5 rfl | exact Kn.per ‹_›) rfl) rfl ?_
      refine WL_vg rfl rfl (v_geq rfl rfl) rfl ?_
      refine WL_v (v_pickt rfl rfl) rfl ?_
      refine WL_v (v_move rfl) rfl ?_
      first | refine WL_split (t := 16) rfl ?_ ?_
      · intro c5; try have c5 := of_decide_eq_true c5
        refine WL_vg rfl rfl (v_faddr Tryz.underlying27 rfl siz3 rfl) rfl ?_
        refine WL_vg rfl rfl (v_load1 one3 rfl (by first | exact Kn.own 0 rfl | exact Kn.own 1 rfl | exact Kn.own 2 rfl | exact Kn.own 3 rfl | exact Kn.own 4 rfl | exact Kn.own 5 rfl | exact Kn.per ‹_›) rfl) rfl ?_
        refine WL_vg rfl rfl (v_lss rfl rfl) rfl ?_
        refine WL_v (v_pickt rfl rfl) rfl ?_
        refine WL_v (v_move rfl) rfl ?_
        first | refine WL_split (t := 21) rfl ?_ ?_
        · intro c7; try have c7 := of_decide_eq_true c7
          refine WL_vg rfl rfl (v_faddr Tryz.underlying27 rfl siz3 rfl) rfl ?_
          refine WL_vg rfl rfl (v_load1 one3 rfl (by first | exact Kn.own 0 rfl | exact Kn.own 1 rfl | exact Kn.own 2 rfl | exact Kn.own 3 rfl | exact Kn.own 4 rfl | exact Kn.own 5 rfl | exact Kn.per ‹_›) rfl) rfl ?_
          refine WL_callqg rfl rfl rfl (rcheck_fn _ _) rfl ?_
          refine WL_vg rfl rfl (OpV.to (v' := .bool (decide (GC l.p))) (v_eql rfl rfl) (by rw [gcE])) rfl ?_
          refine WL_v (v_pickt rfl rfl) rfl ?_
          refine WL_v (v_move rfl) rfl ?_
          first | refine WL_split (t := 27) rfl ?_ ?_
          · intro c9; try have c9 := of_decide_eq_true c9
            refine WL_vg rfl rfl (v_faddr Tryz.underlying27 rfl siz3 rfl) rfl ?_
            refine WL_vg rfl rfl (v_load1 one3 rfl (by first | exact Kn.own 0 rfl | exact Kn.own 1 rfl | exact Kn.own 2 rfl | exact Kn.own 3 rfl | exact Kn.own 4 rfl | exact Kn.own 5 rfl | exact Kn.per ‹_›) rfl) rfl ?_
            refine WL_callqg rfl rfl rfl (rcheck_fn _ _) rfl ?_
            refine WL_vg rfl rfl (OpV.to (v' := .bool (decide (GC l.v))) (v_eql rfl rfl) (by rw [gcE])) rfl ?_
            refine WL_v (v_pickt rfl rfl) rfl ?_
            refine WL_v (v_move rfl) rfl ?_
            first | refine WL_split (t := 33) rfl ?_ ?_
            · intro c11; try have c11 := of_decide_eq_true c11
              refine WL_vg rfl rfl (v_faddr Tryz.underlying27 rfl siz3 rfl) rfl ?_
              refine WL_vg rfl rfl (v_load1 one3 rfl (by first | exact Kn.own 0 rfl | exact Kn.own 1 rfl | exact Kn.own 2 rfl | exact Kn.own 3 rfl | exact Kn.own 4 rfl | exact Kn.own 5 rfl | exact Kn.per ‹_›) rfl) rfl ?_
              refine WL_vg rfl rfl (v_geq rfl rfl) rfl ?_
              refine WL_v (v_pickt rfl rfl) rfl ?_
              refine WL_v (v_move rfl) rfl ?_
              first | refine WL_split (t := 38) rfl ?_ ?_
              · intro c13; try have c13 := of_decide_eq_true c13
                refine WL_vg rfl rfl (v_faddr Tryz.underlying27 rfl siz3 rfl) rfl ?_
                refine WL_vg rfl rfl (v_load1 one3 rfl (by first | exact Kn.own 0 rfl | exact Kn.own 1 rfl | exact Kn.own 2 rfl | exact Kn.own 3 rfl | exact Kn.own 4 rfl | exact Kn.own 5 rfl | exact Kn.per ‹_›) rfl) rfl ?_
                refine WL_vg rfl rfl (v_leq rfl rfl) rfl ?_
                refine WL_v (v_pickt rfl rfl) rfl ?_
                refine WL_v (v_move rfl) rfl ?_
                first | refine WL_split (t := 43) rfl ?_ ?_
                · intro c15; try have c15 := of_decide_eq_true c15
                  refine WL_vg rfl rfl (v_faddr Tryz.underlying27 rfl siz3 rfl) rfl ?_
                  refine WL_vg rfl rfl (v_load1 one3 rfl (by first | exact Kn.own 0 rfl | exact Kn.own 1 rfl | exact Kn.own 2 rfl | exact Kn.own 3 rfl | exact Kn.own 4 rfl | exact Kn.own 5 rfl | exact Kn.per ‹_›) rfl) rfl ?_
                  refine WL_vg rfl rfl (v_eql rfl rfl) rfl ?_
                  refine WL_vg rfl rfl (v_move rfl) rfl ?_
                  first | refine WL_split (t := 47) rfl ?_ ?_
                  · intro c17; try have c17 := of_decide_eq_true c17
                    refine WL_skip (j := 44) (t := 47) (b := true) rfl rfl rfl rfl ?_
                    refine WL_skip (j := 44) (t := 47) (b := true) rfl rfl rfl rfl ?_
                    refine WL_skip (j := 44) (t := 47) (b := true) rfl rfl rfl rfl ?_
                    refine WL_skip (j := 44) (t := 47) (b := true) rfl rfl rfl rfl ?_
                    refine WL_vg rfl rfl (v_pickt rfl rfl) rfl ?_
                    refine WL_v (v_pickt rfl rfl) rfl ?_
                    refine WL_v (v_assign rfl) rfl ?_
                    refine WL_nil ?_
                    refine den_ret ?_
                    exact ends1 Tryz.results18 rfl (Heap.le.refl _) (by simp) ⟨by congr 1; first | exact (decide_eq_false (fun g => by obtain ⟨g1, g2, g3, g4, g5, g6, g7, g8, g9⟩ := g; first | omega | exact absurd g5 ‹_› | exact absurd g6 ‹_›)).symm | exact (decide_eq_true (show l.formed from ⟨by omega, by omega, by omega, by omega, by assumption, by assumption, by omega, by omega, Or.inl (by omega)⟩)).symm | (rw [decide_eq_decide]; exact ⟨fun g => ⟨by omega, by omega, by omega, by omega, by assumption, by assumption, by omega, by omega, Or.inr g⟩, fun g => g.2.2.2.2.2.2.2.2.resolve_left (by omega)⟩), rfl⟩
                  · intro c18; try have c18 := of_decide_eq_false c18
                    refine WL_vg rfl rfl (v_faddr Tryz.underlying27 rfl siz23 rfl) rfl ?_
                    refine WL_vg rfl rfl (v_loadn many23 rfl (Kn.own 0 rfl) (show cut 6 32 l.cells = some (dcells l.pa) from rfl)) rfl ?_
                    refine WL_vg rfl rfl (v_builda (r := dcells dz) Tryz.underlying23 zer23 siz5 rfl (by kernel_rfl)) rfl ?_
                    refine WL_vg rfl rfl (v_aeql (EqV.dig (d := 9998) Tryz.underlying23 siz5 one5 Tryz.underlying5) (by kernel_rfl) rfl rfl) rfl ?_
                    refine WL_vg rfl rfl (v_pickf rfl rfl) rfl ?_
                    refine WL_v (v_pickt rfl rfl) rfl ?_
                    refine WL_v (v_assign rfl) rfl ?_
                    refine WL_nil ?_
                    refine den_ret ?_
                    exact ends1 Tryz.results18 rfl (Heap.le.refl _) (by simp) ⟨by congr 1; first | exact (decide_eq_false (fun g => by obtain ⟨g1, g2, g3, g4, g5, g6, g7, g8, g9⟩ := g; first | omega | exact absurd g5 ‹_› | exact absurd g6 ‹_›)).symm | exact (decide_eq_true (show l.formed from ⟨by omega, by omega, by omega, by omega, by assumption, by assumption, by omega, by omega, Or.inl (by omega)⟩)).symm | (rw [decide_eq_decide]; exact ⟨fun g => ⟨by omega, by omega, by omega, by omega, by assumption, by assumption, by omega, by omega, Or.inr g⟩, fun g => g.2.2.2.2.2.2.2.2.resolve_left (by omega)⟩), rfl⟩
                · intro c16; try have c16 := of_decide_eq_false c16
                  refine WL_skip (j := 40) (t := 43) (b := false) rfl rfl rfl rfl ?_
                  refine WL_skip (j := 40) (t := 43) (b := false) rfl rfl rfl rfl ?_
                  refine WL_skip (j := 40) (t := 43) (b := false) rfl rfl rfl rfl ?_
                  refine WL_skip (j := 40) (t := 43) (b := false) rfl rfl rfl rfl ?_
                  refine WL_skipu (j := 44) (t := 47) rfl rfl rfl rfl ?_
                  refine WL_skipu (j := 44) (t := 47) rfl rfl rfl rfl ?_
                  refine WL_skipu (j := 44) (t := 47) rfl rfl rfl rfl ?_
                  refine WL_skipu (j := 44) (t := 47) rfl rfl rfl rfl ?_
                  refine WL_skip (j := 40) (t := 43) (b := false) rfl rfl rfl rfl ?_
                  refine WL_v (v_pickf rfl rfl) rfl ?_
                  refine WL_v (v_assign rfl) rfl ?_
                  refine WL_nil ?_
                  refine den_ret ?_
                  exact ends1 Tryz.results18 rfl (Heap.le.refl _) (by simp) ⟨by congr 1; first | exact (decide_eq_false (fun g => by obtain ⟨g1, g2, g3, g4, g5, g6, g7, g8, g9⟩ := g; first | omega | exact absurd g5 ‹_› | exact absurd g6 ‹_›)).symm | exact (decide_eq_true (show l.formed from ⟨by omega, by omega, by omega, by omega, by assumption, by assumption, by omega, by omega, Or.inl (by omega)⟩)).symm | (rw [decide_eq_decide]; exact ⟨fun g => ⟨by omega, by omega, by omega, by omega, by assumption, by assumption, by omega, by omega, Or.inr g⟩, fun g => g.2.2.2.2.2.2.2.2.resolve_left (by omega)⟩), rfl⟩
              · intro c14; try have c14 := of_decide_eq_false c14
                refine WL_skip (j := 35) (t := 38) (b := false) rfl rfl rfl rfl ?_
                refine WL_skip (j := 35) (t := 38) (b := false) rfl rfl rfl rfl ?_
                refine WL_skip (j := 35) (t := 38) (b := false) rfl rfl rfl rfl ?_
                refine WL_v (v_pickf rfl rfl) rfl ?_
                refine WL_v (v_move rfl) rfl ?_
                refine WL_skip (j := 40) (t := 43) (b := false) rfl rfl rfl rfl ?_
                refine WL_skip (j := 40) (t := 43) (b := false) rfl rfl rfl rfl ?_
                refine WL_skip (j := 40) (t := 43) (b := false) rfl rfl rfl rfl ?_
                refine WL_skip (j := 40) (t := 43) (b := false) rfl rfl rfl rfl ?_
                refine WL_skipu (j := 44) (t := 47) rfl rfl rfl rfl ?_
                refine WL_skipu (j := 44) (t := 47) rfl rfl rfl rfl ?_
                refine WL_skipu (j := 44) (t := 47) rfl rfl rfl rfl ?_
                refine WL_skipu (j := 44) (t := 47) rfl rfl rfl rfl ?_
                refine WL_skip (j := 40) (t := 43) (b := false) rfl rfl rfl rfl ?_
                refine WL_v (v_pickf rfl rfl) rfl ?_
                refine WL_v (v_assign rfl) rfl ?_
                refine WL_nil ?_
                refine den_ret ?_
                exact ends1 Tryz.results18 rfl (Heap.le.refl _) (by simp) ⟨by congr 1; first | exact (decide_eq_false (fun g => by obtain ⟨g1, g2, g3, g4, g5, g6, g7, g8, g9⟩ := g; first | omega | exact absurd g5 ‹_› | exact absurd g6 ‹_›)).symm | exact (decide_eq_true (show l.formed from ⟨by omega, by omega, by omega, by omega, by assumption, by assumption, by omega, by omega, Or.inl (by omega)⟩)).symm | (rw [decide_eq_decide]; exact ⟨fun g => ⟨by omega, by omega, by omega, by omega, by assumption, by assumption, by omega, by omega, Or.inr g⟩, fun g => g.2.2.2.2.2.2.2.2.resolve_left (by omega)⟩), rfl⟩
            · intro c12; try have c12 := of_decide_eq_false c12
              refine WL_skip (j := 30) (t := 33) (b := false) rfl rfl rfl rfl ?_
              refine WL_skip (j := 30) (t := 33) (b := false) rfl rfl rfl rfl ?_
              refine WL_skip (j := 30) (t := 33) (b := false) rfl rfl rfl rfl ?_
              refine WL_v (v_pickf rfl rfl) rfl ?_
              refine WL_v (v_move rfl) rfl ?_
              refine WL_skip (j := 35) (t := 38) (b := false) rfl rfl rfl rfl ?_
              refine WL_skip (j := 35) (t := 38) (b := false) rfl rfl rfl rfl ?_
              refine WL_skip (j := 35) (t := 38) (b := false) rfl rfl rfl rfl ?_
              refine WL_v (v_pickf rfl rfl) rfl ?_
              refine WL_v (v_move rfl) rfl ?_
              refine WL_skip (j := 40) (t := 43) (b := false) rfl rfl rfl rfl ?_
              refine WL_skip (j := 40) (t := 43) (b := false) rfl rfl rfl rfl ?_
              refine WL_skip (j := 40) (t := 43) (b := false) rfl rfl rfl rfl ?_
              refine WL_skip (j := 40) (t := 43) (b := false) rfl rfl rfl rfl ?_
              refine WL_skipu (j := 44) (t := 47) rfl rfl rfl rfl ?_
              refine WL_skipu (j := 44) (t := 47) rfl rfl rfl rfl ?_
              refine WL_skipu (j := 44) (t := 47) rfl rfl rfl rfl ?_
              refine WL_skipu (j := 44) (t := 47) rfl rfl rfl rfl ?_
              refine WL_skip (j := 40) (t := 43) (b := false) rfl rfl rfl rfl ?_
              refine WL_v (v_pickf rfl rfl) rfl ?_
              refine WL_v (v_assign rfl) rfl ?_
              refine WL_nil ?_
              refine den_ret ?_
              exact ends1 Tryz.results18 rfl (Heap.le.refl _) (by simp) ⟨by congr 1; first | exact (decide_eq_false (fun g => by obtain ⟨g1, g2, g3, g4, g5, g6, g7, g8, g9⟩ := g; first | omega | exact absurd g5 ‹_› | exact absurd g6 ‹_›)).symm | exact (decide_eq_true (show l.formed from ⟨by omega, by omega, by omega, by omega, by assumption, by assumption, by omega, by omega, Or.inl (by omega)⟩)).symm | (rw [decide_eq_decide]; exact ⟨fun g => ⟨by omega, by omega, by omega, by omega, by assumption, by assumption, by omega, by omega, Or.inr g⟩, fun g => g.2.2.2.2.2.2.2.2.resolve_left (by omega)⟩), rfl⟩
          · intro c10; try have c10 := of_decide_eq_false c10
            refine WL_skip (j := 24) (t := 27) (b := false) rfl rfl rfl rfl ?_
            refine WL_skip (j := 24) (t := 27) (b := false) rfl rfl rfl rfl ?_
            refine WL_skip (j := 24) (t := 27) (b := false) rfl rfl rfl rfl ?_
            refine WL_skip (j := 24) (t := 27) (b := false) rfl rfl rfl rfl ?_
            refine WL_v (v_pickf rfl rfl) rfl ?_
            refine WL_v (v_move rfl) rfl ?_
            refine WL_skip (j := 30) (t := 33) (b := false) rfl rfl rfl rfl ?_
            refine WL_skip (j := 30) (t := 33) (b := false) rfl rfl rfl rfl ?_
            refine WL_skip (j := 30) (t := 33) (b := false) rfl rfl rfl rfl ?_
            refine WL_v (v_pickf rfl rfl) rfl ?_
            refine WL_v (v_move rfl) rfl ?_
            refine WL_skip (j := 35) (t := 38) (b := false) rfl rfl rfl rfl ?_
            refine WL_skip (j := 35) (t := 38) (b := false) rfl rfl rfl rfl ?_
            refine WL_skip (j := 35) (t := 38) (b := false) rfl rfl rfl rfl ?_
            refine WL_v (v_pickf rfl rfl) rfl ?_
            refine WL_v (v_move rfl) rfl ?_
            refine WL_skip (j := 40) (t := 43) (b := false) rfl rfl rfl rfl ?_
            refine WL_skip (j := 40) (t := 43) (b := false) rfl rfl rfl rfl ?_
            refine WL_skip (j := 40) (t := 43) (b := false) rfl rfl rfl rfl ?_
            refine WL_skip (j := 40) (t := 43) (b := false) rfl rfl rfl rfl ?_
            refine WL_skipu (j := 44) (t := 47) rfl rfl rfl rfl ?_
            refine WL_skipu (j := 44) (t := 47) rfl rfl rfl rfl ?_
            refine WL_skipu (j := 44) (t := 47) rfl rfl rfl rfl ?_
            refine WL_skipu (j := 44) (t := 47) rfl rfl rfl rfl ?_
            refine WL_skip (j := 40) (t := 43) (b := false) rfl rfl rfl rfl ?_
            refine WL_v (v_pickf rfl rfl) rfl ?_
            refine WL_v (v_assign rfl) rfl ?_
            refine WL_nil ?_
            refine den_ret ?_
            exact ends1 Tryz.results18 rfl (Heap.le.refl _) (by simp) ⟨by congr 1; first | exact (decide_eq_false (fun g => by obtain ⟨g1, g2, g3, g4, g5, g6, g7, g8, g9⟩ := g; first | omega | exact absurd g5 ‹_› | exact absurd g6 ‹_›)).symm | exact (decide_eq_true (show l.formed from ⟨by omega, by omega, by omega, by omega, by assumption, by assumption, by omega, by omega, Or.inl (by omega)⟩)).symm | (rw [decide_eq_decide]; exact ⟨fun g => ⟨by omega, by omega, by omega, by omega, by assumption, by assumption, by omega, by omega, Or.inr g⟩, fun g => g.2.2.2.2.2.2.2.2.resolve_left (by omega)⟩), rfl⟩
        · intro c8; try have c8 := of_decide_eq_false c8
          refine WL_skip (j := 18) (t := 21) (b := false) rfl rfl rfl rfl ?_
          refine WL_skip (j := 18) (t := 21) (b := false) rfl rfl rfl rfl ?_
          refine WL_skip (j := 18) (t := 21) (b := false) rfl rfl rfl rfl ?_
          refine WL_skip (j := 18) (t := 21) (b := false) rfl rfl rfl rfl ?_
          refine WL_v (v_pickf rfl rfl) rfl ?_
          refine WL_v (v_move rfl) rfl ?_
          refine WL_skip (j := 24) (t := 27) (b := false) rfl rfl rfl rfl ?_
          refine WL_skip (j := 24) (t := 27) (b := false) rfl rfl rfl rfl ?_
          refine WL_skip (j := 24) (t := 27) (b := false) rfl rfl rfl rfl ?_
          refine WL_skip (j := 24) (t := 27) (b := false) rfl rfl rfl rfl ?_
          refine WL_v (v_pickf rfl rfl) rfl ?_
          refine WL_v (v_move rfl) rfl ?_
          refine WL_skip (j := 30) (t := 33) (b := false) rfl rfl rfl rfl ?_
          refine WL_skip (j := 30) (t := 33) (b := false) rfl rfl rfl rfl ?_
          refine WL_skip (j := 30) (t := 33) (b := false) rfl rfl rfl rfl ?_
          refine WL_v (v_pickf rfl rfl) rfl ?_
          refine WL_v (v_move rfl) rfl ?_
          refine WL_skip (j := 35) (t := 38) (b := false) rfl rfl rfl rfl ?_
          refine WL_skip (j := 35) (t := 38) (b := false) rfl rfl rfl rfl ?_
          refine WL_skip (j := 35) (t := 38) (b := false) rfl rfl rfl rfl ?_
          refine WL_v (v_pickf rfl rfl) rfl ?_
          refine WL_v (v_move rfl) rfl ?_
          refine WL_skip (j := 40) (t := 43) (b := false) rfl rfl rfl rfl ?_
          refine WL_skip (j := 40) (t := 43) (b := false) rfl rfl rfl rfl ?_
          refine WL_skip (j := 40) (t := 43) (b := false) rfl rfl rfl rfl ?_
          refine WL_skip (j := 40) (t := 43) (b := false) rfl rfl rfl rfl ?_
          refine WL_skipu (j := 44) (t := 47) rfl rfl rfl rfl ?_
          refine WL_skipu (j := 44) (t := 47) rfl rfl rfl rfl ?_
          refine WL_skipu (j := 44) (t := 47) rfl rfl rfl rfl ?_
          refine WL_skipu (j := 44) (t := 47) rfl rfl rfl rfl ?_
          refine WL_skip (j := 40) (t := 43) (b := false) rfl rfl rfl rfl ?_
          refine WL_v (v_pickf rfl rfl) rfl ?_
          refine WL_v (v_assign rfl) rfl ?_
          refine WL_nil ?_
          refine den_ret ?_
          exact ends1 Tryz.results18 rfl (Heap.le.refl _) (by simp) ⟨by congr 1; first | exact (decide_eq_false (fun g => by obtain ⟨g1, g2, g3, g4, g5, g6, g7, g8, g9⟩ := g; first | omega | exact absurd g5 ‹_› | exact absurd g6 ‹_›)).symm | exact (decide_eq_true (show l.formed from ⟨by omega, by omega, by omega, by omega, by assumption, by assumption, by omega, by omega, Or.inl (by omega)⟩)).symm | (rw [decide_eq_decide]; exact ⟨fun g => ⟨by omega, by omega, by omega, by omega, by assumption, by assumption, by omega, by omega, Or.inr g⟩, fun g => g.2.2.2.2.2.2.2.2.resolve_left (by omega)⟩), rfl⟩
      · intro c6; try have c6 := of_decide_eq_false c6
        refine WL_skip (j := 13) (t := 16) (b := false) rfl rfl rfl rfl ?_
        refine WL_skip (j := 13) (t := 16) (b := false) rfl rfl rfl rfl ?_
        refine WL_skip (j := 13) (t := 16) (b := false) rfl rfl rfl rfl ?_
        refine WL_v (v_pickf rfl rfl) rfl ?_
        refine WL_v (v_move rfl) rfl ?_
        refine WL_skip (j := 18) (t := 21) (b := false) rfl rfl rfl rfl ?_
        refine WL_skip (j := 18) (t := 21) (b := false) rfl rfl rfl rfl ?_
        refine WL_skip (j := 18) (t := 21) (b := false) rfl rfl rfl rfl ?_
        refine WL_skip (j := 18) (t := 21) (b := false) rfl rfl rfl rfl ?_
        refine WL_v (v_pickf rfl rfl) rfl ?_
        refine WL_v (v_move rfl) rfl ?_
        refine WL_skip (j := 24) (t := 27) (b := false) rfl rfl rfl rfl ?_
        refine WL_skip (j := 24) (t := 27) (b := false) rfl rfl rfl rfl ?_
        refine WL_skip (j := 24) (t := 27) (b := false) rfl rfl rfl rfl ?_
        refine WL_skip (j := 24) (t := 27) (b := false) rfl rfl rfl rfl ?_
        refine WL_v (v_pickf rfl rfl) rfl ?_
        refine WL_v (v_move rfl) rfl ?_
        refine WL_skip (j := 30) (t := 33) (b := false) rfl rfl rfl rfl ?_
        refine WL_skip (j := 30) (t := 33) (b := false) rfl rfl rfl rfl ?_
        refine WL_skip (j := 30) (t := 33) (b := false) rfl rfl rfl rfl ?_
        refine WL_v (v_pickf rfl rfl) rfl ?_
        refine WL_v (v_move rfl) rfl ?_
        refine WL_skip (j := 35) (t := 38) (b := false) rfl rfl rfl rfl ?_
        refine WL_skip (j := 35) (t := 38) (b := false) rfl rfl rfl rfl ?_
        refine WL_skip (j := 35) (t := 38) (b := false) rfl rfl rfl rfl ?_
        refine WL_v (v_pickf rfl rfl) rfl ?_
        refine WL_v (v_move rfl) rfl ?_
        refine WL_skip (j := 40) (t := 43) (b := false) rfl rfl rfl rfl ?_
        refine WL_skip (j := 40) (t := 43) (b := false) rfl rfl rfl rfl ?_
        refine WL_skip (j := 40) (t := 43) (b := false) rfl rfl rfl rfl ?_
        refine WL_skip (j := 40) (t := 43) (b := false) rfl rfl rfl rfl ?_
        refine WL_skipu (j := 44) (t := 47) rfl rfl rfl rfl ?_
        refine WL_skipu (j := 44) (t := 47) rfl rfl rfl rfl ?_
        refine WL_skipu (j := 44) (t := 47) rfl rfl rfl rfl ?_
        refine WL_skipu (j := 44) (t := 47) rfl rfl rfl rfl ?_
        refine WL_skip (j := 40) (t := 43) (b := false) rfl rfl rfl rfl ?_
        refine WL_v (v_pickf rfl rfl) rfl ?_
        refine WL_v (v_assign rfl) rfl ?_
        refine WL_nil ?_
        refine den_ret ?_
        exact ends1 Tryz.results18 rfl (Heap.le.refl _) (by simp) ⟨by congr 1; first | exact (decide_eq_false (fun g => by obtain ⟨g1, g2, g3, g4, g5, g6, g7, g8, g9⟩ := g; first | omega | exact absurd g5 ‹_› | exact absurd g6 ‹_›)).symm | exact (decide_eq_true (show l.formed from ⟨by omega, by omega, by omega, by omega, by assumption, by assumption, by omega, by omega, Or.inl (by omega)⟩)).symm | (rw [decide_eq_decide]; exact ⟨fun g => ⟨by omega, by omega, by omega, by omega, by assumption, by assumption, by omega, by omega, Or.inr g⟩, fun g => g.2.2.2.2.2.2.2.2.resolve_left (by omega)⟩), rfl⟩
    · intro c4; try have c4 := of_decide_eq_false c4
      refine WL_skip (j := 8) (t := 11) (b := false) rfl rfl rfl rfl ?_
      refine WL_skip (j := 8) (t := 11) (b := false) rfl rfl rfl rfl ?_
      refine WL_skip (j := 8) (t := 11) (b := false) rfl rfl rfl rfl ?_
      refine WL_v (v_pickf rfl rfl) rfl ?_
      refine WL_v (v_move rfl) rfl ?_
      refine WL_skip (j := 13) (t := 16) (b := false) rfl rfl rfl rfl ?_
      refine WL_skip (j := 13) (t := 16) (b := false) rfl rfl rfl rfl ?_
      refine WL_skip (j := 13) (t := 16) (b := false) rfl rfl rfl rfl ?_
      refine WL_v (v_pickf rfl rfl) rfl ?_
      refine WL_v (v_move rfl) rfl ?_
      refine WL_skip (j := 18) (t := 21) (b := false) rfl rfl rfl rfl ?_
      refine WL_skip (j := 18) (t := 21) (b := false) rfl rfl rfl rfl ?_
      refine WL_skip (j := 18) (t := 21) (b := false) rfl rfl rfl rfl ?_
      refine WL_skip (j := 18) (t := 21) (b := false) rfl rfl rfl rfl ?_
      refine WL_v (v_pickf rfl rfl) rfl ?_
      refine WL_v (v_move rfl) rfl ?_
      refine WL_skip (j := 24) (t := 27) (b := false) rfl rfl rfl rfl ?_
      refine WL_skip (j := 24) (t := 27) (b := false) rfl rfl rfl rfl ?_
      refine WL_skip (j := 24) (t := 27) (b := false) rfl rfl rfl rfl ?_
      refine WL_skip (j := 24) (t := 27) (b := false) rfl rfl rfl rfl ?_
      refine WL_v (v_pickf rfl rfl) rfl ?_
      refine WL_v (v_move rfl) rfl ?_
      refine WL_skip (j := 30) (t := 33) (b := false) rfl rfl rfl rfl ?_
      refine WL_skip (j := 30) (t := 33) (b := false) rfl rfl rfl rfl ?_
      refine WL_skip (j := 30) (t := 33) (b := false) rfl rfl rfl rfl ?_
      refine WL_v (v_pickf rfl rfl) rfl ?_
      refine WL_v (v_move rfl) rfl ?_
      refine WL_skip (j := 35) (t := 38) (b := false) rfl rfl rfl rfl ?_
      refine WL_skip (j := 35) (t := 38) (b := false) rfl rfl rfl rfl ?_
      refine WL_skip (j := 35) (t := 38) (b := false) rfl rfl rfl rfl ?_
      refine WL_v (v_pickf rfl rfl) rfl ?_
      refine WL_v (v_move rfl) rfl ?_
      refine WL_skip (j := 40) (t := 43) (b := false) rfl rfl rfl rfl ?_
      refine WL_skip (j := 40) (t := 43) (b := false) rfl rfl rfl rfl ?_
      refine WL_skip (j := 40) (t := 43) (b := false) rfl rfl rfl rfl ?_
      refine WL_skip (j := 40) (t := 43) (b := false) rfl rfl rfl rfl ?_
      refine WL_skipu (j := 44) (t := 47) rfl rfl rfl rfl ?_
      refine WL_skipu (j := 44) (t := 47) rfl rfl rfl rfl ?_
      refine WL_skipu (j := 44) (t := 47) rfl rfl rfl rfl ?_
      refine WL_skipu (j := 44) (t := 47) rfl rfl rfl rfl ?_
      refine WL_skip (j := 40) (t := 43) (b := false) rfl rfl rfl rfl ?_
      refine WL_v (v_pickf rfl rfl) rfl ?_
      refine WL_v (v_assign rfl) rfl ?_
      refine WL_nil ?_
      refine den_ret ?_
      exact ends1 Tryz.results18 rfl (Heap.le.refl _) (by simp) ⟨by congr 1; first | exact (decide_eq_false (fun g => by obtain ⟨g1, g2, g3, g4, g5, g6, g7, g8, g9⟩ := g; first | omega | exact absurd g5 ‹_› | exact absurd g6 ‹_›)).symm | exact (decide_eq_true (show l.formed from ⟨by omega, by omega, by omega, by omega, by assumption, by assumption, by omega, by omega, Or.inl (by omega)⟩)).symm | (rw [decide_eq_decide]; exact ⟨fun g => ⟨by omega, by omega, by omega, by omega, by assumption, by assumption, by omega, by omega, Or.inr g⟩, fun g => g.2.2.2.2.2.2.2.2.resolve_left (by omega)⟩), rfl⟩
  · intro c2; try have c2 := of_decide_eq_false c2
    refine WL_skip (j := 3) (t := 6) (b := false) rfl rfl rfl rfl ?_
    refine WL_skip (j := 3) (t := 6) (b := false) rfl rfl rfl rfl ?_
    refine WL_skip (j := 3) (t := 6) (b := false) rfl rfl rfl rfl ?_
    refine WL_v (v_pickf rfl rfl) rfl ?_
    refine WL_v (v_move rfl) rfl ?_
    refine WL_skip (j := 8) (t := 11) (b := false) rfl rfl rfl rfl ?_
    refine WL_skip (j := 8) (t := 11) (b := false) rfl rfl rfl rfl ?_
    refine WL_skip (j := 8) (t := 11) (b := false) rfl rfl rfl rfl ?_
    refine WL_v (v_pickf rfl rfl) rfl ?_
    refine WL_v (v_move rfl) rfl ?_
    refine WL_skip (j := 13) (t := 16) (b := false) rfl rfl rfl rfl ?_
    refine WL_skip (j := 13) (t := 16) (b := false) rfl rfl rfl rfl ?_
    refine WL_skip (j := 13) (t := 16) (b := false) rfl rfl rfl rfl ?_
    refine WL_v (v_pickf rfl rfl) rfl ?_
    refine WL_v (v_move rfl) rfl ?_
    refine WL_skip (j := 18) (t := 21) (b := false) rfl rfl rfl rfl ?_
    refine WL_skip (j := 18) (t := 21) (b := false) rfl rfl rfl rfl ?_
    refine WL_skip (j := 18) (t := 21) (b := false) rfl rfl rfl rfl ?_
    refine WL_skip (j := 18) (t := 21) (b := false) rfl rfl rfl rfl ?_
    refine WL_v (v_pickf rfl rfl) rfl ?_
    refine WL_v (v_move rfl) rfl ?_
    refine WL_skip (j := 24) (t := 27) (b := false) rfl rfl rfl rfl ?_
    refine WL_skip (j := 24) (t := 27) (b := false) rfl rfl rfl rfl ?_
    refine WL_skip (j := 24) (t := 27) (b := false) rfl rfl rfl rfl ?_
    refine WL_skip (j := 24) (t := 27) (b := false) rfl rfl rfl rfl ?_
    refine WL_v (v_pickf rfl rfl) rfl ?_
    refine WL_v (v_move rfl) rfl ?_
    refine WL_skip (j := 30) (t := 33) (b := false) rfl rfl rfl rfl ?_
    refine WL_skip (j := 30) (t := 33) (b := false) rfl rfl rfl rfl ?_
    refine WL_skip (j := 30) (t := 33) (b := false) rfl rfl rfl rfl ?_
    refine WL_v (v_pickf rfl rfl) rfl ?_
    refine WL_v (v_move rfl) rfl ?_
    refine WL_skip (j := 35) (t := 38) (b := false) rfl rfl rfl rfl ?_
    refine WL_skip (j := 35) (t := 38) (b := false) rfl rfl rfl rfl ?_
    refine WL_skip (j := 35) (t := 38) (b := false) rfl rfl rfl rfl ?_
    refine WL_v (v_pickf rfl rfl) rfl ?_
    refine WL_v (v_move rfl) rfl ?_
    refine WL_skip (j := 40) (t := 43) (b := false) rfl rfl rfl rfl ?_
    refine WL_skip (j := 40) (t := 43) (b := false) rfl rfl rfl rfl ?_
    refine WL_skip (j := 40) (t := 43) (b := false) rfl rfl rfl rfl ?_
    refine WL_skip (j := 40) (t := 43) (b := false) rfl rfl rfl rfl ?_
    refine WL_skipu (j := 44) (t := 47) rfl rfl rfl rfl ?_
    refine WL_skipu (j := 44) (t := 47) rfl rfl rfl rfl ?_
    refine WL_skipu (j := 44) (t := 47) rfl rfl rfl rfl ?_
    refine WL_skipu (j := 44) (t := 47) rfl rfl rfl rfl ?_
    refine WL_skip (j := 40) (t := 43) (b := false) rfl rfl rfl rfl ?_
    refine WL_v (v_pickf rfl rfl) rfl ?_
    refine WL_v (v_assign rfl) rfl ?_
    refine WL_nil ?_
    refine den_ret ?_
    exact ends1 Tryz.results18 rfl (Heap.le.refl _) (by simp) ⟨by congr 1; first | exact (decide_eq_false (fun g => by obtain ⟨g1, g2, g3, g4, g5, g6, g7, g8, g9⟩ := g; first | omega | exact absurd g5 ‹_› | exact absurd g6 ‹_›)).symm | exact (decide_eq_true (show l.formed from ⟨by omega, by omega, by omega, by omega, by assumption, by assumption, by omega, by omega, Or.inl (by omega)⟩)).symm | (rw [decide_eq_decide]; exact ⟨fun g => ⟨by omega, by omega, by omega, by omega, by assumption, by assumption, by omega, by omega, Or.inr g⟩, fun g => g.2.2.2.2.2.2.2.2.resolve_left (by omega)⟩), rfl⟩

theorem contents_fn (l : Lk) (h : Heap) : Tr Tryz.prog 43 [.agg ⟨l.cells⟩] h [] (fun v _ L' => OwnS 78 4 v 7 l.rows.flatten L') := by
  refine Tr_of Tryz.func43 rfl rfl Tryz.ntmps43 rfl [(0, .agg ⟨l.cells⟩)] rfl ?_
  intro Lf
  refine den_seq ?_
  -- region 0
  refine den_region rfl ?_
  refine WL_box rfl rfl rfl fun b1 => ?_
  refine WL_v (v_assign rfl) rfl ?_
  refine WL_freeze fun h1 hl1 hb1 => ?_
  refine WL_nil ?_
  refine den_seq ?_
  -- region 1
  refine den_region rfl ?_
  refine WL_v (v_assign rfl) rfl ?_
  refine WL_nil ?_
  refine den_seq ?_
  refine den_seq ?_
  -- region 2
  refine den_region rfl ?_
  refine WL_v (v_faddr Tryz.underlying64 rfl siz27 rfl) rfl ?_
  refine WL_v (v_faddr Tryz.underlying27 rfl siz4 rfl) rfl ?_
  refine WL_v (v_load1 one4 rfl (by first | exact Kn.own 0 rfl | exact Kn.own 1 rfl | exact Kn.own 2 rfl | exact Kn.own 3 rfl | exact Kn.own 4 rfl | exact Kn.own 5 rfl | exact Kn.per ‹_›) rfl) rfl ?_
  refine WL_nil ?_
  first | refine den_ifd rfl (fun hre => ?_) (fun hre => ?_) | refine den_if rfl (fun hre => ?_) (fun hre => ?_)
  · skip
    -- region 3
    refine den_region rfl ?_
    refine WL_v (v_assign rfl) rfl ?_
    refine WL_nil ?_
    refine den_seq ?_
    -- region 4
    refine den_draw [] (by kernel_rfl) (by kernel_rfl) (NoP.fn) (rem := [0, 1, 2, 3, 4, 5, 6, 7, 8, 9, 10, 11, 12, 13, 14, 15, 16, 17, 18, 19, 20, 21, 22, 23, 24, 25, 26, 27]) (by kernel_rfl) ?_
    refine QS_v (i := 0) rfl (v_faddr Tryz.underlying64 rfl siz27 rfl) (by kernel_rfl) (by kernel_rfl) (by kernel_rfl) (rem' := [1, 2, 3, 4, 5, 6, 7, 8, 9, 10, 11, 12, 13, 14, 15, 16, 17, 18, 19, 20, 21, 22, 23, 24, 25, 26, 27]) (by kernel_rfl) rfl ?_
    refine QS_v (i := 1) rfl (v_faddr Tryz.underlying27 rfl siz3 rfl) (by kernel_rfl) (by kernel_rfl) (by kernel_rfl) (rem' := [2, 3, 4, 5, 6, 7, 8, 9, 10, 11, 12, 13, 14, 15, 16, 17, 18, 19, 20, 21, 22, 23, 24, 25, 26, 27]) (by kernel_rfl) rfl ?_
    refine QS_v (i := 2) rfl (v_load1 one3 rfl (by first | exact Kn.own 0 rfl | exact Kn.own 1 rfl | exact Kn.own 2 rfl | exact Kn.own 3 rfl | exact Kn.own 4 rfl | exact Kn.own 5 rfl | exact Kn.per ‹_›) rfl) (by kernel_rfl) (by kernel_rfl) (by kernel_rfl) (rem' := [3, 4, 5, 6, 7, 8, 9, 10, 11, 12, 13, 14, 15, 16, 17, 18, 19, 20, 21, 22, 23, 24, 25, 26, 27]) (by kernel_rfl) rfl ?_
    refine QS_v (i := 4) rfl (v_faddr Tryz.underlying64 rfl siz27 rfl) (by kernel_rfl) (by kernel_rfl) (by kernel_rfl) (rem' := [3, 5, 6, 7, 8, 9, 10, 11, 12, 13, 14, 15, 16, 17, 18, 19, 20, 21, 22, 23, 24, 25, 26, 27]) (by kernel_rfl) rfl ?_
    refine QS_v (i := 5) rfl (v_faddr Tryz.underlying27 rfl siz3 rfl) (by kernel_rfl) (by kernel_rfl) (by kernel_rfl) (rem' := [3, 6, 7, 8, 9, 10, 11, 12, 13, 14, 15, 16, 17, 18, 19, 20, 21, 22, 23, 24, 25, 26, 27]) (by kernel_rfl) rfl ?_
    refine QS_v (i := 6) rfl (v_load1 one3 rfl (by first | exact Kn.own 0 rfl | exact Kn.own 1 rfl | exact Kn.own 2 rfl | exact Kn.own 3 rfl | exact Kn.own 4 rfl | exact Kn.own 5 rfl | exact Kn.per ‹_›) rfl) (by kernel_rfl) (by kernel_rfl) (by kernel_rfl) (rem' := [3, 7, 8, 9, 10, 11, 12, 13, 14, 15, 16, 17, 18, 19, 20, 21, 22, 23, 24, 25, 26, 27]) (by kernel_rfl) rfl ?_
    refine QS_v (i := 8) rfl (v_faddr Tryz.underlying64 rfl siz27 rfl) (by kernel_rfl) (by kernel_rfl) (by kernel_rfl) (rem' := [3, 7, 9, 10, 11, 12, 13, 14, 15, 16, 17, 18, 19, 20, 21, 22, 23, 24, 25, 26, 27]) (by kernel_rfl) rfl ?_
    refine QS_v (i := 9) rfl (v_faddr Tryz.underlying27 rfl siz3 rfl) (by kernel_rfl) (by kernel_rfl) (by kernel_rfl) (rem' := [3, 7, 10, 11, 12, 13, 14, 15, 16, 17, 18, 19, 20, 21, 22, 23, 24, 25, 26, 27]) (by kernel_rfl) rfl ?_
    refine QS_v (i := 10) rfl (v_load1 one3 rfl (by first | exact Kn.own 0 rfl | exact Kn.own 1 rfl | exact Kn.own 2 rfl | exact Kn.own 3 rfl | exact Kn.own 4 rfl | exact Kn.own 5 rfl | exact Kn.per ‹_›) rfl) (by kernel_rfl) (by kernel_rfl) (by kernel_rfl) (rem' := [3, 7, 11, 12, 13, 14, 15, 16, 17, 18, 19, 20, 21, 22, 23, 24, 25, 26, 27]) (by kernel_rfl) rfl ?_
    refine QS_v (i := 12) rfl (v_faddr Tryz.underlying64 rfl siz27 rfl) (by kernel_rfl) (by kernel_rfl) (by kernel_rfl) (rem' := [3, 7, 11, 13, 14, 15, 16, 17, 18, 19, 20, 21, 22, 23, 24, 25, 26, 27]) (by kernel_rfl) rfl ?_
    refine QS_v (i := 13) rfl (v_faddr Tryz.underlying27 rfl siz3 rfl) (by kernel_rfl) (by kernel_rfl) (by kernel_rfl) (rem' := [3, 7, 11, 14, 15, 16, 17, 18, 19, 20, 21, 22, 23, 24, 25, 26, 27]) (by kernel_rfl) rfl ?_
    refine QS_v (i := 14) rfl (v_load1 one3 rfl (by first | exact Kn.own 0 rfl | exact Kn.own 1 rfl | exact Kn.own 2 rfl | exact Kn.own 3 rfl | exact Kn.own 4 rfl | exact Kn.own 5 rfl | exact Kn.per ‹_›) rfl) (by kernel_rfl) (by kernel_rfl) (by kernel_rfl) (rem' := [3, 7, 11, 15, 16, 17, 18, 19, 20, 21, 22, 23, 24, 25, 26, 27]) (by kernel_rfl) rfl ?_
    refine QS_v (i := 16) rfl (v_faddr Tryz.underlying64 rfl siz27 rfl) (by kernel_rfl) (by kernel_rfl) (by kernel_rfl) (rem' := [3, 7, 11, 15, 17, 18, 19, 20, 21, 22, 23, 24, 25, 26, 27]) (by kernel_rfl) rfl ?_
    refine QS_v (i := 17) rfl (v_faddr Tryz.underlying27 rfl siz3 rfl) (by kernel_rfl) (by kernel_rfl) (by kernel_rfl) (rem' := [3, 7, 11, 15, 18, 19, 20, 21, 22, 23, 24, 25, 26, 27]) (by kernel_rfl) rfl ?_
    refine QS_v (i := 18) rfl (v_load1 one3 rfl (by first | exact Kn.own 0 rfl | exact Kn.own 1 rfl | exact Kn.own 2 rfl | exact Kn.own 3 rfl | exact Kn.own 4 rfl | exact Kn.own 5 rfl | exact Kn.per ‹_›) rfl) (by kernel_rfl) (by kernel_rfl) (by kernel_rfl) (rem' := [3, 7, 11, 15, 19, 20, 21, 22, 23, 24, 25, 26, 27]) (by kernel_rfl) rfl ?_
    refine QS_v (i := 20) rfl (OpV.to (v' := .int .i64 (flagN l.re)) (v_move rfl) (by rw [hre]; rfl)) (by kernel_rfl) (by kernel_rfl) (by kernel_rfl) (rem' := [3, 7, 11, 15, 19, 21, 22, 23, 24, 25, 26, 27]) (by kernel_rfl) rfl ?_
    refine QS_v (i := 22) rfl (v_faddr Tryz.underlying64 rfl siz27 rfl) (by kernel_rfl) (by kernel_rfl) (by kernel_rfl) (rem' := [3, 7, 11, 15, 19, 21, 23, 24, 25, 26, 27]) (by kernel_rfl) rfl ?_
    refine QS_v (i := 23) rfl (v_faddr Tryz.underlying27 rfl siz23 rfl) (by kernel_rfl) (by kernel_rfl) (by kernel_rfl) (rem' := [3, 7, 11, 15, 19, 21, 24, 25, 26, 27]) (by kernel_rfl) rfl ?_
    refine QS_v (i := 24) rfl (v_loadn many23 rfl (Kn.per hb1) (show cut 6 32 l.cells = some (dcells l.pa) from rfl)) (by kernel_rfl) (by kernel_rfl) (by kernel_rfl) (rem' := [3, 7, 11, 15, 19, 21, 25, 26, 27]) (by kernel_rfl) rfl ?_
    refine QS_step (is := [3]) rfl (by kernel_rfl) ?_
    refine qall1 ?_
    refine qs_callq rfl rfl (number_fn _ _) rfl (rem' := [7, 11, 15, 19, 21, 25, 26, 27]) (by kernel_rfl) ?_
    refine QS_step (is := [7]) rfl (by kernel_rfl) ?_
    refine qall1 ?_
    refine qs_callq rfl rfl (number_fn _ _) rfl (rem' := [11, 15, 19, 21, 25, 26, 27]) (by kernel_rfl) ?_
    refine QS_step (is := [11]) rfl (by kernel_rfl) ?_
    refine qall1 ?_
    refine qs_callq rfl rfl (number_fn _ _) rfl (rem' := [15, 19, 21, 25, 26, 27]) (by kernel_rfl) ?_
    refine QS_step (is := [15]) rfl (by kernel_rfl) ?_
    refine qall1 ?_
    refine qs_callq rfl rfl (number_fn _ _) rfl (rem' := [19, 21, 25, 26, 27]) (by kernel_rfl) ?_
    refine QS_step (is := [19]) rfl (by kernel_rfl) ?_
    refine qall1 ?_
    refine qs_callq rfl rfl (number_fn _ _) rfl (rem' := [21, 25, 26, 27]) (by kernel_rfl) ?_
    refine QS_step (is := [21]) rfl (by kernel_rfl) ?_
    refine qall1 ?_
    refine qs_callq rfl rfl (number_fn _ _) rfl (rem' := [25, 26, 27]) (by kernel_rfl) ?_
    refine QS_step (is := [25]) rfl (by kernel_rfl) ?_
    refine qall1 ?_
    refine qs_callq rfl rfl (text_fn _ _) rfl (rem' := [26, 27]) (by kernel_rfl) ?_
    refine QS_step (is := [26]) rfl (by kernel_rfl) ?_
    refine qall1 ?_
    refine qs_new (g := fun b => .slice (some ⟨b, 0, none⟩) 7 7) rfl (o_buildSlice Tryz.underlying75 zer78 rfl siz78 rfl rfl rfl rfl) rfl (rem' := [27]) (by kernel_rfl) fun b33 => ?_
    refine QS_v (i := 27) rfl (v_assign rfl) (by kernel_rfl) (by kernel_rfl) (by kernel_rfl) (rem' := []) (by kernel_rfl) rfl ?_
    refine QS_nil ?_
    refine den_ret ?_
    exact ends1 Tryz.results43 rfl hl1 (List.Sublist.refl _) (OwnS.full (n := 7) (xs := l.rows.flatten) rfl (by decide))
  · skip
    refine den_skip ?_
    refine den_seq ?_
    -- region 4
    refine den_draw [] (by kernel_rfl) (by kernel_rfl) (NoP.fn) (rem := [0, 1, 2, 3, 4, 5, 6, 7, 8, 9, 10, 11, 12, 13, 14, 15, 16, 17, 18, 19, 20, 21, 22, 23, 24, 25, 26, 27]) (by kernel_rfl) ?_
    refine QS_v (i := 0) rfl (v_faddr Tryz.underlying64 rfl siz27 rfl) (by kernel_rfl) (by kernel_rfl) (by kernel_rfl) (rem' := [1, 2, 3, 4, 5, 6, 7, 8, 9, 10, 11, 12, 13, 14, 15, 16, 17, 18, 19, 20, 21, 22, 23, 24, 25, 26, 27]) (by kernel_rfl) rfl ?_
    refine QS_v (i := 1) rfl (v_faddr Tryz.underlying27 rfl siz3 rfl) (by kernel_rfl) (by kernel_rfl) (by kernel_rfl) (rem' := [2, 3, 4, 5, 6, 7, 8, 9, 10, 11, 12, 13, 14, 15, 16, 17, 18, 19, 20, 21, 22, 23, 24, 25, 26, 27]) (by kernel_rfl) rfl ?_
    refine QS_v (i := 2) rfl (v_load1 one3 rfl (by first | exact Kn.own 0 rfl | exact Kn.own 1 rfl | exact Kn.own 2 rfl | exact Kn.own 3 rfl | exact Kn.own 4 rfl | exact Kn.own 5 rfl | exact Kn.per ‹_›) rfl) (by kernel_rfl) (by kernel_rfl) (by kernel_rfl) (rem' := [3, 4, 5, 6, 7, 8, 9, 10, 11, 12, 13, 14, 15, 16, 17, 18, 19, 20, 21, 22, 23, 24, 25, 26, 27]) (by kernel_rfl) rfl ?_
    refine QS_v (i := 4) rfl (v_faddr Tryz.underlying64 rfl siz27 rfl) (by kernel_rfl) (by kernel_rfl) (by kernel_rfl) (rem' := [3, 5, 6, 7, 8, 9, 10, 11, 12, 13, 14, 15, 16, 17, 18, 19, 20, 21, 22, 23, 24, 25, 26, 27]) (by kernel_rfl) rfl ?_
    refine QS_v (i := 5) rfl (v_faddr Tryz.underlying27 rfl siz3 rfl) (by kernel_rfl) (by kernel_rfl) (by kernel_rfl) (rem' := [3, 6, 7, 8, 9, 10, 11, 12, 13, 14, 15, 16, 17, 18, 19, 20, 21, 22, 23, 24, 25, 26, 27]) (by kernel_rfl) rfl ?_
    refine QS_v (i := 6) rfl (v_load1 one3 rfl (by first | exact Kn.own 0 rfl | exact Kn.own 1 rfl | exact Kn.own 2 rfl | exact Kn.own 3 rfl | exact Kn.own 4 rfl | exact Kn.own 5 rfl | exact Kn.per ‹_›) rfl) (by kernel_rfl) (by kernel_rfl) (by kernel_rfl) (rem' := [3, 7, 8, 9, 10, 11, 12, 13, 14, 15, 16, 17, 18, 19, 20, 21, 22, 23, 24, 25, 26, 27]) (by kernel_rfl) rfl ?_
    refine QS_v (i := 8) rfl (v_faddr Tryz.underlying64 rfl siz27 rfl) (by kernel_rfl) (by kernel_rfl) (by kernel_rfl) (rem' := [3, 7, 9, 10, 11, 12, 13, 14, 15, 16, 17, 18, 19, 20, 21, 22, 23, 24, 25, 26, 27]) (by kernel_rfl) rfl ?_
    refine QS_v (i := 9) rfl (v_faddr Tryz.underlying27 rfl siz3 rfl) (by kernel_rfl) (by kernel_rfl) (by kernel_rfl) (rem' := [3, 7, 10, 11, 12, 13, 14, 15, 16, 17, 18, 19, 20, 21, 22, 23, 24, 25, 26, 27]) (by kernel_rfl) rfl ?_
    refine QS_v (i := 10) rfl (v_load1 one3 rfl (by first | exact Kn.own 0 rfl | exact Kn.own 1 rfl | exact Kn.own 2 rfl | exact Kn.own 3 rfl | exact Kn.own 4 rfl | exact Kn.own 5 rfl | exact Kn.per ‹_›) rfl) (by kernel_rfl) (by kernel_rfl) (by kernel_rfl) (rem' := [3, 7, 11, 12, 13, 14, 15, 16, 17, 18, 19, 20, 21, 22, 23, 24, 25, 26, 27]) (by kernel_rfl) rfl ?_
    refine QS_v (i := 12) rfl (v_faddr Tryz.underlying64 rfl siz27 rfl) (by kernel_rfl) (by kernel_rfl) (by kernel_rfl) (rem' := [3, 7, 11, 13, 14, 15, 16, 17, 18, 19, 20, 21, 22, 23, 24, 25, 26, 27]) (by kernel_rfl) rfl ?_
    refine QS_v (i := 13) rfl (v_faddr Tryz.underlying27 rfl siz3 rfl) (by kernel_rfl) (by kernel_rfl) (by kernel_rfl) (rem' := [3, 7, 11, 14, 15, 16, 17, 18, 19, 20, 21, 22, 23, 24, 25, 26, 27]) (by kernel_rfl) rfl ?_
    refine QS_v (i := 14) rfl (v_load1 one3 rfl (by first | exact Kn.own 0 rfl | exact Kn.own 1 rfl | exact Kn.own 2 rfl | exact Kn.own 3 rfl | exact Kn.own 4 rfl | exact Kn.own 5 rfl | exact Kn.per ‹_›) rfl) (by kernel_rfl) (by kernel_rfl) (by kernel_rfl) (rem' := [3, 7, 11, 15, 16, 17, 18, 19, 20, 21, 22, 23, 24, 25, 26, 27]) (by kernel_rfl) rfl ?_
    refine QS_v (i := 16) rfl (v_faddr Tryz.underlying64 rfl siz27 rfl) (by kernel_rfl) (by kernel_rfl) (by kernel_rfl) (rem' := [3, 7, 11, 15, 17, 18, 19, 20, 21, 22, 23, 24, 25, 26, 27]) (by kernel_rfl) rfl ?_
    refine QS_v (i := 17) rfl (v_faddr Tryz.underlying27 rfl siz3 rfl) (by kernel_rfl) (by kernel_rfl) (by kernel_rfl) (rem' := [3, 7, 11, 15, 18, 19, 20, 21, 22, 23, 24, 25, 26, 27]) (by kernel_rfl) rfl ?_
    refine QS_v (i := 18) rfl (v_load1 one3 rfl (by first | exact Kn.own 0 rfl | exact Kn.own 1 rfl | exact Kn.own 2 rfl | exact Kn.own 3 rfl | exact Kn.own 4 rfl | exact Kn.own 5 rfl | exact Kn.per ‹_›) rfl) (by kernel_rfl) (by kernel_rfl) (by kernel_rfl) (rem' := [3, 7, 11, 15, 19, 20, 21, 22, 23, 24, 25, 26, 27]) (by kernel_rfl) rfl ?_
    refine QS_v (i := 20) rfl (OpV.to (v' := .int .i64 (flagN l.re)) (v_move rfl) (by rw [hre]; rfl)) (by kernel_rfl) (by kernel_rfl) (by kernel_rfl) (rem' := [3, 7, 11, 15, 19, 21, 22, 23, 24, 25, 26, 27]) (by kernel_rfl) rfl ?_
    refine QS_v (i := 22) rfl (v_faddr Tryz.underlying64 rfl siz27 rfl) (by kernel_rfl) (by kernel_rfl) (by kernel_rfl) (rem' := [3, 7, 11, 15, 19, 21, 23, 24, 25, 26, 27]) (by kernel_rfl) rfl ?_
    refine QS_v (i := 23) rfl (v_faddr Tryz.underlying27 rfl siz23 rfl) (by kernel_rfl) (by kernel_rfl) (by kernel_rfl) (rem' := [3, 7, 11, 15, 19, 21, 24, 25, 26, 27]) (by kernel_rfl) rfl ?_
    refine QS_v (i := 24) rfl (v_loadn many23 rfl (Kn.per hb1) (show cut 6 32 l.cells = some (dcells l.pa) from rfl)) (by kernel_rfl) (by kernel_rfl) (by kernel_rfl) (rem' := [3, 7, 11, 15, 19, 21, 25, 26, 27]) (by kernel_rfl) rfl ?_
    refine QS_step (is := [3]) rfl (by kernel_rfl) ?_
    refine qall1 ?_
    refine qs_callq rfl rfl (number_fn _ _) rfl (rem' := [7, 11, 15, 19, 21, 25, 26, 27]) (by kernel_rfl) ?_
    refine QS_step (is := [7]) rfl (by kernel_rfl) ?_
    refine qall1 ?_
    refine qs_callq rfl rfl (number_fn _ _) rfl (rem' := [11, 15, 19, 21, 25, 26, 27]) (by kernel_rfl) ?_
    refine QS_step (is := [11]) rfl (by kernel_rfl) ?_
    refine qall1 ?_
    refine qs_callq rfl rfl (number_fn _ _) rfl (rem' := [15, 19, 21, 25, 26, 27]) (by kernel_rfl) ?_
    refine QS_step (is := [15]) rfl (by kernel_rfl) ?_
    refine qall1 ?_
    refine qs_callq rfl rfl (number_fn _ _) rfl (rem' := [19, 21, 25, 26, 27]) (by kernel_rfl) ?_
    refine QS_step (is := [19]) rfl (by kernel_rfl) ?_
    refine qall1 ?_
    refine qs_callq rfl rfl (number_fn _ _) rfl (rem' := [21, 25, 26, 27]) (by kernel_rfl) ?_
    refine QS_step (is := [21]) rfl (by kernel_rfl) ?_
    refine qall1 ?_
    refine qs_callq rfl rfl (number_fn _ _) rfl (rem' := [25, 26, 27]) (by kernel_rfl) ?_
    refine QS_step (is := [25]) rfl (by kernel_rfl) ?_
    refine qall1 ?_
    refine qs_callq rfl rfl (text_fn _ _) rfl (rem' := [26, 27]) (by kernel_rfl) ?_
    refine QS_step (is := [26]) rfl (by kernel_rfl) ?_
    refine qall1 ?_
    refine qs_new (g := fun b => .slice (some ⟨b, 0, none⟩) 7 7) rfl (o_buildSlice Tryz.underlying75 zer78 rfl siz78 rfl rfl rfl rfl) rfl (rem' := [27]) (by kernel_rfl) fun b33 => ?_
    refine QS_v (i := 27) rfl (v_assign rfl) (by kernel_rfl) (by kernel_rfl) (by kernel_rfl) (rem' := []) (by kernel_rfl) rfl ?_
    refine QS_nil ?_
    refine den_ret ?_
    exact ends1 Tryz.results43 rfl hl1 (List.Sublist.refl _) (OwnS.full (n := 7) (xs := l.rows.flatten) rfl (by decide))

theorem rflag_fn (b : Bool) (h : Heap) : Fn0 Tryz.prog 68 [.bool b] h (.int .i64 (flagN b)) := by
  refine Tr_of Tryz.func68 rfl rfl Tryz.ntmps68 rfl [(0, .bool b)] rfl ?_
  intro Lf
  refine den_seq ?_
  -- region 0
  refine den_region rfl ?_
  refine WL_v (v_assign rfl) rfl ?_
  refine WL_nil ?_
  refine den_seq ?_
  refine den_seq ?_
  -- region 1
  refine den_region rfl ?_
  refine WL_v (v_move rfl) rfl ?_
  refine WL_nil ?_
  first | refine den_ifd rfl (fun hb => ?_) (fun hb => ?_) | refine den_if rfl (fun hb => ?_) (fun hb => ?_)
  · skip
    refine den_seq ?_
    -- region 2
    refine den_region rfl ?_
    refine WL_v (v_assign rfl) rfl ?_
    refine WL_nil ?_
    refine den_ret ?_
    exact ends1 Tryz.results68 rfl (Heap.le.refl _) (by simp) ⟨by rw [hb]; rfl, rfl⟩
  · skip
    refine den_skip ?_
    refine den_seq ?_
    -- region 3
    refine den_region rfl ?_
    refine WL_v (v_assign rfl) rfl ?_
    refine WL_nil ?_
    refine den_ret ?_
    exact ends1 Tryz.results68 rfl (Heap.le.refl _) (by simp) ⟨by rw [hb]; rfl, rfl⟩

theorem rcontents_fn (l : Lk) (h : Heap) : Tr Tryz.prog 30 [.agg ⟨l.cells⟩] h [] (fun v _ L' => OwnS 78 4 v 7 l.rows.flatten L') := by
  refine Tr_of Tryz.func30 rfl rfl Tryz.ntmps30 rfl [(0, .agg ⟨l.cells⟩)] rfl ?_
  intro Lf
  refine den_seq ?_
  -- region 0
  refine den_region rfl ?_
  refine WL_box rfl rfl rfl fun b1 => ?_
  refine WL_v (v_assign rfl) rfl ?_
  refine WL_freeze fun h1 hl1 hb1 => ?_
  refine WL_nil ?_
  refine den_seq ?_
  -- region 1
  refine den_draw [] (by kernel_rfl) (by kernel_rfl) (NoP.fn) (rem := [0, 1, 2, 3, 4, 5, 6, 7, 8, 9, 10, 11, 12, 13, 14, 15, 16, 17, 18, 19, 20, 21, 22, 23, 24]) (by kernel_rfl) ?_
  refine QS_v (i := 0) rfl (v_faddr Tryz.underlying27 rfl siz3 rfl) (by kernel_rfl) (by kernel_rfl) (by kernel_rfl) (rem' := [1, 2, 3, 4, 5, 6, 7, 8, 9, 10, 11, 12, 13, 14, 15, 16, 17, 18, 19, 20, 21, 22, 23, 24]) (by kernel_rfl) rfl ?_
  refine QS_v (i := 1) rfl (v_load1 one3 rfl (by first | exact Kn.own 0 rfl | exact Kn.own 1 rfl | exact Kn.own 2 rfl | exact Kn.own 3 rfl | exact Kn.own 4 rfl | exact Kn.own 5 rfl | exact Kn.per ‹_›) rfl) (by kernel_rfl) (by kernel_rfl) (by kernel_rfl) (rem' := [2, 3, 4, 5, 6, 7, 8, 9, 10, 11, 12, 13, 14, 15, 16, 17, 18, 19, 20, 21, 22, 23, 24]) (by kernel_rfl) rfl ?_
  refine QS_v (i := 3) rfl (v_faddr Tryz.underlying27 rfl siz3 rfl) (by kernel_rfl) (by kernel_rfl) (by kernel_rfl) (rem' := [2, 4, 5, 6, 7, 8, 9, 10, 11, 12, 13, 14, 15, 16, 17, 18, 19, 20, 21, 22, 23, 24]) (by kernel_rfl) rfl ?_
  refine QS_v (i := 4) rfl (v_load1 one3 rfl (by first | exact Kn.own 0 rfl | exact Kn.own 1 rfl | exact Kn.own 2 rfl | exact Kn.own 3 rfl | exact Kn.own 4 rfl | exact Kn.own 5 rfl | exact Kn.per ‹_›) rfl) (by kernel_rfl) (by kernel_rfl) (by kernel_rfl) (rem' := [2, 5, 6, 7, 8, 9, 10, 11, 12, 13, 14, 15, 16, 17, 18, 19, 20, 21, 22, 23, 24]) (by kernel_rfl) rfl ?_
  refine QS_v (i := 6) rfl (v_faddr Tryz.underlying27 rfl siz3 rfl) (by kernel_rfl) (by kernel_rfl) (by kernel_rfl) (rem' := [2, 5, 7, 8, 9, 10, 11, 12, 13, 14, 15, 16, 17, 18, 19, 20, 21, 22, 23, 24]) (by kernel_rfl) rfl ?_
  refine QS_v (i := 7) rfl (v_load1 one3 rfl (by first | exact Kn.own 0 rfl | exact Kn.own 1 rfl | exact Kn.own 2 rfl | exact Kn.own 3 rfl | exact Kn.own 4 rfl | exact Kn.own 5 rfl | exact Kn.per ‹_›) rfl) (by kernel_rfl) (by kernel_rfl) (by kernel_rfl) (rem' := [2, 5, 8, 9, 10, 11, 12, 13, 14, 15, 16, 17, 18, 19, 20, 21, 22, 23, 24]) (by kernel_rfl) rfl ?_
  refine QS_v (i := 9) rfl (v_faddr Tryz.underlying27 rfl siz3 rfl) (by kernel_rfl) (by kernel_rfl) (by kernel_rfl) (rem' := [2, 5, 8, 10, 11, 12, 13, 14, 15, 16, 17, 18, 19, 20, 21, 22, 23, 24]) (by kernel_rfl) rfl ?_
  refine QS_v (i := 10) rfl (v_load1 one3 rfl (by first | exact Kn.own 0 rfl | exact Kn.own 1 rfl | exact Kn.own 2 rfl | exact Kn.own 3 rfl | exact Kn.own 4 rfl | exact Kn.own 5 rfl | exact Kn.per ‹_›) rfl) (by kernel_rfl) (by kernel_rfl) (by kernel_rfl) (rem' := [2, 5, 8, 11, 12, 13, 14, 15, 16, 17, 18, 19, 20, 21, 22, 23, 24]) (by kernel_rfl) rfl ?_
  refine QS_v (i := 12) rfl (v_faddr Tryz.underlying27 rfl siz3 rfl) (by kernel_rfl) (by kernel_rfl) (by kernel_rfl) (rem' := [2, 5, 8, 11, 13, 14, 15, 16, 17, 18, 19, 20, 21, 22, 23, 24]) (by kernel_rfl) rfl ?_
  refine QS_v (i := 13) rfl (v_load1 one3 rfl (by first | exact Kn.own 0 rfl | exact Kn.own 1 rfl | exact Kn.own 2 rfl | exact Kn.own 3 rfl | exact Kn.own 4 rfl | exact Kn.own 5 rfl | exact Kn.per ‹_›) rfl) (by kernel_rfl) (by kernel_rfl) (by kernel_rfl) (rem' := [2, 5, 8, 11, 14, 15, 16, 17, 18, 19, 20, 21, 22, 23, 24]) (by kernel_rfl) rfl ?_
  refine QS_v (i := 15) rfl (v_faddr Tryz.underlying27 rfl siz4 rfl) (by kernel_rfl) (by kernel_rfl) (by kernel_rfl) (rem' := [2, 5, 8, 11, 14, 16, 17, 18, 19, 20, 21, 22, 23, 24]) (by kernel_rfl) rfl ?_
  refine QS_v (i := 16) rfl (v_load1 one4 rfl (by first | exact Kn.own 0 rfl | exact Kn.own 1 rfl | exact Kn.own 2 rfl | exact Kn.own 3 rfl | exact Kn.own 4 rfl | exact Kn.own 5 rfl | exact Kn.per ‹_›) rfl) (by kernel_rfl) (by kernel_rfl) (by kernel_rfl) (rem' := [2, 5, 8, 11, 14, 17, 18, 19, 20, 21, 22, 23, 24]) (by kernel_rfl) rfl ?_
  refine QS_v (i := 19) rfl (v_faddr Tryz.underlying27 rfl siz23 rfl) (by kernel_rfl) (by kernel_rfl) (by kernel_rfl) (rem' := [2, 5, 8, 11, 14, 17, 18, 20, 21, 22, 23, 24]) (by kernel_rfl) rfl ?_
  refine QS_v (i := 20) rfl (v_slicea0 Tryz.underlying23 siz5 rfl) (by kernel_rfl) (by kernel_rfl) (by kernel_rfl) (rem' := [2, 5, 8, 11, 14, 17, 18, 21, 22, 23, 24]) (by kernel_rfl) rfl ?_
  refine QS_v (i := 21) rfl (OpV.to (v' := .string (dstr (l.pa))) (v_tostr (bs := (l.pa).toList) Tryz.underlying55 Tryz.underlying9 Tryz.underlying5 rfl (Kn.per hb1) (by rw [← dcells_eq (l.pa)]; exact (show cut 6 32 l.cells = some (dcells l.pa) from rfl))) rfl) (by kernel_rfl) (by kernel_rfl) (by kernel_rfl) (rem' := [2, 5, 8, 11, 14, 17, 18, 22, 23, 24]) (by kernel_rfl) rfl ?_
  refine QS_step (is := [2]) rfl (by kernel_rfl) ?_
  refine qall1 ?_
  refine qs_callq rfl rfl (rint_fn _ _) rfl (rem' := [5, 8, 11, 14, 17, 18, 22, 23, 24]) (by kernel_rfl) ?_
  refine QS_step (is := [5]) rfl (by kernel_rfl) ?_
  refine qall1 ?_
  refine qs_callq rfl rfl (rint_fn _ _) rfl (rem' := [8, 11, 14, 17, 18, 22, 23, 24]) (by kernel_rfl) ?_
  refine QS_step (is := [8]) rfl (by kernel_rfl) ?_
  refine qall1 ?_
  refine qs_callq rfl rfl (rint_fn _ _) rfl (rem' := [11, 14, 17, 18, 22, 23, 24]) (by kernel_rfl) ?_
  refine QS_step (is := [11]) rfl (by kernel_rfl) ?_
  refine qall1 ?_
  refine qs_callq rfl rfl (rint_fn _ _) rfl (rem' := [14, 17, 18, 22, 23, 24]) (by kernel_rfl) ?_
  refine QS_step (is := [14]) rfl (by kernel_rfl) ?_
  refine qall1 ?_
  refine qs_callq rfl rfl (rint_fn _ _) rfl (rem' := [17, 18, 22, 23, 24]) (by kernel_rfl) ?_
  refine QS_step (is := [17]) rfl (by kernel_rfl) ?_
  refine qall1 ?_
  refine qs_callq rfl rfl (rflag_fn _ _) rfl (rem' := [18, 22, 23, 24]) (by kernel_rfl) ?_
  refine QS_step (is := [18]) rfl (by kernel_rfl) ?_
  refine qall1 ?_
  refine qs_callq rfl rfl (rint_fn _ _) rfl (rem' := [22, 23, 24]) (by kernel_rfl) ?_
  refine QS_step (is := [22]) rfl (by kernel_rfl) ?_
  refine qall1 ?_
  refine qs_callq rfl rfl (rtext_fn _ _) rfl (rem' := [23, 24]) (by kernel_rfl) ?_
  refine QS_step (is := [23]) rfl (by kernel_rfl) ?_
  refine qall1 ?_
  refine qs_new (g := fun b => .slice (some ⟨b, 0, none⟩) 7 7) rfl (o_buildSlice Tryz.underlying75 zer78 rfl siz78 rfl rfl rfl rfl) rfl (rem' := [24]) (by kernel_rfl) fun b26 => ?_
  refine QS_v (i := 24) rfl (v_assign rfl) (by kernel_rfl) (by kernel_rfl) (by kernel_rfl) (rem' := []) (by kernel_rfl) rfl ?_
  refine QS_nil ?_
  refine den_ret ?_
  exact ends1 Tryz.results30 rfl hl1 (List.Sublist.refl _) (OwnS.full (n := 7) (xs := l.rows.flatten) rfl (by decide))

theorem lhash_fn (tag : ByteArray) (a : Option Addr) (n cap : Nat) (ms : List V) (h : Heap) (ht : tag.size ≤ 1048576) (hv : VR h [.int .i64 3, .int .i64 0, noStr, .slice a n cap] (.list ms)) (hd : (V.list ms).depth ≤ 16) (hk : (V.enc (.list ms)).length ≤ 100000) (hG : Gl h) : Fn0 Tryz.prog 42 [.string tag, .slice a n cap] h (.agg ⟨dcells (tagged tag.data.toList (V.enc (.list ms)))⟩) := by
  refine Tr_of Tryz.func42 rfl rfl Tryz.ntmps42 rfl [(0, .string tag), (1, .slice a n cap)] rfl ?_
  intro Lf
  refine den_seq ?_
  -- region 0
  refine den_region rfl ?_
  refine WL_alloc zer23 rfl rfl fun b4 => ?_
  refine WL_nil ?_
  refine den_seq ?_
  -- region 1
  refine den_region rfl ?_
  refine WL_v (v_move rfl) rfl ?_
  refine WL_v (v_builds Tryz.underlying78 zer78 plc78 rfl rfl rfl) rfl ?_
  refine WL_callf (L1 := []) rfl (encode_fn _ (.list ms) _ hv hd (by omega)) rfl ?_
  rintro _ h10 L10 hl10 ⟨v10, rfl, ho10⟩
  refine WL_freezeS ho10 fun h11 hl11 hbs => ?_
  refine WL_v (v_move rfl) rfl ?_
  refine WL_v (v_extract rfl rfl) rfl ?_
  refine WL_v (v_extract rfl rfl) rfl ?_
  refine WL_v (v_assign rfl) rfl ?_
  refine WL_v (v_assign rfl) rfl ?_
  refine WL_nil ?_
  refine den_seq ?_
  -- region 2
  refine den_region rfl ?_
  refine WL_v (v_move rfl) rfl ?_
  refine WL_v (v_move rfl) rfl ?_
  refine WL_callq rfl (tagged_fn _ _ _ _ ht hbs (by omega) (hG.le (hl10.trans hl11))) rfl ?_
  refine WL_store0 rfl rfl rfl siz23 (spl_all rfl) rfl rfl ?_
  refine WL_nil ?_
  refine den_ret ?_
  exact endsr1 Tryz.results42 (rv_n many23 rfl (Kn.own 0 rfl) (show cut 0 32 (dcells _) = some (dcells _) from rfl)) (hl10.trans hl11) (.cons _ (List.Sublist.refl _)) ⟨rfl, rfl⟩

theorem rlhash_fn (tag : ByteArray) (a : Option Addr) (n cap : Nat) (ms : List V) (h : Heap) (ht : tag.size ≤ 1048576) (hv : VR h [.int .i64 3, .int .i64 0, noStr, .slice a n cap] (.list ms)) (hd : (V.list ms).depth ≤ 16) (hk : (V.enc (.list ms)).length ≤ 100000) : Fn0 Tryz.prog 29 [.string tag, .slice a n cap] h (.agg ⟨dcells (tagged tag.data.toList (V.enc (.list ms)))⟩) := by
  refine Tr_of Tryz.func29 rfl rfl Tryz.ntmps29 rfl [(0, .string tag), (1, .slice a n cap)] rfl ?_
  intro Lf
  refine den_seq ?_
  -- region 0
  refine den_region rfl ?_
  refine WL_alloc zer23 rfl rfl fun b4 => ?_
  refine WL_nil ?_
  refine den_seq ?_
  -- region 1
  refine den_region rfl ?_
  refine WL_v (v_move rfl) rfl ?_
  refine WL_callq rfl (rlist_fn _ _ _ _) rfl ?_
  refine WL_callf (L1 := []) rfl (rEncode_fn _ (.list ms) _ hv hd (by omega)) rfl ?_
  rintro _ h10 L10 hl10 ⟨v10, rfl, ho10⟩
  refine WL_freezeS ho10 fun h11 hl11 hbs => ?_
  refine WL_v (v_move rfl) rfl ?_
  refine WL_v (v_extract rfl rfl) rfl ?_
  refine WL_v (v_extract rfl rfl) rfl ?_
  refine WL_v (v_assign rfl) rfl ?_
  refine WL_v (v_assign rfl) rfl ?_
  refine WL_nil ?_
  refine den_seq ?_
  -- region 2
  refine den_region rfl ?_
  refine WL_v (v_move rfl) rfl ?_
  refine WL_v (v_move rfl) rfl ?_
  refine WL_callq rfl (rtagged_fn _ _ _ _ ht hbs (by omega)) rfl ?_
  refine WL_store0 rfl rfl rfl siz23 (spl_all rfl) rfl rfl ?_
  refine WL_nil ?_
  refine den_ret ?_
  exact endsr1 Tryz.results29 (rv_n many23 rfl (Kn.own 0 rfl) (show cut 0 32 (dcells _) = some (dcells _) from rfl)) (hl10.trans hl11) (.cons _ (List.Sublist.refl _)) ⟨rfl, rfl⟩

theorem lmessage_fn (l : Lk) (h : Heap) (hok : l.ok) (hG : Gl h) : Fnp Tryz.prog 17 [.agg ⟨l.cells⟩] h (fun v h' => Bs h' v (lmsg l).toList) := by
  refine Tr_of Tryz.func17 rfl rfl Tryz.ntmps17 rfl [(0, .agg ⟨l.cells⟩)] rfl ?_
  intro Lf
  refine den_seq ?_
  -- region 0
  refine den_region rfl ?_
  refine WL_box rfl rfl rfl fun b1 => ?_
  refine WL_v (v_assign rfl) rfl ?_
  refine WL_nil ?_
  refine den_seq ?_
  -- region 1
  refine den_region rfl ?_
  refine WL_v (v_loadn many64 rfl (Kn.own 0 rfl) (show cut 0 40 l.cells = some l.cells from cut_self rfl)) rfl ?_
  refine WL_callf (L1 := []) rfl (contents_fn l _) rfl ?_
  rintro v5 h5 L5 hl5 ho5
  refine WL_freezeF ho5 fun h6 hl6 hfr => ?_
  obtain ⟨a, cap, rfl, hvr⟩ := hfr.vr (l.vrs hok _) rfl (by decide)
  refine WL_callq rfl (lhash_fn ⟨⟨[108, 105, 110, 107, 32, 115, 105, 103, 110]⟩⟩ _ _ _ l.vs _ (by decide) hvr l.dep (by have := Lk.len hok; have := enc_list (l := l.vs) (show 7 < _ by decide); omega) (hG.le (hl5.trans hl6))) rfl ?_
  refine WL_alloc zer23 rfl rfl fun b3 => ?_
  refine WL_store0 rfl rfl rfl siz23 (spl_all rfl) rfl rfl ?_
  refine WL_freeze fun h7 hl7 hb7 => ?_
  refine WL_nil ?_
  refine den_seq ?_
  -- region 2
  refine den_region rfl ?_
  refine WL_v (v_slicea0 Tryz.underlying23 siz5 rfl) rfl ?_
  refine WL_v (v_assign rfl) rfl ?_
  refine WL_nil ?_
  refine den_ret ?_
  exact ends1 Tryz.results17 rfl (hl5.trans (hl6.trans hl7)) (.cons _ (List.Sublist.refl _)) ⟨Bs.dig hb7 (by decide), rfl⟩

theorem rlmessage_fn (l : Lk) (h : Heap) (hok : l.ok) : Fnp Tryz.prog 21 [.agg ⟨l.cells⟩] h (fun v h' => Bs h' v (lmsg l).toList) := by
  refine Tr_of Tryz.func21 rfl rfl Tryz.ntmps21 rfl [(0, .agg ⟨l.cells⟩)] rfl ?_
  intro Lf
  refine den_seq ?_
  -- region 0
  refine den_region rfl ?_
  refine WL_box rfl rfl rfl fun b1 => ?_
  refine WL_v (v_assign rfl) rfl ?_
  refine WL_nil ?_
  refine den_seq ?_
  -- region 1
  refine den_region rfl ?_
  refine WL_v (v_loadn many27 rfl (Kn.own 0 rfl) (show cut 0 40 l.cells = some l.cells from cut_self rfl)) rfl ?_
  refine WL_callf (L1 := []) rfl (rcontents_fn l _) rfl ?_
  rintro v5 h5 L5 hl5 ho5
  refine WL_freezeF ho5 fun h6 hl6 hfr => ?_
  obtain ⟨a, cap, rfl, hvr⟩ := hfr.vr (l.vrs hok _) rfl (by decide)
  refine WL_callq rfl (rlhash_fn ⟨⟨[108, 105, 110, 107, 32, 115, 105, 103, 110]⟩⟩ _ _ _ l.vs _ (by decide) hvr l.dep (by have := Lk.len hok; have := enc_list (l := l.vs) (show 7 < _ by decide); omega)) rfl ?_
  refine WL_alloc zer23 rfl rfl fun b3 => ?_
  refine WL_store0 rfl rfl rfl siz23 (spl_all rfl) rfl rfl ?_
  refine WL_freeze fun h7 hl7 hb7 => ?_
  refine WL_nil ?_
  refine den_seq ?_
  -- region 2
  refine den_region rfl ?_
  refine WL_v (v_slicea0 Tryz.underlying23 siz5 rfl) rfl ?_
  refine WL_v (v_assign rfl) rfl ?_
  refine WL_nil ?_
  refine den_ret ?_
  exact ends1 Tryz.results21 rfl (hl5.trans (hl6.trans hl7)) (.cons _ (List.Sublist.refl _)) ⟨Bs.dig hb7 (by decide), rfl⟩

theorem lid_fn (l : Lk) (h : Heap) (hok : l.ok) (hG : Gl h) : Fn0 Tryz.prog 28 [.agg ⟨l.cells⟩] h (.agg ⟨dcells (lid l)⟩) := by
  refine Tr_of Tryz.func28 rfl rfl Tryz.ntmps28 rfl [(0, .agg ⟨l.cells⟩)] rfl ?_
  intro Lf
  refine den_seq ?_
  -- region 0
  refine den_region rfl ?_
  refine WL_box rfl rfl rfl fun b1 => ?_
  refine WL_alloc zer23 rfl rfl fun b2 => ?_
  refine WL_freeze1 fun h1 hl1 hb1 => ?_
  refine WL_nil ?_
  refine den_seq ?_
  -- region 1
  refine den_draw0 [] (by kernel_rfl) (by kernel_rfl) (NoP.fn) (rem := [0, 1, 2, 3, 4, 5, 6, 7, 8, 9, 10, 11, 12, 13, 14, 15]) (by kernel_rfl) ?_
  refine QB_v (i := 0) rfl (v_loadn many64 rfl (Kn.per (by assumption)) (show cut 0 40 l.cells = some l.cells from cut_self rfl)) (by kernel_rfl) (by kernel_rfl) (by kernel_rfl) (rem' := [1, 2, 3, 4, 5, 6, 7, 8, 9, 10, 11, 12, 13, 14, 15]) (by kernel_rfl) rfl ?_
  refine QB_v (i := 2) rfl (v_faddr Tryz.underlying64 rfl siz27 rfl) (by kernel_rfl) (by kernel_rfl) (by kernel_rfl) (rem' := [1, 3, 4, 5, 6, 7, 8, 9, 10, 11, 12, 13, 14, 15]) (by kernel_rfl) rfl ?_
  refine QB_v (i := 3) rfl (v_faddr Tryz.underlying27 rfl siz25 rfl) (by kernel_rfl) (by kernel_rfl) (by kernel_rfl) (rem' := [1, 4, 5, 6, 7, 8, 9, 10, 11, 12, 13, 14, 15]) (by kernel_rfl) rfl ?_
  refine QB_v (i := 4) rfl (v_faddr Tryz.underlying25 rfl siz3 rfl) (by kernel_rfl) (by kernel_rfl) (by kernel_rfl) (rem' := [1, 5, 6, 7, 8, 9, 10, 11, 12, 13, 14, 15]) (by kernel_rfl) rfl ?_
  refine QB_v (i := 5) rfl (v_load1 one3 rfl (by first | exact Kn.own 0 rfl | exact Kn.own 1 rfl | exact Kn.own 2 rfl | exact Kn.own 3 rfl | exact Kn.own 4 rfl | exact Kn.own 5 rfl | exact Kn.per ‹_›) rfl) (by kernel_rfl) (by kernel_rfl) (by kernel_rfl) (rem' := [1, 6, 7, 8, 9, 10, 11, 12, 13, 14, 15]) (by kernel_rfl) rfl ?_
  refine QB_v (i := 7) rfl (v_faddr Tryz.underlying64 rfl siz27 rfl) (by kernel_rfl) (by kernel_rfl) (by kernel_rfl) (rem' := [1, 6, 8, 9, 10, 11, 12, 13, 14, 15]) (by kernel_rfl) rfl ?_
  refine QB_v (i := 8) rfl (v_faddr Tryz.underlying27 rfl siz25 rfl) (by kernel_rfl) (by kernel_rfl) (by kernel_rfl) (rem' := [1, 6, 9, 10, 11, 12, 13, 14, 15]) (by kernel_rfl) rfl ?_
  refine QB_v (i := 9) rfl (v_faddr Tryz.underlying25 rfl siz3 rfl) (by kernel_rfl) (by kernel_rfl) (by kernel_rfl) (rem' := [1, 6, 10, 11, 12, 13, 14, 15]) (by kernel_rfl) rfl ?_
  refine QB_v (i := 10) rfl (v_load1 one3 rfl (by first | exact Kn.own 0 rfl | exact Kn.own 1 rfl | exact Kn.own 2 rfl | exact Kn.own 3 rfl | exact Kn.own 4 rfl | exact Kn.own 5 rfl | exact Kn.per ‹_›) rfl) (by kernel_rfl) (by kernel_rfl) (by kernel_rfl) (rem' := [1, 6, 11, 12, 13, 14, 15]) (by kernel_rfl) rfl ?_
  refine QB_step (is := [1]) rfl (by kernel_rfl) ?_
  refine qall1 ?_
  refine qb_e rfl rfl (op1_call (L1 := []) rfl rfl (TrV.of0 (contents_fn l _))) rfl (rem' := [6, 11, 12, 13, 14, 15]) (by kernel_rfl) ?_
  rintro v4 h4 _ ⟨L4, rfl, hl4, ho4⟩
  refine ⟨hl4, ?_⟩
  refine QB_step (is := [6]) rfl (by kernel_rfl) ?_
  refine qall1 ?_
  refine qb_e rfl rfl (op1_call (L1 := []) rfl rfl (TrV.of0 (number_fn _ _))) rfl (rem' := [11, 12, 13, 14, 15]) (by kernel_rfl) ?_
  rintro _ h9 _ ⟨_, rfl, hl9, rfl, rfl⟩
  refine ⟨hl9, ?_⟩
  refine QB_step (is := [11]) rfl (by kernel_rfl) ?_
  refine qall1 ?_
  refine qb_e rfl rfl (op1_call (L1 := []) rfl rfl (TrV.of0 (number_fn _ _))) rfl (rem' := [12, 13, 14, 15]) (by kernel_rfl) ?_
  rintro _ h14 _ ⟨_, rfl, hl14, rfl, rfl⟩
  refine ⟨hl14, ?_⟩
  refine QB_step (is := [12]) rfl (by kernel_rfl) ?_
  refine qall1 ?_
  refine qb_newp (g := fun b => .slice (some ⟨b, 0, none⟩) 2 2) rfl (o_buildSlice Tryz.underlying75 zer78 rfl siz78 rfl rfl rfl rfl) rfl (rem' := [13, 14, 15]) (by kernel_rfl) fun b15 h15 hl15 hb15 => ?_
  refine QB_step (is := [13]) rfl (by kernel_rfl) ?_
  refine qall1 ?_
  refine qb_e rfl rfl (op1_appendF (n := 7) (m := 2) (L1 := L4) Tryz.underlying75 Tryz.underlying75 (.inr ⟨_, rfl⟩) siz78 byt78 (by decide) zer78 rfl rfl rfl rfl ho4 (Src.per (n := 2) (us := iC l.r ++ iC l.s) hb15 rfl) rfl (by decide)) rfl (rem' := [14, 15]) (by kernel_rfl) ?_
  rintro v16 h16 _ ⟨hl16, rfl, hfr⟩
  refine ⟨hl16, ?_⟩
  have hfr2 : FrS 78 4 v16 9 l.rows2.flatten h16 := hfr
  obtain ⟨a, cap, rfl, hvr⟩ := hfr2.vr (l.vrs2 hok _) rfl (by decide)
  refine QB_step (is := [14]) rfl (by kernel_rfl) ?_
  refine qall1 ?_
  refine qb_e rfl rfl (op1_call (L1 := []) rfl rfl (TrV.of0 (lhash_fn ⟨⟨[108, 105, 110, 107]⟩⟩ _ _ _ l.vs2 _ (by decide) hvr l.dep2 (by have := Lk.len2 hok; have := enc_list (l := l.vs2) (show 9 < _ by decide); omega) (hG.le (hl1.trans (hl4.trans (hl9.trans (hl14.trans (hl15.trans hl16))))))))) rfl (rem' := [15]) (by kernel_rfl) ?_
  rintro _ h17 _ ⟨_, rfl, hl17, rfl, rfl⟩
  refine ⟨hl17, ?_⟩
  refine QB_step (is := [15]) rfl (by kernel_rfl) ?_
  refine qall1 ?_
  refine qb_e rfl rfl (op1_store (A := []) (v := .agg ⟨dcells (lid l)⟩) (vs := dcells (lid l)) rfl siz23 rfl rfl (by exact spl_all rfl) rfl) rfl (rem' := []) (by kernel_rfl) ?_
  rintro _ _ _ ⟨rfl, rfl, rfl⟩
  refine ⟨Heap.le.refl _, ?_⟩
  refine QB_nil ?_
  refine den_ret ?_
  exact endsr1 Tryz.results28 (rv_n many23 rfl (Kn.own 0 rfl) (show cut 0 32 (dcells _) = some (dcells _) from rfl)) (hl1.trans (hl4.trans (hl9.trans (hl14.trans (hl15.trans (hl16.trans hl17)))))) (.cons _ (List.Sublist.refl _)) ⟨rfl, rfl⟩

theorem rlid_fn (l : Lk) (h : Heap) (hok : l.ok) : Fn0 Tryz.prog 10 [.agg ⟨l.cells⟩] h (.agg ⟨dcells (lid l)⟩) := by
  refine Tr_of Tryz.func10 rfl rfl Tryz.ntmps10 rfl [(0, .agg ⟨l.cells⟩)] rfl ?_
  intro Lf
  refine den_seq ?_
  -- region 0
  refine den_region rfl ?_
  refine WL_box rfl rfl rfl fun b1 => ?_
  refine WL_alloc zer23 rfl rfl fun b2 => ?_
  refine WL_freeze1 fun h1 hl1 hb1 => ?_
  refine WL_nil ?_
  refine den_seq ?_
  -- region 1
  refine den_draw0 [] (by kernel_rfl) (by kernel_rfl) (NoP.fn) (rem := [0, 1, 2, 3, 4, 5, 6, 7, 8, 9, 10, 11, 12, 13]) (by kernel_rfl) ?_
  refine QB_v (i := 0) rfl (v_loadn many27 rfl (Kn.per (by assumption)) (show cut 0 40 l.cells = some l.cells from cut_self rfl)) (by kernel_rfl) (by kernel_rfl) (by kernel_rfl) (rem' := [1, 2, 3, 4, 5, 6, 7, 8, 9, 10, 11, 12, 13]) (by kernel_rfl) rfl ?_
  refine QB_v (i := 2) rfl (v_faddr Tryz.underlying27 rfl siz25 rfl) (by kernel_rfl) (by kernel_rfl) (by kernel_rfl) (rem' := [1, 3, 4, 5, 6, 7, 8, 9, 10, 11, 12, 13]) (by kernel_rfl) rfl ?_
  refine QB_v (i := 3) rfl (v_faddr Tryz.underlying25 rfl siz3 rfl) (by kernel_rfl) (by kernel_rfl) (by kernel_rfl) (rem' := [1, 4, 5, 6, 7, 8, 9, 10, 11, 12, 13]) (by kernel_rfl) rfl ?_
  refine QB_v (i := 4) rfl (v_load1 one3 rfl (by first | exact Kn.own 0 rfl | exact Kn.own 1 rfl | exact Kn.own 2 rfl | exact Kn.own 3 rfl | exact Kn.own 4 rfl | exact Kn.own 5 rfl | exact Kn.per ‹_›) rfl) (by kernel_rfl) (by kernel_rfl) (by kernel_rfl) (rem' := [1, 5, 6, 7, 8, 9, 10, 11, 12, 13]) (by kernel_rfl) rfl ?_
  refine QB_v (i := 6) rfl (v_faddr Tryz.underlying27 rfl siz25 rfl) (by kernel_rfl) (by kernel_rfl) (by kernel_rfl) (rem' := [1, 5, 7, 8, 9, 10, 11, 12, 13]) (by kernel_rfl) rfl ?_
  refine QB_v (i := 7) rfl (v_faddr Tryz.underlying25 rfl siz3 rfl) (by kernel_rfl) (by kernel_rfl) (by kernel_rfl) (rem' := [1, 5, 8, 9, 10, 11, 12, 13]) (by kernel_rfl) rfl ?_
  refine QB_v (i := 8) rfl (v_load1 one3 rfl (by first | exact Kn.own 0 rfl | exact Kn.own 1 rfl | exact Kn.own 2 rfl | exact Kn.own 3 rfl | exact Kn.own 4 rfl | exact Kn.own 5 rfl | exact Kn.per ‹_›) rfl) (by kernel_rfl) (by kernel_rfl) (by kernel_rfl) (rem' := [1, 5, 9, 10, 11, 12, 13]) (by kernel_rfl) rfl ?_
  refine QB_step (is := [1]) rfl (by kernel_rfl) ?_
  refine qall1 ?_
  refine qb_e rfl rfl (op1_call (L1 := []) rfl rfl (TrV.of0 (rcontents_fn l _))) rfl (rem' := [5, 9, 10, 11, 12, 13]) (by kernel_rfl) ?_
  rintro v4 h4 _ ⟨L4, rfl, hl4, ho4⟩
  refine ⟨hl4, ?_⟩
  refine QB_step (is := [5]) rfl (by kernel_rfl) ?_
  refine qall1 ?_
  refine qb_e rfl rfl (op1_call (L1 := []) rfl rfl (TrV.of0 (rint_fn _ _))) rfl (rem' := [9, 10, 11, 12, 13]) (by kernel_rfl) ?_
  rintro _ h8 _ ⟨_, rfl, hl8, rfl, rfl⟩
  refine ⟨hl8, ?_⟩
  refine QB_step (is := [9]) rfl (by kernel_rfl) ?_
  refine qall1 ?_
  refine qb_e rfl rfl (op1_call (L1 := []) rfl rfl (TrV.of0 (rint_fn _ _))) rfl (rem' := [10, 11, 12, 13]) (by kernel_rfl) ?_
  rintro _ h12 _ ⟨_, rfl, hl12, rfl, rfl⟩
  refine ⟨hl12, ?_⟩
  refine QB_step (is := [10]) rfl (by kernel_rfl) ?_
  refine qall1 ?_
  refine qb_newp (g := fun b => .slice (some ⟨b, 0, none⟩) 2 2) rfl (o_buildSlice Tryz.underlying75 zer78 rfl siz78 rfl rfl rfl rfl) rfl (rem' := [11, 12, 13]) (by kernel_rfl) fun b13 h13 hl13 hb13 => ?_
  refine QB_step (is := [11]) rfl (by kernel_rfl) ?_
  refine qall1 ?_
  refine qb_e rfl rfl (op1_appendF (n := 7) (m := 2) (L1 := L4) Tryz.underlying75 Tryz.underlying75 (.inr ⟨_, rfl⟩) siz78 byt78 (by decide) zer78 rfl rfl rfl rfl ho4 (Src.per (n := 2) (us := iC l.r ++ iC l.s) hb13 rfl) rfl (by decide)) rfl (rem' := [12, 13]) (by kernel_rfl) ?_
  rintro v14 h14 _ ⟨hl14, rfl, hfr⟩
  refine ⟨hl14, ?_⟩
  have hfr2 : FrS 78 4 v14 9 l.rows2.flatten h14 := hfr
  obtain ⟨a, cap, rfl, hvr⟩ := hfr2.vr (l.vrs2 hok _) rfl (by decide)
  refine QB_step (is := [12]) rfl (by kernel_rfl) ?_
  refine qall1 ?_
  refine qb_e rfl rfl (op1_call (L1 := []) rfl rfl (TrV.of0 (rlhash_fn ⟨⟨[108, 105, 110, 107]⟩⟩ _ _ _ l.vs2 _ (by decide) hvr l.dep2 (by have := Lk.len2 hok; have := enc_list (l := l.vs2) (show 9 < _ by decide); omega)))) rfl (rem' := [13]) (by kernel_rfl) ?_
  rintro _ h15 _ ⟨_, rfl, hl15, rfl, rfl⟩
  refine ⟨hl15, ?_⟩
  refine QB_step (is := [13]) rfl (by kernel_rfl) ?_
  refine qall1 ?_
  refine qb_e rfl rfl (op1_store (A := []) (v := .agg ⟨dcells (lid l)⟩) (vs := dcells (lid l)) rfl siz23 rfl rfl (by exact spl_all rfl) rfl) rfl (rem' := []) (by kernel_rfl) ?_
  rintro _ _ _ ⟨rfl, rfl, rfl⟩
  refine ⟨Heap.le.refl _, ?_⟩
  refine QB_nil ?_
  refine den_ret ?_
  exact endsr1 Tryz.results10 (rv_n many23 rfl (Kn.own 0 rfl) (show cut 0 32 (dcells _) = some (dcells _) from rfl)) (hl1.trans (hl4.trans (hl8.trans (hl12.trans (hl13.trans (hl14.trans hl15)))))) (.cons _ (List.Sublist.refl _)) ⟨rfl, rfl⟩

theorem ID_fn (l : Lk) (h : Heap) (hok : l.ok) (hG : Gl h) : Fn0 Tryz.prog 9 [.agg ⟨l.cells⟩] h (.agg ⟨dcells (lid l)⟩) := by
  refine Tr_of Tryz.func9 rfl rfl Tryz.ntmps9 rfl [(0, .agg ⟨l.cells⟩)] rfl ?_
  intro Lf
  refine den_seq ?_
  -- region 0
  refine den_region rfl ?_
  refine WL_box rfl rfl rfl fun b1 => ?_
  refine WL_alloc zer23 rfl rfl fun b2 => ?_
  refine WL_nil ?_
  refine den_seq ?_
  -- region 1
  refine den_region rfl ?_
  refine WL_v (v_loadn many27 rfl (Kn.own 1 rfl) (show cut 0 40 l.cells = some l.cells from cut_self rfl)) rfl ?_
  refine WL_v (v_builds (r := l.cells) Tryz.underlying64 zer64 plc64 rfl rfl rfl) rfl ?_
  refine WL_callq rfl (lid_fn _ _ hok hG) rfl ?_
  refine WL_store0 rfl rfl rfl siz23 (spl_all rfl) rfl rfl ?_
  refine WL_nil ?_
  refine den_ret ?_
  exact endsr1 Tryz.results9 (rv_n many23 rfl (Kn.own 0 rfl) (show cut 0 32 (dcells _) = some (dcells _) from rfl)) (Heap.le.refl _) (.cons _ (.cons _ (List.Sublist.refl _))) ⟨rfl, rfl⟩

theorem fmessage_fn (f : Fa) (h : Heap) (hb : Ri f.b) (hn : Ri f.n) (hG : Gl h) : Fnp Tryz.prog 24 [.agg ⟨f.cells⟩] h (fun v h' => Bs h' v (fmsg f).toList) := by
  refine Tr_of Tryz.func24 rfl rfl Tryz.ntmps24 rfl [(0, .agg ⟨f.cells⟩)] rfl ?_
  intro Lf
  refine den_seq ?_
  -- region 0
  refine den_region rfl ?_
  refine WL_box rfl rfl rfl fun b1 => ?_
  refine WL_v (v_assign rfl) rfl ?_
  refine WL_freeze fun h1 hl1 hb1 => ?_
  refine WL_nil ?_
  refine den_seq ?_
  -- region 1
  refine den_draw [15] (by kernel_rfl) (by kernel_rfl) (NoP.fn) (rem := [0, 1, 2, 3, 4, 5, 6, 7, 8, 9, 10, 11, 12, 13, 14, 15]) (by kernel_rfl) ?_
  refine QS_v (i := 0) rfl (v_faddr Tryz.underlying36 rfl siz23 rfl) (by kernel_rfl) (by kernel_rfl) (by kernel_rfl) (rem' := [1, 2, 3, 4, 5, 6, 7, 8, 9, 10, 11, 12, 13, 14, 15]) (by kernel_rfl) rfl ?_
  refine QS_v (i := 1) rfl (v_loadn many23 rfl (Kn.per (by assumption)) (show cut 0 32 f.cells = some (dcells f.l) from rfl)) (by kernel_rfl) (by kernel_rfl) (by kernel_rfl) (rem' := [2, 3, 4, 5, 6, 7, 8, 9, 10, 11, 12, 13, 14, 15]) (by kernel_rfl) rfl ?_
  refine QS_v (i := 3) rfl (v_faddr Tryz.underlying36 rfl siz23 rfl) (by kernel_rfl) (by kernel_rfl) (by kernel_rfl) (rem' := [2, 4, 5, 6, 7, 8, 9, 10, 11, 12, 13, 14, 15]) (by kernel_rfl) rfl ?_
  refine QS_v (i := 4) rfl (v_loadn many23 rfl (Kn.per (by assumption)) (show cut 32 32 f.cells = some (dcells f.c) from rfl)) (by kernel_rfl) (by kernel_rfl) (by kernel_rfl) (rem' := [2, 5, 6, 7, 8, 9, 10, 11, 12, 13, 14, 15]) (by kernel_rfl) rfl ?_
  refine QS_v (i := 6) rfl (v_faddr Tryz.underlying36 rfl siz3 rfl) (by kernel_rfl) (by kernel_rfl) (by kernel_rfl) (rem' := [2, 5, 7, 8, 9, 10, 11, 12, 13, 14, 15]) (by kernel_rfl) rfl ?_
  refine QS_v (i := 7) rfl (v_load1 one3 rfl (by first | exact Kn.own 0 rfl | exact Kn.own 1 rfl | exact Kn.own 2 rfl | exact Kn.own 3 rfl | exact Kn.own 4 rfl | exact Kn.own 5 rfl | exact Kn.per ‹_›) rfl) (by kernel_rfl) (by kernel_rfl) (by kernel_rfl) (rem' := [2, 5, 8, 9, 10, 11, 12, 13, 14, 15]) (by kernel_rfl) rfl ?_
  refine QS_v (i := 9) rfl (v_faddr Tryz.underlying36 rfl siz3 rfl) (by kernel_rfl) (by kernel_rfl) (by kernel_rfl) (rem' := [2, 5, 8, 10, 11, 12, 13, 14, 15]) (by kernel_rfl) rfl ?_
  refine QS_v (i := 10) rfl (v_load1 one3 rfl (by first | exact Kn.own 0 rfl | exact Kn.own 1 rfl | exact Kn.own 2 rfl | exact Kn.own 3 rfl | exact Kn.own 4 rfl | exact Kn.own 5 rfl | exact Kn.per ‹_›) rfl) (by kernel_rfl) (by kernel_rfl) (by kernel_rfl) (rem' := [2, 5, 8, 11, 12, 13, 14, 15]) (by kernel_rfl) rfl ?_
  refine QS_step (is := [2, 14]) rfl (by kernel_rfl) ?_
  refine qall2 ?_ ?_
  · skip
    refine qs_callq rfl rfl (text_fn _ _) rfl (rem' := [5, 8, 11, 12, 13, 14, 15]) (by kernel_rfl) ?_
    refine QS_step (is := [5, 14]) rfl (by kernel_rfl) ?_
    refine qall2 ?_ ?_
    · skip
      refine qs_callq rfl rfl (text_fn _ _) rfl (rem' := [8, 11, 12, 13, 14, 15]) (by kernel_rfl) ?_
      refine QS_step (is := [8, 14]) rfl (by kernel_rfl) ?_
      refine qall2 ?_ ?_
      · skip
        refine qs_callq rfl rfl (number_fn _ _) rfl (rem' := [11, 12, 13, 14, 15]) (by kernel_rfl) ?_
        refine QS_step (is := [11, 14]) rfl (by kernel_rfl) ?_
        refine qall2 ?_ ?_
        · skip
          refine qs_callq rfl rfl (number_fn _ _) rfl (rem' := [12, 13, 14, 15]) (by kernel_rfl) ?_
          refine QS_step (is := [12, 14]) rfl (by kernel_rfl) ?_
          refine qall2 ?_ ?_
          · skip
            refine qs_newp (g := fun b => .slice (some ⟨b, 0, none⟩) 4 4) rfl (o_buildSlice Tryz.underlying75 zer78 rfl siz78 rfl rfl rfl rfl) rfl (rem' := [13, 14, 15]) (by kernel_rfl) fun b16 h16 hl16 hb16 => ?_
            refine QS_step (is := [13, 14]) rfl (by kernel_rfl) ?_
            refine qall2 ?_ ?_
            · skip
              obtain hvr := VR.rows (rows := f.rows) (ms := f.vs) (pad := []) (cap := 4) (n := 4) hb16 (f.vrs hb hn _) rfl (by decide)
              refine qs_callq rfl rfl (lhash_fn ⟨⟨[102, 97, 99, 116, 111, 114, 32, 115, 105, 103, 110]⟩⟩ _ _ _ f.vs _ (by decide) hvr f.dep (by have := Fa.len hb hn; have := enc_list (l := f.vs) (show 4 < _ by decide); omega) (hG.le (hl1.trans hl16))) rfl (rem' := [14, 15]) (by kernel_rfl) ?_
              refine QS_step (is := [14]) rfl (by kernel_rfl) ?_
              refine qall1 ?_
              refine qs_new (g := fun b => .pointer (some ⟨b, 0, none⟩)) rfl (o_alloc zer23 rfl) rfl (rem' := [15]) (by kernel_rfl) fun b3 => ?_
              refine QS_step (is := [15]) rfl (by kernel_rfl) ?_
              refine qall1 ?_
              refine qs_store (A := []) rfl rfl rfl rfl siz23 (by exact spl_all rfl) rfl rfl rfl (rem' := []) (by kernel_rfl) rfl rfl ?_
              refine QS_nil ?_
              refine den_seq ?_
              -- region 2
              refine den_region rfl ?_
              refine WL_freeze fun h7 hl7 hb7 => ?_
              refine WL_v (v_slicea0 Tryz.underlying23 siz5 rfl) rfl ?_
              refine WL_v (v_assign rfl) rfl ?_
              refine WL_nil ?_
              refine den_ret ?_
              exact ends1 Tryz.results24 rfl (hl1.trans (hl16.trans hl7)) (List.Sublist.refl _) ⟨Bs.dig hb7 (by decide), rfl⟩
            · skip
              refine qs_new (g := fun b => .pointer (some ⟨b, 0, none⟩)) rfl (o_alloc zer23 rfl) rfl (rem' := [13, 15]) (by kernel_rfl) fun b3 => ?_
              refine QS_step (is := [13]) rfl (by kernel_rfl) ?_
              refine qall1 ?_
              obtain hvr := VR.rows (rows := f.rows) (ms := f.vs) (pad := []) (cap := 4) (n := 4) hb16 (f.vrs hb hn _) rfl (by decide)
              refine qs_callq rfl rfl (lhash_fn ⟨⟨[102, 97, 99, 116, 111, 114, 32, 115, 105, 103, 110]⟩⟩ _ _ _ f.vs _ (by decide) hvr f.dep (by have := Fa.len hb hn; have := enc_list (l := f.vs) (show 4 < _ by decide); omega) (hG.le (hl1.trans hl16))) rfl (rem' := [15]) (by kernel_rfl) ?_
              refine QS_step (is := [15]) rfl (by kernel_rfl) ?_
              refine qall1 ?_
              refine qs_store (A := []) rfl rfl rfl rfl siz23 (by exact spl_all rfl) rfl rfl rfl (rem' := []) (by kernel_rfl) rfl rfl ?_
              refine QS_nil ?_
              refine den_seq ?_
              -- region 2
              refine den_region rfl ?_
              refine WL_freeze fun h7 hl7 hb7 => ?_
              refine WL_v (v_slicea0 Tryz.underlying23 siz5 rfl) rfl ?_
              refine WL_v (v_assign rfl) rfl ?_
              refine WL_nil ?_
              refine den_ret ?_
              exact ends1 Tryz.results24 rfl (hl1.trans (hl16.trans hl7)) (List.Sublist.refl _) ⟨Bs.dig hb7 (by decide), rfl⟩
          · skip
            refine qs_new (g := fun b => .pointer (some ⟨b, 0, none⟩)) rfl (o_alloc zer23 rfl) rfl (rem' := [12, 13, 15]) (by kernel_rfl) fun b3 => ?_
            refine QS_step (is := [12]) rfl (by kernel_rfl) ?_
            refine qall1 ?_
            refine qs_newp (g := fun b => .slice (some ⟨b, 0, none⟩) 4 4) rfl (o_buildSlice Tryz.underlying75 zer78 rfl siz78 rfl rfl rfl rfl) rfl (rem' := [13, 15]) (by kernel_rfl) fun b16 h16 hl16 hb16 => ?_
            refine QS_step (is := [13]) rfl (by kernel_rfl) ?_
            refine qall1 ?_
            obtain hvr := VR.rows (rows := f.rows) (ms := f.vs) (pad := []) (cap := 4) (n := 4) hb16 (f.vrs hb hn _) rfl (by decide)
            refine qs_callq rfl rfl (lhash_fn ⟨⟨[102, 97, 99, 116, 111, 114, 32, 115, 105, 103, 110]⟩⟩ _ _ _ f.vs _ (by decide) hvr f.dep (by have := Fa.len hb hn; have := enc_list (l := f.vs) (show 4 < _ by decide); omega) (hG.le (hl1.trans hl16))) rfl (rem' := [15]) (by kernel_rfl) ?_
            refine QS_step (is := [15]) rfl (by kernel_rfl) ?_
            refine qall1 ?_
            refine qs_store (A := []) rfl rfl rfl rfl siz23 (by exact spl_all rfl) rfl rfl rfl (rem' := []) (by kernel_rfl) rfl rfl ?_
            refine QS_nil ?_
            refine den_seq ?_
            -- region 2
            refine den_region rfl ?_
            refine WL_freeze fun h7 hl7 hb7 => ?_
            refine WL_v (v_slicea0 Tryz.underlying23 siz5 rfl) rfl ?_
            refine WL_v (v_assign rfl) rfl ?_
            refine WL_nil ?_
            refine den_ret ?_
            exact ends1 Tryz.results24 rfl (hl1.trans (hl16.trans hl7)) (List.Sublist.refl _) ⟨Bs.dig hb7 (by decide), rfl⟩
        · skip
          refine qs_new (g := fun b => .pointer (some ⟨b, 0, none⟩)) rfl (o_alloc zer23 rfl) rfl (rem' := [11, 12, 13, 15]) (by kernel_rfl) fun b3 => ?_
          refine QS_step (is := [11]) rfl (by kernel_rfl) ?_
          refine qall1 ?_
          refine qs_callq rfl rfl (number_fn _ _) rfl (rem' := [12, 13, 15]) (by kernel_rfl) ?_
          refine QS_step (is := [12]) rfl (by kernel_rfl) ?_
          refine qall1 ?_
          refine qs_newp (g := fun b => .slice (some ⟨b, 0, none⟩) 4 4) rfl (o_buildSlice Tryz.underlying75 zer78 rfl siz78 rfl rfl rfl rfl) rfl (rem' := [13, 15]) (by kernel_rfl) fun b16 h16 hl16 hb16 => ?_
          refine QS_step (is := [13]) rfl (by kernel_rfl) ?_
          refine qall1 ?_
          obtain hvr := VR.rows (rows := f.rows) (ms := f.vs) (pad := []) (cap := 4) (n := 4) hb16 (f.vrs hb hn _) rfl (by decide)
          refine qs_callq rfl rfl (lhash_fn ⟨⟨[102, 97, 99, 116, 111, 114, 32, 115, 105, 103, 110]⟩⟩ _ _ _ f.vs _ (by decide) hvr f.dep (by have := Fa.len hb hn; have := enc_list (l := f.vs) (show 4 < _ by decide); omega) (hG.le (hl1.trans hl16))) rfl (rem' := [15]) (by kernel_rfl) ?_
          refine QS_step (is := [15]) rfl (by kernel_rfl) ?_
          refine qall1 ?_
          refine qs_store (A := []) rfl rfl rfl rfl siz23 (by exact spl_all rfl) rfl rfl rfl (rem' := []) (by kernel_rfl) rfl rfl ?_
          refine QS_nil ?_
          refine den_seq ?_
          -- region 2
          refine den_region rfl ?_
          refine WL_freeze fun h7 hl7 hb7 => ?_
          refine WL_v (v_slicea0 Tryz.underlying23 siz5 rfl) rfl ?_
          refine WL_v (v_assign rfl) rfl ?_
          refine WL_nil ?_
          refine den_ret ?_
          exact ends1 Tryz.results24 rfl (hl1.trans (hl16.trans hl7)) (List.Sublist.refl _) ⟨Bs.dig hb7 (by decide), rfl⟩
      · skip
        refine qs_new (g := fun b => .pointer (some ⟨b, 0, none⟩)) rfl (o_alloc zer23 rfl) rfl (rem' := [8, 11, 12, 13, 15]) (by kernel_rfl) fun b3 => ?_
        refine QS_step (is := [8]) rfl (by kernel_rfl) ?_
        refine qall1 ?_
        refine qs_callq rfl rfl (number_fn _ _) rfl (rem' := [11, 12, 13, 15]) (by kernel_rfl) ?_
        refine QS_step (is := [11]) rfl (by kernel_rfl) ?_
        refine qall1 ?_
        refine qs_callq rfl rfl (number_fn _ _) rfl (rem' := [12, 13, 15]) (by kernel_rfl) ?_
        refine QS_step (is := [12]) rfl (by kernel_rfl) ?_
        refine qall1 ?_
        refine qs_newp (g := fun b => .slice (some ⟨b, 0, none⟩) 4 4) rfl (o_buildSlice Tryz.underlying75 zer78 rfl siz78 rfl rfl rfl rfl) rfl (rem' := [13, 15]) (by kernel_rfl) fun b16 h16 hl16 hb16 => ?_
        refine QS_step (is := [13]) rfl (by kernel_rfl) ?_
        refine qall1 ?_
        obtain hvr := VR.rows (rows := f.rows) (ms := f.vs) (pad := []) (cap := 4) (n := 4) hb16 (f.vrs hb hn _) rfl (by decide)
        refine qs_callq rfl rfl (lhash_fn ⟨⟨[102, 97, 99, 116, 111, 114, 32, 115, 105, 103, 110]⟩⟩ _ _ _ f.vs _ (by decide) hvr f.dep (by have := Fa.len hb hn; have := enc_list (l := f.vs) (show 4 < _ by decide); omega) (hG.le (hl1.trans hl16))) rfl (rem' := [15]) (by kernel_rfl) ?_
        refine QS_step (is := [15]) rfl (by kernel_rfl) ?_
        refine qall1 ?_
        refine qs_store (A := []) rfl rfl rfl rfl siz23 (by exact spl_all rfl) rfl rfl rfl (rem' := []) (by kernel_rfl) rfl rfl ?_
        refine QS_nil ?_
        refine den_seq ?_
        -- region 2
        refine den_region rfl ?_
        refine WL_freeze fun h7 hl7 hb7 => ?_
        refine WL_v (v_slicea0 Tryz.underlying23 siz5 rfl) rfl ?_
        refine WL_v (v_assign rfl) rfl ?_
        refine WL_nil ?_
        refine den_ret ?_
        exact ends1 Tryz.results24 rfl (hl1.trans (hl16.trans hl7)) (List.Sublist.refl _) ⟨Bs.dig hb7 (by decide), rfl⟩
    · skip
      refine qs_new (g := fun b => .pointer (some ⟨b, 0, none⟩)) rfl (o_alloc zer23 rfl) rfl (rem' := [5, 8, 11, 12, 13, 15]) (by kernel_rfl) fun b3 => ?_
      refine QS_step (is := [5]) rfl (by kernel_rfl) ?_
      refine qall1 ?_
      refine qs_callq rfl rfl (text_fn _ _) rfl (rem' := [8, 11, 12, 13, 15]) (by kernel_rfl) ?_
      refine QS_step (is := [8]) rfl (by kernel_rfl) ?_
      refine qall1 ?_
      refine qs_callq rfl rfl (number_fn _ _) rfl (rem' := [11, 12, 13, 15]) (by kernel_rfl) ?_
      refine QS_step (is := [11]) rfl (by kernel_rfl) ?_
      refine qall1 ?_
      refine qs_callq rfl rfl (number_fn _ _) rfl (rem' := [12, 13, 15]) (by kernel_rfl) ?_
      refine QS_step (is := [12]) rfl (by kernel_rfl) ?_
      refine qall1 ?_
      refine qs_newp (g := fun b => .slice (some ⟨b, 0, none⟩) 4 4) rfl (o_buildSlice Tryz.underlying75 zer78 rfl siz78 rfl rfl rfl rfl) rfl (rem' := [13, 15]) (by kernel_rfl) fun b16 h16 hl16 hb16 => ?_
      refine QS_step (is := [13]) rfl (by kernel_rfl) ?_
      refine qall1 ?_
      obtain hvr := VR.rows (rows := f.rows) (ms := f.vs) (pad := []) (cap := 4) (n := 4) hb16 (f.vrs hb hn _) rfl (by decide)
      refine qs_callq rfl rfl (lhash_fn ⟨⟨[102, 97, 99, 116, 111, 114, 32, 115, 105, 103, 110]⟩⟩ _ _ _ f.vs _ (by decide) hvr f.dep (by have := Fa.len hb hn; have := enc_list (l := f.vs) (show 4 < _ by decide); omega) (hG.le (hl1.trans hl16))) rfl (rem' := [15]) (by kernel_rfl) ?_
      refine QS_step (is := [15]) rfl (by kernel_rfl) ?_
      refine qall1 ?_
      refine qs_store (A := []) rfl rfl rfl rfl siz23 (by exact spl_all rfl) rfl rfl rfl (rem' := []) (by kernel_rfl) rfl rfl ?_
      refine QS_nil ?_
      refine den_seq ?_
      -- region 2
      refine den_region rfl ?_
      refine WL_freeze fun h7 hl7 hb7 => ?_
      refine WL_v (v_slicea0 Tryz.underlying23 siz5 rfl) rfl ?_
      refine WL_v (v_assign rfl) rfl ?_
      refine WL_nil ?_
      refine den_ret ?_
      exact ends1 Tryz.results24 rfl (hl1.trans (hl16.trans hl7)) (List.Sublist.refl _) ⟨Bs.dig hb7 (by decide), rfl⟩
  · skip
    refine qs_new (g := fun b => .pointer (some ⟨b, 0, none⟩)) rfl (o_alloc zer23 rfl) rfl (rem' := [2, 5, 8, 11, 12, 13, 15]) (by kernel_rfl) fun b3 => ?_
    refine QS_step (is := [2]) rfl (by kernel_rfl) ?_
    refine qall1 ?_
    refine qs_callq rfl rfl (text_fn _ _) rfl (rem' := [5, 8, 11, 12, 13, 15]) (by kernel_rfl) ?_
    refine QS_step (is := [5]) rfl (by kernel_rfl) ?_
    refine qall1 ?_
    refine qs_callq rfl rfl (text_fn _ _) rfl (rem' := [8, 11, 12, 13, 15]) (by kernel_rfl) ?_
    refine QS_step (is := [8]) rfl (by kernel_rfl) ?_
    refine qall1 ?_
    refine qs_callq rfl rfl (number_fn _ _) rfl (rem' := [11, 12, 13, 15]) (by kernel_rfl) ?_
    refine QS_step (is := [11]) rfl (by kernel_rfl) ?_
    refine qall1 ?_
    refine qs_callq rfl rfl (number_fn _ _) rfl (rem' := [12, 13, 15]) (by kernel_rfl) ?_
    refine QS_step (is := [12]) rfl (by kernel_rfl) ?_
    refine qall1 ?_
    refine qs_newp (g := fun b => .slice (some ⟨b, 0, none⟩) 4 4) rfl (o_buildSlice Tryz.underlying75 zer78 rfl siz78 rfl rfl rfl rfl) rfl (rem' := [13, 15]) (by kernel_rfl) fun b16 h16 hl16 hb16 => ?_
    refine QS_step (is := [13]) rfl (by kernel_rfl) ?_
    refine qall1 ?_
    obtain hvr := VR.rows (rows := f.rows) (ms := f.vs) (pad := []) (cap := 4) (n := 4) hb16 (f.vrs hb hn _) rfl (by decide)
    refine qs_callq rfl rfl (lhash_fn ⟨⟨[102, 97, 99, 116, 111, 114, 32, 115, 105, 103, 110]⟩⟩ _ _ _ f.vs _ (by decide) hvr f.dep (by have := Fa.len hb hn; have := enc_list (l := f.vs) (show 4 < _ by decide); omega) (hG.le (hl1.trans hl16))) rfl (rem' := [15]) (by kernel_rfl) ?_
    refine QS_step (is := [15]) rfl (by kernel_rfl) ?_
    refine qall1 ?_
    refine qs_store (A := []) rfl rfl rfl rfl siz23 (by exact spl_all rfl) rfl rfl rfl (rem' := []) (by kernel_rfl) rfl rfl ?_
    refine QS_nil ?_
    refine den_seq ?_
    -- region 2
    refine den_region rfl ?_
    refine WL_freeze fun h7 hl7 hb7 => ?_
    refine WL_v (v_slicea0 Tryz.underlying23 siz5 rfl) rfl ?_
    refine WL_v (v_assign rfl) rfl ?_
    refine WL_nil ?_
    refine den_ret ?_
    exact ends1 Tryz.results24 rfl (hl1.trans (hl16.trans hl7)) (List.Sublist.refl _) ⟨Bs.dig hb7 (by decide), rfl⟩

theorem rfmessage_fn (f : Fa) (h : Heap) (hb : Ri f.b) (hn : Ri f.n) : Fnp Tryz.prog 27 [.agg ⟨f.cells⟩] h (fun v h' => Bs h' v (fmsg f).toList) := by
  refine Tr_of Tryz.func27 rfl rfl Tryz.ntmps27 rfl [(0, .agg ⟨f.cells⟩)] rfl ?_
  intro Lf
  refine den_seq ?_
  -- region 0
  refine den_region rfl ?_
  refine WL_box rfl rfl rfl fun b1 => ?_
  refine WL_v (v_assign rfl) rfl ?_
  refine WL_freeze fun h1 hl1 hb1 => ?_
  refine WL_nil ?_
  refine den_seq ?_
  -- region 1
  refine den_draw [17] (by kernel_rfl) (by kernel_rfl) (NoP.fn) (rem := [0, 1, 2, 3, 4, 5, 6, 7, 8, 9, 10, 11, 12, 13, 14, 15, 16, 17]) (by kernel_rfl) ?_
  refine QS_v (i := 0) rfl (v_faddr Tryz.underlying36 rfl siz23 rfl) (by kernel_rfl) (by kernel_rfl) (by kernel_rfl) (rem' := [1, 2, 3, 4, 5, 6, 7, 8, 9, 10, 11, 12, 13, 14, 15, 16, 17]) (by kernel_rfl) rfl ?_
  refine QS_v (i := 1) rfl (v_slicea0 Tryz.underlying23 siz5 rfl) (by kernel_rfl) (by kernel_rfl) (by kernel_rfl) (rem' := [2, 3, 4, 5, 6, 7, 8, 9, 10, 11, 12, 13, 14, 15, 16, 17]) (by kernel_rfl) rfl ?_
  refine QS_v (i := 2) rfl (OpV.to (v' := .string (dstr (f.l))) (v_tostr (bs := (f.l).toList) Tryz.underlying55 Tryz.underlying9 Tryz.underlying5 rfl (Kn.per (by assumption)) (by rw [← dcells_eq (f.l)]; exact (show cut 0 32 f.cells = some (dcells f.l) from rfl))) rfl) (by kernel_rfl) (by kernel_rfl) (by kernel_rfl) (rem' := [3, 4, 5, 6, 7, 8, 9, 10, 11, 12, 13, 14, 15, 16, 17]) (by kernel_rfl) rfl ?_
  refine QS_v (i := 4) rfl (v_faddr Tryz.underlying36 rfl siz23 rfl) (by kernel_rfl) (by kernel_rfl) (by kernel_rfl) (rem' := [3, 5, 6, 7, 8, 9, 10, 11, 12, 13, 14, 15, 16, 17]) (by kernel_rfl) rfl ?_
  refine QS_v (i := 5) rfl (v_slicea0 Tryz.underlying23 siz5 rfl) (by kernel_rfl) (by kernel_rfl) (by kernel_rfl) (rem' := [3, 6, 7, 8, 9, 10, 11, 12, 13, 14, 15, 16, 17]) (by kernel_rfl) rfl ?_
  refine QS_v (i := 6) rfl (OpV.to (v' := .string (dstr (f.c))) (v_tostr (bs := (f.c).toList) Tryz.underlying55 Tryz.underlying9 Tryz.underlying5 rfl (Kn.per (by assumption)) (by rw [← dcells_eq (f.c)]; exact (show cut 32 32 f.cells = some (dcells f.c) from rfl))) rfl) (by kernel_rfl) (by kernel_rfl) (by kernel_rfl) (rem' := [3, 7, 8, 9, 10, 11, 12, 13, 14, 15, 16, 17]) (by kernel_rfl) rfl ?_
  refine QS_v (i := 8) rfl (v_faddr Tryz.underlying36 rfl siz3 rfl) (by kernel_rfl) (by kernel_rfl) (by kernel_rfl) (rem' := [3, 7, 9, 10, 11, 12, 13, 14, 15, 16, 17]) (by kernel_rfl) rfl ?_
  refine QS_v (i := 9) rfl (v_load1 one3 rfl (by first | exact Kn.own 0 rfl | exact Kn.own 1 rfl | exact Kn.own 2 rfl | exact Kn.own 3 rfl | exact Kn.own 4 rfl | exact Kn.own 5 rfl | exact Kn.per ‹_›) rfl) (by kernel_rfl) (by kernel_rfl) (by kernel_rfl) (rem' := [3, 7, 10, 11, 12, 13, 14, 15, 16, 17]) (by kernel_rfl) rfl ?_
  refine QS_v (i := 11) rfl (v_faddr Tryz.underlying36 rfl siz3 rfl) (by kernel_rfl) (by kernel_rfl) (by kernel_rfl) (rem' := [3, 7, 10, 12, 13, 14, 15, 16, 17]) (by kernel_rfl) rfl ?_
  refine QS_v (i := 12) rfl (v_load1 one3 rfl (by first | exact Kn.own 0 rfl | exact Kn.own 1 rfl | exact Kn.own 2 rfl | exact Kn.own 3 rfl | exact Kn.own 4 rfl | exact Kn.own 5 rfl | exact Kn.per ‹_›) rfl) (by kernel_rfl) (by kernel_rfl) (by kernel_rfl) (rem' := [3, 7, 10, 13, 14, 15, 16, 17]) (by kernel_rfl) rfl ?_
  refine QS_step (is := [3, 16]) rfl (by kernel_rfl) ?_
  refine qall2 ?_ ?_
  · skip
    refine qs_callq rfl rfl (rtext_fn _ _) rfl (rem' := [7, 10, 13, 14, 15, 16, 17]) (by kernel_rfl) ?_
    refine QS_step (is := [7, 16]) rfl (by kernel_rfl) ?_
    refine qall2 ?_ ?_
    · skip
      refine qs_callq rfl rfl (rtext_fn _ _) rfl (rem' := [10, 13, 14, 15, 16, 17]) (by kernel_rfl) ?_
      refine QS_step (is := [10, 16]) rfl (by kernel_rfl) ?_
      refine qall2 ?_ ?_
      · skip
        refine qs_callq rfl rfl (rint_fn _ _) rfl (rem' := [13, 14, 15, 16, 17]) (by kernel_rfl) ?_
        refine QS_step (is := [13, 16]) rfl (by kernel_rfl) ?_
        refine qall2 ?_ ?_
        · skip
          refine qs_callq rfl rfl (rint_fn _ _) rfl (rem' := [14, 15, 16, 17]) (by kernel_rfl) ?_
          refine QS_step (is := [14, 16]) rfl (by kernel_rfl) ?_
          refine qall2 ?_ ?_
          · skip
            refine qs_newp (g := fun b => .slice (some ⟨b, 0, none⟩) 4 4) rfl (o_buildSlice Tryz.underlying75 zer78 rfl siz78 rfl rfl rfl rfl) rfl (rem' := [15, 16, 17]) (by kernel_rfl) fun b18 h18 hl18 hb18 => ?_
            refine QS_step (is := [15, 16]) rfl (by kernel_rfl) ?_
            refine qall2 ?_ ?_
            · skip
              obtain hvr := VR.rows (rows := f.rows) (ms := f.vs) (pad := []) (cap := 4) (n := 4) hb18 (f.vrs hb hn _) rfl (by decide)
              refine qs_callq rfl rfl (rlhash_fn ⟨⟨[102, 97, 99, 116, 111, 114, 32, 115, 105, 103, 110]⟩⟩ _ _ _ f.vs _ (by decide) hvr f.dep (by have := Fa.len hb hn; have := enc_list (l := f.vs) (show 4 < _ by decide); omega)) rfl (rem' := [16, 17]) (by kernel_rfl) ?_
              refine QS_step (is := [16]) rfl (by kernel_rfl) ?_
              refine qall1 ?_
              refine qs_new (g := fun b => .pointer (some ⟨b, 0, none⟩)) rfl (o_alloc zer23 rfl) rfl (rem' := [17]) (by kernel_rfl) fun b3 => ?_
              refine QS_step (is := [17]) rfl (by kernel_rfl) ?_
              refine qall1 ?_
              refine qs_store (A := []) rfl rfl rfl rfl siz23 (by exact spl_all rfl) rfl rfl rfl (rem' := []) (by kernel_rfl) rfl rfl ?_
              refine QS_nil ?_
              refine den_seq ?_
              -- region 2
              refine den_region rfl ?_
              refine WL_freeze fun h7 hl7 hb7 => ?_
              refine WL_v (v_slicea0 Tryz.underlying23 siz5 rfl) rfl ?_
              refine WL_v (v_assign rfl) rfl ?_
              refine WL_nil ?_
              refine den_ret ?_
              exact ends1 Tryz.results27 rfl (hl1.trans (hl18.trans hl7)) (List.Sublist.refl _) ⟨Bs.dig hb7 (by decide), rfl⟩
            · skip
              refine qs_new (g := fun b => .pointer (some ⟨b, 0, none⟩)) rfl (o_alloc zer23 rfl) rfl (rem' := [15, 17]) (by kernel_rfl) fun b3 => ?_
              refine QS_step (is := [15]) rfl (by kernel_rfl) ?_
              refine qall1 ?_
              obtain hvr := VR.rows (rows := f.rows) (ms := f.vs) (pad := []) (cap := 4) (n := 4) hb18 (f.vrs hb hn _) rfl (by decide)
              refine qs_callq rfl rfl (rlhash_fn ⟨⟨[102, 97, 99, 116, 111, 114, 32, 115, 105, 103, 110]⟩⟩ _ _ _ f.vs _ (by decide) hvr f.dep (by have := Fa.len hb hn; have := enc_list (l := f.vs) (show 4 < _ by decide); omega)) rfl (rem' := [17]) (by kernel_rfl) ?_
              refine QS_step (is := [17]) rfl (by kernel_rfl) ?_
              refine qall1 ?_
              refine qs_store (A := []) rfl rfl rfl rfl siz23 (by exact spl_all rfl) rfl rfl rfl (rem' := []) (by kernel_rfl) rfl rfl ?_
              refine QS_nil ?_
              refine den_seq ?_
              -- region 2
              refine den_region rfl ?_
              refine WL_freeze fun h7 hl7 hb7 => ?_
              refine WL_v (v_slicea0 Tryz.underlying23 siz5 rfl) rfl ?_
              refine WL_v (v_assign rfl) rfl ?_
              refine WL_nil ?_
              refine den_ret ?_
              exact ends1 Tryz.results27 rfl (hl1.trans (hl18.trans hl7)) (List.Sublist.refl _) ⟨Bs.dig hb7 (by decide), rfl⟩
          · skip
            refine qs_new (g := fun b => .pointer (some ⟨b, 0, none⟩)) rfl (o_alloc zer23 rfl) rfl (rem' := [14, 15, 17]) (by kernel_rfl) fun b3 => ?_
            refine QS_step (is := [14]) rfl (by kernel_rfl) ?_
            refine qall1 ?_
            refine qs_newp (g := fun b => .slice (some ⟨b, 0, none⟩) 4 4) rfl (o_buildSlice Tryz.underlying75 zer78 rfl siz78 rfl rfl rfl rfl) rfl (rem' := [15, 17]) (by kernel_rfl) fun b18 h18 hl18 hb18 => ?_
            refine QS_step (is := [15]) rfl (by kernel_rfl) ?_
            refine qall1 ?_
            obtain hvr := VR.rows (rows := f.rows) (ms := f.vs) (pad := []) (cap := 4) (n := 4) hb18 (f.vrs hb hn _) rfl (by decide)
            refine qs_callq rfl rfl (rlhash_fn ⟨⟨[102, 97, 99, 116, 111, 114, 32, 115, 105, 103, 110]⟩⟩ _ _ _ f.vs _ (by decide) hvr f.dep (by have := Fa.len hb hn; have := enc_list (l := f.vs) (show 4 < _ by decide); omega)) rfl (rem' := [17]) (by kernel_rfl) ?_
            refine QS_step (is := [17]) rfl (by kernel_rfl) ?_
            refine qall1 ?_
            refine qs_store (A := []) rfl rfl rfl rfl siz23 (by exact spl_all rfl) rfl rfl rfl (rem' := []) (by kernel_rfl) rfl rfl ?_
            refine QS_nil ?_
            refine den_seq ?_
            -- region 2
            refine den_region rfl ?_
            refine WL_freeze fun h7 hl7 hb7 => ?_
            refine WL_v (v_slicea0 Tryz.underlying23 siz5 rfl) rfl ?_
            refine WL_v (v_assign rfl) rfl ?_
            refine WL_nil ?_
            refine den_ret ?_
            exact ends1 Tryz.results27 rfl (hl1.trans (hl18.trans hl7)) (List.Sublist.refl _) ⟨Bs.dig hb7 (by decide), rfl⟩
        · skip
          refine qs_new (g := fun b => .pointer (some ⟨b, 0, none⟩)) rfl (o_alloc zer23 rfl) rfl (rem' := [13, 14, 15, 17]) (by kernel_rfl) fun b3 => ?_
          refine QS_step (is := [13]) rfl (by kernel_rfl) ?_
          refine qall1 ?_
          refine qs_callq rfl rfl (rint_fn _ _) rfl (rem' := [14, 15, 17]) (by kernel_rfl) ?_
          refine QS_step (is := [14]) rfl (by kernel_rfl) ?_
          refine qall1 ?_
          refine qs_newp (g := fun b => .slice (some ⟨b, 0, none⟩) 4 4) rfl (o_buildSlice Tryz.underlying75 zer78 rfl siz78 rfl rfl rfl rfl) rfl (rem' := [15, 17]) (by kernel_rfl) fun b18 h18 hl18 hb18 => ?_
          refine QS_step (is := [15]) rfl (by kernel_rfl) ?_
          refine qall1 ?_
          obtain hvr := VR.rows (rows := f.rows) (ms := f.vs) (pad := []) (cap := 4) (n := 4) hb18 (f.vrs hb hn _) rfl (by decide)
          refine qs_callq rfl rfl (rlhash_fn ⟨⟨[102, 97, 99, 116, 111, 114, 32, 115, 105, 103, 110]⟩⟩ _ _ _ f.vs _ (by decide) hvr f.dep (by have := Fa.len hb hn; have := enc_list (l := f.vs) (show 4 < _ by decide); omega)) rfl (rem' := [17]) (by kernel_rfl) ?_
          refine QS_step (is := [17]) rfl (by kernel_rfl) ?_
          refine qall1 ?_
          refine qs_store (A := []) rfl rfl rfl rfl siz23 (by exact spl_all rfl) rfl rfl rfl (rem' := []) (by kernel_rfl) rfl rfl ?_
          refine QS_nil ?_
          refine den_seq ?_
          -- region 2
          refine den_region rfl ?_
          refine WL_freeze fun h7 hl7 hb7 => ?_
          refine WL_v (v_slicea0 Tryz.underlying23 siz5 rfl) rfl ?_
          refine WL_v (v_assign rfl) rfl ?_
          refine WL_nil ?_
          refine den_ret ?_
          exact ends1 Tryz.results27 rfl (hl1.trans (hl18.trans hl7)) (List.Sublist.refl _) ⟨Bs.dig hb7 (by decide), rfl⟩
      · skip
        refine qs_new (g := fun b => .pointer (some ⟨b, 0, none⟩)) rfl (o_alloc zer23 rfl) rfl (rem' := [10, 13, 14, 15, 17]) (by kernel_rfl) fun b3 => ?_
        refine QS_step (is := [10]) rfl (by kernel_rfl) ?_
        refine qall1 ?_
        refine qs_callq rfl rfl (rint_fn _ _) rfl (rem' := [13, 14, 15, 17]) (by kernel_rfl) ?_
        refine QS_step (is := [13]) rfl (by kernel_rfl) ?_
        refine qall1 ?_
        refine qs_callq rfl rfl (rint_fn _ _) rfl (rem' := [14, 15, 17]) (by kernel_rfl) ?_
        refine QS_step (is := [14]) rfl (by kernel_rfl) ?_
        refine qall1 ?_
        refine qs_newp (g := fun b => .slice (some ⟨b, 0, none⟩) 4 4) rfl (o_buildSlice Tryz.underlying75 zer78 rfl siz78 rfl rfl rfl rfl) rfl (rem' := [15, 17]) (by kernel_rfl) fun b18 h18 hl18 hb18 => ?_
        refine QS_step (is := [15]) rfl (by kernel_rfl) ?_
        refine qall1 ?_
        obtain hvr := VR.rows (rows := f.rows) (ms := f.vs) (pad := []) (cap := 4) (n := 4) hb18 (f.vrs hb hn _) rfl (by decide)
        refine qs_callq rfl rfl (rlhash_fn ⟨⟨[102, 97, 99, 116, 111, 114, 32, 115, 105, 103, 110]⟩⟩ _ _ _ f.vs _ (by decide) hvr f.dep (by have := Fa.len hb hn; have := enc_list (l := f.vs) (show 4 < _ by decide); omega)) rfl (rem' := [17]) (by kernel_rfl) ?_
        refine QS_step (is := [17]) rfl (by kernel_rfl) ?_
        refine qall1 ?_
        refine qs_store (A := []) rfl rfl rfl rfl siz23 (by exact spl_all rfl) rfl rfl rfl (rem' := []) (by kernel_rfl) rfl rfl ?_
        refine QS_nil ?_
        refine den_seq ?_
        -- region 2
        refine den_region rfl ?_
        refine WL_freeze fun h7 hl7 hb7 => ?_
        refine WL_v (v_slicea0 Tryz.underlying23 siz5 rfl) rfl ?_
        refine WL_v (v_assign rfl) rfl ?_
        refine WL_nil ?_
        refine den_ret ?_
        exact ends1 Tryz.results27 rfl (hl1.trans (hl18.trans hl7)) (List.Sublist.refl _) ⟨Bs.dig hb7 (by decide), rfl⟩
    · skip
      refine qs_new (g := fun b => .pointer (some ⟨b, 0, none⟩)) rfl (o_alloc zer23 rfl) rfl (rem' := [7, 10, 13, 14, 15, 17]) (by kernel_rfl) fun b3 => ?_
      refine QS_step (is := [7]) rfl (by kernel_rfl) ?_
      refine qall1 ?_
      refine qs_callq rfl rfl (rtext_fn _ _) rfl (rem' := [10, 13, 14, 15, 17]) (by kernel_rfl) ?_
      refine QS_step (is := [10]) rfl (by kernel_rfl) ?_
      refine qall1 ?_
      refine qs_callq rfl rfl (rint_fn _ _) rfl (rem' := [13, 14, 15, 17]) (by kernel_rfl) ?_
      refine QS_step (is := [13]) rfl (by kernel_rfl) ?_
      refine qall1 ?_
      refine qs_callq rfl rfl (rint_fn _ _) rfl (rem' := [14, 15, 17]) (by kernel_rfl) ?_
      refine QS_step (is := [14]) rfl (by kernel_rfl) ?_
      refine qall1 ?_
      refine qs_newp (g := fun b => .slice (some ⟨b, 0, none⟩) 4 4) rfl (o_buildSlice Tryz.underlying75 zer78 rfl siz78 rfl rfl rfl rfl) rfl (rem' := [15, 17]) (by kernel_rfl) fun b18 h18 hl18 hb18 => ?_
      refine QS_step (is := [15]) rfl (by kernel_rfl) ?_
      refine qall1 ?_
      obtain hvr := VR.rows (rows := f.rows) (ms := f.vs) (pad := []) (cap := 4) (n := 4) hb18 (f.vrs hb hn _) rfl (by decide)
      refine qs_callq rfl rfl (rlhash_fn ⟨⟨[102, 97, 99, 116, 111, 114, 32, 115, 105, 103, 110]⟩⟩ _ _ _ f.vs _ (by decide) hvr f.dep (by have := Fa.len hb hn; have := enc_list (l := f.vs) (show 4 < _ by decide); omega)) rfl (rem' := [17]) (by kernel_rfl) ?_
      refine QS_step (is := [17]) rfl (by kernel_rfl) ?_
      refine qall1 ?_
      refine qs_store (A := []) rfl rfl rfl rfl siz23 (by exact spl_all rfl) rfl rfl rfl (rem' := []) (by kernel_rfl) rfl rfl ?_
      refine QS_nil ?_
      refine den_seq ?_
      -- region 2
      refine den_region rfl ?_
      refine WL_freeze fun h7 hl7 hb7 => ?_
      refine WL_v (v_slicea0 Tryz.underlying23 siz5 rfl) rfl ?_
      refine WL_v (v_assign rfl) rfl ?_
      refine WL_nil ?_
      refine den_ret ?_
      exact ends1 Tryz.results27 rfl (hl1.trans (hl18.trans hl7)) (List.Sublist.refl _) ⟨Bs.dig hb7 (by decide), rfl⟩
  · skip
    refine qs_new (g := fun b => .pointer (some ⟨b, 0, none⟩)) rfl (o_alloc zer23 rfl) rfl (rem' := [3, 7, 10, 13, 14, 15, 17]) (by kernel_rfl) fun b3 => ?_
    refine QS_step (is := [3]) rfl (by kernel_rfl) ?_
    refine qall1 ?_
    refine qs_callq rfl rfl (rtext_fn _ _) rfl (rem' := [7, 10, 13, 14, 15, 17]) (by kernel_rfl) ?_
    refine QS_step (is := [7]) rfl (by kernel_rfl) ?_
    refine qall1 ?_
    refine qs_callq rfl rfl (rtext_fn _ _) rfl (rem' := [10, 13, 14, 15, 17]) (by kernel_rfl) ?_
    refine QS_step (is := [10]) rfl (by kernel_rfl) ?_
    refine qall1 ?_
    refine qs_callq rfl rfl (rint_fn _ _) rfl (rem' := [13, 14, 15, 17]) (by kernel_rfl) ?_
    refine QS_step (is := [13]) rfl (by kernel_rfl) ?_
    refine qall1 ?_
    refine qs_callq rfl rfl (rint_fn _ _) rfl (rem' := [14, 15, 17]) (by kernel_rfl) ?_
    refine QS_step (is := [14]) rfl (by kernel_rfl) ?_
    refine qall1 ?_
    refine qs_newp (g := fun b => .slice (some ⟨b, 0, none⟩) 4 4) rfl (o_buildSlice Tryz.underlying75 zer78 rfl siz78 rfl rfl rfl rfl) rfl (rem' := [15, 17]) (by kernel_rfl) fun b18 h18 hl18 hb18 => ?_
    refine QS_step (is := [15]) rfl (by kernel_rfl) ?_
    refine qall1 ?_
    obtain hvr := VR.rows (rows := f.rows) (ms := f.vs) (pad := []) (cap := 4) (n := 4) hb18 (f.vrs hb hn _) rfl (by decide)
    refine qs_callq rfl rfl (rlhash_fn ⟨⟨[102, 97, 99, 116, 111, 114, 32, 115, 105, 103, 110]⟩⟩ _ _ _ f.vs _ (by decide) hvr f.dep (by have := Fa.len hb hn; have := enc_list (l := f.vs) (show 4 < _ by decide); omega)) rfl (rem' := [17]) (by kernel_rfl) ?_
    refine QS_step (is := [17]) rfl (by kernel_rfl) ?_
    refine qall1 ?_
    refine qs_store (A := []) rfl rfl rfl rfl siz23 (by exact spl_all rfl) rfl rfl rfl (rem' := []) (by kernel_rfl) rfl rfl ?_
    refine QS_nil ?_
    refine den_seq ?_
    -- region 2
    refine den_region rfl ?_
    refine WL_freeze fun h7 hl7 hb7 => ?_
    refine WL_v (v_slicea0 Tryz.underlying23 siz5 rfl) rfl ?_
    refine WL_v (v_assign rfl) rfl ?_
    refine WL_nil ?_
    refine den_ret ?_
    exact ends1 Tryz.results27 rfl (hl1.trans (hl18.trans hl7)) (List.Sublist.refl _) ⟨Bs.dig hb7 (by decide), rfl⟩

end Go.Proofs.Ch
