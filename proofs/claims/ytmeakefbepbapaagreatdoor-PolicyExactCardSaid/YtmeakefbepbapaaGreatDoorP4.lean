/- Walks of the program's functions, printed by my own generator (layer P4). -/
import Derived.Test.YtmeakefbepbapaaGreatDoorP3
namespace Go.Proofs.Ch
open Go Go.Proofs
set_option maxRecDepth 4000
set_option maxHeartbeats 1000000
theorem zer127 : Zer Tryz.prog 127 (.nilFunc) := by show _ = _; kernel_rfl
theorem zer24 : Zer Tryz.prog 24 (.agg ⟨[.int .i64 0, .bool false, .slice none 0 0, .slice none 0 0, .int .i64 0, .int .i64 0]⟩) := by show _ = _; kernel_rfl
theorem plc24 : Plc Tryz.prog (match Tryz.prog.underlying 24 with | some (.struct fs) => fs | _ => #[]) [(0, 1), (1, 1), (2, 1), (3, 1), (4, 1), (5, 1)] := fun _ => by kernel_rfl
theorem plc41 : Plc Tryz.prog (match Tryz.prog.underlying 41 with | some (.struct fs) => fs | _ => #[]) [(0, 32), (32, 1)] := fun _ => by kernel_rfl
theorem zer63 : Zer Tryz.prog 63 (.agg ⟨[.int .i64 0, .bool false, .slice none 0 0, .slice none 0 0, .int .i64 0, .int .i64 0, .slice none 0 0, .slice none 0 0]⟩) := by show _ = _; kernel_rfl
theorem plc63 : Plc Tryz.prog (match Tryz.prog.underlying 63 with | some (.struct fs) => fs | _ => #[]) [(0, 6), (6, 1), (7, 1)] := fun _ => by kernel_rfl
theorem siz63 : Siz Tryz.prog 63 8 := by show _ = _; kernel_rfl
theorem zer74 : Zer Tryz.prog 74 (.agg ⟨[.slice none 0 0, .slice none 0 0, .slice none 0 0, .slice none 0 0, .slice none 0 0, .slice none 0 0, .slice none 0 0, .slice none 0 0]⟩) := by show _ = _; kernel_rfl
theorem plc74 : Plc Tryz.prog (match Tryz.prog.underlying 74 with | some (.struct fs) => fs | _ => #[]) [(0, 1), (1, 1), (2, 1), (3, 1), (4, 1), (5, 1), (6, 1), (7, 1)] := fun _ => by kernel_rfl
theorem many63 : Many Tryz.prog 63 8 := Many.of Tryz.underlying63 rfl siz63
theorem auditz_fn (p : Pol) (a b x y : Option Addr) (ca cb cx cy : Nat) (xs : List Lst) (it : Dig) (cs : List Con) (h : Heap) (ha : SlI h a p.le) (hb : SlI h b p.ri) (hx : SlL h x xs) (hy : SlC h y cs) (hG : Gl h) (n : Nat) (ae : Option Addr) (hn : n ≤ 1) (hee : 0 < n → ∃ be, ae = some ⟨be, 0, none⟩ ∧ h be = some (.cells ⟨(dcells it ++ [.slice y cs.length cy])⟩ 41 (0, 0))) : Fn0 Tryz.prog 23 [.agg ⟨recz⟩, .slice none 0 0, .slice x xs.length cx, .agg ⟨(p.cells a b ca cb ++ [.slice ae n n, .slice none 0 0])⟩] h (.int .i64 (firstE [if n = 0 then 0 else if expE p xs it cs = 0 then 460 else expE p xs it cs, polE p, polE p])) := by
  refine Tr_of Tryz.func23 rfl rfl Tryz.ntmps23 rfl [(0, .agg ⟨recz⟩), (1, .slice none 0 0), (2, .slice x xs.length cx), (3, .agg ⟨(p.cells a b ca cb ++ [.slice ae n n, .slice none 0 0])⟩)] rfl ?_
  intro Lf
  refine den_seq ?_
  -- region 0
  refine den_region rfl ?_
  refine WL_box (zs := recz) rfl rfl rfl fun b4 => ?_
  refine WL_box (zs := [.slice none 0 0]) rfl rfl rfl fun b5 => ?_
  refine WL_box (zs := [.slice x xs.length cx]) rfl rfl rfl fun b6 => ?_
  refine WL_box (zs := (p.cells a b ca cb ++ [.slice ae n n, .slice none 0 0])) rfl rfl rfl fun b7 => ?_
  refine WL_v (v_assign rfl) rfl ?_
  refine WL_nil ?_
  refine den_seq ?_
  -- region 1
  refine den_region rfl ?_
  refine WL_makeMap rfl fun b14 => ?_
  refine WL_alloc zer120 rfl rfl fun b9 => ?_
  refine WL_store0 rfl rfl rfl siz120 rfl rfl rfl ?_
  refine WL_freeze fun h9 hl9 hb9 => ?_
  refine WL_freeze fun hm hlm hbm => ?_
  refine WL_freeze fun h7 hl7 hb7 => ?_
  refine WL_freeze fun h6 hl6 hb6 => ?_
  refine WL_freeze fun h5 hl5 hb5 => ?_
  refine WL_freeze fun h4 hl4 hb4 => ?_
  have c4 := hl4
  have c5 := hl5.trans c4
  have c6 := hl6.trans c5
  have c7 := hl7.trans c6
  have cm := hlm.trans c7
  have c9 := hl9.trans cm
  refine WL_nil ?_
  refine den_seq ?_
  refine den_seq ?_
  -- region 2
  refine den_region rfl ?_
  refine WL_v (v_loadn many74 rfl (Kn.per hb4) (show cut 0 8 recz = some recz from rfl)) rfl ?_
  refine WL_v (v_faddr Tryz.underlying63 rfl siz24 rfl) rfl ?_
  refine WL_v (v_loadn many24 rfl (Kn.per (c6 _ _ hb7)) (show cut 0 6 (p.cells a b ca cb ++ [.slice ae n n, .slice none 0 0]) = some (p.cells a b ca cb) from rfl)) rfl ?_
  refine WL_callp rfl (of_fn _ _) rfl fun v18 h18 hl18 hg18 => ?_
  obtain ⟨b20, b30, rfl, hb20⟩ := hg18
  refine WL_nil ?_
  refine den_block ?_
  refine den_each (Lb := []) (Lc := []) (of_iter b20 b30 _ hb20) (fun i h' L' => L' = []) (fun c h' L' => False) rfl rfl (by kernel_rfl) (fun i args hq hx => hx.elim) (fun _ _ _ _ _ x => x) rfl ?_ ?_ ?_
  · intro lp i args hq L1 r1 Lx hi hleq hitem hinv hrec
    exact hitem.elim
  · intro D hd Ld hled hI
    subst hI
    refine den_blk ?_
    refine den_seq ?_
    -- region 5
    refine den_region rfl ?_
    refine WL_v (v_func rfl rfl) rfl ?_
    refine WL_v (v_assign rfl) rfl ?_
    refine WL_nil ?_
    refine den_seq ?_
    -- region 6
    refine den_region rfl ?_
    refine WL_v (v_func rfl rfl) rfl ?_
    refine WL_v (v_assign rfl) rfl ?_
    refine WL_nil ?_
    refine den_seq ?_
    -- region 7
    refine den_region rfl ?_
    refine WL_v (v_func rfl rfl) rfl ?_
    refine WL_v (v_assign rfl) rfl ?_
    refine WL_nil ?_
    refine den_seq ?_
    -- region 8
    refine den_region rfl ?_
    refine WL_v (v_move rfl) rfl ?_
    refine WL_v (v_move rfl) rfl ?_
    refine WL_v (v_move rfl) rfl ?_
    refine WL_buildSlice Tryz.underlying184 zer127 rfl siz127 rfl rfl rfl rfl rfl fun b30_ => ?_
    refine WL_freeze fun h30_ hl30_ hb30_ => ?_
    obtain ⟨e1, he1⟩ : ∃ e1 : Int, e1 = (if n = 0 then 0 else if expE p xs it cs = 0 then 460 else expE p xs it cs) := ⟨_, rfl⟩
    obtain ⟨e2, he2⟩ : ∃ e2 : Int, e2 = polE p := ⟨_, rfl⟩
    have z := hl18.trans (hled.trans hl30_)
    have zz := c9.trans z
    have A1 : ∀ h8, Heap.le h30_ h8 → Fn0 Tryz.prog 58 [.pointer (some ⟨b7, 0, none⟩), .pointer (some ⟨b6, 0, none⟩), .pointer (some ⟨b9, 0, none⟩)] h8 (.int .i64 e1) := fun h8 y8 => by have w := z.trans y8; have ww := zz.trans y8; rw [he1]; exact audit1_fn p a b x y ca cb cx cy xs it cs h8 (ha.le ww) (hb.le ww) (hx.le ww) (hy.le ww) (hG.le ww) b7 b6 b9 b14 n ae (w _ _ (c6 _ _ hb7)) (w _ _ (c5 _ _ hb6)) (w _ _ (cm _ _ hb9)) (w _ _ (c7 _ _ hbm)) hn (fun g => by obtain ⟨be, e1, e2⟩ := hee g; exact ⟨be, e1, ww _ _ e2⟩)
    have A2 : ∀ h8, Heap.le h30_ h8 → Fn0 Tryz.prog 59 [.pointer (some ⟨b4, 0, none⟩), .pointer (some ⟨b5, 0, none⟩), .pointer (some ⟨b7, 0, none⟩)] h8 (.int .i64 e2) := fun h8 y8 => by have w := z.trans y8; have ww := zz.trans y8; rw [he2]; exact audit2_fn p a b ca cb h8 (ha.le ww) (hb.le ww) n b4 b5 b7 ae (w _ _ hb4) (w _ _ (c4 _ _ hb5)) (w _ _ (c6 _ _ hb7))
    have A3 : ∀ h8, Heap.le h30_ h8 → Fn0 Tryz.prog 60 [.pointer (some ⟨b4, 0, none⟩), .pointer (some ⟨b7, 0, none⟩)] h8 (.int .i64 e2) := fun h8 y8 => by have w := z.trans y8; have ww := zz.trans y8; rw [he2]; exact audit3_fn p a b ca cb h8 (ha.le ww) (hb.le ww) n b4 b7 ae (w _ _ hb4) (w _ _ (c6 _ _ hb7))
    have hbf : h30_ b30_ = some (.cells ⟨[.func (.func 58) ⟨[]⟩ ⟨[.pointer (some ⟨b7, 0, none⟩), .pointer (some ⟨b6, 0, none⟩), .pointer (some ⟨b9, 0, none⟩)]⟩, .func (.func 59) ⟨[]⟩ ⟨[.pointer (some ⟨b4, 0, none⟩), .pointer (some ⟨b5, 0, none⟩), .pointer (some ⟨b7, 0, none⟩)]⟩, .func (.func 60) ⟨[]⟩ ⟨[.pointer (some ⟨b4, 0, none⟩), .pointer (some ⟨b7, 0, none⟩)]⟩]⟩ 127 (0, 0)) := hb30_
    have B1 : ∀ h8, Heap.le h30_ h8 → TrV Tryz.prog (.func (.func 58) ⟨[]⟩ ⟨[.pointer (some ⟨b7, 0, none⟩), .pointer (some ⟨b6, 0, none⟩), .pointer (some ⟨b9, 0, none⟩)]⟩) [] h8 [] (fun v _ L' => v = .int .i64 e1 ∧ L' = []) := fun h8 y8 => TrV.of (fi := []) (vs := []) (ca := [.pointer (some ⟨b7, 0, none⟩), .pointer (some ⟨b6, 0, none⟩), .pointer (some ⟨b9, 0, none⟩)]) (A1 h8 y8) rfl
    have B2 : ∀ h8, Heap.le h30_ h8 → TrV Tryz.prog (.func (.func 59) ⟨[]⟩ ⟨[.pointer (some ⟨b4, 0, none⟩), .pointer (some ⟨b5, 0, none⟩), .pointer (some ⟨b7, 0, none⟩)]⟩) [] h8 [] (fun v _ L' => v = .int .i64 e2 ∧ L' = []) := fun h8 y8 => TrV.of (fi := []) (vs := []) (ca := [.pointer (some ⟨b4, 0, none⟩), .pointer (some ⟨b5, 0, none⟩), .pointer (some ⟨b7, 0, none⟩)]) (A2 h8 y8) rfl
    have B3 : ∀ h8, Heap.le h30_ h8 → TrV Tryz.prog (.func (.func 60) ⟨[]⟩ ⟨[.pointer (some ⟨b4, 0, none⟩), .pointer (some ⟨b7, 0, none⟩)]⟩) [] h8 [] (fun v _ L' => v = .int .i64 e2 ∧ L' = []) := fun h8 y8 => TrV.of (fi := []) (vs := []) (ca := [.pointer (some ⟨b4, 0, none⟩), .pointer (some ⟨b7, 0, none⟩)]) (A3 h8 y8) rfl
    have hff := first_fn b30_ [.func (.func 58) ⟨[]⟩ ⟨[.pointer (some ⟨b7, 0, none⟩), .pointer (some ⟨b6, 0, none⟩), .pointer (some ⟨b9, 0, none⟩)]⟩, .func (.func 59) ⟨[]⟩ ⟨[.pointer (some ⟨b4, 0, none⟩), .pointer (some ⟨b5, 0, none⟩), .pointer (some ⟨b7, 0, none⟩)]⟩, .func (.func 60) ⟨[]⟩ ⟨[.pointer (some ⟨b4, 0, none⟩), .pointer (some ⟨b7, 0, none⟩)]⟩] [e1, e2, e2] h30_ rfl (by simp) hbf (fun i h8 hi hl8 => by match i, hi with | 0, _ => exact B1 h8 hl8 | 1, _ => exact B2 h8 hl8 | 2, _ => exact B3 h8 hl8)
    refine WL_callq rfl hff rfl ?_
    refine WL_v (v_assign rfl) rfl ?_
    refine WL_nil ?_
    refine den_ret ?_
    refine ends_mark (A := []) ?_
    exact ends1 Tryz.results23 rfl (c9.trans (hl18.trans (hled.trans hl30_))) (.cons _ (List.Sublist.refl _)) ⟨by rw [he1, he2], rfl⟩
  · intro D c hd Ld hled hX
    exact hX.elim

def p0 : Pol := ⟨1, true, [0], [1], 1, 2⟩
def p1 : Pol := ⟨0, false, [3], [3], 0, 0⟩
def p2 : Pol := ⟨0, false, [], [], 2, 1⟩
def dz5 : Dig := #v[5, 0, 0, 0, 0, 0, 0, 0, 0, 0, 0, 0, 0, 0, 0, 0, 0, 0, 0, 0, 0, 0, 0, 0, 0, 0, 0, 0, 0, 0, 0, 0]
theorem pq0 : polE p0 = 0 := by decide +kernel
theorem pq1 : polE p1 = 460 := by decide +kernel
theorem pq2 : polE p2 = 460 := by decide +kernel
theorem apcg0 : p0.good := by decide +kernel
theorem ape0 : apE 0 1 = 0 := by decide +kernel
theorem ape1 : apE 1 2 = 0 := by decide +kernel
theorem ape8 : apE 8 9 = 0 := by decide +kernel
theorem ape512 : apE 512 1 = 1 := by decide +kernel
theorem apC_dev {it : Dig} {d : Int} (h : dev d) : apC it d (d + 1) = ⟨d, sgR (d + 1) (pmsg it d).toList, sgS (d + 1) (pmsg it d).toList⟩ := if_pos ⟨h, isPr_dev h⟩
theorem cok_ap {xs : List Lst} {it : Dig} {d : Int} {k : Nat} (h : dev d) (hk : at_ xs d = k) (hx : xs.getD k lstz = lsd d false) : cok xs it (apC it d (d + 1)) := by
  rw [apC_dev h]
  have hv : (lsd d false).v = gexpV 4 (d + 1) := if_pos (isPr_dev h)
  exact cok_mk hk.symm (by rw [hx]; rfl) h (by rw [hx, hv]; exact vrf_sign (isPr_dev h))
theorem ows_one {xs : List Lst} {it : Dig} {c : Con} (h : cok xs it c) : ows xs it [c] = [own c.d] := by
  unfold ows; rw [List.filter_cons, if_pos (decide_eq_true h)]; rfl
theorem ows_none {xs : List Lst} {it : Dig} {c : Con} (h : ¬ cok xs it c) : ows xs it [c] = [] := by
  unfold ows; rw [List.filter_cons, if_neg (by simpa only [decide_eq_true_eq] using h)]; rfl
theorem ows_two (xs : List Lst) (it : Dig) (c d : Con) : ows xs it [c, d] = ows xs it [c] ++ ows xs it [d] := ows_app xs it [c] [d]
noncomputable def xs3 : List Lst := [lsd 0 false, lsd 1 false, lsd 8 false]
theorem a30 : at_ xs3 0 = 0 := at_some (i := 0) (by decide) rfl (fun j hj => by omega)
theorem a31 : at_ xs3 1 = 1 := at_some (i := 1) (by decide) rfl (fun j hj => by
  obtain rfl : j = 0 := by omega
  show (0 : Int) ≠ 1; decide)
theorem a38 : at_ xs3 8 = 2 := at_some (i := 2) (by decide) rfl (fun j hj => by
  rcases (by omega : j = 0 ∨ j = 1) with rfl | rfl
  · show (0 : Int) ≠ 8; decide
  · show (1 : Int) ≠ 8; decide)
theorem dv (n : Nat) (h : n < 512) : dev n := ⟨by omega, by omega⟩
theorem c30 (it : Dig) : cok xs3 it (apC it 0 1) := cok_ap (d := 0) (k := 0) (dv 0 (by decide)) a30 rfl
theorem c31 (it : Dig) : cok xs3 it (apC it 1 2) := cok_ap (d := 1) (k := 1) (dv 1 (by decide)) a31 rfl
theorem c38 (it : Dig) : cok xs3 it (apC it 8 9) := cok_ap (d := 8) (k := 2) (dv 8 (by decide)) a38 rfl
theorem apcd0 (it : Dig) : (apC it 0 1).d = 0 := by rw [show apC it 0 1 = _ from apC_dev (d := 0) (dv 0 (by decide))]
theorem apcd1 (it : Dig) : (apC it 1 2).d = 1 := by rw [show apC it 1 2 = _ from apC_dev (d := 1) (dv 1 (by decide))]
theorem apcd8 (it : Dig) : (apC it 8 9).d = 8 := by rw [show apC it 8 9 = _ from apC_dev (d := 8) (dv 8 (by decide))]
theorem x08 (it : Dig) : expE p0 xs3 it [apC it 0 1, apC it 8 9] = 0 := by
  unfold expE
  rw [if_pos apcg0, ows_two, ows_one (c30 it), ows_one (c38 it), apcd0, apcd8, if_neg (by decide)]
theorem x01 (it : Dig) : expE p0 xs3 it [apC it 0 1, apC it 1 2] = 460 := by
  unfold expE
  rw [if_pos apcg0, ows_two, ows_one (c30 it), ows_one (c31 it), apcd0, apcd1, if_pos (by decide)]
theorem x00 (it : Dig) : expE p0 [] it [] = 460 := by
  unfold expE
  rw [if_pos apcg0]; exact if_pos (.inl rfl)
theorem sane46_fn (h : Heap) (hG : Gl h) : Fn0 Tryz.prog 7 [] h (.bool true) := by
  refine Tr_of Tryz.func7 rfl rfl Tryz.ntmps7 rfl [] rfl ?_
  intro Lf
  refine den_seq ?_
  -- region 0
  refine den_region rfl ?_
  refine WL_v (v_assign rfl) rfl ?_
  refine WL_nil ?_
  refine den_seq ?_
  -- region 1
  refine den_region rfl ?_
  refine WL_buildSlice Tryz.underlying22 zer3 rfl siz3 rfl rfl rfl rfl rfl fun b15 => ?_
  refine WL_freeze fun h15 hl15 hb15 => ?_
  have hG := hG.le hl15
  have z := hl15
  refine WL_buildSlice Tryz.underlying22 zer3 rfl siz3 rfl rfl rfl rfl rfl fun b16 => ?_
  refine WL_freeze fun h16 hl16 hb16 => ?_
  have hG := hG.le hl16
  have hb15 := hl16 _ _ hb15
  have z := z.trans hl16
  refine WL_v (v_builds (r := (p0.cells (some ⟨b15, 0, none⟩) (some ⟨b16, 0, none⟩) 1 1)) Tryz.underlying24 zer24 plc24 rfl rfl rfl) rfl ?_
  refine WL_alloc zer24 rfl rfl fun b1 => ?_
  refine WL_store0 rfl rfl (us := (p0.cells (some ⟨b15, 0, none⟩) (some ⟨b16, 0, none⟩) 1 1)) rfl siz24 (by exact spl_all (rfl)) (rfl) rfl ?_
  refine WL_freeze fun h1 hl1 hb1 => ?_
  have hG := hG.le hl1
  have hb15 := hl1 _ _ hb15
  have hb16 := hl1 _ _ hb16
  have z := z.trans hl1
  refine WL_nil ?_
  refine den_seq ?_
  -- region 2
  refine den_region rfl ?_
  refine WL_v (v_builda (r := dcells dz5) Tryz.underlying26 zer26 siz5 rfl (by kernel_rfl)) rfl ?_
  refine WL_alloc zer26 rfl rfl fun b2 => ?_
  refine WL_store0 rfl rfl (us := (dcells dz5)) rfl siz26 (by exact spl_all (rfl)) (rfl) rfl ?_
  refine WL_freeze fun h2 hl2 hb2 => ?_
  have hG := hG.le hl2
  have hb15 := hl2 _ _ hb15
  have hb16 := hl2 _ _ hb16
  have hb1 := hl2 _ _ hb1
  have z := z.trans hl2
  refine WL_nil ?_
  refine den_seq ?_
  -- region 3
  refine den_region rfl ?_
  refine WL_v (v_loadn many26 rfl (Kn.per hb2) (cut_self rfl)) rfl ?_
  refine WL_callq rfl (approve_fn dz5 0 1 _ hG) rfl ?_
  rw [show apE 0 1 = _ from ape0]
  refine WL_v (v_move rfl) rfl ?_
  refine WL_v (v_extract rfl rfl) rfl ?_
  refine WL_v (v_extract rfl rfl) rfl ?_
  refine WL_alloc zer32 rfl rfl fun b3 => ?_
  refine WL_store0 rfl rfl (us := (apC dz5 0 1).cells) rfl siz32 (by exact spl_all (Con.len _)) (Con.one _) rfl ?_
  refine WL_freeze fun h3 hl3 hb3 => ?_
  have hG := hG.le hl3
  have hb15 := hl3 _ _ hb15
  have hb16 := hl3 _ _ hb16
  have hb1 := hl3 _ _ hb1
  have hb2 := hl3 _ _ hb2
  have z := z.trans hl3
  refine WL_v (v_assign rfl) rfl ?_
  refine WL_nil ?_
  refine den_seq ?_
  -- region 4
  refine den_region rfl ?_
  refine WL_v (v_loadn many26 rfl (Kn.per hb2) (cut_self rfl)) rfl ?_
  refine WL_callq rfl (approve_fn dz5 1 2 _ hG) rfl ?_
  rw [show apE 1 2 = _ from ape1]
  refine WL_v (v_move rfl) rfl ?_
  refine WL_v (v_extract rfl rfl) rfl ?_
  refine WL_v (v_extract rfl rfl) rfl ?_
  refine WL_alloc zer32 rfl rfl fun b5 => ?_
  refine WL_store0 rfl rfl (us := (apC dz5 1 2).cells) rfl siz32 (by exact spl_all (Con.len _)) (Con.one _) rfl ?_
  refine WL_freeze fun h5 hl5 hb5 => ?_
  have hG := hG.le hl5
  have hb15 := hl5 _ _ hb15
  have hb16 := hl5 _ _ hb16
  have hb1 := hl5 _ _ hb1
  have hb2 := hl5 _ _ hb2
  have hb3 := hl5 _ _ hb3
  have z := z.trans hl5
  refine WL_v (v_assign rfl) rfl ?_
  refine WL_nil ?_
  refine den_seq ?_
  -- region 5
  refine den_region rfl ?_
  refine WL_v (v_loadn many26 rfl (Kn.per hb2) (cut_self rfl)) rfl ?_
  refine WL_callq rfl (approve_fn dz5 8 9 _ hG) rfl ?_
  rw [show apE 8 9 = _ from ape8]
  refine WL_v (v_move rfl) rfl ?_
  refine WL_v (v_extract rfl rfl) rfl ?_
  refine WL_v (v_extract rfl rfl) rfl ?_
  refine WL_alloc zer32 rfl rfl fun b7 => ?_
  refine WL_store0 rfl rfl (us := (apC dz5 8 9).cells) rfl siz32 (by exact spl_all (Con.len _)) (Con.one _) rfl ?_
  refine WL_freeze fun h7 hl7 hb7 => ?_
  have hG := hG.le hl7
  have hb15 := hl7 _ _ hb15
  have hb16 := hl7 _ _ hb16
  have hb1 := hl7 _ _ hb1
  have hb2 := hl7 _ _ hb2
  have hb3 := hl7 _ _ hb3
  have hb5 := hl7 _ _ hb5
  have z := z.trans hl7
  refine WL_v (v_assign rfl) rfl ?_
  refine WL_nil ?_
  refine den_seq ?_
  -- region 6
  refine den_region rfl ?_
  refine WL_v (v_loadn many26 rfl (Kn.per hb2) (cut_self rfl)) rfl ?_
  refine WL_callq rfl (approve_fn dz5 512 1 _ hG) rfl ?_
  rw [show apE 512 1 = _ from ape512]
  refine WL_v (v_move rfl) rfl ?_
  refine WL_v (v_extract rfl rfl) rfl ?_
  refine WL_v (v_extract rfl rfl) rfl ?_
  refine WL_alloc zer32 rfl rfl fun b9 => ?_
  refine WL_store0 rfl rfl (us := (apC dz5 512 1).cells) rfl siz32 (by exact spl_all (Con.len _)) (Con.one _) rfl ?_
  refine WL_freeze fun h9 hl9 hb9 => ?_
  have hG := hG.le hl9
  have hb15 := hl9 _ _ hb15
  have hb16 := hl9 _ _ hb16
  have hb1 := hl9 _ _ hb1
  have hb2 := hl9 _ _ hb2
  have hb3 := hl9 _ _ hb3
  have hb5 := hl9 _ _ hb5
  have hb7 := hl9 _ _ hb7
  have z := z.trans hl9
  refine WL_v (v_assign rfl) rfl ?_
  refine WL_nil ?_
  refine den_seq ?_
  -- region 7
  refine den_region rfl ?_
  refine WL_callq rfl (listed_fn 0 _ (dv 0 (by decide))) rfl ?_
  refine WL_callq rfl (listed_fn 1 _ (dv 1 (by decide))) rfl ?_
  refine WL_callq rfl (listed_fn 8 _ (dv 8 (by decide))) rfl ?_
  refine WL_buildSlice Tryz.underlying38 zer49 rfl siz49 rfl rfl rfl rfl rfl fun b42 => ?_
  refine WL_freeze fun h42 hl42 hb42 => ?_
  have hG := hG.le hl42
  have hb15 := hl42 _ _ hb15
  have hb16 := hl42 _ _ hb16
  have hb1 := hl42 _ _ hb1
  have hb2 := hl42 _ _ hb2
  have hb3 := hl42 _ _ hb3
  have hb5 := hl42 _ _ hb5
  have hb7 := hl42 _ _ hb7
  have hb9 := hl42 _ _ hb9
  have z := z.trans hl42
  have hx : SlL h42 (some ⟨b42, 0, none⟩) xs3 := SlL.of (l := xs3) hb42 (by decide)
  refine WL_v (v_assign rfl) rfl ?_
  refine WL_nil ?_
  refine den_seq ?_
  -- region 8
  refine den_region rfl ?_
  refine WL_buildSlice Tryz.underlying22 zer3 rfl siz3 rfl rfl rfl rfl rfl fun b43 => ?_
  refine WL_freeze fun h43 hl43 hb43 => ?_
  have hG := hG.le hl43
  have hb15 := hl43 _ _ hb15
  have hb16 := hl43 _ _ hb16
  have hb1 := hl43 _ _ hb1
  have hb2 := hl43 _ _ hb2
  have hb3 := hl43 _ _ hb3
  have hb5 := hl43 _ _ hb5
  have hb7 := hl43 _ _ hb7
  have hb9 := hl43 _ _ hb9
  have hx := hx.le hl43
  have z := z.trans hl43
  refine WL_buildSlice Tryz.underlying22 zer3 rfl siz3 rfl rfl rfl rfl rfl fun b44 => ?_
  refine WL_freeze fun h44 hl44 hb44 => ?_
  have hG := hG.le hl44
  have hb15 := hl44 _ _ hb15
  have hb16 := hl44 _ _ hb16
  have hb1 := hl44 _ _ hb1
  have hb2 := hl44 _ _ hb2
  have hb3 := hl44 _ _ hb3
  have hb5 := hl44 _ _ hb5
  have hb7 := hl44 _ _ hb7
  have hb9 := hl44 _ _ hb9
  have hx := hx.le hl44
  have hb43 := hl44 _ _ hb43
  have z := z.trans hl44
  refine WL_v (v_builds (r := (p1.cells (some ⟨b43, 0, none⟩) (some ⟨b44, 0, none⟩) 1 1)) Tryz.underlying24 zer24 plc24 rfl rfl rfl) rfl ?_
  refine WL_alloc zer24 rfl rfl fun b12 => ?_
  refine WL_store0 rfl rfl (us := (p1.cells (some ⟨b43, 0, none⟩) (some ⟨b44, 0, none⟩) 1 1)) rfl siz24 (by exact spl_all (rfl)) (rfl) rfl ?_
  refine WL_freeze fun h12 hl12 hb12 => ?_
  have hG := hG.le hl12
  have hb15 := hl12 _ _ hb15
  have hb16 := hl12 _ _ hb16
  have hb1 := hl12 _ _ hb1
  have hb2 := hl12 _ _ hb2
  have hb3 := hl12 _ _ hb3
  have hb5 := hl12 _ _ hb5
  have hb7 := hl12 _ _ hb7
  have hb9 := hl12 _ _ hb9
  have hx := hx.le hl12
  have hb43 := hl12 _ _ hb43
  have hb44 := hl12 _ _ hb44
  have z := z.trans hl12
  refine WL_nil ?_
  refine den_seq ?_
  -- region 9
  refine den_region rfl ?_
  refine WL_v (v_loadn many24 rfl (Kn.per hb1) (show cut 0 6 (p0.cells (some ⟨b15, 0, none⟩) (some ⟨b16, 0, none⟩) 1 1) = some (p0.cells (some ⟨b15, 0, none⟩) (some ⟨b16, 0, none⟩) 1 1) from rfl)) rfl ?_
  refine WL_v (v_loadn many26 rfl (Kn.per hb2) (cut_self rfl)) rfl ?_
  refine WL_v (v_loadn many32 rfl (Kn.per hb3) (Con.cutS _)) rfl ?_
  refine WL_v (v_loadn many32 rfl (Kn.per hb7) (Con.cutS _)) rfl ?_
  refine WL_buildSlice Tryz.underlying39 zer32 rfl siz32 rfl rfl rfl rfl rfl fun b50 => ?_
  refine WL_freeze fun h50 hl50 hb50 => ?_
  have hG := hG.le hl50
  have hb15 := hl50 _ _ hb15
  have hb16 := hl50 _ _ hb16
  have hb1 := hl50 _ _ hb1
  have hb2 := hl50 _ _ hb2
  have hb3 := hl50 _ _ hb3
  have hb5 := hl50 _ _ hb5
  have hb7 := hl50 _ _ hb7
  have hb9 := hl50 _ _ hb9
  have hx := hx.le hl50
  have hb43 := hl50 _ _ hb43
  have hb44 := hl50 _ _ hb44
  have hb12 := hl50 _ _ hb12
  have z := z.trans hl50
  have hy : SlC h50 (some ⟨b50, 0, none⟩) [apC dz5 0 1, apC dz5 8 9] := SlC.of (l := [apC dz5 0 1, apC dz5 8 9]) hb50 (by decide)
  refine WL_v (v_builds (r := (dcells dz5 ++ [.slice (some ⟨b50, 0, none⟩) 2 2])) Tryz.underlying41 zer41 plc41 rfl rfl rfl) rfl ?_
  refine WL_buildSlice Tryz.underlying43 zer41 rfl siz41 rfl rfl rfl rfl rfl fun b52 => ?_
  refine WL_freeze fun h52 hl52 hb52 => ?_
  have hG := hG.le hl52
  have hb15 := hl52 _ _ hb15
  have hb16 := hl52 _ _ hb16
  have hb1 := hl52 _ _ hb1
  have hb2 := hl52 _ _ hb2
  have hb3 := hl52 _ _ hb3
  have hb5 := hl52 _ _ hb5
  have hb7 := hl52 _ _ hb7
  have hb9 := hl52 _ _ hb9
  have hx := hx.le hl52
  have hb43 := hl52 _ _ hb43
  have hb44 := hl52 _ _ hb44
  have hb12 := hl52 _ _ hb12
  have hy := hy.le hl52
  have z := z.trans hl52
  refine WL_v (v_builds (r := ((p0.cells (some ⟨b15, 0, none⟩) (some ⟨b16, 0, none⟩) 1 1) ++ [.slice (some ⟨b52, 0, none⟩) 1 1, .slice none 0 0])) Tryz.underlying63 zer63 plc63 rfl rfl rfl) rfl ?_
  refine WL_alloc zer63 rfl rfl fun b13 => ?_
  refine WL_store0 rfl rfl (us := ((p0.cells (some ⟨b15, 0, none⟩) (some ⟨b16, 0, none⟩) 1 1) ++ [.slice (some ⟨b52, 0, none⟩) 1 1, .slice none 0 0])) rfl (show Siz _ _ (((p0.cells (some ⟨b15, 0, none⟩) (some ⟨b16, 0, none⟩) 1 1) ++ [.slice (some ⟨b52, 0, none⟩) 1 1, .slice none 0 0]) : List Value).length from siz63) (by exact spl_all (rfl)) (rfl) rfl ?_
  refine WL_freeze fun h13 hl13 hb13 => ?_
  have hG := hG.le hl13
  have hb15 := hl13 _ _ hb15
  have hb16 := hl13 _ _ hb16
  have hb1 := hl13 _ _ hb1
  have hb2 := hl13 _ _ hb2
  have hb3 := hl13 _ _ hb3
  have hb5 := hl13 _ _ hb5
  have hb7 := hl13 _ _ hb7
  have hb9 := hl13 _ _ hb9
  have hx := hx.le hl13
  have hb43 := hl13 _ _ hb43
  have hb44 := hl13 _ _ hb44
  have hb12 := hl13 _ _ hb12
  have hy := hy.le hl13
  have hb52 := hl13 _ _ hb52
  have z := z.trans hl13
  refine WL_nil ?_
  refine den_seq ?_
  -- region 10
  refine den_region rfl ?_
  have ha : SlI _ (some ⟨b15, 0, none⟩) [0] := SlI.of (l := [0]) hb15 (by decide)
  have hd : SlI _ (some ⟨b16, 0, none⟩) [1] := SlI.of (l := [1]) hb16 (by decide)
  have ha3 : SlI _ (some ⟨b43, 0, none⟩) [3] := SlI.of (l := [3]) hb43 (by decide)
  have hc3 : SlI _ (some ⟨b44, 0, none⟩) [3] := SlI.of (l := [3]) hb44 (by decide)
  refine WL_v (v_move rfl) rfl ?_
  refine WL_v (OpV.to (v' := .bool true) (v_eql rfl rfl) (by first | rfl | simp)) rfl ?_
  refine WL_v (v_move rfl) rfl ?_
  refine WL_vg rfl rfl (v_move rfl) rfl ?_
  refine WL_vg rfl rfl (OpV.to (v' := .bool true) (v_eql rfl rfl) (by first | rfl | simp)) rfl ?_
  refine WL_v (v_pickt rfl rfl) rfl ?_
  refine WL_v (v_move rfl) rfl ?_
  refine WL_vg rfl rfl (v_move rfl) rfl ?_
  refine WL_vg rfl rfl (OpV.to (v' := .bool true) (v_eql rfl rfl) (by first | rfl | simp)) rfl ?_
  refine WL_v (v_pickt rfl rfl) rfl ?_
  refine WL_v (v_move rfl) rfl ?_
  refine WL_vg rfl rfl (v_move rfl) rfl ?_
  refine WL_vg rfl rfl (OpV.to (v' := .bool true) (v_eql rfl rfl) (by first | rfl | simp)) rfl ?_
  refine WL_v (v_pickt rfl rfl) rfl ?_
  refine WL_v (v_move rfl) rfl ?_
  refine WL_vg rfl rfl (v_loadn many24 rfl (Kn.per hb1) (show cut 0 6 (p0.cells (some ⟨b15, 0, none⟩) (some ⟨b16, 0, none⟩) 1 1) = some (p0.cells (some ⟨b15, 0, none⟩) (some ⟨b16, 0, none⟩) 1 1) from rfl)) rfl ?_
  refine WL_callqg rfl rfl rfl (check_fn p0 _ _ _ _ _ ha hd) rfl ?_
  rw [pq0]
  refine WL_vg rfl rfl (OpV.to (v' := .bool true) (v_eql rfl rfl) (by first | rfl | simp)) rfl ?_
  refine WL_v (v_pickt rfl rfl) rfl ?_
  refine WL_v (v_move rfl) rfl ?_
  refine WL_vg rfl rfl (v_loadn many24 rfl (Kn.per hb12) (show cut 0 6 (p1.cells (some ⟨b43, 0, none⟩) (some ⟨b44, 0, none⟩) 1 1) = some (p1.cells (some ⟨b43, 0, none⟩) (some ⟨b44, 0, none⟩) 1 1) from rfl)) rfl ?_
  refine WL_callqg rfl rfl rfl (check_fn p1 _ _ _ _ _ ha3 hc3) rfl ?_
  rw [pq1]
  refine WL_vg rfl rfl (OpV.to (v' := .bool true) (v_eql rfl rfl) (by first | rfl | simp)) rfl ?_
  refine WL_v (v_pickt rfl rfl) rfl ?_
  refine WL_v (v_move rfl) rfl ?_
  refine WL_vg rfl rfl (v_builds (r := (p2.cells none none 0 0)) Tryz.underlying24 zer24 plc24 rfl rfl rfl) rfl ?_
  refine WL_callqg rfl rfl rfl (check_fn p2 _ _ _ _ _ (SlI.nil _) (SlI.nil _)) rfl ?_
  rw [pq2]
  refine WL_vg rfl rfl (OpV.to (v' := .bool true) (v_eql rfl rfl) (by first | rfl | simp)) rfl ?_
  refine WL_v (v_pickt rfl rfl) rfl ?_
  refine WL_v (v_move rfl) rfl ?_
  refine WL_vg rfl rfl (v_loadn many24 rfl (Kn.per hb1) (show cut 0 6 (p0.cells (some ⟨b15, 0, none⟩) (some ⟨b16, 0, none⟩) 1 1) = some (p0.cells (some ⟨b15, 0, none⟩) (some ⟨b16, 0, none⟩) 1 1) from rfl)) rfl ?_
  refine WL_vg rfl rfl (v_move rfl) rfl ?_
  refine WL_vg rfl rfl (v_loadn many26 rfl (Kn.per hb2) (cut_self rfl)) rfl ?_
  refine WL_vg rfl rfl (v_loadn many32 rfl (Kn.per hb3) (Con.cutS _)) rfl ?_
  refine WL_vg rfl rfl (v_loadn many32 rfl (Kn.per hb7) (Con.cutS _)) rfl ?_
  refine WL_buildSliceg rfl rfl Tryz.underlying39 zer32 rfl siz32 rfl rfl rfl rfl rfl fun b89 => ?_
  refine WL_freeze fun h89 hl89 hb89 => ?_
  have hG := hG.le hl89
  have hb15 := hl89 _ _ hb15
  have hb16 := hl89 _ _ hb16
  have hb1 := hl89 _ _ hb1
  have hb2 := hl89 _ _ hb2
  have hb3 := hl89 _ _ hb3
  have hb5 := hl89 _ _ hb5
  have hb7 := hl89 _ _ hb7
  have hb9 := hl89 _ _ hb9
  have hx := hx.le hl89
  have hb43 := hl89 _ _ hb43
  have hb44 := hl89 _ _ hb44
  have hb12 := hl89 _ _ hb12
  have hy := hy.le hl89
  have hb52 := hl89 _ _ hb52
  have hb13 := hl89 _ _ hb13
  have ha := ha.le hl89
  have hd := hd.le hl89
  have ha3 := ha3.le hl89
  have hc3 := hc3.le hl89
  have z := z.trans hl89
  have hy2 : SlC h89 (some ⟨b89, 0, none⟩) [apC dz5 0 1, apC dz5 8 9] := SlC.of (l := [apC dz5 0 1, apC dz5 8 9]) hb89 (by decide)
  refine WL_vg rfl rfl (v_builds (r := (dcells dz5 ++ [.slice (some ⟨b89, 0, none⟩) 2 2])) Tryz.underlying41 zer41 plc41 rfl rfl rfl) rfl ?_
  refine WL_callqg rfl rfl rfl (export_fn p0 _ _ _ _ _ _ _ _ xs3 dz5 [apC dz5 0 1, apC dz5 8 9] _ ha hd hx hy2 hG) rfl ?_
  rw [x08]
  refine WL_vg rfl rfl (OpV.to (v' := .bool true) (v_eql rfl rfl) (by first | rfl | simp)) rfl ?_
  refine WL_v (v_pickt rfl rfl) rfl ?_
  refine WL_v (v_move rfl) rfl ?_
  refine WL_vg rfl rfl (v_loadn many24 rfl (Kn.per hb1) (show cut 0 6 (p0.cells (some ⟨b15, 0, none⟩) (some ⟨b16, 0, none⟩) 1 1) = some (p0.cells (some ⟨b15, 0, none⟩) (some ⟨b16, 0, none⟩) 1 1) from rfl)) rfl ?_
  refine WL_vg rfl rfl (v_move rfl) rfl ?_
  refine WL_vg rfl rfl (v_loadn many26 rfl (Kn.per hb2) (cut_self rfl)) rfl ?_
  refine WL_vg rfl rfl (v_loadn many32 rfl (Kn.per hb3) (Con.cutS _)) rfl ?_
  refine WL_vg rfl rfl (v_loadn many32 rfl (Kn.per hb5) (Con.cutS _)) rfl ?_
  refine WL_buildSliceg rfl rfl Tryz.underlying39 zer32 rfl siz32 rfl rfl rfl rfl rfl fun b100 => ?_
  refine WL_freeze fun h100 hl100 hb100 => ?_
  have hG := hG.le hl100
  have hb15 := hl100 _ _ hb15
  have hb16 := hl100 _ _ hb16
  have hb1 := hl100 _ _ hb1
  have hb2 := hl100 _ _ hb2
  have hb3 := hl100 _ _ hb3
  have hb5 := hl100 _ _ hb5
  have hb7 := hl100 _ _ hb7
  have hb9 := hl100 _ _ hb9
  have hx := hx.le hl100
  have hb43 := hl100 _ _ hb43
  have hb44 := hl100 _ _ hb44
  have hb12 := hl100 _ _ hb12
  have hy := hy.le hl100
  have hb52 := hl100 _ _ hb52
  have hb13 := hl100 _ _ hb13
  have ha := ha.le hl100
  have hd := hd.le hl100
  have ha3 := ha3.le hl100
  have hc3 := hc3.le hl100
  have z := z.trans hl100
  have hy3 : SlC h100 (some ⟨b100, 0, none⟩) [apC dz5 0 1, apC dz5 1 2] := SlC.of (l := [apC dz5 0 1, apC dz5 1 2]) hb100 (by decide)
  refine WL_vg rfl rfl (v_builds (r := (dcells dz5 ++ [.slice (some ⟨b100, 0, none⟩) 2 2])) Tryz.underlying41 zer41 plc41 rfl rfl rfl) rfl ?_
  refine WL_callqg rfl rfl rfl (export_fn p0 _ _ _ _ _ _ _ _ xs3 dz5 [apC dz5 0 1, apC dz5 1 2] _ ha hd hx hy3 hG) rfl ?_
  rw [x01]
  refine WL_vg rfl rfl (OpV.to (v' := .bool true) (v_eql rfl rfl) (by first | rfl | simp)) rfl ?_
  refine WL_v (v_pickt rfl rfl) rfl ?_
  refine WL_v (v_assign rfl) rfl ?_
  refine WL_nil ?_
  refine den_seq ?_
  -- region 11
  refine den_region rfl ?_
  refine WL_v (v_move rfl) rfl ?_
  refine WL_v (v_move rfl) rfl ?_
  refine WL_vg rfl rfl (v_loadn many24 rfl (Kn.per hb1) (show cut 0 6 (p0.cells (some ⟨b15, 0, none⟩) (some ⟨b16, 0, none⟩) 1 1) = some (p0.cells (some ⟨b15, 0, none⟩) (some ⟨b16, 0, none⟩) 1 1) from rfl)) rfl ?_
  refine WL_vg rfl rfl (v_builds (r := (dcells dz ++ [.slice none 0 0])) Tryz.underlying41 zer41 plc41 rfl rfl (by kernel_rfl)) rfl ?_
  refine WL_callqg rfl rfl rfl (export_fn p0 _ _ _ _ _ _ _ _ [] dz [] _ ha hd (SlL.nil _) (SlC.nil _) hG) rfl ?_
  rw [x00]
  refine WL_vg rfl rfl (OpV.to (v' := .bool true) (v_eql rfl rfl) (by first | rfl | simp)) rfl ?_
  refine WL_v (v_pickt rfl rfl) rfl ?_
  refine WL_v (v_move rfl) rfl ?_
  refine WL_vg rfl rfl (v_builds (r := recz) Tryz.underlying74 zer74 plc74 rfl rfl (by kernel_rfl)) rfl ?_
  refine WL_vg rfl rfl (v_loadn many24 rfl (Kn.per hb1) (show cut 0 6 (p0.cells (some ⟨b15, 0, none⟩) (some ⟨b16, 0, none⟩) 1 1) = some (p0.cells (some ⟨b15, 0, none⟩) (some ⟨b16, 0, none⟩) 1 1) from rfl)) rfl ?_
  refine WL_callqg rfl rfl rfl (apartz_fn p0 _ _ _ _ _ ha hd) rfl ?_
  rw [pq0]
  refine WL_vg rfl rfl (OpV.to (v' := .bool true) (v_eql rfl rfl) (by first | rfl | simp)) rfl ?_
  refine WL_v (v_pickt rfl rfl) rfl ?_
  refine WL_v (v_move rfl) rfl ?_
  refine WL_vg rfl rfl (v_builds (r := recz) Tryz.underlying74 zer74 plc74 rfl rfl (by kernel_rfl)) rfl ?_
  refine WL_vg rfl rfl (v_loadn many24 rfl (Kn.per hb1) (show cut 0 6 (p0.cells (some ⟨b15, 0, none⟩) (some ⟨b16, 0, none⟩) 1 1) = some (p0.cells (some ⟨b15, 0, none⟩) (some ⟨b16, 0, none⟩) 1 1) from rfl)) rfl ?_
  refine WL_callqg rfl rfl rfl (retainz_fn p0 _ _ _ _ _ ha hd) rfl ?_
  rw [pq0]
  refine WL_vg rfl rfl (OpV.to (v' := .bool true) (v_eql rfl rfl) (by first | rfl | simp)) rfl ?_
  refine WL_v (v_pickt rfl rfl) rfl ?_
  refine WL_v (v_move rfl) rfl ?_
  refine WL_vg rfl rfl (v_builds (r := recz) Tryz.underlying74 zer74 plc74 rfl rfl (by kernel_rfl)) rfl ?_
  refine WL_vg rfl rfl (v_move rfl) rfl ?_
  refine WL_vg rfl rfl (v_loadn many63 rfl (Kn.per hb13) (show cut 0 8 ((p0.cells (some ⟨b15, 0, none⟩) (some ⟨b16, 0, none⟩) 1 1) ++ [.slice (some ⟨b52, 0, none⟩) 1 1, .slice none 0 0]) = some ((p0.cells (some ⟨b15, 0, none⟩) (some ⟨b16, 0, none⟩) 1 1) ++ [.slice (some ⟨b52, 0, none⟩) 1 1, .slice none 0 0]) from rfl)) rfl ?_
  refine WL_callqg rfl rfl rfl (auditz_fn p0 _ _ _ _ _ _ _ _ xs3 dz5 [apC dz5 0 1, apC dz5 8 9] _ ha hd hx hy hG 1 _ (by decide) (fun _ => ⟨_, rfl, hb52⟩)) rfl ?_
  rw [x08, pq0]
  rw [show firstE [if (1 : Nat) = 0 then 0 else if (0 : Int) = 0 then 460 else 0, 0, 0] = 460 from by decide]
  refine WL_vg rfl rfl (OpV.to (v' := .bool true) (v_eql rfl rfl) (by first | rfl | simp)) rfl ?_
  refine WL_v (v_pickt rfl rfl) rfl ?_
  refine WL_v (v_move rfl) rfl ?_
  refine WL_vg rfl rfl (v_builds (r := recz) Tryz.underlying74 zer74 plc74 rfl rfl (by kernel_rfl)) rfl ?_
  refine WL_vg rfl rfl (v_loadn many24 rfl (Kn.per hb1) (show cut 0 6 (p0.cells (some ⟨b15, 0, none⟩) (some ⟨b16, 0, none⟩) 1 1) = some (p0.cells (some ⟨b15, 0, none⟩) (some ⟨b16, 0, none⟩) 1 1) from rfl)) rfl ?_
  refine WL_vg rfl rfl (v_builds (r := ((p0.cells (some ⟨b15, 0, none⟩) (some ⟨b16, 0, none⟩) 1 1) ++ [.slice none 0 0, .slice none 0 0])) Tryz.underlying63 zer63 plc63 rfl rfl rfl) rfl ?_
  refine WL_callqg rfl rfl rfl (auditz_fn p0 _ _ _ none _ _ _ 0 [] dz [] _ ha hd (SlL.nil _) (SlC.nil _) hG 0 none (by decide) (fun g => absurd g (by decide))) rfl ?_
  rw [x00, pq0]
  rw [show firstE [if (0 : Nat) = 0 then 0 else if (460 : Int) = 0 then 460 else 460, 0, 0] = 0 from by decide]
  refine WL_vg rfl rfl (OpV.to (v' := .bool true) (v_eql rfl rfl) (by first | rfl | simp)) rfl ?_
  refine WL_v (v_pickt rfl rfl) rfl ?_
  refine WL_v (v_assign rfl) rfl ?_
  refine WL_nil ?_
  refine den_ret ?_
  exact ends1 Tryz.results7 rfl z (List.Sublist.refl _) ⟨rfl, rfl⟩

theorem con_self (c : Con) : EqV Tryz.prog 10000 32 (.agg ⟨c.cells⟩) (.agg ⟨c.cells⟩) true := EqV.to (EqV.struct (d := 9999) Tryz.underlying32 (by kernel_rfl) (.cons (by decide) (EqP.one one3 rfl rfl (EqV.int Tryz.underlying3)) (.cons (by decide) (EqP.many many30 (show cut 1 2 c.cells = some [.int .i64 c.r, .int .i64 c.s] from rfl) (show cut 1 2 c.cells = some [.int .i64 c.r, .int .i64 c.s] from rfl) (EqV.struct (d := 9998) Tryz.underlying30 (by kernel_rfl) (.cons (by decide) (EqP.one one3 rfl rfl (EqV.int Tryz.underlying3)) (.cons (by decide) (EqP.one one3 rfl rfl (EqV.int Tryz.underlying3)) .nil)))) .nil))) (by simp)
theorem lawc_fn (p : Pol) (a b : Option Addr) (ca cb : Nat) (it : Dig) (d x : Int) (h : Heap) (ha : Sl1 h a p.le.length (fun i => .int .i64 (p.le.getD i 0))) (hb : Sl1 h b p.ri.length (fun i => .int .i64 (p.ri.getD i 0))) (hG : Gl h) : Fn0 Tryz.prog 3 [.agg ⟨p.cells a b ca cb⟩, .agg ⟨dcells it⟩, .int .i64 d, .int .i64 x] h (.bool true) := by
  refine Tr_of Tryz.func3 rfl rfl Tryz.ntmps3 rfl [(0, .agg ⟨p.cells a b ca cb⟩), (1, .agg ⟨dcells it⟩), (2, .int .i64 d), (3, .int .i64 x)] rfl ?_
  intro Lf
  refine den_seq ?_
  -- region 0
  refine den_region rfl ?_
  refine WL_box (zs := p.cells a b ca cb) rfl rfl rfl fun b4 => ?_
  refine WL_box (zs := dcells it) rfl rfl rfl fun b5 => ?_
  refine WL_freeze fun h5 hl5 hb5 => ?_
  refine WL_freeze fun h4 hl4 hb4 => ?_
  have hb5 := hl4 _ _ hb5
  have z := hl5.trans hl4
  have hG := hG.le z
  have ha := ha.le z
  have hb := hb.le z
  refine WL_v (v_assign rfl) rfl ?_
  refine WL_nil ?_
  refine den_seq ?_
  refine den_seq ?_
  -- region 1
  refine den_region rfl ?_
  refine WL_callq rfl (sane46_fn _ hG) rfl ?_
  refine WL_v (OpV.to (v' := .bool false) (v_not rfl) (by first | rfl | simp)) rfl ?_
  refine WL_nil ?_
  refine den_false rfl ?_
  refine den_skip ?_
  refine den_seq ?_
  refine den_seq ?_
  -- region 3
  refine den_region rfl ?_
  refine WL_v (v_loadn many24 rfl (Kn.per hb4) (p.cutS a b ca cb)) rfl ?_
  refine WL_callq rfl (fewp_fn p a b ca cb _) rfl ?_
  first | refine WL_v (v_notd rfl) rfl ?_ | refine WL_v (v_not rfl) rfl ?_
  refine WL_nil ?_
  first | refine den_ifd rfl (fun hf => ?_) (fun hf => ?_) | refine den_if rfl (fun hf => ?_) (fun hf => ?_)
  · skip
    refine den_seq ?_
    -- region 4
    refine den_region rfl ?_
    refine WL_v (v_assign rfl) rfl ?_
    refine WL_nil ?_
    refine den_ret ?_
    exact ends1 Tryz.results3 rfl z (by first | exact List.Sublist.refl _ | exact (.cons _ (.cons _ (List.Sublist.refl _)))) ⟨rfl, rfl⟩
  · skip
    have hfp : p.le.length ≤ 10 ∧ p.ri.length ≤ 10 := by simpa using hf
    have ha1 : SlI _ a p.le := ⟨ha, by omega⟩
    have hb1 : SlI _ b p.ri := ⟨hb, by omega⟩
    refine den_skip ?_
    refine den_seq ?_
    -- region 5
    refine den_region rfl ?_
    refine WL_v (v_loadn many26 rfl (Kn.per hb5) (cut_self rfl)) rfl ?_
    refine WL_v (v_move rfl) rfl ?_
    refine WL_v (v_move rfl) rfl ?_
    refine WL_callq rfl (approve_fn it d x _ hG) rfl ?_
    refine WL_v (v_move rfl) rfl ?_
    refine WL_v (v_extract rfl rfl) rfl ?_
    refine WL_v (v_extract rfl rfl) rfl ?_
    refine WL_alloc zer32 rfl rfl fun b9 => ?_
    refine WL_store0 rfl rfl (us := (apC it d x).cells) rfl siz32 (by exact spl_all (Con.len _)) (Con.one _) rfl ?_
    refine WL_v (v_assign rfl) rfl ?_
    refine WL_nil ?_
    refine den_seq ?_
    -- region 6
    refine den_region rfl ?_
    refine WL_v (v_loadn many26 rfl (Kn.per hb5) (cut_self rfl)) rfl ?_
    refine WL_v (v_move rfl) rfl ?_
    refine WL_v (v_move rfl) rfl ?_
    refine WL_callq rfl (rapprove_fn it d x _) rfl ?_
    refine WL_v (v_move rfl) rfl ?_
    refine WL_v (v_extract rfl rfl) rfl ?_
    refine WL_v (v_extract rfl rfl) rfl ?_
    refine WL_alloc zer32 rfl rfl fun b11 => ?_
    refine WL_store0 rfl rfl (us := (apC it d x).cells) rfl siz32 (by exact spl_all (Con.len _)) (Con.one _) rfl ?_
    refine WL_v (v_assign rfl) rfl ?_
    refine WL_nil ?_
    refine den_seq ?_
    -- region 7
    refine den_draw [] (by kernel_rfl) (by kernel_rfl) (NoP.fn) (rem := [0, 1, 2, 3, 4, 5, 6, 7, 8, 9, 10, 11, 12, 13, 14, 15]) (by kernel_rfl) ?_
    refine QS_v (i := 0) rfl (v_loadn many32 rfl (Kn.own 1 rfl) (Con.cutS _)) (by kernel_rfl) (by kernel_rfl) (by kernel_rfl) (rem' := [1, 2, 3, 4, 5, 6, 7, 8, 9, 10, 11, 12, 13, 14, 15]) (by kernel_rfl) rfl ?_
    refine QS_v (i := 1) rfl (v_loadn many32 rfl (Kn.own 0 rfl) (Con.cutS _)) (by kernel_rfl) (by kernel_rfl) (by kernel_rfl) (rem' := [2, 3, 4, 5, 6, 7, 8, 9, 10, 11, 12, 13, 14, 15]) (by kernel_rfl) rfl ?_
    refine QS_v (i := 2) rfl (OpV.to (v' := .bool true) (v_aeql (con_self _) (by kernel_rfl) rfl rfl) (by first | rfl | simp)) (by kernel_rfl) (by kernel_rfl) (by kernel_rfl) (rem' := [3, 4, 5, 6, 7, 8, 9, 10, 11, 12, 13, 14, 15]) (by kernel_rfl) rfl ?_
    refine QS_v (i := 3) rfl (v_move rfl) (by kernel_rfl) (by kernel_rfl) (by kernel_rfl) (rem' := [4, 5, 6, 7, 8, 9, 10, 11, 12, 13, 14, 15]) (by kernel_rfl) rfl ?_
    refine QS_vg (i := 4) rfl rfl rfl (v_move rfl) (by kernel_rfl) (by kernel_rfl) (by kernel_rfl) (rem' := [5, 6, 7, 8, 9, 10, 11, 12, 13, 14, 15]) (by kernel_rfl) rfl ?_
    refine QS_vg (i := 5) rfl rfl rfl (v_move rfl) (by kernel_rfl) (by kernel_rfl) (by kernel_rfl) (rem' := [6, 7, 8, 9, 10, 11, 12, 13, 14, 15]) (by kernel_rfl) rfl ?_
    refine QS_vg (i := 6) rfl rfl rfl (OpV.to (v' := .bool true) (v_eql rfl rfl) (by first | rfl | simp)) (by kernel_rfl) (by kernel_rfl) (by kernel_rfl) (rem' := [7, 8, 9, 10, 11, 12, 13, 14, 15]) (by kernel_rfl) rfl ?_
    refine QS_v (i := 7) rfl (v_pickt rfl rfl) (by kernel_rfl) (by kernel_rfl) (by kernel_rfl) (rem' := [8, 9, 10, 11, 12, 13, 14, 15]) (by kernel_rfl) rfl ?_
    refine QS_v (i := 8) rfl (v_move rfl) (by kernel_rfl) (by kernel_rfl) (by kernel_rfl) (rem' := [9, 10, 11, 12, 13, 14, 15]) (by kernel_rfl) rfl ?_
    refine QS_vg (i := 9) rfl rfl rfl (v_loadn many24 rfl (Kn.per hb4) (p.cutS a b ca cb)) (by kernel_rfl) (by kernel_rfl) (by kernel_rfl) (rem' := [10, 11, 12, 13, 14, 15]) (by kernel_rfl) rfl ?_
    refine QS_vg (i := 11) rfl rfl rfl (v_loadn many24 rfl (Kn.per hb4) (p.cutS a b ca cb)) (by kernel_rfl) (by kernel_rfl) (by kernel_rfl) (rem' := [10, 12, 13, 14, 15]) (by kernel_rfl) rfl ?_
    refine QS_step (is := [10]) rfl (by kernel_rfl) ?_
    refine qall1 ?_
    refine qs_callqg rfl rfl rfl rfl (check_fn p a b ca cb _ ha1 hb1) rfl (rem' := [12, 13, 14, 15]) (by kernel_rfl) ?_
    refine QS_step (is := [12]) rfl (by kernel_rfl) ?_
    refine qall1 ?_
    refine qs_callqg rfl rfl rfl rfl (rcheck46_fn p a b ca cb _ ha1 hb1) rfl (rem' := [13, 14, 15]) (by kernel_rfl) ?_
    refine QS_vg (i := 13) rfl rfl rfl (OpV.to (v' := .bool true) (v_eql rfl rfl) (by first | rfl | simp)) (by kernel_rfl) (by kernel_rfl) (by kernel_rfl) (rem' := [14, 15]) (by kernel_rfl) rfl ?_
    refine QS_v (i := 14) rfl (v_pickt rfl rfl) (by kernel_rfl) (by kernel_rfl) (by kernel_rfl) (rem' := [15]) (by kernel_rfl) rfl ?_
    refine QS_v (i := 15) rfl (v_assign rfl) (by kernel_rfl) (by kernel_rfl) (by kernel_rfl) (rem' := []) (by kernel_rfl) rfl ?_
    refine QS_nil ?_
    refine den_ret ?_
    exact ends1 Tryz.results3 rfl z (by first | exact List.Sublist.refl _ | exact (.cons _ (.cons _ (List.Sublist.refl _)))) ⟨rfl, rfl⟩

end Go.Proofs.Ch
