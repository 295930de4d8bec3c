/- Walks of the program's functions, printed by my own generator (layer L17). -/
import Derived.Test.YtglmkcfmcoianaaGreatDoorL16
namespace Go.Proofs.Ch
open Go Go.Proofs
set_option maxRecDepth 4000
set_option maxHeartbeats 1000000
theorem zer30 : Zer Tryz.prog 30 (.agg ⟨[.int .u8 0, .int .u8 0, .int .u8 0, .int .u8 0, .int .u8 0, .int .u8 0, .int .u8 0, .int .u8 0, .int .u8 0, .int .u8 0, .int .u8 0, .int .u8 0, .int .u8 0, .int .u8 0, .int .u8 0, .int .u8 0, .int .u8 0, .int .u8 0, .int .u8 0, .int .u8 0, .int .u8 0, .int .u8 0, .int .u8 0, .int .u8 0, .int .u8 0, .int .u8 0, .int .u8 0, .int .u8 0, .int .u8 0, .int .u8 0, .int .u8 0, .int .u8 0, .int .u8 0, .int .u8 0, .int .u8 0, .int .u8 0, .int .u8 0, .int .u8 0, .int .u8 0, .int .u8 0, .int .u8 0, .int .u8 0, .int .u8 0, .int .u8 0, .int .u8 0, .int .u8 0, .int .u8 0, .int .u8 0, .int .u8 0, .int .u8 0, .int .u8 0, .int .u8 0, .int .u8 0, .int .u8 0, .int .u8 0, .int .u8 0, .int .u8 0, .int .u8 0, .int .u8 0, .int .u8 0, .int .u8 0, .int .u8 0, .int .u8 0, .int .u8 0]⟩) := by show _ = _; kernel_rfl
theorem plc30 : Plc Tryz.prog (match Tryz.prog.underlying 30 with | some (.struct fs) => fs | _ => #[]) [(0, 32), (32, 32)] := fun _ => by kernel_rfl
theorem zer54 : Zer Tryz.prog 54 (.agg ⟨[.slice none 0 0, .slice none 0 0, .slice none 0 0, .slice none 0 0, .slice none 0 0, .slice none 0 0, .slice none 0 0, .slice none 0 0]⟩) := by show _ = _; kernel_rfl
theorem plc54 : Plc Tryz.prog (match Tryz.prog.underlying 54 with | some (.struct fs) => fs | _ => #[]) [(0, 1), (1, 1), (2, 1), (3, 1), (4, 1), (5, 1), (6, 1), (7, 1)] := fun _ => by kernel_rfl
theorem zer57 : Zer Tryz.prog 57 (.agg ⟨[.int .i64 0, .int .u8 0, .int .u8 0, .int .u8 0, .int .u8 0, .int .u8 0, .int .u8 0, .int .u8 0, .int .u8 0, .int .u8 0, .int .u8 0, .int .u8 0, .int .u8 0, .int .u8 0, .int .u8 0, .int .u8 0, .int .u8 0, .int .u8 0, .int .u8 0, .int .u8 0, .int .u8 0, .int .u8 0, .int .u8 0, .int .u8 0, .int .u8 0, .int .u8 0, .int .u8 0, .int .u8 0, .int .u8 0, .int .u8 0, .int .u8 0, .int .u8 0, .int .u8 0, .int .i64 0, .int .i64 0, .int .i64 0, .int .i64 0, .int .i64 0, .int .i64 0, .int .u8 0, .int .u8 0, .int .u8 0, .int .u8 0, .int .u8 0, .int .u8 0, .int .u8 0, .int .u8 0, .int .u8 0, .int .u8 0, .int .u8 0, .int .u8 0, .int .u8 0, .int .u8 0, .int .u8 0, .int .u8 0, .int .u8 0, .int .u8 0, .int .u8 0, .int .u8 0, .int .u8 0, .int .u8 0, .int .u8 0, .int .u8 0, .int .u8 0, .int .u8 0, .int .u8 0, .int .u8 0, .int .u8 0, .int .u8 0, .int .u8 0, .int .u8 0, .slice none 0 0, .int .i64 0, .int .i64 0]⟩) := by show _ = _; kernel_rfl
theorem plc57 : Plc Tryz.prog (match Tryz.prog.underlying 57 with | some (.struct fs) => fs | _ => #[]) [(0, 1), (1, 32), (33, 1), (34, 1), (35, 1), (36, 1), (37, 34), (71, 1), (72, 2)] := fun _ => by kernel_rfl
theorem siz30 : Siz Tryz.prog 30 64 := by show _ = _; kernel_rfl
theorem many30 : Many Tryz.prog 30 64 := Many.of Tryz.underlying30 rfl siz30
theorem lk_self (l : Lk) : EqV Tryz.prog 10000 27 (.agg ⟨l.cells⟩) (.agg ⟨l.cells⟩) true := EqV.to (EqV.struct (d := 9999) Tryz.underlying27 (by kernel_rfl) (.cons (by decide) (EqP.one one3 rfl rfl (EqV.int Tryz.underlying3)) (.cons (by decide) (EqP.one one3 rfl rfl (EqV.int Tryz.underlying3)) (.cons (by decide) (EqP.one one3 rfl rfl (EqV.int Tryz.underlying3)) (.cons (by decide) (EqP.one one3 rfl rfl (EqV.int Tryz.underlying3)) (.cons (by decide) (EqP.one one3 rfl rfl (EqV.int Tryz.underlying3)) (.cons (by decide) (EqP.one one4 rfl rfl (EqV.bool Tryz.underlying4)) (.cons (by decide) (EqP.many many23 (Lk.cutP l) (Lk.cutP l) (EqV.dig (d := 9997) Tryz.underlying23 siz5 one5 Tryz.underlying5)) (.cons (by decide) (EqP.many many25 (Lk.cutG l) (Lk.cutG l) (EqV.struct (d := 9998) Tryz.underlying25 (by kernel_rfl) (.cons (by decide) (EqP.one one3 rfl rfl (EqV.int Tryz.underlying3)) (.cons (by decide) (EqP.one one3 rfl rfl (EqV.int Tryz.underlying3)) .nil)))) .nil))))))))) (by simp)
theorem fa_self (f : Fa) : EqV Tryz.prog 10000 36 (.agg ⟨f.cells⟩) (.agg ⟨f.cells⟩) true := EqV.to (EqV.struct (d := 9999) Tryz.underlying36 (by kernel_rfl) (.cons (by decide) (EqP.many many23 (Fa.cutL f) (Fa.cutL f) (EqV.dig (d := 9997) Tryz.underlying23 siz5 one5 Tryz.underlying5)) (.cons (by decide) (EqP.many many23 (Fa.cutC f) (Fa.cutC f) (EqV.dig (d := 9997) Tryz.underlying23 siz5 one5 Tryz.underlying5)) (.cons (by decide) (EqP.one one3 (Fa.getb f) (Fa.getb f) (EqV.int Tryz.underlying3)) (.cons (by decide) (EqP.one one3 (Fa.getn f) (Fa.getn f) (EqV.int Tryz.underlying3)) (.cons (by decide) (EqP.many many25 (Fa.cutG f) (Fa.cutG f) (EqV.struct (d := 9998) Tryz.underlying25 (by kernel_rfl) (.cons (by decide) (EqP.one one3 rfl rfl (EqV.int Tryz.underlying3)) (.cons (by decide) (EqP.one one3 rfl rfl (EqV.int Tryz.underlying3)) .nil)))) .nil)))))) (by simp)
noncomputable def lkS : Lk := ⟨0, 0, 4, 4, 1, false, dz, sgR 1 (lmsg (lk4 1 dz)).toList, sgS 1 (lmsg (lk4 1 dz)).toList⟩
theorem pr1 : isPr 1 := ⟨by decide, by decide⟩
theorem pr2 : isPr 2 := ⟨by decide, by decide⟩
theorem npr0 : ¬ isPr 0 := fun g => absurd g.1 (by decide)
theorem s1 : mkE (lk4 0 dz) 1 = 400 := mkE1 lk4_n0
theorem s2 : mkE (lk4 1 dz) 0 = 50 := (mkE2 (lk4_f rfl)).trans (if_neg npr0)
theorem s3 : mkE (lk4 1 dz) 1 = 0 := (mkE2 (lk4_f rfl)).trans (if_pos pr1)
theorem s3l : mkL (lk4 1 dz) 1 = lkS := mkL_ok (lk4_f rfl) pr1
theorem s4 : mkE (lk4 1 dz1) 1 = 400 := mkE1 lk4_n1
theorem lkS_f : lkS.formed := lk4_f rfl
theorem sgR_ri (x : Int) (xs : List UInt8) : Ri (sgR x xs) := by unfold sgR; exact gexpV_ri _ _
theorem sgS_ri (x : Int) (xs : List UInt8) : Ri (sgS x xs) := by unfold sgS; exact ri_of (faddV_rng _ _)
theorem lk_ok_of {f b p v x : Int} {re : Bool} {pa : Dig} {r s : Int} (h1 : Ri f) (h2 : Ri b) (h3 : Ri p) (h4 : Ri v) (h5 : Ri x) (h6 : Ri r) (h7 : Ri s) : (Lk.mk f b p v x re pa r s).ok := ⟨h1, h2, h3, h4, h5, h6, h7⟩
theorem lkS_ok : lkS.ok := lk_ok_of (re := false) (pa := dz) ri0 ri0 ri4 ri4 ri1 (sgR_ri 1 (lmsg (lk4 1 dz)).toList) (sgS_ri 1 (lmsg (lk4 1 dz)).toList)
theorem s6 : facE lkS 0 1 2 = 400 := facE_p ⟨lkS_f, by decide, by decide⟩ pr1 pr2 (by rw [gexp42]; exact (by decide : ¬ (16 : Int) = 4))
theorem s7o : facOk lkS 0 1 1 := ⟨⟨lkS_f, by decide, by decide⟩, pr1, pr1, gexp41⟩
theorem s7 : facE lkS 0 1 1 = 0 := facE_z s7o.1 pr1 pr1 gexp41
theorem s7l (kc ks : Dig) : (facF lkS kc ks 0 1 1).l = lid lkS := by rw [facF_ok s7o]
theorem lkS_b : lkS.b ≠ -1 := fun h => absurd (show (0 : Int) = -1 from h) (by decide)
theorem lkz_b : lkz.b ≠ -1 := fun h => absurd (show (0 : Int) = -1 from h) (by decide)
theorem lkz_ok : lkz.ok := ⟨ri0, ri0, ri0, ri0, ri0, ri0, ri0⟩
theorem sane_fn (h : Heap) (hG : Gl h) : Fn0 Tryz.prog 4 [] h (.bool true) := by
  refine Tr_of Tryz.func4 rfl rfl Tryz.ntmps4 rfl [] rfl ?_
  intro Lf
  refine den_seq ?_
  -- region 0
  refine den_region rfl ?_
  refine WL_v (v_assign rfl) rfl ?_
  refine WL_nil ?_
  refine den_seq ?_
  -- region 1
  refine den_region rfl ?_
  refine WL_v (v_builda (r := dcells dz) Tryz.underlying23 zer23 siz5 rfl (by kernel_rfl)) rfl ?_
  refine WL_callq rfl (make_fn 0 0 4 4 0 false dz 1 _ (lk4_ok ri0 dz) hG) rfl ?_
  rw [show mkE (Lk.mk 0 0 4 4 0 false dz 0 0) 1 = 400 from s1]
  refine WL_v (v_move rfl) rfl ?_
  refine WL_v (v_extract rfl rfl) rfl ?_
  refine WL_v (v_extract rfl rfl) rfl ?_
  refine WL_alloc zer27 rfl rfl fun b1 => ?_
  refine WL_store0 rfl rfl (us := (mkL (Lk.mk 0 0 4 4 0 false dz 0 0) 1).cells) rfl siz27 (by exact spl_all (Lk.len40 _)) (Lk.one _) rfl ?_
  refine WL_v (v_assign rfl) rfl ?_
  refine WL_nil ?_
  refine den_seq ?_
  -- region 2
  refine den_region rfl ?_
  refine WL_v (v_builda (r := dcells dz) Tryz.underlying23 zer23 siz5 rfl (by kernel_rfl)) rfl ?_
  refine WL_callq rfl (make_fn 0 0 4 4 1 false dz 0 _ (lk4_ok ri1 dz) hG) rfl ?_
  rw [show mkE (Lk.mk 0 0 4 4 1 false dz 0 0) 0 = 50 from s2]
  refine WL_v (v_move rfl) rfl ?_
  refine WL_v (v_extract rfl rfl) rfl ?_
  refine WL_v (v_extract rfl rfl) rfl ?_
  refine WL_alloc zer27 rfl rfl fun b3 => ?_
  refine WL_store0 rfl rfl (us := (mkL (Lk.mk 0 0 4 4 1 false dz 0 0) 0).cells) rfl siz27 (by exact spl_all (Lk.len40 _)) (Lk.one _) rfl ?_
  refine WL_v (v_assign rfl) rfl ?_
  refine WL_nil ?_
  refine den_seq ?_
  -- region 3
  refine den_region rfl ?_
  refine WL_v (v_builda (r := dcells dz) Tryz.underlying23 zer23 siz5 rfl (by kernel_rfl)) rfl ?_
  refine WL_callq rfl (make_fn 0 0 4 4 1 false dz 1 _ (lk4_ok ri1 dz) hG) rfl ?_
  rw [show mkE (Lk.mk 0 0 4 4 1 false dz 0 0) 1 = 0 from s3]
  rw [show mkL (Lk.mk 0 0 4 4 1 false dz 0 0) 1 = lkS from s3l]
  refine WL_v (v_move rfl) rfl ?_
  refine WL_v (v_extract rfl rfl) rfl ?_
  refine WL_v (v_extract rfl rfl) rfl ?_
  refine WL_alloc zer27 rfl rfl fun b5 => ?_
  refine WL_store0 rfl rfl (us := lkS.cells) rfl siz27 (by exact spl_all (Lk.len40 _)) (Lk.one _) rfl ?_
  refine WL_v (v_assign rfl) rfl ?_
  refine WL_nil ?_
  refine den_seq ?_
  -- region 4
  refine den_region rfl ?_
  refine WL_v (v_builda (r := dcells dz1) Tryz.underlying23 zer23 siz5 rfl (by kernel_rfl)) rfl ?_
  refine WL_callq rfl (make_fn 0 0 4 4 1 false dz1 1 _ (lk4_ok ri1 dz1) hG) rfl ?_
  rw [show mkE (Lk.mk 0 0 4 4 1 false dz1 0 0) 1 = 400 from s4]
  refine WL_v (v_move rfl) rfl ?_
  refine WL_v (v_extract rfl rfl) rfl ?_
  refine WL_v (v_extract rfl rfl) rfl ?_
  refine WL_alloc zer27 rfl rfl fun b7 => ?_
  refine WL_store0 rfl rfl (us := (mkL (Lk.mk 0 0 4 4 1 false dz1 0 0) 1).cells) rfl siz27 (by exact spl_all (Lk.len40 _)) (Lk.one _) rfl ?_
  refine WL_v (v_assign rfl) rfl ?_
  refine WL_nil ?_
  refine den_seq ?_
  -- region 5
  refine den_region rfl ?_
  refine WL_v (v_builds (r := recz) Tryz.underlying54 zer54 plc54 rfl rfl (by kernel_rfl)) rfl ?_
  refine WL_v (v_builds (r := lkz.cells) Tryz.underlying27 zer27 plc27 rfl rfl (by kernel_rfl)) rfl ?_
  refine WL_v (v_builds Tryz.underlying57 zer57 plc57 rfl rfl rfl) rfl ?_
  refine WL_callq rfl (Turnz_fn lkz _ _ lkz_b) rfl ?_
  refine WL_v (v_move rfl) rfl ?_
  refine WL_v (v_extract rfl rfl) rfl ?_
  refine WL_v (v_extract rfl rfl) rfl ?_
  refine WL_alloc zer42 rfl rfl fun b9 => ?_
  refine WL_store0 rfl rfl (us := capz) rfl siz42 (by exact spl_all rfl) rfl rfl ?_
  refine WL_v (v_assign rfl) rfl ?_
  refine WL_nil ?_
  refine den_seq ?_
  -- region 6
  refine den_region rfl ?_
  refine WL_v (v_loadn many27 rfl (Kn.own 2 rfl) (show cut 0 40 lkS.cells = some lkS.cells from Lk.cutS _)) rfl ?_
  refine WL_v (v_builds (r := dcells dz ++ dcells dz) Tryz.underlying30 zer30 plc30 rfl rfl (by kernel_rfl)) rfl ?_
  refine WL_callq rfl (factor_fn lkS dz dz 0 1 2 _ lkS_ok hG) rfl ?_
  rw [s6]
  refine WL_v (v_move rfl) rfl ?_
  refine WL_v (v_extract rfl rfl) rfl ?_
  refine WL_v (v_extract rfl rfl) rfl ?_
  refine WL_alloc zer36 rfl rfl fun b11 => ?_
  refine WL_store0 rfl rfl (us := (facF lkS dz dz 0 1 2).cells) rfl siz36 (by exact spl_all (Fa.len68 _)) (Fa.one _) rfl ?_
  refine WL_v (v_assign rfl) rfl ?_
  refine WL_nil ?_
  refine den_seq ?_
  -- region 7
  refine den_region rfl ?_
  refine WL_v (v_loadn many27 rfl (Kn.own 3 rfl) (show cut 0 40 lkS.cells = some lkS.cells from Lk.cutS _)) rfl ?_
  refine WL_v (v_builds (r := dcells dz ++ dcells dz) Tryz.underlying30 zer30 plc30 rfl rfl (by kernel_rfl)) rfl ?_
  refine WL_callq rfl (factor_fn lkS dz dz 0 1 1 _ lkS_ok hG) rfl ?_
  rw [s7]
  refine WL_v (v_move rfl) rfl ?_
  refine WL_v (v_extract rfl rfl) rfl ?_
  refine WL_v (v_extract rfl rfl) rfl ?_
  refine WL_alloc zer36 rfl rfl fun b13 => ?_
  refine WL_store0 rfl rfl (us := (facF lkS dz dz 0 1 1).cells) rfl siz36 (by exact spl_all (Fa.len68 _)) (Fa.one _) rfl ?_
  refine WL_v (v_assign rfl) rfl ?_
  refine WL_nil ?_
  refine den_seq ?_
  -- region 8
  refine den_region rfl ?_
  refine WL_callq rfl (public_fn _ _) rfl ?_
  simp only [if_neg npr0]
  refine WL_v (v_move rfl) rfl ?_
  refine WL_v (v_extract rfl rfl) rfl ?_
  refine WL_v (v_extract rfl rfl) rfl ?_
  refine WL_v (v_assign rfl) rfl ?_
  refine WL_v (v_assign rfl) rfl ?_
  refine WL_nil ?_
  refine den_seq ?_
  -- region 9
  refine den_draw [] (by kernel_rfl) (by kernel_rfl) (NoP.fn) (rem := [0, 1, 2, 3, 4, 5, 6, 7, 8, 9, 10, 11, 12, 13, 14, 15, 16, 17, 18, 19, 20, 21, 22, 23, 24, 25, 26, 27, 28, 29, 30, 31, 32, 33, 34, 35, 36, 37, 38, 39, 40, 41, 42, 43, 44, 45, 46, 47, 48, 49, 50, 51, 52, 53, 54, 55, 56, 57, 58, 59, 60, 61, 62]) (by kernel_rfl) ?_
  refine QS_v (i := 0) rfl (v_move rfl) (by kernel_rfl) (by kernel_rfl) (by kernel_rfl) (rem' := [1, 2, 3, 4, 5, 6, 7, 8, 9, 10, 11, 12, 13, 14, 15, 16, 17, 18, 19, 20, 21, 22, 23, 24, 25, 26, 27, 28, 29, 30, 31, 32, 33, 34, 35, 36, 37, 38, 39, 40, 41, 42, 43, 44, 45, 46, 47, 48, 49, 50, 51, 52, 53, 54, 55, 56, 57, 58, 59, 60, 61, 62]) (by kernel_rfl) rfl ?_
  refine QS_v (i := 1) rfl (OpV.to (v' := .bool true) (v_eql rfl rfl) (by first | rfl | simp)) (by kernel_rfl) (by kernel_rfl) (by kernel_rfl) (rem' := [2, 3, 4, 5, 6, 7, 8, 9, 10, 11, 12, 13, 14, 15, 16, 17, 18, 19, 20, 21, 22, 23, 24, 25, 26, 27, 28, 29, 30, 31, 32, 33, 34, 35, 36, 37, 38, 39, 40, 41, 42, 43, 44, 45, 46, 47, 48, 49, 50, 51, 52, 53, 54, 55, 56, 57, 58, 59, 60, 61, 62]) (by kernel_rfl) rfl ?_
  refine QS_v (i := 2) rfl (v_move rfl) (by kernel_rfl) (by kernel_rfl) (by kernel_rfl) (rem' := [3, 4, 5, 6, 7, 8, 9, 10, 11, 12, 13, 14, 15, 16, 17, 18, 19, 20, 21, 22, 23, 24, 25, 26, 27, 28, 29, 30, 31, 32, 33, 34, 35, 36, 37, 38, 39, 40, 41, 42, 43, 44, 45, 46, 47, 48, 49, 50, 51, 52, 53, 54, 55, 56, 57, 58, 59, 60, 61, 62]) (by kernel_rfl) rfl ?_
  refine QS_vg (i := 3) rfl rfl rfl (v_move rfl) (by kernel_rfl) (by kernel_rfl) (by kernel_rfl) (rem' := [4, 5, 6, 7, 8, 9, 10, 11, 12, 13, 14, 15, 16, 17, 18, 19, 20, 21, 22, 23, 24, 25, 26, 27, 28, 29, 30, 31, 32, 33, 34, 35, 36, 37, 38, 39, 40, 41, 42, 43, 44, 45, 46, 47, 48, 49, 50, 51, 52, 53, 54, 55, 56, 57, 58, 59, 60, 61, 62]) (by kernel_rfl) rfl ?_
  refine QS_vg (i := 4) rfl rfl rfl (v_move rfl) (by kernel_rfl) (by kernel_rfl) (by kernel_rfl) (rem' := [5, 6, 7, 8, 9, 10, 11, 12, 13, 14, 15, 16, 17, 18, 19, 20, 21, 22, 23, 24, 25, 26, 27, 28, 29, 30, 31, 32, 33, 34, 35, 36, 37, 38, 39, 40, 41, 42, 43, 44, 45, 46, 47, 48, 49, 50, 51, 52, 53, 54, 55, 56, 57, 58, 59, 60, 61, 62]) (by kernel_rfl) rfl ?_
  refine QS_vg (i := 5) rfl rfl rfl (OpV.to (v' := .bool true) (v_eql rfl rfl) (by first | rfl | simp)) (by kernel_rfl) (by kernel_rfl) (by kernel_rfl) (rem' := [6, 7, 8, 9, 10, 11, 12, 13, 14, 15, 16, 17, 18, 19, 20, 21, 22, 23, 24, 25, 26, 27, 28, 29, 30, 31, 32, 33, 34, 35, 36, 37, 38, 39, 40, 41, 42, 43, 44, 45, 46, 47, 48, 49, 50, 51, 52, 53, 54, 55, 56, 57, 58, 59, 60, 61, 62]) (by kernel_rfl) rfl ?_
  refine QS_v (i := 6) rfl (v_pickt rfl rfl) (by kernel_rfl) (by kernel_rfl) (by kernel_rfl) (rem' := [7, 8, 9, 10, 11, 12, 13, 14, 15, 16, 17, 18, 19, 20, 21, 22, 23, 24, 25, 26, 27, 28, 29, 30, 31, 32, 33, 34, 35, 36, 37, 38, 39, 40, 41, 42, 43, 44, 45, 46, 47, 48, 49, 50, 51, 52, 53, 54, 55, 56, 57, 58, 59, 60, 61, 62]) (by kernel_rfl) rfl ?_
  refine QS_v (i := 7) rfl (v_move rfl) (by kernel_rfl) (by kernel_rfl) (by kernel_rfl) (rem' := [8, 9, 10, 11, 12, 13, 14, 15, 16, 17, 18, 19, 20, 21, 22, 23, 24, 25, 26, 27, 28, 29, 30, 31, 32, 33, 34, 35, 36, 37, 38, 39, 40, 41, 42, 43, 44, 45, 46, 47, 48, 49, 50, 51, 52, 53, 54, 55, 56, 57, 58, 59, 60, 61, 62]) (by kernel_rfl) rfl ?_
  refine QS_vg (i := 8) rfl rfl rfl (v_move rfl) (by kernel_rfl) (by kernel_rfl) (by kernel_rfl) (rem' := [9, 10, 11, 12, 13, 14, 15, 16, 17, 18, 19, 20, 21, 22, 23, 24, 25, 26, 27, 28, 29, 30, 31, 32, 33, 34, 35, 36, 37, 38, 39, 40, 41, 42, 43, 44, 45, 46, 47, 48, 49, 50, 51, 52, 53, 54, 55, 56, 57, 58, 59, 60, 61, 62]) (by kernel_rfl) rfl ?_
  refine QS_vg (i := 9) rfl rfl rfl (OpV.to (v' := .bool true) (v_neq rfl rfl) (by first | rfl | simp)) (by kernel_rfl) (by kernel_rfl) (by kernel_rfl) (rem' := [10, 11, 12, 13, 14, 15, 16, 17, 18, 19, 20, 21, 22, 23, 24, 25, 26, 27, 28, 29, 30, 31, 32, 33, 34, 35, 36, 37, 38, 39, 40, 41, 42, 43, 44, 45, 46, 47, 48, 49, 50, 51, 52, 53, 54, 55, 56, 57, 58, 59, 60, 61, 62]) (by kernel_rfl) rfl ?_
  refine QS_v (i := 10) rfl (v_pickt rfl rfl) (by kernel_rfl) (by kernel_rfl) (by kernel_rfl) (rem' := [11, 12, 13, 14, 15, 16, 17, 18, 19, 20, 21, 22, 23, 24, 25, 26, 27, 28, 29, 30, 31, 32, 33, 34, 35, 36, 37, 38, 39, 40, 41, 42, 43, 44, 45, 46, 47, 48, 49, 50, 51, 52, 53, 54, 55, 56, 57, 58, 59, 60, 61, 62]) (by kernel_rfl) rfl ?_
  refine QS_v (i := 11) rfl (v_move rfl) (by kernel_rfl) (by kernel_rfl) (by kernel_rfl) (rem' := [12, 13, 14, 15, 16, 17, 18, 19, 20, 21, 22, 23, 24, 25, 26, 27, 28, 29, 30, 31, 32, 33, 34, 35, 36, 37, 38, 39, 40, 41, 42, 43, 44, 45, 46, 47, 48, 49, 50, 51, 52, 53, 54, 55, 56, 57, 58, 59, 60, 61, 62]) (by kernel_rfl) rfl ?_
  refine QS_vg (i := 12) rfl rfl rfl (v_move rfl) (by kernel_rfl) (by kernel_rfl) (by kernel_rfl) (rem' := [13, 14, 15, 16, 17, 18, 19, 20, 21, 22, 23, 24, 25, 26, 27, 28, 29, 30, 31, 32, 33, 34, 35, 36, 37, 38, 39, 40, 41, 42, 43, 44, 45, 46, 47, 48, 49, 50, 51, 52, 53, 54, 55, 56, 57, 58, 59, 60, 61, 62]) (by kernel_rfl) rfl ?_
  refine QS_vg (i := 13) rfl rfl rfl (OpV.to (v' := .bool true) (v_eql rfl rfl) (by first | rfl | simp)) (by kernel_rfl) (by kernel_rfl) (by kernel_rfl) (rem' := [14, 15, 16, 17, 18, 19, 20, 21, 22, 23, 24, 25, 26, 27, 28, 29, 30, 31, 32, 33, 34, 35, 36, 37, 38, 39, 40, 41, 42, 43, 44, 45, 46, 47, 48, 49, 50, 51, 52, 53, 54, 55, 56, 57, 58, 59, 60, 61, 62]) (by kernel_rfl) rfl ?_
  refine QS_v (i := 14) rfl (v_pickt rfl rfl) (by kernel_rfl) (by kernel_rfl) (by kernel_rfl) (rem' := [15, 16, 17, 18, 19, 20, 21, 22, 23, 24, 25, 26, 27, 28, 29, 30, 31, 32, 33, 34, 35, 36, 37, 38, 39, 40, 41, 42, 43, 44, 45, 46, 47, 48, 49, 50, 51, 52, 53, 54, 55, 56, 57, 58, 59, 60, 61, 62]) (by kernel_rfl) rfl ?_
  refine QS_v (i := 15) rfl (v_move rfl) (by kernel_rfl) (by kernel_rfl) (by kernel_rfl) (rem' := [16, 17, 18, 19, 20, 21, 22, 23, 24, 25, 26, 27, 28, 29, 30, 31, 32, 33, 34, 35, 36, 37, 38, 39, 40, 41, 42, 43, 44, 45, 46, 47, 48, 49, 50, 51, 52, 53, 54, 55, 56, 57, 58, 59, 60, 61, 62]) (by kernel_rfl) rfl ?_
  refine QS_vg (i := 16) rfl rfl rfl (v_move rfl) (by kernel_rfl) (by kernel_rfl) (by kernel_rfl) (rem' := [17, 18, 19, 20, 21, 22, 23, 24, 25, 26, 27, 28, 29, 30, 31, 32, 33, 34, 35, 36, 37, 38, 39, 40, 41, 42, 43, 44, 45, 46, 47, 48, 49, 50, 51, 52, 53, 54, 55, 56, 57, 58, 59, 60, 61, 62]) (by kernel_rfl) rfl ?_
  refine QS_vg (i := 17) rfl rfl rfl (OpV.to (v' := .bool true) (v_eql rfl rfl) (by first | rfl | simp)) (by kernel_rfl) (by kernel_rfl) (by kernel_rfl) (rem' := [18, 19, 20, 21, 22, 23, 24, 25, 26, 27, 28, 29, 30, 31, 32, 33, 34, 35, 36, 37, 38, 39, 40, 41, 42, 43, 44, 45, 46, 47, 48, 49, 50, 51, 52, 53, 54, 55, 56, 57, 58, 59, 60, 61, 62]) (by kernel_rfl) rfl ?_
  refine QS_v (i := 18) rfl (v_pickt rfl rfl) (by kernel_rfl) (by kernel_rfl) (by kernel_rfl) (rem' := [19, 20, 21, 22, 23, 24, 25, 26, 27, 28, 29, 30, 31, 32, 33, 34, 35, 36, 37, 38, 39, 40, 41, 42, 43, 44, 45, 46, 47, 48, 49, 50, 51, 52, 53, 54, 55, 56, 57, 58, 59, 60, 61, 62]) (by kernel_rfl) rfl ?_
  refine QS_v (i := 19) rfl (v_move rfl) (by kernel_rfl) (by kernel_rfl) (by kernel_rfl) (rem' := [20, 21, 22, 23, 24, 25, 26, 27, 28, 29, 30, 31, 32, 33, 34, 35, 36, 37, 38, 39, 40, 41, 42, 43, 44, 45, 46, 47, 48, 49, 50, 51, 52, 53, 54, 55, 56, 57, 58, 59, 60, 61, 62]) (by kernel_rfl) rfl ?_
  refine QS_vg (i := 20) rfl rfl rfl (v_move rfl) (by kernel_rfl) (by kernel_rfl) (by kernel_rfl) (rem' := [21, 22, 23, 24, 25, 26, 27, 28, 29, 30, 31, 32, 33, 34, 35, 36, 37, 38, 39, 40, 41, 42, 43, 44, 45, 46, 47, 48, 49, 50, 51, 52, 53, 54, 55, 56, 57, 58, 59, 60, 61, 62]) (by kernel_rfl) rfl ?_
  refine QS_vg (i := 21) rfl rfl rfl (OpV.to (v' := .bool true) (v_eql rfl rfl) (by first | rfl | simp)) (by kernel_rfl) (by kernel_rfl) (by kernel_rfl) (rem' := [22, 23, 24, 25, 26, 27, 28, 29, 30, 31, 32, 33, 34, 35, 36, 37, 38, 39, 40, 41, 42, 43, 44, 45, 46, 47, 48, 49, 50, 51, 52, 53, 54, 55, 56, 57, 58, 59, 60, 61, 62]) (by kernel_rfl) rfl ?_
  refine QS_v (i := 22) rfl (v_pickt rfl rfl) (by kernel_rfl) (by kernel_rfl) (by kernel_rfl) (rem' := [23, 24, 25, 26, 27, 28, 29, 30, 31, 32, 33, 34, 35, 36, 37, 38, 39, 40, 41, 42, 43, 44, 45, 46, 47, 48, 49, 50, 51, 52, 53, 54, 55, 56, 57, 58, 59, 60, 61, 62]) (by kernel_rfl) rfl ?_
  refine QS_v (i := 23) rfl (v_move rfl) (by kernel_rfl) (by kernel_rfl) (by kernel_rfl) (rem' := [24, 25, 26, 27, 28, 29, 30, 31, 32, 33, 34, 35, 36, 37, 38, 39, 40, 41, 42, 43, 44, 45, 46, 47, 48, 49, 50, 51, 52, 53, 54, 55, 56, 57, 58, 59, 60, 61, 62]) (by kernel_rfl) rfl ?_
  refine QS_vg (i := 24) rfl rfl rfl (v_move rfl) (by kernel_rfl) (by kernel_rfl) (by kernel_rfl) (rem' := [25, 26, 27, 28, 29, 30, 31, 32, 33, 34, 35, 36, 37, 38, 39, 40, 41, 42, 43, 44, 45, 46, 47, 48, 49, 50, 51, 52, 53, 54, 55, 56, 57, 58, 59, 60, 61, 62]) (by kernel_rfl) rfl ?_
  refine QS_vg (i := 25) rfl rfl rfl (OpV.to (v' := .bool true) (v_eql rfl rfl) (by first | rfl | simp)) (by kernel_rfl) (by kernel_rfl) (by kernel_rfl) (rem' := [26, 27, 28, 29, 30, 31, 32, 33, 34, 35, 36, 37, 38, 39, 40, 41, 42, 43, 44, 45, 46, 47, 48, 49, 50, 51, 52, 53, 54, 55, 56, 57, 58, 59, 60, 61, 62]) (by kernel_rfl) rfl ?_
  refine QS_v (i := 26) rfl (v_pickt rfl rfl) (by kernel_rfl) (by kernel_rfl) (by kernel_rfl) (rem' := [27, 28, 29, 30, 31, 32, 33, 34, 35, 36, 37, 38, 39, 40, 41, 42, 43, 44, 45, 46, 47, 48, 49, 50, 51, 52, 53, 54, 55, 56, 57, 58, 59, 60, 61, 62]) (by kernel_rfl) rfl ?_
  refine QS_v (i := 27) rfl (v_move rfl) (by kernel_rfl) (by kernel_rfl) (by kernel_rfl) (rem' := [28, 29, 30, 31, 32, 33, 34, 35, 36, 37, 38, 39, 40, 41, 42, 43, 44, 45, 46, 47, 48, 49, 50, 51, 52, 53, 54, 55, 56, 57, 58, 59, 60, 61, 62]) (by kernel_rfl) rfl ?_
  refine QS_vg (i := 28) rfl rfl rfl (v_move rfl) (by kernel_rfl) (by kernel_rfl) (by kernel_rfl) (rem' := [29, 30, 31, 32, 33, 34, 35, 36, 37, 38, 39, 40, 41, 42, 43, 44, 45, 46, 47, 48, 49, 50, 51, 52, 53, 54, 55, 56, 57, 58, 59, 60, 61, 62]) (by kernel_rfl) rfl ?_
  refine QS_vg (i := 29) rfl rfl rfl (OpV.to (v' := .bool true) (v_eql rfl rfl) (by first | rfl | simp)) (by kernel_rfl) (by kernel_rfl) (by kernel_rfl) (rem' := [30, 31, 32, 33, 34, 35, 36, 37, 38, 39, 40, 41, 42, 43, 44, 45, 46, 47, 48, 49, 50, 51, 52, 53, 54, 55, 56, 57, 58, 59, 60, 61, 62]) (by kernel_rfl) rfl ?_
  refine QS_v (i := 30) rfl (v_pickt rfl rfl) (by kernel_rfl) (by kernel_rfl) (by kernel_rfl) (rem' := [31, 32, 33, 34, 35, 36, 37, 38, 39, 40, 41, 42, 43, 44, 45, 46, 47, 48, 49, 50, 51, 52, 53, 54, 55, 56, 57, 58, 59, 60, 61, 62]) (by kernel_rfl) rfl ?_
  refine QS_v (i := 31) rfl (v_move rfl) (by kernel_rfl) (by kernel_rfl) (by kernel_rfl) (rem' := [32, 33, 34, 35, 36, 37, 38, 39, 40, 41, 42, 43, 44, 45, 46, 47, 48, 49, 50, 51, 52, 53, 54, 55, 56, 57, 58, 59, 60, 61, 62]) (by kernel_rfl) rfl ?_
  refine QS_vg (i := 32) rfl rfl rfl (v_faddr Tryz.underlying36 rfl siz23 rfl) (by kernel_rfl) (by kernel_rfl) (by kernel_rfl) (rem' := [33, 34, 35, 36, 37, 38, 39, 40, 41, 42, 43, 44, 45, 46, 47, 48, 49, 50, 51, 52, 53, 54, 55, 56, 57, 58, 59, 60, 61, 62]) (by kernel_rfl) rfl ?_
  refine QS_vg (i := 33) rfl rfl rfl (v_loadn many23 rfl (Kn.own 0 rfl) (show cut 0 32 (facF lkS dz dz 0 1 1).cells = some (dcells (lid lkS)) from by rw [Fa.cutL, s7l])) (by kernel_rfl) (by kernel_rfl) (by kernel_rfl) (rem' := [34, 35, 36, 37, 38, 39, 40, 41, 42, 43, 44, 45, 46, 47, 48, 49, 50, 51, 52, 53, 54, 55, 56, 57, 58, 59, 60, 61, 62]) (by kernel_rfl) rfl ?_
  refine QS_vg (i := 34) rfl rfl rfl (v_loadn many27 rfl (Kn.own 4 rfl) (show cut 0 40 lkS.cells = some lkS.cells from Lk.cutS _)) (by kernel_rfl) (by kernel_rfl) (by kernel_rfl) (rem' := [35, 36, 37, 38, 39, 40, 41, 42, 43, 44, 45, 46, 47, 48, 49, 50, 51, 52, 53, 54, 55, 56, 57, 58, 59, 60, 61, 62]) (by kernel_rfl) rfl ?_
  refine QS_step (is := [35]) rfl (by kernel_rfl) ?_
  refine qall1 ?_
  refine qs_callqg rfl rfl rfl rfl (ID_fn lkS _ lkS_ok hG) rfl (rem' := [36, 37, 38, 39, 40, 41, 42, 43, 44, 45, 46, 47, 48, 49, 50, 51, 52, 53, 54, 55, 56, 57, 58, 59, 60, 61, 62]) (by kernel_rfl) ?_
  refine QS_vg (i := 36) rfl rfl rfl (OpV.to (v' := .bool true) (v_aeql (EqV.dig (d := 9998) Tryz.underlying23 siz5 one5 Tryz.underlying5) (by kernel_rfl) rfl rfl) (by first | rfl | simp)) (by kernel_rfl) (by kernel_rfl) (by kernel_rfl) (rem' := [37, 38, 39, 40, 41, 42, 43, 44, 45, 46, 47, 48, 49, 50, 51, 52, 53, 54, 55, 56, 57, 58, 59, 60, 61, 62]) (by kernel_rfl) rfl ?_
  refine QS_v (i := 37) rfl (v_pickt rfl rfl) (by kernel_rfl) (by kernel_rfl) (by kernel_rfl) (rem' := [38, 39, 40, 41, 42, 43, 44, 45, 46, 47, 48, 49, 50, 51, 52, 53, 54, 55, 56, 57, 58, 59, 60, 61, 62]) (by kernel_rfl) rfl ?_
  refine QS_v (i := 38) rfl (v_move rfl) (by kernel_rfl) (by kernel_rfl) (by kernel_rfl) (rem' := [39, 40, 41, 42, 43, 44, 45, 46, 47, 48, 49, 50, 51, 52, 53, 54, 55, 56, 57, 58, 59, 60, 61, 62]) (by kernel_rfl) rfl ?_
  refine QS_vg (i := 39) rfl rfl rfl (v_faddr Tryz.underlying27 rfl siz3 rfl) (by kernel_rfl) (by kernel_rfl) (by kernel_rfl) (rem' := [40, 41, 42, 43, 44, 45, 46, 47, 48, 49, 50, 51, 52, 53, 54, 55, 56, 57, 58, 59, 60, 61, 62]) (by kernel_rfl) rfl ?_
  refine QS_vg (i := 40) rfl rfl rfl (v_load1 one3 rfl (Kn.own 4 rfl) (Lk.getx lkS)) (by kernel_rfl) (by kernel_rfl) (by kernel_rfl) (rem' := [41, 42, 43, 44, 45, 46, 47, 48, 49, 50, 51, 52, 53, 54, 55, 56, 57, 58, 59, 60, 61, 62]) (by kernel_rfl) rfl ?_
  refine QS_vg (i := 41) rfl rfl rfl (OpV.to (v' := .bool true) (v_eql rfl rfl) (by first | rfl | simp)) (by kernel_rfl) (by kernel_rfl) (by kernel_rfl) (rem' := [42, 43, 44, 45, 46, 47, 48, 49, 50, 51, 52, 53, 54, 55, 56, 57, 58, 59, 60, 61, 62]) (by kernel_rfl) rfl ?_
  refine QS_v (i := 42) rfl (v_pickt rfl rfl) (by kernel_rfl) (by kernel_rfl) (by kernel_rfl) (rem' := [43, 44, 45, 46, 47, 48, 49, 50, 51, 52, 53, 54, 55, 56, 57, 58, 59, 60, 61, 62]) (by kernel_rfl) rfl ?_
  refine QS_v (i := 43) rfl (v_move rfl) (by kernel_rfl) (by kernel_rfl) (by kernel_rfl) (rem' := [44, 45, 46, 47, 48, 49, 50, 51, 52, 53, 54, 55, 56, 57, 58, 59, 60, 61, 62]) (by kernel_rfl) rfl ?_
  refine QS_vg (i := 44) rfl rfl rfl (v_builds (r := recz) Tryz.underlying54 zer54 plc54 rfl rfl (by kernel_rfl)) (by kernel_rfl) (by kernel_rfl) (by kernel_rfl) (rem' := [45, 46, 47, 48, 49, 50, 51, 52, 53, 54, 55, 56, 57, 58, 59, 60, 61, 62]) (by kernel_rfl) rfl ?_
  refine QS_vg (i := 45) rfl rfl rfl (v_loadn many27 rfl (Kn.own 4 rfl) (show cut 0 40 lkS.cells = some lkS.cells from Lk.cutS _)) (by kernel_rfl) (by kernel_rfl) (by kernel_rfl) (rem' := [46, 47, 48, 49, 50, 51, 52, 53, 54, 55, 56, 57, 58, 59, 60, 61, 62]) (by kernel_rfl) rfl ?_
  refine QS_step (is := [46]) rfl (by kernel_rfl) ?_
  refine qall1 ?_
  refine qs_callqg rfl rfl rfl rfl (Acceptedz_fn lkS _ lkS_b) rfl (rem' := [47, 48, 49, 50, 51, 52, 53, 54, 55, 56, 57, 58, 59, 60, 61, 62]) (by kernel_rfl) ?_
  refine QS_vg (i := 47) rfl rfl rfl (OpV.to (v' := .bool true) (v_not rfl) (by first | rfl | simp)) (by kernel_rfl) (by kernel_rfl) (by kernel_rfl) (rem' := [48, 49, 50, 51, 52, 53, 54, 55, 56, 57, 58, 59, 60, 61, 62]) (by kernel_rfl) rfl ?_
  refine QS_v (i := 48) rfl (v_pickt rfl rfl) (by kernel_rfl) (by kernel_rfl) (by kernel_rfl) (rem' := [49, 50, 51, 52, 53, 54, 55, 56, 57, 58, 59, 60, 61, 62]) (by kernel_rfl) rfl ?_
  refine QS_v (i := 49) rfl (v_move rfl) (by kernel_rfl) (by kernel_rfl) (by kernel_rfl) (rem' := [50, 51, 52, 53, 54, 55, 56, 57, 58, 59, 60, 61, 62]) (by kernel_rfl) rfl ?_
  refine QS_vg (i := 50) rfl rfl rfl (v_builds (r := recz) Tryz.underlying54 zer54 plc54 rfl rfl (by kernel_rfl)) (by kernel_rfl) (by kernel_rfl) (by kernel_rfl) (rem' := [51, 52, 53, 54, 55, 56, 57, 58, 59, 60, 61, 62]) (by kernel_rfl) rfl ?_
  refine QS_vg (i := 51) rfl rfl rfl (v_builds (r := lkz.cells) Tryz.underlying27 zer27 plc27 rfl rfl (by kernel_rfl)) (by kernel_rfl) (by kernel_rfl) (by kernel_rfl) (rem' := [52, 53, 54, 55, 56, 57, 58, 59, 60, 61, 62]) (by kernel_rfl) rfl ?_
  refine QS_step (is := [52]) rfl (by kernel_rfl) ?_
  refine qall1 ?_
  refine qs_callqg rfl rfl rfl rfl (Acceptedz_fn lkz _ lkz_b) rfl (rem' := [53, 54, 55, 56, 57, 58, 59, 60, 61, 62]) (by kernel_rfl) ?_
  refine QS_vg (i := 53) rfl rfl rfl (OpV.to (v' := .bool true) (v_not rfl) (by first | rfl | simp)) (by kernel_rfl) (by kernel_rfl) (by kernel_rfl) (rem' := [54, 55, 56, 57, 58, 59, 60, 61, 62]) (by kernel_rfl) rfl ?_
  refine QS_v (i := 54) rfl (v_pickt rfl rfl) (by kernel_rfl) (by kernel_rfl) (by kernel_rfl) (rem' := [55, 56, 57, 58, 59, 60, 61, 62]) (by kernel_rfl) rfl ?_
  refine QS_v (i := 55) rfl (v_move rfl) (by kernel_rfl) (by kernel_rfl) (by kernel_rfl) (rem' := [56, 57, 58, 59, 60, 61, 62]) (by kernel_rfl) rfl ?_
  refine QS_vg (i := 56) rfl rfl rfl (v_builds (r := recz) Tryz.underlying54 zer54 plc54 rfl rfl (by kernel_rfl)) (by kernel_rfl) (by kernel_rfl) (by kernel_rfl) (rem' := [57, 58, 59, 60, 61, 62]) (by kernel_rfl) rfl ?_
  refine QS_vg (i := 57) rfl rfl rfl (v_loadn many27 rfl (Kn.own 4 rfl) (show cut 0 40 lkS.cells = some lkS.cells from Lk.cutS _)) (by kernel_rfl) (by kernel_rfl) (by kernel_rfl) (rem' := [58, 59, 60, 61, 62]) (by kernel_rfl) rfl ?_
  refine QS_step (is := [58]) rfl (by kernel_rfl) ?_
  refine qall1 ?_
  refine qs_callqg rfl rfl rfl rfl (Reachz_fn lkS _ lkS_b) rfl (rem' := [59, 60, 61, 62]) (by kernel_rfl) ?_
  refine QS_vg (i := 59) rfl rfl rfl (v_lens Tryz.underlying61 rfl) (by kernel_rfl) (by kernel_rfl) (by kernel_rfl) (rem' := [60, 61, 62]) (by kernel_rfl) rfl ?_
  refine QS_vg (i := 60) rfl rfl rfl (OpV.to (v' := .bool true) (v_eql rfl rfl) (by first | rfl | simp)) (by kernel_rfl) (by kernel_rfl) (by kernel_rfl) (rem' := [61, 62]) (by kernel_rfl) rfl ?_
  refine QS_v (i := 61) rfl (v_pickt rfl rfl) (by kernel_rfl) (by kernel_rfl) (by kernel_rfl) (rem' := [62]) (by kernel_rfl) rfl ?_
  refine QS_v (i := 62) rfl (v_assign rfl) (by kernel_rfl) (by kernel_rfl) (by kernel_rfl) (rem' := []) (by kernel_rfl) rfl ?_
  refine QS_nil ?_
  refine den_ret ?_
  exact ends1 Tryz.results4 rfl (Heap.le.refl _) (.cons _ (.cons _ (.cons _ (.cons _ (.cons _ (.cons _ (.cons _ (List.Sublist.refl _)))))))) ⟨rfl, rfl⟩

theorem law_fn (l : Lk) (kc ks : Dig) (y key sec : Int) (h : Heap) (hok : l.ok) (hG : Gl h) : Fn0 Tryz.prog 3 [.agg ⟨l.cells⟩, .agg ⟨dcells kc ++ dcells ks⟩, .int .i64 y, .int .i64 key, .int .i64 sec] h (.bool true) := by
  refine Tr_of Tryz.func3 rfl rfl Tryz.ntmps3 rfl [(0, .agg ⟨l.cells⟩), (1, .agg ⟨dcells kc ++ dcells ks⟩), (2, .int .i64 y), (3, .int .i64 key), (4, .int .i64 sec)] rfl ?_
  intro Lf
  refine den_seq ?_
  -- region 0
  refine den_region rfl ?_
  refine WL_box rfl rfl rfl fun b5 => ?_
  refine WL_box rfl rfl rfl fun b6 => ?_
  refine WL_v (v_assign rfl) rfl ?_
  refine WL_freeze fun h6 hl6 hb6 => ?_
  refine WL_freeze fun h5 hl5 hb5 => ?_
  have hb6 := hl5 _ _ hb6
  have hle5 := hl6.trans hl5
  have hG5 := hG.le hle5
  have hok0 : (Lk.mk l.f l.b l.p l.v l.x l.re l.pa 0 0).ok := ⟨hok.1, hok.2.1, hok.2.2.1, hok.2.2.2.1, hok.2.2.2.2.1, ri0, ri0⟩
  refine WL_nil ?_
  refine den_seq ?_
  refine den_seq ?_
  -- region 1
  refine den_region rfl ?_
  refine WL_callq rfl (sane_fn _ hG5) rfl ?_
  refine WL_v (OpV.to (v' := .bool false) (v_not rfl) (by first | rfl | simp)) rfl ?_
  refine WL_nil ?_
  refine den_false rfl ?_
  refine den_skip ?_
  refine den_seq ?_
  -- region 3
  refine den_region rfl ?_
  refine WL_v (v_faddr Tryz.underlying27 rfl siz3 rfl) rfl ?_
  refine WL_v (v_load1 one3 rfl (Kn.per hb5) (show l.cells[0]? = some (.int .i64 l.f) from rfl)) rfl ?_
  refine WL_v (v_faddr Tryz.underlying27 rfl siz3 rfl) rfl ?_
  refine WL_v (v_load1 one3 rfl (Kn.per hb5) (show l.cells[1]? = some (.int .i64 l.b) from rfl)) rfl ?_
  refine WL_v (v_faddr Tryz.underlying27 rfl siz3 rfl) rfl ?_
  refine WL_v (v_load1 one3 rfl (Kn.per hb5) (show l.cells[2]? = some (.int .i64 l.p) from rfl)) rfl ?_
  refine WL_v (v_faddr Tryz.underlying27 rfl siz3 rfl) rfl ?_
  refine WL_v (v_load1 one3 rfl (Kn.per hb5) (show l.cells[3]? = some (.int .i64 l.v) from rfl)) rfl ?_
  refine WL_v (v_faddr Tryz.underlying27 rfl siz3 rfl) rfl ?_
  refine WL_v (v_load1 one3 rfl (Kn.per hb5) (show l.cells[4]? = some (.int .i64 l.x) from rfl)) rfl ?_
  refine WL_v (v_faddr Tryz.underlying27 rfl siz4 rfl) rfl ?_
  refine WL_v (v_load1 one4 rfl (Kn.per hb5) (show l.cells[5]? = some (.bool l.re) from rfl)) rfl ?_
  refine WL_v (v_faddr Tryz.underlying27 rfl siz23 rfl) rfl ?_
  refine WL_v (v_loadn many23 rfl (Kn.per hb5) (Lk.cutP l)) rfl ?_
  refine WL_v (v_move rfl) rfl ?_
  refine WL_callq rfl (make_fn l.f l.b l.p l.v l.x l.re l.pa key _ hok0 hG5) rfl ?_
  refine WL_v (v_move rfl) rfl ?_
  refine WL_v (v_extract rfl rfl) rfl ?_
  refine WL_v (v_extract rfl rfl) rfl ?_
  refine WL_alloc zer27 rfl rfl fun b11 => ?_
  refine WL_store0 rfl rfl (us := (mkL (Lk.mk l.f l.b l.p l.v l.x l.re l.pa 0 0) key).cells) rfl siz27 (by exact spl_all (Lk.len40 _)) (Lk.one _) rfl ?_
  refine WL_v (v_assign rfl) rfl ?_
  refine WL_nil ?_
  refine den_seq ?_
  -- region 4
  refine den_region rfl ?_
  refine WL_v (v_faddr Tryz.underlying27 rfl siz3 rfl) rfl ?_
  refine WL_v (v_load1 one3 rfl (Kn.per hb5) (show l.cells[0]? = some (.int .i64 l.f) from rfl)) rfl ?_
  refine WL_v (v_faddr Tryz.underlying27 rfl siz3 rfl) rfl ?_
  refine WL_v (v_load1 one3 rfl (Kn.per hb5) (show l.cells[1]? = some (.int .i64 l.b) from rfl)) rfl ?_
  refine WL_v (v_faddr Tryz.underlying27 rfl siz3 rfl) rfl ?_
  refine WL_v (v_load1 one3 rfl (Kn.per hb5) (show l.cells[2]? = some (.int .i64 l.p) from rfl)) rfl ?_
  refine WL_v (v_faddr Tryz.underlying27 rfl siz3 rfl) rfl ?_
  refine WL_v (v_load1 one3 rfl (Kn.per hb5) (show l.cells[3]? = some (.int .i64 l.v) from rfl)) rfl ?_
  refine WL_v (v_faddr Tryz.underlying27 rfl siz3 rfl) rfl ?_
  refine WL_v (v_load1 one3 rfl (Kn.per hb5) (show l.cells[4]? = some (.int .i64 l.x) from rfl)) rfl ?_
  refine WL_v (v_faddr Tryz.underlying27 rfl siz4 rfl) rfl ?_
  refine WL_v (v_load1 one4 rfl (Kn.per hb5) (show l.cells[5]? = some (.bool l.re) from rfl)) rfl ?_
  refine WL_v (v_faddr Tryz.underlying27 rfl siz23 rfl) rfl ?_
  refine WL_v (v_loadn many23 rfl (Kn.per hb5) (Lk.cutP l)) rfl ?_
  refine WL_v (v_move rfl) rfl ?_
  refine WL_callq rfl (rmake_fn l.f l.b l.p l.v l.x l.re l.pa key _ hok0) rfl ?_
  refine WL_v (v_move rfl) rfl ?_
  refine WL_v (v_extract rfl rfl) rfl ?_
  refine WL_v (v_extract rfl rfl) rfl ?_
  refine WL_alloc zer27 rfl rfl fun b13 => ?_
  refine WL_store0 rfl rfl (us := (mkL (Lk.mk l.f l.b l.p l.v l.x l.re l.pa 0 0) key).cells) rfl siz27 (by exact spl_all (Lk.len40 _)) (Lk.one _) rfl ?_
  refine WL_v (v_assign rfl) rfl ?_
  refine WL_nil ?_
  refine den_seq ?_
  -- region 5
  refine den_region rfl ?_
  refine WL_v (v_loadn many27 rfl (Kn.per hb5) (show cut 0 40 l.cells = some l.cells from Lk.cutS _)) rfl ?_
  refine WL_v (v_loadn many30 rfl (Kn.per hb6) (show cut 0 64 (dcells kc ++ dcells ks) = some (dcells kc ++ dcells ks) from cut_self rfl)) rfl ?_
  refine WL_v (v_move rfl) rfl ?_
  refine WL_v (v_move rfl) rfl ?_
  refine WL_v (v_move rfl) rfl ?_
  refine WL_callq rfl (factor_fn l kc ks y key sec _ hok hG5) rfl ?_
  refine WL_v (v_move rfl) rfl ?_
  refine WL_v (v_extract rfl rfl) rfl ?_
  refine WL_v (v_extract rfl rfl) rfl ?_
  refine WL_alloc zer36 rfl rfl fun b15 => ?_
  refine WL_store0 rfl rfl (us := (facF l kc ks y key sec).cells) rfl siz36 (by exact spl_all (Fa.len68 _)) (Fa.one _) rfl ?_
  refine WL_v (v_assign rfl) rfl ?_
  refine WL_nil ?_
  refine den_seq ?_
  -- region 6
  refine den_region rfl ?_
  refine WL_v (v_loadn many27 rfl (Kn.per hb5) (show cut 0 40 l.cells = some l.cells from Lk.cutS _)) rfl ?_
  refine WL_v (v_loadn many30 rfl (Kn.per hb6) (show cut 0 64 (dcells kc ++ dcells ks) = some (dcells kc ++ dcells ks) from cut_self rfl)) rfl ?_
  refine WL_v (v_move rfl) rfl ?_
  refine WL_v (v_move rfl) rfl ?_
  refine WL_v (v_move rfl) rfl ?_
  refine WL_callq rfl (rfactor_fn l kc ks y key sec _ hok) rfl ?_
  refine WL_v (v_move rfl) rfl ?_
  refine WL_v (v_extract rfl rfl) rfl ?_
  refine WL_v (v_extract rfl rfl) rfl ?_
  refine WL_alloc zer36 rfl rfl fun b17 => ?_
  refine WL_store0 rfl rfl (us := (facF l kc ks y key sec).cells) rfl siz36 (by exact spl_all (Fa.len68 _)) (Fa.one _) rfl ?_
  refine WL_v (v_assign rfl) rfl ?_
  refine WL_nil ?_
  refine den_seq ?_
  -- region 7
  refine den_draw [] (by kernel_rfl) (by kernel_rfl) (NoP.fn) (rem := [0, 1, 2, 3, 4, 5, 6, 7, 8, 9, 10, 11, 12, 13, 14, 15, 16, 17, 18, 19, 20, 21, 22, 23, 24, 25]) (by kernel_rfl) ?_
  refine QS_v (i := 0) rfl (v_loadn many27 rfl (Kn.own 3 rfl) (show cut 0 40 (mkL (Lk.mk l.f l.b l.p l.v l.x l.re l.pa 0 0) key).cells = some (mkL (Lk.mk l.f l.b l.p l.v l.x l.re l.pa 0 0) key).cells from Lk.cutS _)) (by kernel_rfl) (by kernel_rfl) (by kernel_rfl) (rem' := [1, 2, 3, 4, 5, 6, 7, 8, 9, 10, 11, 12, 13, 14, 15, 16, 17, 18, 19, 20, 21, 22, 23, 24, 25]) (by kernel_rfl) rfl ?_
  refine QS_v (i := 1) rfl (v_loadn many27 rfl (Kn.own 2 rfl) (show cut 0 40 (mkL (Lk.mk l.f l.b l.p l.v l.x l.re l.pa 0 0) key).cells = some (mkL (Lk.mk l.f l.b l.p l.v l.x l.re l.pa 0 0) key).cells from Lk.cutS _)) (by kernel_rfl) (by kernel_rfl) (by kernel_rfl) (rem' := [2, 3, 4, 5, 6, 7, 8, 9, 10, 11, 12, 13, 14, 15, 16, 17, 18, 19, 20, 21, 22, 23, 24, 25]) (by kernel_rfl) rfl ?_
  refine QS_v (i := 2) rfl (OpV.to (v' := .bool true) (v_aeql (lk_self _) (by kernel_rfl) rfl rfl) (by first | rfl | simp)) (by kernel_rfl) (by kernel_rfl) (by kernel_rfl) (rem' := [3, 4, 5, 6, 7, 8, 9, 10, 11, 12, 13, 14, 15, 16, 17, 18, 19, 20, 21, 22, 23, 24, 25]) (by kernel_rfl) rfl ?_
  refine QS_v (i := 3) rfl (v_move rfl) (by kernel_rfl) (by kernel_rfl) (by kernel_rfl) (rem' := [4, 5, 6, 7, 8, 9, 10, 11, 12, 13, 14, 15, 16, 17, 18, 19, 20, 21, 22, 23, 24, 25]) (by kernel_rfl) rfl ?_
  refine QS_vg (i := 4) rfl rfl rfl (v_move rfl) (by kernel_rfl) (by kernel_rfl) (by kernel_rfl) (rem' := [5, 6, 7, 8, 9, 10, 11, 12, 13, 14, 15, 16, 17, 18, 19, 20, 21, 22, 23, 24, 25]) (by kernel_rfl) rfl ?_
  refine QS_vg (i := 5) rfl rfl rfl (v_move rfl) (by kernel_rfl) (by kernel_rfl) (by kernel_rfl) (rem' := [6, 7, 8, 9, 10, 11, 12, 13, 14, 15, 16, 17, 18, 19, 20, 21, 22, 23, 24, 25]) (by kernel_rfl) rfl ?_
  refine QS_vg (i := 6) rfl rfl rfl (OpV.to (v' := .bool true) (v_eql rfl rfl) (by first | rfl | simp)) (by kernel_rfl) (by kernel_rfl) (by kernel_rfl) (rem' := [7, 8, 9, 10, 11, 12, 13, 14, 15, 16, 17, 18, 19, 20, 21, 22, 23, 24, 25]) (by kernel_rfl) rfl ?_
  refine QS_v (i := 7) rfl (v_pickt rfl rfl) (by kernel_rfl) (by kernel_rfl) (by kernel_rfl) (rem' := [8, 9, 10, 11, 12, 13, 14, 15, 16, 17, 18, 19, 20, 21, 22, 23, 24, 25]) (by kernel_rfl) rfl ?_
  refine QS_v (i := 8) rfl (v_move rfl) (by kernel_rfl) (by kernel_rfl) (by kernel_rfl) (rem' := [9, 10, 11, 12, 13, 14, 15, 16, 17, 18, 19, 20, 21, 22, 23, 24, 25]) (by kernel_rfl) rfl ?_
  refine QS_vg (i := 9) rfl rfl rfl (v_loadn many27 rfl (Kn.per hb5) (show cut 0 40 l.cells = some l.cells from Lk.cutS _)) (by kernel_rfl) (by kernel_rfl) (by kernel_rfl) (rem' := [10, 11, 12, 13, 14, 15, 16, 17, 18, 19, 20, 21, 22, 23, 24, 25]) (by kernel_rfl) rfl ?_
  refine QS_vg (i := 11) rfl rfl rfl (v_loadn many27 rfl (Kn.per hb5) (show cut 0 40 l.cells = some l.cells from Lk.cutS _)) (by kernel_rfl) (by kernel_rfl) (by kernel_rfl) (rem' := [10, 12, 13, 14, 15, 16, 17, 18, 19, 20, 21, 22, 23, 24, 25]) (by kernel_rfl) rfl ?_
  refine QS_step (is := [10]) rfl (by kernel_rfl) ?_
  refine qall1 ?_
  refine qs_callqg rfl rfl rfl rfl (ID_fn l _ hok hG5) rfl (rem' := [12, 13, 14, 15, 16, 17, 18, 19, 20, 21, 22, 23, 24, 25]) (by kernel_rfl) ?_
  refine QS_step (is := [12]) rfl (by kernel_rfl) ?_
  refine qall1 ?_
  refine qs_callqg rfl rfl rfl rfl (rlid_fn l _ hok) rfl (rem' := [13, 14, 15, 16, 17, 18, 19, 20, 21, 22, 23, 24, 25]) (by kernel_rfl) ?_
  refine QS_vg (i := 13) rfl rfl rfl (OpV.to (v' := .bool true) (v_aeql (EqV.dig (d := 9998) Tryz.underlying23 siz5 one5 Tryz.underlying5) (by kernel_rfl) rfl rfl) (by first | rfl | simp)) (by kernel_rfl) (by kernel_rfl) (by kernel_rfl) (rem' := [14, 15, 16, 17, 18, 19, 20, 21, 22, 23, 24, 25]) (by kernel_rfl) rfl ?_
  refine QS_v (i := 14) rfl (v_pickt rfl rfl) (by kernel_rfl) (by kernel_rfl) (by kernel_rfl) (rem' := [15, 16, 17, 18, 19, 20, 21, 22, 23, 24, 25]) (by kernel_rfl) rfl ?_
  refine QS_v (i := 15) rfl (v_move rfl) (by kernel_rfl) (by kernel_rfl) (by kernel_rfl) (rem' := [16, 17, 18, 19, 20, 21, 22, 23, 24, 25]) (by kernel_rfl) rfl ?_
  refine QS_vg (i := 16) rfl rfl rfl (v_loadn many36 rfl (Kn.own 1 rfl) (show cut 0 68 (facF l kc ks y key sec).cells = some (facF l kc ks y key sec).cells from Fa.cutS _)) (by kernel_rfl) (by kernel_rfl) (by kernel_rfl) (rem' := [17, 18, 19, 20, 21, 22, 23, 24, 25]) (by kernel_rfl) rfl ?_
  refine QS_vg (i := 17) rfl rfl rfl (v_loadn many36 rfl (Kn.own 0 rfl) (show cut 0 68 (facF l kc ks y key sec).cells = some (facF l kc ks y key sec).cells from Fa.cutS _)) (by kernel_rfl) (by kernel_rfl) (by kernel_rfl) (rem' := [18, 19, 20, 21, 22, 23, 24, 25]) (by kernel_rfl) rfl ?_
  refine QS_vg (i := 18) rfl rfl rfl (OpV.to (v' := .bool true) (v_aeql (fa_self _) (by kernel_rfl) rfl rfl) (by first | rfl | simp)) (by kernel_rfl) (by kernel_rfl) (by kernel_rfl) (rem' := [19, 20, 21, 22, 23, 24, 25]) (by kernel_rfl) rfl ?_
  refine QS_v (i := 19) rfl (v_pickt rfl rfl) (by kernel_rfl) (by kernel_rfl) (by kernel_rfl) (rem' := [20, 21, 22, 23, 24, 25]) (by kernel_rfl) rfl ?_
  refine QS_v (i := 20) rfl (v_move rfl) (by kernel_rfl) (by kernel_rfl) (by kernel_rfl) (rem' := [21, 22, 23, 24, 25]) (by kernel_rfl) rfl ?_
  refine QS_vg (i := 21) rfl rfl rfl (v_move rfl) (by kernel_rfl) (by kernel_rfl) (by kernel_rfl) (rem' := [22, 23, 24, 25]) (by kernel_rfl) rfl ?_
  refine QS_vg (i := 22) rfl rfl rfl (v_move rfl) (by kernel_rfl) (by kernel_rfl) (by kernel_rfl) (rem' := [23, 24, 25]) (by kernel_rfl) rfl ?_
  refine QS_vg (i := 23) rfl rfl rfl (OpV.to (v' := .bool true) (v_eql rfl rfl) (by first | rfl | simp)) (by kernel_rfl) (by kernel_rfl) (by kernel_rfl) (rem' := [24, 25]) (by kernel_rfl) rfl ?_
  refine QS_v (i := 24) rfl (v_pickt rfl rfl) (by kernel_rfl) (by kernel_rfl) (by kernel_rfl) (rem' := [25]) (by kernel_rfl) rfl ?_
  refine QS_v (i := 25) rfl (v_assign rfl) (by kernel_rfl) (by kernel_rfl) (by kernel_rfl) (rem' := []) (by kernel_rfl) rfl ?_
  refine QS_nil ?_
  refine den_ret ?_
  exact ends1 Tryz.results3 rfl hle5 (.cons _ (.cons _ (.cons _ (.cons _ (List.Sublist.refl _))))) ⟨rfl, rfl⟩

end Go.Proofs.Ch
