/- Walks of the program's functions, printed by my own generator (layer P6). -/
import Derived.Test.YtmeakefbepbapaaGreatDoorP5
import Derived.Test.YtmeakefbepbapaaGreatDoorS3
namespace Go.Proofs.Ch
open Go Go.Proofs
set_option maxRecDepth 4000
set_option maxHeartbeats 1000000

def prT (tw : Bool) : Pol := ⟨0, tw, [], [], 0, 0⟩
theorem prT_good (tw : Bool) : (prT tw).good := by cases tw <;> decide +kernel
theorem apcd {it : Dig} {d : Int} (h : dev d) : (apC it d (d + 1)).d = d := by rw [apC_dev h]
theorem apE_dev {d : Int} (h : dev d) : apE d (d + 1) = 0 := by unfold apE; rw [if_pos h, if_pos (isPr_dev h)]
theorem cok_gone {xs : List Lst} {it : Dig} {d r s : Int} {k : Nat} (hk : (k : Int) = at_ xs d) (hg : (xs.getD k lstz).g = true) : ¬ cok xs it ⟨d, r, s⟩ := fun g => by
  have := ((cok_at (c := ⟨d, r, s⟩) hk).1 g).1
  rw [hg] at this; cases this
theorem two_at0 {A B : Int} {g g2 : Bool} : at_ [lsd A g, lsd B g2] A = 0 := at_some (i := 0) (by simp) rfl (fun j hj => by omega)
theorem two_at1 {A B : Int} {g g2 : Bool} (h : A ≠ B) : at_ [lsd A g, lsd B g2] B = 1 := at_some (i := 1) (by simp) rfl (fun j hj => by
  obtain rfl : j = 0 := by omega
  exact h)
theorem two_t0 (tw : Bool) {it : Dig} {A B : Int} (hA : dev A) (hB : dev B) (h : A ≠ B) : expE (prT tw) [lsd A false, lsd B false] it [apC it A (A + 1), apC it B (B + 1)] = if tw = true ∧ own A = own B then 460 else 0 := by
  unfold expE
  rw [if_pos (prT_good tw), ows_two, ows_one (cok_ap hA (k := 0) two_at0 rfl), ows_one (cok_ap hB (k := 1) (two_at1 h) rfl), apcd hA, apcd hB]
  show (if (setI [own A, own B]).length = 0 ∨ tw = true ∧ (setI [own A, own B]).length = 1 then 460 else 0) = if tw = true ∧ own A = own B then 460 else 0
  by_cases ho : own A = own B
  · cases tw <;> simp [setI, addI, ho]
  · have ho2 : ¬ own B = own A := fun g => ho g.symm
    simp [setI, addI, ho, ho2]
theorem two_t1 (tw : Bool) {it : Dig} {A B : Int} (hA : dev A) (hB : dev B) (h : A ≠ B) : expE (prT tw) [lsd A false, lsd B true] it [apC it A (A + 1), apC it B (B + 1)] = if tw = true then 460 else 0 := by
  unfold expE
  have hn : ¬ cok [lsd A false, lsd B true] it (apC it B (B + 1)) := by rw [apC_dev hB]; exact cok_gone (k := 1) (two_at1 h).symm rfl
  rw [if_pos (prT_good tw), ows_two, ows_one (cok_ap hA (k := 0) two_at0 rfl), ows_none hn, apcd hA]
  show (if (setI [own A]).length = 0 ∨ tw = true ∧ (setI [own A]).length = 1 then 460 else 0) = if tw = true then 460 else 0
  cases tw <;> simp [setI, addI]
theorem two_t2 (tw : Bool) {it : Dig} {A B : Int} (hA : dev A) (hB : dev B) (h : A ≠ B) : expE (prT tw) [lsd A true, lsd B true] it [apC it A (A + 1), apC it B (B + 1)] = 460 := by
  unfold expE
  have h1 : ¬ cok [lsd A true, lsd B true] it (apC it A (A + 1)) := by rw [apC_dev hA]; exact cok_gone (k := 0) two_at0.symm rfl
  have h2 : ¬ cok [lsd A true, lsd B true] it (apC it B (B + 1)) := by rw [apC_dev hB]; exact cok_gone (k := 1) (two_at1 h).symm rfl
  rw [if_pos (prT_good tw), ows_two, ows_none h1, ows_none h2]; exact if_pos (.inl rfl)
theorem lawt_t (it : Dig) (d x : Int) (h : Heap) (hG : Gl h) : Fn0 Tryz.prog 5 [.agg ⟨dcells it⟩, .int .i64 d, .int .i64 x, .bool true] h (.bool true) := by
  refine Tr_of Tryz.func5 rfl rfl Tryz.ntmps5 rfl [(0, .agg ⟨dcells it⟩), (1, .int .i64 d), (2, .int .i64 x), (3, .bool true)] rfl ?_
  intro Lf
  refine den_seq ?_
  -- region 0
  refine den_region rfl ?_
  refine WL_box (zs := dcells it) rfl rfl rfl fun b4 => ?_
  refine WL_freeze fun h4 hl4 hb4 => ?_
  have hG := hG.le hl4
  have z := hl4
  refine WL_v (v_assign rfl) rfl ?_
  refine WL_nil ?_
  refine den_seq ?_
  refine den_seq ?_
  -- region 1
  refine den_region rfl ?_
  refine WL_callq rfl (sane46_fn _ hG) rfl ?_
  refine WL_v (OpV.to (v' := .bool false) (v_not rfl) (by first | rfl | simp)) rfl ?_
  refine WL_nil ?_
  refine den_false rfl ?_
  refine den_skip ?_
  refine den_seq ?_
  -- region 3
  refine den_region rfl ?_
  refine WL_v (v_move rfl) rfl ?_
  refine WL_v (v_and rfl rfl (and511 d)) rfl ?_
  refine WL_v (v_move rfl) rfl ?_
  refine WL_v (v_and rfl rfl (and511 x)) rfl ?_
  refine WL_v (v_assign rfl) rfl ?_
  refine WL_v (v_assign rfl) rfl ?_
  refine WL_nil ?_
  refine den_seq ?_
  refine den_seq ?_
  -- region 4
  refine den_region rfl ?_
  obtain ⟨A, hA, hdA⟩ : ∃ A, A = d % 512 ∧ dev A := ⟨_, rfl, by unfold dev; omega⟩
  obtain ⟨B, hB, hdB⟩ : ∃ B, B = x % 512 ∧ dev B := ⟨_, rfl, by unfold dev; omega⟩
  rw [← hA, ← hB]
  clear hA hB
  have hA1 := hdA.1
  have hA2 := hdA.2
  have hB1 := hdB.1
  have hB2 := hdB.2
  refine WL_v (v_move rfl) rfl ?_
  refine WL_v (v_move rfl) rfl ?_
  refine WL_v (v_eql rfl rfl) rfl ?_
  refine WL_nil ?_
  first | refine den_ifd rfl (fun hab => ?_) (fun hab => ?_) | refine den_if rfl (fun hab => ?_) (fun hab => ?_)
  · skip
    refine den_seq ?_
    -- region 5
    refine den_region rfl ?_
    refine WL_v (v_assign rfl) rfl ?_
    refine WL_nil ?_
    refine den_ret ?_
    exact ends1 Tryz.results5 rfl z (by first | exact List.Sublist.refl _ | exact .cons _ (List.Sublist.refl _)) ⟨rfl, rfl⟩
  · skip
    refine den_skip ?_
    refine den_seq ?_
    -- region 6
    refine den_region rfl ?_
    refine WL_v (v_loadn many26 rfl (Kn.per hb4) (cut_self rfl)) rfl ?_
    refine WL_v (v_move rfl) rfl ?_
    refine WL_v (v_move rfl) rfl ?_
    refine WL_v (v_add rfl rfl (wrap_i64 (by omega) (by omega))) rfl ?_
    refine WL_callq rfl (approve_fn it A (A + 1) _ hG) rfl ?_
    rw [apE_dev hdA]
    refine WL_v (v_move rfl) rfl ?_
    refine WL_v (v_extract rfl rfl) rfl ?_
    refine WL_v (v_extract rfl rfl) rfl ?_
    refine WL_alloc zer32 rfl rfl fun b9 => ?_
    refine WL_store0 rfl rfl (us := (apC it A (A + 1)).cells) rfl siz32 (by exact spl_all (Con.len _)) (Con.one _) rfl ?_
    refine WL_freeze fun h9 hl9 hb9 => ?_
    have hG := hG.le hl9
    have hb4 := hl9 _ _ hb4
    have z := z.trans hl9
    refine WL_v (v_assign rfl) rfl ?_
    refine WL_nil ?_
    refine den_seq ?_
    -- region 7
    refine den_region rfl ?_
    refine WL_v (v_loadn many26 rfl (Kn.per hb4) (cut_self rfl)) rfl ?_
    refine WL_v (v_move rfl) rfl ?_
    refine WL_v (v_move rfl) rfl ?_
    refine WL_v (v_add rfl rfl (wrap_i64 (by omega) (by omega))) rfl ?_
    refine WL_callq rfl (approve_fn it B (B + 1) _ hG) rfl ?_
    rw [apE_dev hdB]
    refine WL_v (v_move rfl) rfl ?_
    refine WL_v (v_extract rfl rfl) rfl ?_
    refine WL_v (v_extract rfl rfl) rfl ?_
    refine WL_alloc zer32 rfl rfl fun b11 => ?_
    refine WL_store0 rfl rfl (us := (apC it B (B + 1)).cells) rfl siz32 (by exact spl_all (Con.len _)) (Con.one _) rfl ?_
    refine WL_freeze fun h11 hl11 hb11 => ?_
    have hG := hG.le hl11
    have hb4 := hl11 _ _ hb4
    have hb9 := hl11 _ _ hb9
    have z := z.trans hl11
    refine WL_v (v_assign rfl) rfl ?_
    refine WL_nil ?_
    refine den_seq ?_
    -- region 8
    refine den_region rfl ?_
    refine WL_v (v_move rfl) rfl ?_
    refine WL_callq rfl (owner_fn A _) rfl ?_
    rw [show ownV A = own A from if_pos hdA, show ownE A = 0 from if_pos hdA]
    refine WL_v (v_move rfl) rfl ?_
    refine WL_v (v_extract rfl rfl) rfl ?_
    refine WL_v (v_extract rfl rfl) rfl ?_
    refine WL_v (v_assign rfl) rfl ?_
    refine WL_v (v_assign rfl) rfl ?_
    refine WL_nil ?_
    refine den_seq ?_
    -- region 9
    refine den_region rfl ?_
    refine WL_v (v_move rfl) rfl ?_
    refine WL_callq rfl (owner_fn B _) rfl ?_
    rw [show ownV B = own B from if_pos hdB, show ownE B = 0 from if_pos hdB]
    refine WL_v (v_move rfl) rfl ?_
    refine WL_v (v_extract rfl rfl) rfl ?_
    refine WL_v (v_extract rfl rfl) rfl ?_
    refine WL_v (v_assign rfl) rfl ?_
    refine WL_v (v_assign rfl) rfl ?_
    refine WL_nil ?_
    refine den_seq ?_
    refine den_seq ?_
    -- region 10
    refine den_region rfl ?_
    refine WL_v (v_move rfl) rfl ?_
    refine WL_v (OpV.to (v' := .bool false) (v_neq rfl rfl) (by first | rfl | simp)) rfl ?_
    refine WL_v (v_move rfl) rfl ?_
    refine WL_vg rfl rfl (v_move rfl) rfl ?_
    refine WL_vg rfl rfl (OpV.to (v' := .bool false) (v_neq rfl rfl) (by first | rfl | simp)) rfl ?_
    refine WL_v (v_pickf rfl rfl) rfl ?_
    refine WL_v (v_move rfl) rfl ?_
    refine WL_vg rfl rfl (v_move rfl) rfl ?_
    refine WL_vg rfl rfl (OpV.to (v' := .bool false) (v_neq rfl rfl) (by first | rfl | simp)) rfl ?_
    refine WL_v (v_pickf rfl rfl) rfl ?_
    refine WL_v (v_move rfl) rfl ?_
    refine WL_vg rfl rfl (v_move rfl) rfl ?_
    refine WL_vg rfl rfl (OpV.to (v' := .bool false) (v_neq rfl rfl) (by first | rfl | simp)) rfl ?_
    refine WL_v (v_pickf rfl rfl) rfl ?_
    refine WL_nil ?_
    refine den_false rfl ?_
    refine den_skip ?_
    refine den_seq ?_
    -- region 12
    refine den_region rfl ?_
    refine WL_v (v_move rfl) rfl ?_
    refine WL_callq rfl (listed_fn A _ hdA) rfl ?_
    refine WL_v (v_move rfl) rfl ?_
    refine WL_callq rfl (listed_fn B _ hdB) rfl ?_
    refine WL_buildSlice Tryz.underlying38 zer49 rfl siz49 rfl rfl rfl rfl rfl fun b74 => ?_
    refine WL_v (v_assign rfl) rfl ?_
    refine WL_nil ?_
    refine den_seq ?_
    -- region 13
    refine den_region rfl ?_
    refine WL_v (v_loadn many26 rfl (Kn.per hb4) (cut_self rfl)) rfl ?_
    refine WL_v (v_loadn many32 rfl (Kn.per hb9) (Con.cutS _)) rfl ?_
    refine WL_v (v_loadn many32 rfl (Kn.per hb11) (Con.cutS _)) rfl ?_
    refine WL_buildSlice Tryz.underlying39 zer32 rfl siz32 rfl rfl rfl rfl rfl fun b78 => ?_
    refine WL_freeze fun h78 hl78 hb78 => ?_
    have hG := hG.le hl78
    have hb4 := hl78 _ _ hb4
    have hb9 := hl78 _ _ hb9
    have hb11 := hl78 _ _ hb11
    have z := z.trans hl78
    have hy : SlC h78 (some ⟨b78, 0, none⟩) [apC it A (A + 1), apC it B (B + 1)] := SlC.of (l := [apC it A (A + 1), apC it B (B + 1)]) hb78 (by simp)
    refine WL_v (v_builds (r := (dcells it ++ [.slice (some ⟨b78, 0, none⟩) 2 2])) Tryz.underlying41 zer41 plc41 rfl rfl rfl) rfl ?_
    refine WL_alloc zer41 rfl rfl fun b18 => ?_
    refine WL_store0 rfl rfl (us := (dcells it ++ [.slice (some ⟨b78, 0, none⟩) 2 2])) rfl (show Siz _ _ ((dcells it ++ [Value.slice (some ⟨b78, 0, none⟩) 2 2]) : List Value).length from siz41) (by exact spl_all rfl) rfl rfl ?_
    refine WL_freeze fun h18 hl18 hb18 => ?_
    have hG := hG.le hl18
    have hb4 := hl18 _ _ hb4
    have hb9 := hl18 _ _ hb9
    have hb11 := hl18 _ _ hb11
    have hy := hy.le hl18
    have z := z.trans hl18
    refine WL_nil ?_
    refine den_seq ?_
    -- region 14
    refine den_region rfl ?_
    refine WL_v (v_assign rfl) rfl ?_
    refine WL_nil ?_
    refine den_seq ?_
    refine den_seq ?_
    -- region 15
    refine den_region rfl ?_
    refine WL_v (v_move rfl) rfl ?_
    refine WL_v (OpV.to (v' := .bool true) (v_move rfl) (by first | rfl | simp)) rfl ?_
    refine WL_vg rfl rfl (v_move rfl) rfl ?_
    refine WL_vg rfl rfl (v_move rfl) rfl ?_
    refine WL_vg rfl rfl (v_eql rfl rfl) rfl ?_
    refine WL_v (v_pickt rfl rfl) rfl ?_
    refine WL_nil ?_
    first | refine den_ifd rfl (fun hown => ?_) (fun hown => ?_) | refine den_if rfl (fun hown => ?_) (fun hown => ?_)
    · skip
      -- region 16
      refine den_region rfl ?_
      refine WL_v (v_assign rfl) rfl ?_
      refine WL_nil ?_
      refine den_seq ?_
      -- region 17
      refine den_region rfl ?_
      refine WL_v (v_move rfl) rfl ?_
      refine WL_v (v_builds (r := ((prT true).cells none none 0 0)) Tryz.underlying24 zer24 plc24 rfl rfl rfl) rfl ?_
      refine WL_alloc zer24 rfl rfl fun b20 => ?_
      refine WL_store0 rfl rfl (us := ((prT true).cells none none 0 0)) rfl siz24 (by exact spl_all rfl) rfl rfl ?_
      refine WL_freeze fun h20 hl20 hb20 => ?_
      have hG := hG.le hl20
      have hb4 := hl20 _ _ hb4
      have hb9 := hl20 _ _ hb9
      have hb11 := hl20 _ _ hb11
      have hy := hy.le hl20
      have hb18 := hl20 _ _ hb18
      have z := z.trans hl20
      refine WL_nil ?_
      refine den_seq ?_
      refine den_seq ?_
      -- region 18
      refine den_region rfl ?_
      refine WL_v (v_loadn many24 rfl (Kn.per hb20) (show cut 0 6 ((prT true).cells none none 0 0) = some ((prT true).cells none none 0 0) from rfl)) rfl ?_
      refine WL_v (v_move rfl) rfl ?_
      refine WL_v (v_loadn many41 rfl (Kn.per hb18) (cut_self rfl)) rfl ?_
      refine WL_callqb (A := []) (b := b74) rfl (fun hb0 hl0 hbo => export_fn (prT true) none none (some ⟨b74, 0, none⟩) _ 0 0 2 2 [lsd A false, lsd B false] it [apC it A (A + 1), apC it B (B + 1)] hb0 (SlI.nil _) (SlI.nil _) (SlL.of (l := [lsd A false, lsd B false]) hbo (by simp)) (hy.le hl0) (hG.le hl0)) rfl ?_
      rw [two_t0 true hdA hdB hab]
      refine WL_v (v_move rfl) rfl ?_
      refine WL_v (OpV.to (v' := .bool false) (v_neq rfl rfl) (by simp [*])) rfl ?_
      refine WL_nil ?_
      refine den_false rfl ?_
      refine den_skip ?_
      refine den_seq ?_
      -- region 20
      refine den_region rfl ?_
      refine WL_v (v_move rfl) rfl ?_
      refine WL_v (v_iaddrs (n := 1) Tryz.underlying38 siz49 rfl rfl rfl (by decide)) rfl ?_
      refine WL_v (v_faddr Tryz.underlying49 rfl siz4 rfl) rfl ?_
      refine WL_store0 rfl rfl (us := [.bool true]) rfl siz4 rfl rfl rfl ?_
      refine WL_nil ?_
      refine den_seq ?_
      refine den_seq ?_
      -- region 21
      refine den_region rfl ?_
      refine WL_v (OpV.to (v' := .bool true) (v_move rfl) (by first | rfl | simp)) rfl ?_
      refine WL_nil ?_
      refine den_true rfl ?_
      -- region 22
      refine den_region rfl ?_
      refine WL_v (v_assign rfl) rfl ?_
      refine WL_nil ?_
      refine den_seq ?_
      refine den_seq ?_
      -- region 23
      refine den_region rfl ?_
      refine WL_v (v_loadn many24 rfl (Kn.per hb20) (show cut 0 6 ((prT true).cells none none 0 0) = some ((prT true).cells none none 0 0) from rfl)) rfl ?_
      refine WL_v (v_move rfl) rfl ?_
      refine WL_v (v_loadn many41 rfl (Kn.per hb18) (cut_self rfl)) rfl ?_
      refine WL_callqb (A := []) (b := b74) rfl (fun hb0 hl0 hbo => export_fn (prT true) none none (some ⟨b74, 0, none⟩) _ 0 0 2 2 [lsd A false, lsd B true] it [apC it A (A + 1), apC it B (B + 1)] hb0 (SlI.nil _) (SlI.nil _) (SlL.of (l := [lsd A false, lsd B true]) hbo (by simp)) (hy.le hl0) (hG.le hl0)) rfl ?_
      rw [two_t1 true hdA hdB hab]
      refine WL_v (v_move rfl) rfl ?_
      refine WL_v (OpV.to (v' := .bool false) (v_neq rfl rfl) (by simp [*])) rfl ?_
      refine WL_nil ?_
      refine den_false rfl ?_
      refine den_skip ?_
      refine den_seq ?_
      -- region 25
      refine den_region rfl ?_
      refine WL_v (v_move rfl) rfl ?_
      refine WL_v (v_iaddrs (n := 0) Tryz.underlying38 siz49 rfl rfl rfl (by decide)) rfl ?_
      refine WL_v (v_faddr Tryz.underlying49 rfl siz4 rfl) rfl ?_
      refine WL_store0 rfl rfl (us := [.bool true]) rfl siz4 rfl rfl rfl ?_
      refine WL_nil ?_
      refine den_seq ?_
      -- region 26
      refine den_region rfl ?_
      refine WL_v (v_loadn many24 rfl (Kn.per hb20) (show cut 0 6 ((prT true).cells none none 0 0) = some ((prT true).cells none none 0 0) from rfl)) rfl ?_
      refine WL_v (v_move rfl) rfl ?_
      refine WL_v (v_loadn many41 rfl (Kn.per hb18) (cut_self rfl)) rfl ?_
      refine WL_callqb (A := []) (b := b74) rfl (fun hb0 hl0 hbo => export_fn (prT true) none none (some ⟨b74, 0, none⟩) _ 0 0 2 2 [lsd A true, lsd B true] it [apC it A (A + 1), apC it B (B + 1)] hb0 (SlI.nil _) (SlI.nil _) (SlL.of (l := [lsd A true, lsd B true]) hbo (by simp)) (hy.le hl0) (hG.le hl0)) rfl ?_
      rw [two_t2 true hdA hdB hab]
      refine WL_v (OpV.to (v' := .bool true) (v_eql rfl rfl) (by first | rfl | simp)) rfl ?_
      refine WL_v (v_assign rfl) rfl ?_
      refine WL_nil ?_
      refine den_ret ?_
      exact ends1 Tryz.results5 rfl z (by first | exact List.Sublist.refl _ | exact .cons _ (List.Sublist.refl _)) ⟨rfl, rfl⟩
    · skip
      refine den_skip ?_
      refine den_seq ?_
      -- region 17
      refine den_region rfl ?_
      refine WL_v (v_move rfl) rfl ?_
      refine WL_v (v_builds (r := ((prT true).cells none none 0 0)) Tryz.underlying24 zer24 plc24 rfl rfl rfl) rfl ?_
      refine WL_alloc zer24 rfl rfl fun b20 => ?_
      refine WL_store0 rfl rfl (us := ((prT true).cells none none 0 0)) rfl siz24 (by exact spl_all rfl) rfl rfl ?_
      refine WL_freeze fun h20 hl20 hb20 => ?_
      have hG := hG.le hl20
      have hb4 := hl20 _ _ hb4
      have hb9 := hl20 _ _ hb9
      have hb11 := hl20 _ _ hb11
      have hy := hy.le hl20
      have hb18 := hl20 _ _ hb18
      have z := z.trans hl20
      refine WL_nil ?_
      refine den_seq ?_
      refine den_seq ?_
      -- region 18
      refine den_region rfl ?_
      refine WL_v (v_loadn many24 rfl (Kn.per hb20) (show cut 0 6 ((prT true).cells none none 0 0) = some ((prT true).cells none none 0 0) from rfl)) rfl ?_
      refine WL_v (v_move rfl) rfl ?_
      refine WL_v (v_loadn many41 rfl (Kn.per hb18) (cut_self rfl)) rfl ?_
      refine WL_callqb (A := []) (b := b74) rfl (fun hb0 hl0 hbo => export_fn (prT true) none none (some ⟨b74, 0, none⟩) _ 0 0 2 2 [lsd A false, lsd B false] it [apC it A (A + 1), apC it B (B + 1)] hb0 (SlI.nil _) (SlI.nil _) (SlL.of (l := [lsd A false, lsd B false]) hbo (by simp)) (hy.le hl0) (hG.le hl0)) rfl ?_
      rw [two_t0 true hdA hdB hab]
      refine WL_v (v_move rfl) rfl ?_
      refine WL_v (OpV.to (v' := .bool false) (v_neq rfl rfl) (by simp [*])) rfl ?_
      refine WL_nil ?_
      refine den_false rfl ?_
      refine den_skip ?_
      refine den_seq ?_
      -- region 20
      refine den_region rfl ?_
      refine WL_v (v_move rfl) rfl ?_
      refine WL_v (v_iaddrs (n := 1) Tryz.underlying38 siz49 rfl rfl rfl (by decide)) rfl ?_
      refine WL_v (v_faddr Tryz.underlying49 rfl siz4 rfl) rfl ?_
      refine WL_store0 rfl rfl (us := [.bool true]) rfl siz4 rfl rfl rfl ?_
      refine WL_nil ?_
      refine den_seq ?_
      refine den_seq ?_
      -- region 21
      refine den_region rfl ?_
      refine WL_v (OpV.to (v' := .bool true) (v_move rfl) (by first | rfl | simp)) rfl ?_
      refine WL_nil ?_
      refine den_true rfl ?_
      -- region 22
      refine den_region rfl ?_
      refine WL_v (v_assign rfl) rfl ?_
      refine WL_nil ?_
      refine den_seq ?_
      refine den_seq ?_
      -- region 23
      refine den_region rfl ?_
      refine WL_v (v_loadn many24 rfl (Kn.per hb20) (show cut 0 6 ((prT true).cells none none 0 0) = some ((prT true).cells none none 0 0) from rfl)) rfl ?_
      refine WL_v (v_move rfl) rfl ?_
      refine WL_v (v_loadn many41 rfl (Kn.per hb18) (cut_self rfl)) rfl ?_
      refine WL_callqb (A := []) (b := b74) rfl (fun hb0 hl0 hbo => export_fn (prT true) none none (some ⟨b74, 0, none⟩) _ 0 0 2 2 [lsd A false, lsd B true] it [apC it A (A + 1), apC it B (B + 1)] hb0 (SlI.nil _) (SlI.nil _) (SlL.of (l := [lsd A false, lsd B true]) hbo (by simp)) (hy.le hl0) (hG.le hl0)) rfl ?_
      rw [two_t1 true hdA hdB hab]
      refine WL_v (v_move rfl) rfl ?_
      refine WL_v (OpV.to (v' := .bool false) (v_neq rfl rfl) (by simp [*])) rfl ?_
      refine WL_nil ?_
      refine den_false rfl ?_
      refine den_skip ?_
      refine den_seq ?_
      -- region 25
      refine den_region rfl ?_
      refine WL_v (v_move rfl) rfl ?_
      refine WL_v (v_iaddrs (n := 0) Tryz.underlying38 siz49 rfl rfl rfl (by decide)) rfl ?_
      refine WL_v (v_faddr Tryz.underlying49 rfl siz4 rfl) rfl ?_
      refine WL_store0 rfl rfl (us := [.bool true]) rfl siz4 rfl rfl rfl ?_
      refine WL_nil ?_
      refine den_seq ?_
      -- region 26
      refine den_region rfl ?_
      refine WL_v (v_loadn many24 rfl (Kn.per hb20) (show cut 0 6 ((prT true).cells none none 0 0) = some ((prT true).cells none none 0 0) from rfl)) rfl ?_
      refine WL_v (v_move rfl) rfl ?_
      refine WL_v (v_loadn many41 rfl (Kn.per hb18) (cut_self rfl)) rfl ?_
      refine WL_callqb (A := []) (b := b74) rfl (fun hb0 hl0 hbo => export_fn (prT true) none none (some ⟨b74, 0, none⟩) _ 0 0 2 2 [lsd A true, lsd B true] it [apC it A (A + 1), apC it B (B + 1)] hb0 (SlI.nil _) (SlI.nil _) (SlL.of (l := [lsd A true, lsd B true]) hbo (by simp)) (hy.le hl0) (hG.le hl0)) rfl ?_
      rw [two_t2 true hdA hdB hab]
      refine WL_v (OpV.to (v' := .bool true) (v_eql rfl rfl) (by first | rfl | simp)) rfl ?_
      refine WL_v (v_assign rfl) rfl ?_
      refine WL_nil ?_
      refine den_ret ?_
      exact ends1 Tryz.results5 rfl z (by first | exact List.Sublist.refl _ | exact .cons _ (List.Sublist.refl _)) ⟨rfl, rfl⟩

theorem lawt_f (it : Dig) (d x : Int) (h : Heap) (hG : Gl h) : Fn0 Tryz.prog 5 [.agg ⟨dcells it⟩, .int .i64 d, .int .i64 x, .bool false] h (.bool true) := by
  refine Tr_of Tryz.func5 rfl rfl Tryz.ntmps5 rfl [(0, .agg ⟨dcells it⟩), (1, .int .i64 d), (2, .int .i64 x), (3, .bool false)] rfl ?_
  intro Lf
  refine den_seq ?_
  -- region 0
  refine den_region rfl ?_
  refine WL_box (zs := dcells it) rfl rfl rfl fun b4 => ?_
  refine WL_freeze fun h4 hl4 hb4 => ?_
  have hG := hG.le hl4
  have z := hl4
  refine WL_v (v_assign rfl) rfl ?_
  refine WL_nil ?_
  refine den_seq ?_
  refine den_seq ?_
  -- region 1
  refine den_region rfl ?_
  refine WL_callq rfl (sane46_fn _ hG) rfl ?_
  refine WL_v (OpV.to (v' := .bool false) (v_not rfl) (by first | rfl | simp)) rfl ?_
  refine WL_nil ?_
  refine den_false rfl ?_
  refine den_skip ?_
  refine den_seq ?_
  -- region 3
  refine den_region rfl ?_
  refine WL_v (v_move rfl) rfl ?_
  refine WL_v (v_and rfl rfl (and511 d)) rfl ?_
  refine WL_v (v_move rfl) rfl ?_
  refine WL_v (v_and rfl rfl (and511 x)) rfl ?_
  refine WL_v (v_assign rfl) rfl ?_
  refine WL_v (v_assign rfl) rfl ?_
  refine WL_nil ?_
  refine den_seq ?_
  refine den_seq ?_
  -- region 4
  refine den_region rfl ?_
  obtain ⟨A, hA, hdA⟩ : ∃ A, A = d % 512 ∧ dev A := ⟨_, rfl, by unfold dev; omega⟩
  obtain ⟨B, hB, hdB⟩ : ∃ B, B = x % 512 ∧ dev B := ⟨_, rfl, by unfold dev; omega⟩
  rw [← hA, ← hB]
  clear hA hB
  have hA1 := hdA.1
  have hA2 := hdA.2
  have hB1 := hdB.1
  have hB2 := hdB.2
  refine WL_v (v_move rfl) rfl ?_
  refine WL_v (v_move rfl) rfl ?_
  refine WL_v (v_eql rfl rfl) rfl ?_
  refine WL_nil ?_
  first | refine den_ifd rfl (fun hab => ?_) (fun hab => ?_) | refine den_if rfl (fun hab => ?_) (fun hab => ?_)
  · skip
    refine den_seq ?_
    -- region 5
    refine den_region rfl ?_
    refine WL_v (v_assign rfl) rfl ?_
    refine WL_nil ?_
    refine den_ret ?_
    exact ends1 Tryz.results5 rfl z (by first | exact List.Sublist.refl _ | exact .cons _ (List.Sublist.refl _)) ⟨rfl, rfl⟩
  · skip
    refine den_skip ?_
    refine den_seq ?_
    -- region 6
    refine den_region rfl ?_
    refine WL_v (v_loadn many26 rfl (Kn.per hb4) (cut_self rfl)) rfl ?_
    refine WL_v (v_move rfl) rfl ?_
    refine WL_v (v_move rfl) rfl ?_
    refine WL_v (v_add rfl rfl (wrap_i64 (by omega) (by omega))) rfl ?_
    refine WL_callq rfl (approve_fn it A (A + 1) _ hG) rfl ?_
    rw [apE_dev hdA]
    refine WL_v (v_move rfl) rfl ?_
    refine WL_v (v_extract rfl rfl) rfl ?_
    refine WL_v (v_extract rfl rfl) rfl ?_
    refine WL_alloc zer32 rfl rfl fun b9 => ?_
    refine WL_store0 rfl rfl (us := (apC it A (A + 1)).cells) rfl siz32 (by exact spl_all (Con.len _)) (Con.one _) rfl ?_
    refine WL_freeze fun h9 hl9 hb9 => ?_
    have hG := hG.le hl9
    have hb4 := hl9 _ _ hb4
    have z := z.trans hl9
    refine WL_v (v_assign rfl) rfl ?_
    refine WL_nil ?_
    refine den_seq ?_
    -- region 7
    refine den_region rfl ?_
    refine WL_v (v_loadn many26 rfl (Kn.per hb4) (cut_self rfl)) rfl ?_
    refine WL_v (v_move rfl) rfl ?_
    refine WL_v (v_move rfl) rfl ?_
    refine WL_v (v_add rfl rfl (wrap_i64 (by omega) (by omega))) rfl ?_
    refine WL_callq rfl (approve_fn it B (B + 1) _ hG) rfl ?_
    rw [apE_dev hdB]
    refine WL_v (v_move rfl) rfl ?_
    refine WL_v (v_extract rfl rfl) rfl ?_
    refine WL_v (v_extract rfl rfl) rfl ?_
    refine WL_alloc zer32 rfl rfl fun b11 => ?_
    refine WL_store0 rfl rfl (us := (apC it B (B + 1)).cells) rfl siz32 (by exact spl_all (Con.len _)) (Con.one _) rfl ?_
    refine WL_freeze fun h11 hl11 hb11 => ?_
    have hG := hG.le hl11
    have hb4 := hl11 _ _ hb4
    have hb9 := hl11 _ _ hb9
    have z := z.trans hl11
    refine WL_v (v_assign rfl) rfl ?_
    refine WL_nil ?_
    refine den_seq ?_
    -- region 8
    refine den_region rfl ?_
    refine WL_v (v_move rfl) rfl ?_
    refine WL_callq rfl (owner_fn A _) rfl ?_
    rw [show ownV A = own A from if_pos hdA, show ownE A = 0 from if_pos hdA]
    refine WL_v (v_move rfl) rfl ?_
    refine WL_v (v_extract rfl rfl) rfl ?_
    refine WL_v (v_extract rfl rfl) rfl ?_
    refine WL_v (v_assign rfl) rfl ?_
    refine WL_v (v_assign rfl) rfl ?_
    refine WL_nil ?_
    refine den_seq ?_
    -- region 9
    refine den_region rfl ?_
    refine WL_v (v_move rfl) rfl ?_
    refine WL_callq rfl (owner_fn B _) rfl ?_
    rw [show ownV B = own B from if_pos hdB, show ownE B = 0 from if_pos hdB]
    refine WL_v (v_move rfl) rfl ?_
    refine WL_v (v_extract rfl rfl) rfl ?_
    refine WL_v (v_extract rfl rfl) rfl ?_
    refine WL_v (v_assign rfl) rfl ?_
    refine WL_v (v_assign rfl) rfl ?_
    refine WL_nil ?_
    refine den_seq ?_
    refine den_seq ?_
    -- region 10
    refine den_region rfl ?_
    refine WL_v (v_move rfl) rfl ?_
    refine WL_v (OpV.to (v' := .bool false) (v_neq rfl rfl) (by first | rfl | simp)) rfl ?_
    refine WL_v (v_move rfl) rfl ?_
    refine WL_vg rfl rfl (v_move rfl) rfl ?_
    refine WL_vg rfl rfl (OpV.to (v' := .bool false) (v_neq rfl rfl) (by first | rfl | simp)) rfl ?_
    refine WL_v (v_pickf rfl rfl) rfl ?_
    refine WL_v (v_move rfl) rfl ?_
    refine WL_vg rfl rfl (v_move rfl) rfl ?_
    refine WL_vg rfl rfl (OpV.to (v' := .bool false) (v_neq rfl rfl) (by first | rfl | simp)) rfl ?_
    refine WL_v (v_pickf rfl rfl) rfl ?_
    refine WL_v (v_move rfl) rfl ?_
    refine WL_vg rfl rfl (v_move rfl) rfl ?_
    refine WL_vg rfl rfl (OpV.to (v' := .bool false) (v_neq rfl rfl) (by first | rfl | simp)) rfl ?_
    refine WL_v (v_pickf rfl rfl) rfl ?_
    refine WL_nil ?_
    refine den_false rfl ?_
    refine den_skip ?_
    refine den_seq ?_
    -- region 12
    refine den_region rfl ?_
    refine WL_v (v_move rfl) rfl ?_
    refine WL_callq rfl (listed_fn A _ hdA) rfl ?_
    refine WL_v (v_move rfl) rfl ?_
    refine WL_callq rfl (listed_fn B _ hdB) rfl ?_
    refine WL_buildSlice Tryz.underlying38 zer49 rfl siz49 rfl rfl rfl rfl rfl fun b74 => ?_
    refine WL_v (v_assign rfl) rfl ?_
    refine WL_nil ?_
    refine den_seq ?_
    -- region 13
    refine den_region rfl ?_
    refine WL_v (v_loadn many26 rfl (Kn.per hb4) (cut_self rfl)) rfl ?_
    refine WL_v (v_loadn many32 rfl (Kn.per hb9) (Con.cutS _)) rfl ?_
    refine WL_v (v_loadn many32 rfl (Kn.per hb11) (Con.cutS _)) rfl ?_
    refine WL_buildSlice Tryz.underlying39 zer32 rfl siz32 rfl rfl rfl rfl rfl fun b78 => ?_
    refine WL_freeze fun h78 hl78 hb78 => ?_
    have hG := hG.le hl78
    have hb4 := hl78 _ _ hb4
    have hb9 := hl78 _ _ hb9
    have hb11 := hl78 _ _ hb11
    have z := z.trans hl78
    have hy : SlC h78 (some ⟨b78, 0, none⟩) [apC it A (A + 1), apC it B (B + 1)] := SlC.of (l := [apC it A (A + 1), apC it B (B + 1)]) hb78 (by simp)
    refine WL_v (v_builds (r := (dcells it ++ [.slice (some ⟨b78, 0, none⟩) 2 2])) Tryz.underlying41 zer41 plc41 rfl rfl rfl) rfl ?_
    refine WL_alloc zer41 rfl rfl fun b18 => ?_
    refine WL_store0 rfl rfl (us := (dcells it ++ [.slice (some ⟨b78, 0, none⟩) 2 2])) rfl (show Siz _ _ ((dcells it ++ [Value.slice (some ⟨b78, 0, none⟩) 2 2]) : List Value).length from siz41) (by exact spl_all rfl) rfl rfl ?_
    refine WL_freeze fun h18 hl18 hb18 => ?_
    have hG := hG.le hl18
    have hb4 := hl18 _ _ hb4
    have hb9 := hl18 _ _ hb9
    have hb11 := hl18 _ _ hb11
    have hy := hy.le hl18
    have z := z.trans hl18
    refine WL_nil ?_
    refine den_seq ?_
    -- region 14
    refine den_region rfl ?_
    refine WL_v (v_assign rfl) rfl ?_
    refine WL_nil ?_
    refine den_seq ?_
    refine den_seq ?_
    -- region 15
    refine den_region rfl ?_
    refine WL_v (v_move rfl) rfl ?_
    refine WL_v (OpV.to (v' := .bool false) (v_move rfl) (by first | rfl | simp)) rfl ?_
    refine WL_skip (j := 1) (t := 81) (b := false) rfl rfl rfl rfl ?_
    refine WL_skip (j := 1) (t := 81) (b := false) rfl rfl rfl rfl ?_
    refine WL_skip (j := 1) (t := 81) (b := false) rfl rfl rfl rfl ?_
    refine WL_v (v_pickf rfl rfl) rfl ?_
    refine WL_nil ?_
    refine den_false rfl ?_
    refine den_skip ?_
    refine den_seq ?_
    -- region 17
    refine den_region rfl ?_
    refine WL_v (v_move rfl) rfl ?_
    refine WL_v (v_builds (r := ((prT false).cells none none 0 0)) Tryz.underlying24 zer24 plc24 rfl rfl rfl) rfl ?_
    refine WL_alloc zer24 rfl rfl fun b20 => ?_
    refine WL_store0 rfl rfl (us := ((prT false).cells none none 0 0)) rfl siz24 (by exact spl_all rfl) rfl rfl ?_
    refine WL_freeze fun h20 hl20 hb20 => ?_
    have hG := hG.le hl20
    have hb4 := hl20 _ _ hb4
    have hb9 := hl20 _ _ hb9
    have hb11 := hl20 _ _ hb11
    have hy := hy.le hl20
    have hb18 := hl20 _ _ hb18
    have z := z.trans hl20
    refine WL_nil ?_
    refine den_seq ?_
    refine den_seq ?_
    -- region 18
    refine den_region rfl ?_
    refine WL_v (v_loadn many24 rfl (Kn.per hb20) (show cut 0 6 ((prT false).cells none none 0 0) = some ((prT false).cells none none 0 0) from rfl)) rfl ?_
    refine WL_v (v_move rfl) rfl ?_
    refine WL_v (v_loadn many41 rfl (Kn.per hb18) (cut_self rfl)) rfl ?_
    refine WL_callqb (A := []) (b := b74) rfl (fun hb0 hl0 hbo => export_fn (prT false) none none (some ⟨b74, 0, none⟩) _ 0 0 2 2 [lsd A false, lsd B false] it [apC it A (A + 1), apC it B (B + 1)] hb0 (SlI.nil _) (SlI.nil _) (SlL.of (l := [lsd A false, lsd B false]) hbo (by simp)) (hy.le hl0) (hG.le hl0)) rfl ?_
    rw [two_t0 false hdA hdB hab]
    refine WL_v (v_move rfl) rfl ?_
    refine WL_v (OpV.to (v' := .bool false) (v_neq rfl rfl) (by simp [*])) rfl ?_
    refine WL_nil ?_
    refine den_false rfl ?_
    refine den_skip ?_
    refine den_seq ?_
    -- region 20
    refine den_region rfl ?_
    refine WL_v (v_move rfl) rfl ?_
    refine WL_v (v_iaddrs (n := 1) Tryz.underlying38 siz49 rfl rfl rfl (by decide)) rfl ?_
    refine WL_v (v_faddr Tryz.underlying49 rfl siz4 rfl) rfl ?_
    refine WL_store0 rfl rfl (us := [.bool true]) rfl siz4 rfl rfl rfl ?_
    refine WL_nil ?_
    refine den_seq ?_
    refine den_seq ?_
    -- region 21
    refine den_region rfl ?_
    refine WL_v (OpV.to (v' := .bool false) (v_move rfl) (by first | rfl | simp)) rfl ?_
    refine WL_nil ?_
    refine den_false rfl ?_
    refine den_skip ?_
    refine den_seq ?_
    refine den_seq ?_
    -- region 23
    refine den_region rfl ?_
    refine WL_v (v_loadn many24 rfl (Kn.per hb20) (show cut 0 6 ((prT false).cells none none 0 0) = some ((prT false).cells none none 0 0) from rfl)) rfl ?_
    refine WL_v (v_move rfl) rfl ?_
    refine WL_v (v_loadn many41 rfl (Kn.per hb18) (cut_self rfl)) rfl ?_
    refine WL_callqb (A := []) (b := b74) rfl (fun hb0 hl0 hbo => export_fn (prT false) none none (some ⟨b74, 0, none⟩) _ 0 0 2 2 [lsd A false, lsd B true] it [apC it A (A + 1), apC it B (B + 1)] hb0 (SlI.nil _) (SlI.nil _) (SlL.of (l := [lsd A false, lsd B true]) hbo (by simp)) (hy.le hl0) (hG.le hl0)) rfl ?_
    rw [two_t1 false hdA hdB hab]
    refine WL_v (v_move rfl) rfl ?_
    refine WL_v (OpV.to (v' := .bool false) (v_neq rfl rfl) (by simp [*])) rfl ?_
    refine WL_nil ?_
    refine den_false rfl ?_
    refine den_skip ?_
    refine den_seq ?_
    -- region 25
    refine den_region rfl ?_
    refine WL_v (v_move rfl) rfl ?_
    refine WL_v (v_iaddrs (n := 0) Tryz.underlying38 siz49 rfl rfl rfl (by decide)) rfl ?_
    refine WL_v (v_faddr Tryz.underlying49 rfl siz4 rfl) rfl ?_
    refine WL_store0 rfl rfl (us := [.bool true]) rfl siz4 rfl rfl rfl ?_
    refine WL_nil ?_
    refine den_seq ?_
    -- region 26
    refine den_region rfl ?_
    refine WL_v (v_loadn many24 rfl (Kn.per hb20) (show cut 0 6 ((prT false).cells none none 0 0) = some ((prT false).cells none none 0 0) from rfl)) rfl ?_
    refine WL_v (v_move rfl) rfl ?_
    refine WL_v (v_loadn many41 rfl (Kn.per hb18) (cut_self rfl)) rfl ?_
    refine WL_callqb (A := []) (b := b74) rfl (fun hb0 hl0 hbo => export_fn (prT false) none none (some ⟨b74, 0, none⟩) _ 0 0 2 2 [lsd A true, lsd B true] it [apC it A (A + 1), apC it B (B + 1)] hb0 (SlI.nil _) (SlI.nil _) (SlL.of (l := [lsd A true, lsd B true]) hbo (by simp)) (hy.le hl0) (hG.le hl0)) rfl ?_
    rw [two_t2 false hdA hdB hab]
    refine WL_v (OpV.to (v' := .bool true) (v_eql rfl rfl) (by first | rfl | simp)) rfl ?_
    refine WL_v (v_assign rfl) rfl ?_
    refine WL_nil ?_
    refine den_ret ?_
    exact ends1 Tryz.results5 rfl z (by first | exact List.Sublist.refl _ | exact .cons _ (List.Sublist.refl _)) ⟨rfl, rfl⟩

theorem lawt_fn (it : Dig) (d x : Int) (tw : Bool) (h : Heap) (hG : Gl h) : Fn0 Tryz.prog 5 [.agg ⟨dcells it⟩, .int .i64 d, .int .i64 x, .bool tw] h (.bool true) := by
  cases tw
  · exact lawt_f it d x h hG
  · exact lawt_t it d x h hG
end Go.Proofs.Ch
