/- PolicyExportSpec: closed facts and the card, part 3 of 4 (see the first text of the claim for what is proved and its conditions). -/
import Derived.Test.YtmeakefbepbapaaGreatDoorTie
import Derived.Test.YtmeakefbepbapaaGreatDoorCards
import Derived.Test.YtmeakefbepbapaaGreatDoorQea
import Derived.Test.YtmeakefbepbapaaGreatDoorQeb
import Derived.Test.YtmeakefbepbapaaGreatDoorQec
namespace Go.Proofs.YtmeakefbepbapaaGreatDoor
open Go Go.Proofs.Ch
theorem and_i {a b : Bool} (h1 : a = true) (h2 : b = true) : (a && b) = true := by rw [h1, h2]; rfl
set_option maxRecDepth 100000 in
theorem policyExportSpec_closed : joinedFacts Tryz.pinned.checked.prog 4 Tryz.f4 Rows.policyExportSpecSpec Rows.policyExportSpecRow = true := by
  unfold joinedFacts
  exact (and_i (and_i (and_i (and_i (and_i (and_i (and_i (and_i (and_i (and_i (and_i (and_i (and_i (and_i (and_i (and_i (and_i (and_i (and_i (and_i (and_i (and_i (and_i (and_i (and_i (and_i (and_i (and_i (and_i (and_i (and_i fact0 fact1) fact2) fact3) fact4) fact5) fact6) fact7) fact8) fact9) fact10) fact11) fact12) fact13) fact14) fact15) fact16) fact17) fact18) fact19) fact20) fact21) fact22) fact23) fact24) fact25) fact26) fact27) fact28) fact29) fact30) fact31)
theorem policyExportSpec_holds : Rows.PolicyExportSpecSaid :=
  OpenClaim.holds_of_wide 4 Tryz.f4 rfl rfl rfl rfl rfl rfl rfl ⟨rfl, rfl, rfl, rfl, rfl⟩ rfl rfl rfl rfl rfl policyExportSpec_named Tryz.func4 policyExportSpec_closed policyExportSpec_inst policyExportSpec_wrap
    (fun os started H enc _ => lifted os started H enc)
theorem policyExportSpec_goes : Tryz.pinned.checked.prog.funcs.any Func.goes = false := by kernel_rfl
theorem policyExportSpec_wt : Rows.policyExportSpecRow.wfByText (OpenSpec.ofChange Rows.policyExportSpecSpec) = true := by kernel_rfl
theorem policyExportSpec_main : Tryz.pinned.checked.prog.mainIs = some ((true, "664efc23f7f8d02f716f24a331e441cd61250a040e7899043e6afc1490270e61").1, (true, "664efc23f7f8d02f716f24a331e441cd61250a040e7899043e6afc1490270e61").2.toList) := by kernel_rfl
theorem policyExportSpec_looks : true = Tryz.pinned.checked.prog.looks [] := by kernel_rfl
end Go.Proofs.YtmeakefbepbapaaGreatDoor
