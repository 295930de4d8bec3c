/- PolicyExact: closed facts and the card, part 3 of 4 (see the first text of the claim for what is proved and its conditions). -/
import Derived.Test.YtmeakefbepbapaaGreatDoorTie
import Derived.Test.YtmeakefbepbapaaGreatDoorCards
import Derived.Test.YtmeakefbepbapaaGreatDoorQxa
import Derived.Test.YtmeakefbepbapaaGreatDoorQxb
import Derived.Test.YtmeakefbepbapaaGreatDoorQxc
namespace Go.Proofs.YtmeakefbepbapaaGreatDoor
open Go Go.Proofs.Ch
theorem and_i {a b : Bool} (h1 : a = true) (h2 : b = true) : (a && b) = true := by rw [h1, h2]; rfl
set_option maxRecDepth 100000 in
theorem policyExact_closed : joinedFacts Tryz.pinned.checked.prog 6 Tryz.f6 Rows.policyExactSpec Rows.policyExactRow = true := by
  unfold joinedFacts
  exact (and_i (and_i (and_i (and_i (and_i (and_i (and_i (and_i (and_i (and_i (and_i (and_i (and_i (and_i (and_i (and_i (and_i (and_i (and_i (and_i (and_i (and_i (and_i (and_i (and_i (and_i (and_i (and_i (and_i (and_i (and_i fact0 fact1) fact2) fact3) fact4) fact5) fact6) fact7) fact8) fact9) fact10) fact11) fact12) fact13) fact14) fact15) fact16) fact17) fact18) fact19) fact20) fact21) fact22) fact23) fact24) fact25) fact26) fact27) fact28) fact29) fact30) fact31)
theorem policyExact_holds : Rows.PolicyExactSaid :=
  OpenClaim.holds_of_wide 6 Tryz.f6 rfl rfl rfl rfl rfl rfl rfl ⟨rfl, rfl, rfl, rfl, rfl⟩ rfl rfl rfl rfl rfl policyExact_named Tryz.func6 policyExact_closed policyExact_inst policyExact_wrap
    (fun os started H enc _ => lifted os started H enc)
theorem policyExact_goes : Tryz.pinned.checked.prog.funcs.any Func.goes = false := by kernel_rfl
theorem policyExact_wt : Rows.policyExactRow.wfByText (OpenSpec.ofChange Rows.policyExactSpec) = true := by kernel_rfl
theorem policyExact_main : Tryz.pinned.checked.prog.mainIs = some ((true, "664efc23f7f8d02f716f24a331e441cd61250a040e7899043e6afc1490270e61").1, (true, "664efc23f7f8d02f716f24a331e441cd61250a040e7899043e6afc1490270e61").2.toList) := by kernel_rfl
theorem policyExact_looks : true = Tryz.pinned.checked.prog.looks [] := by kernel_rfl
end Go.Proofs.YtmeakefbepbapaaGreatDoor
