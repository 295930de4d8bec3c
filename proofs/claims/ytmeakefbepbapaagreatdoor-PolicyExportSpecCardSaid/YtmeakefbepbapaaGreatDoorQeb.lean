/- PolicyExportSpec: closed facts and the card, part 1 of 4 (see the first text of the claim for what is proved and its conditions). -/
import Derived.Test.YtmeakefbepbapaaGreatDoorTie
import Derived.Test.YtmeakefbepbapaaGreatDoorCards
import Derived.Test.YtmeakefbepbapaaGreatDoorS3
namespace Go.Proofs.YtmeakefbepbapaaGreatDoor
open Go Go.Proofs.Ch
theorem policyExportSpec_named : Tryz.pinned.checked.prog.funcNamed Rows.policyExportSpecRow.func = some 4 := by kernel_rfl
theorem policyExportSpec_inst : Tryz.f4.isInstance Tryz.pinned.checked.prog Rows.policyExportSpecRow.origin Rows.policyExportSpecRow.targs := of_decide_eq_true (by kernel_rfl)
theorem policyExportSpec_wrap : Tryz.f4.isWrapper Tryz.pinned.checked.prog Rows.policyExportSpecRow.wrapper Rows.policyExportSpecRow.mainSum := by unfold Func.isWrapper; first | (rw [if_pos (by decide +kernel)]; kernel_rfl) | (rw [if_neg (by decide +kernel)]; exact ⟨rfl, rfl⟩)
end Go.Proofs.YtmeakefbepbapaaGreatDoor
