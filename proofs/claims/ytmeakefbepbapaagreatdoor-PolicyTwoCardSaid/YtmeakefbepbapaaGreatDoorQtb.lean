/- PolicyTwo: closed facts and the card, part 1 of 4 (see the first text of the claim for what is proved and its conditions). -/
import Derived.Test.YtmeakefbepbapaaGreatDoorTie
import Derived.Test.YtmeakefbepbapaaGreatDoorCards
import Derived.Test.YtmeakefbepbapaaGreatDoorS3
namespace Go.Proofs.YtmeakefbepbapaaGreatDoor
open Go Go.Proofs.Ch
theorem policyTwo_named : Tryz.pinned.checked.prog.funcNamed Rows.policyTwoRow.func = some 5 := by kernel_rfl
theorem policyTwo_inst : Tryz.f5.isInstance Tryz.pinned.checked.prog Rows.policyTwoRow.origin Rows.policyTwoRow.targs := of_decide_eq_true (by kernel_rfl)
theorem policyTwo_wrap : Tryz.f5.isWrapper Tryz.pinned.checked.prog Rows.policyTwoRow.wrapper Rows.policyTwoRow.mainSum := by unfold Func.isWrapper; first | (rw [if_pos (by decide +kernel)]; kernel_rfl) | (rw [if_neg (by decide +kernel)]; exact ⟨rfl, rfl⟩)
end Go.Proofs.YtmeakefbepbapaaGreatDoor
