/- PolicyExact: closed facts and the card, part 1 of 4 (see the first text of the claim for what is proved and its conditions). -/
import Derived.Test.YtmeakefbepbapaaGreatDoorTie
import Derived.Test.YtmeakefbepbapaaGreatDoorCards
import Derived.Test.YtmeakefbepbapaaGreatDoorS3
namespace Go.Proofs.YtmeakefbepbapaaGreatDoor
open Go Go.Proofs.Ch
theorem policyExact_named : Tryz.pinned.checked.prog.funcNamed Rows.policyExactRow.func = some 6 := by kernel_rfl
theorem policyExact_inst : Tryz.f6.isInstance Tryz.pinned.checked.prog Rows.policyExactRow.origin Rows.policyExactRow.targs := of_decide_eq_true (by kernel_rfl)
theorem policyExact_wrap : Tryz.f6.isWrapper Tryz.pinned.checked.prog Rows.policyExactRow.wrapper Rows.policyExactRow.mainSum := by unfold Func.isWrapper; first | (rw [if_pos (by decide +kernel)]; kernel_rfl) | (rw [if_neg (by decide +kernel)]; exact ⟨rfl, rfl⟩)
end Go.Proofs.YtmeakefbepbapaaGreatDoor
