/- PolicyCheckSpec: closed facts and the card, part 1 of 4 (see the first text of the claim for what is proved and its conditions). -/
import Derived.Test.YtmeakefbepbapaaGreatDoorTie
import Derived.Test.YtmeakefbepbapaaGreatDoorCards
import Derived.Test.YtmeakefbepbapaaGreatDoorS3
namespace Go.Proofs.YtmeakefbepbapaaGreatDoor
open Go Go.Proofs.Ch
theorem policyCheckSpec_named : Tryz.pinned.checked.prog.funcNamed Rows.policyCheckSpecRow.func = some 3 := by kernel_rfl
theorem policyCheckSpec_inst : Tryz.f3.isInstance Tryz.pinned.checked.prog Rows.policyCheckSpecRow.origin Rows.policyCheckSpecRow.targs := of_decide_eq_true (by kernel_rfl)
theorem policyCheckSpec_wrap : Tryz.f3.isWrapper Tryz.pinned.checked.prog Rows.policyCheckSpecRow.wrapper Rows.policyCheckSpecRow.mainSum := by unfold Func.isWrapper; first | (rw [if_pos (by decide +kernel)]; kernel_rfl) | (rw [if_neg (by decide +kernel)]; exact ⟨rfl, rfl⟩)
end Go.Proofs.YtmeakefbepbapaaGreatDoor
