/- LinksMakeSpec: closed facts and the card, part 1 of 4 (see the first text of the claim for what is proved and its conditions). -/
import Derived.Test.YtglmkcfmcoianaaGreatDoorTie
import Derived.Test.YtglmkcfmcoianaaGreatDoorCards
import Derived.Test.YtglmkcfmcoianaaGreatDoorCd
namespace Go.Proofs.YtglmkcfmcoianaaGreatDoor
open Go Go.Proofs.Ch
theorem linksMakeSpec_named : Tryz.pinned.checked.prog.funcNamed Rows.linksMakeSpecRow.func = some 3 := by kernel_rfl
theorem linksMakeSpec_inst : Tryz.f3.isInstance Tryz.pinned.checked.prog Rows.linksMakeSpecRow.origin Rows.linksMakeSpecRow.targs := of_decide_eq_true (by kernel_rfl)
theorem linksMakeSpec_wrap : Tryz.f3.isWrapper Tryz.pinned.checked.prog Rows.linksMakeSpecRow.wrapper Rows.linksMakeSpecRow.mainSum := by unfold Func.isWrapper; first | (rw [if_pos (by decide +kernel)]; kernel_rfl) | (rw [if_neg (by decide +kernel)]; exact ⟨rfl, rfl⟩)
end Go.Proofs.YtglmkcfmcoianaaGreatDoor
