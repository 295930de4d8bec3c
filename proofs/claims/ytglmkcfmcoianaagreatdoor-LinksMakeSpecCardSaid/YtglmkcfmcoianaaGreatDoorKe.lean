/- LinksMakeSpec: closed facts and the card, part 4 of 4 (see the first text of the claim for what is proved and its conditions). -/
import Derived.Test.YtglmkcfmcoianaaGreatDoorTie
import Derived.Test.YtglmkcfmcoianaaGreatDoorCards
import Derived.Test.YtglmkcfmcoianaaGreatDoorKd
namespace Go.Proofs.YtglmkcfmcoianaaGreatDoor
open Go Go.Proofs.Ch
theorem linksMakeSpec_card_holds : Rows.LinksMakeSpecCardSaid :=
  Claim7.holds_tied_plain_at .later [] [.data, .data, .sentinel] true (true, "a7e5937041b28687e43a838da9575605bc0c89a0412c721e431dedc48a0cecae") true
    linksMakeSpec_holds (fun _ h => by cases h) (by kernel_rfl) (fun _ h => by cases h) linksMakeSpec_row_tie rfl ⟨rfl, rfl⟩ (by kernel_rfl) rfl
    (fun f fn hf hfn => by
      obtain rfl : f = 3 := Option.some.inj ((show Tryz.prog.funcNamed "chartroom/chartroomlaw40.LinksMakeSpec" = some 3 by kernel_rfl).symm.trans hf) |>.symm
      obtain rfl : fn = Tryz.f3 := (Option.some.inj (Tryz.func3.symm.trans hfn)).symm
      exact ⟨by kernel_rfl, fun j t ht => by
        rw [Tryz.params3] at ht
        have hm : t ∈ [27, 30, 3, 3, 3] := by simpa using Array.mem_of_getElem? ht
        have hall : ([27, 30, 3, 3, 3].all fun u => !Tryz.prog.wantsStandIn u) = true := by kernel_rfl
        exact (show Tryz.prog.wantsStandIn t = false by simpa using List.all_eq_true.1 hall t hm)⟩)
    (by kernel_rfl)
#print axioms linksMakeSpec_card_holds
end Go.Proofs.YtglmkcfmcoianaaGreatDoor
