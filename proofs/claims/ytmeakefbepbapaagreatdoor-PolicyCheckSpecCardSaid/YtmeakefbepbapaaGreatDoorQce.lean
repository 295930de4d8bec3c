/- PolicyCheckSpec: closed facts and the card, part 4 of 4 (see the first text of the claim for what is proved and its conditions). -/
import Derived.Test.YtmeakefbepbapaaGreatDoorTie
import Derived.Test.YtmeakefbepbapaaGreatDoorCards
import Derived.Test.YtmeakefbepbapaaGreatDoorQcd
namespace Go.Proofs.YtmeakefbepbapaaGreatDoor
open Go Go.Proofs.Ch
theorem policyCheckSpec_card_holds : Rows.PolicyCheckSpecCardSaid :=
  Claim7.holds_tied_plain_at .later [] [.data, .data, .widerDeep, .sentinel, .sentinel] true (true, "664efc23f7f8d02f716f24a331e441cd61250a040e7899043e6afc1490270e61") true
    policyCheckSpec_holds (fun _ h => by cases h) policyCheckSpec_wt (fun _ h => by cases h) policyCheckSpec_row_tie rfl ⟨rfl, rfl⟩ policyCheckSpec_main rfl
    (fun f fn hf hfn => by
      obtain rfl : f = 3 := Option.some.inj ((show Tryz.prog.funcNamed "chartroom/chartroomlaw46.PolicyCheckSpec" = some 3 by kernel_rfl).symm.trans hf) |>.symm
      obtain rfl : fn = Tryz.f3 := (Option.some.inj (Tryz.func3.symm.trans hfn)).symm
      exact ⟨policyCheckSpec_looks, fun j t ht => by
        rw [Tryz.params3] at ht
        have hm : t ∈ [24, 26, 3, 3] := by simpa using Array.mem_of_getElem? ht
        have hall : ([24, 26, 3, 3].all fun u => !Tryz.prog.wantsStandIn u) = true := by kernel_rfl
        exact (show Tryz.prog.wantsStandIn t = false by simpa using List.all_eq_true.1 hall t hm)⟩)
    (goesBy_none policyCheckSpec_goes rfl)
#print axioms policyCheckSpec_card_holds
end Go.Proofs.YtmeakefbepbapaaGreatDoor
