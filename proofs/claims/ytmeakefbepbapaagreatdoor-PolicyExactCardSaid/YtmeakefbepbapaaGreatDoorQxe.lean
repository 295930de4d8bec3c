/- PolicyExact: closed facts and the card, part 4 of 4 (see the first text of the claim for what is proved and its conditions). -/
import Derived.Test.YtmeakefbepbapaaGreatDoorTie
import Derived.Test.YtmeakefbepbapaaGreatDoorCards
import Derived.Test.YtmeakefbepbapaaGreatDoorQxd
namespace Go.Proofs.YtmeakefbepbapaaGreatDoor
open Go Go.Proofs.Ch
theorem policyExact_card_holds : Rows.PolicyExactCardSaid :=
  Claim7.holds_tied_plain_at .later [] [.data, .data, .widerDeep, .sentinel, .sentinel] true (true, "664efc23f7f8d02f716f24a331e441cd61250a040e7899043e6afc1490270e61") true
    policyExact_holds (fun _ h => by cases h) policyExact_wt (fun _ h => by cases h) policyExact_row_tie rfl ⟨rfl, rfl⟩ policyExact_main rfl
    (fun f fn hf hfn => by
      obtain rfl : f = 6 := Option.some.inj ((show Tryz.prog.funcNamed "chartroom/chartroomlaw46.PolicyExact" = some 6 by kernel_rfl).symm.trans hf) |>.symm
      obtain rfl : fn = Tryz.f6 := (Option.some.inj (Tryz.func6.symm.trans hfn)).symm
      exact ⟨policyExact_looks, fun j t ht => by
        rw [Tryz.params6] at ht
        have hm : t ∈ [24, 38, 41] := by simpa using Array.mem_of_getElem? ht
        have hall : ([24, 38, 41].all fun u => !Tryz.prog.wantsStandIn u) = true := by kernel_rfl
        exact (show Tryz.prog.wantsStandIn t = false by simpa using List.all_eq_true.1 hall t hm)⟩)
    (goesBy_none policyExact_goes rfl)
#print axioms policyExact_card_holds
end Go.Proofs.YtmeakefbepbapaaGreatDoor
