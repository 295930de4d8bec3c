/- PolicyExportSpec: closed facts and the card, part 4 of 4 (see the first text of the claim for what is proved and its conditions). -/
import Derived.Test.YtmeakefbepbapaaGreatDoorTie
import Derived.Test.YtmeakefbepbapaaGreatDoorCards
import Derived.Test.YtmeakefbepbapaaGreatDoorQed
namespace Go.Proofs.YtmeakefbepbapaaGreatDoor
open Go Go.Proofs.Ch
theorem policyExportSpec_card_holds : Rows.PolicyExportSpecCardSaid :=
  Claim7.holds_tied_plain_at .later [] [.data, .data, .widerDeep, .sentinel, .sentinel] true (true, "664efc23f7f8d02f716f24a331e441cd61250a040e7899043e6afc1490270e61") true
    policyExportSpec_holds (fun _ h => by cases h) policyExportSpec_wt (fun _ h => by cases h) policyExportSpec_row_tie rfl ⟨rfl, rfl⟩ policyExportSpec_main rfl
    (fun f fn hf hfn => by
      obtain rfl : f = 4 := Option.some.inj ((show Tryz.prog.funcNamed "chartroom/chartroomlaw46.PolicyExportSpec" = some 4 by kernel_rfl).symm.trans hf) |>.symm
      obtain rfl : fn = Tryz.f4 := (Option.some.inj (Tryz.func4.symm.trans hfn)).symm
      exact ⟨policyExportSpec_looks, fun j t ht => by
        rw [Tryz.params4] at ht
        have hm : t ∈ [24, 38, 41] := by simpa using Array.mem_of_getElem? ht
        have hall : ([24, 38, 41].all fun u => !Tryz.prog.wantsStandIn u) = true := by kernel_rfl
        exact (show Tryz.prog.wantsStandIn t = false by simpa using List.all_eq_true.1 hall t hm)⟩)
    (goesBy_none policyExportSpec_goes rfl)
#print axioms policyExportSpec_card_holds
end Go.Proofs.YtmeakefbepbapaaGreatDoor
