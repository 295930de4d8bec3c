/-
  DERIVED. GIVEN WITH THE SEED: THE CARDS: each row of YtmeakefbepbapaaGreatDoorRows.lean that lists a variable, with what it lists TIED to the program's text (the seventh form; the later family's looks); each row that meets fmt, with fmt's text TOLD by the authors' own Lean function (tested against real Go, not proved from fmt's source: count such statements apart). THE CARD IS WHAT COUNTS. Prove the row's statement (the work); the ties are given (YtmeakefbepbapaaGreatDoorTie.lean); close each card by the builder's one call (the guide's Derived/Test/ToyasCard.lean, 'card_holds'). Laid BY PROGRAM, IN A SANDBOX (cutbox-door.mjs). By AI agents, Wed Nov 11 2026. No macro, syntax, notation, axiom, sorry.
-/
import Derived.Test.YtmeakefbepbapaaGreatDoorRows
import GoSem.ClaimSeven
namespace Go.Proofs.YtmeakefbepbapaaGreatDoor
namespace Rows

/-- THE TIED CARD OF 'chartroomlaw46.PolicyCheckSpec'. -/
def policyCheckSpecCard : Claim7 := { stood := { row := policyCheckSpecRow, standIns := [], harness := (true, "664efc23f7f8d02f716f24a331e441cd61250a040e7899043e6afc1490270e61"), looks := true }, kinds := [], alts := [], laidByText := true, laidKinds := [.data, .data, .widerDeep, .sentinel, .sentinel], laidTests := true, laidLooks := .later }
def PolicyCheckSpecCardSaid : Prop := Claim7.holds Tryz.pinned (.plain (OpenSpec.ofChange policyCheckSpecSpec)) policyCheckSpecCard

/-- THE TIED CARD OF 'chartroomlaw46.PolicyExportSpec'. -/
def policyExportSpecCard : Claim7 := { stood := { row := policyExportSpecRow, standIns := [], harness := (true, "664efc23f7f8d02f716f24a331e441cd61250a040e7899043e6afc1490270e61"), looks := true }, kinds := [], alts := [], laidByText := true, laidKinds := [.data, .data, .widerDeep, .sentinel, .sentinel], laidTests := true, laidLooks := .later }
def PolicyExportSpecCardSaid : Prop := Claim7.holds Tryz.pinned (.plain (OpenSpec.ofChange policyExportSpecSpec)) policyExportSpecCard

/-- THE TIED CARD OF 'chartroomlaw46.PolicyTwo'. -/
def policyTwoCard : Claim7 := { stood := { row := policyTwoRow, standIns := [], harness := (true, "664efc23f7f8d02f716f24a331e441cd61250a040e7899043e6afc1490270e61"), looks := true }, kinds := [], alts := [], laidByText := true, laidKinds := [.data, .data, .widerDeep, .sentinel, .sentinel], laidTests := true, laidLooks := .later }
def PolicyTwoCardSaid : Prop := Claim7.holds Tryz.pinned (.plain (OpenSpec.ofChange policyTwoSpec)) policyTwoCard

/-- THE TIED CARD OF 'chartroomlaw46.PolicyExact'. -/
def policyExactCard : Claim7 := { stood := { row := policyExactRow, standIns := [], harness := (true, "664efc23f7f8d02f716f24a331e441cd61250a040e7899043e6afc1490270e61"), looks := true }, kinds := [], alts := [], laidByText := true, laidKinds := [.data, .data, .widerDeep, .sentinel, .sentinel], laidTests := true, laidLooks := .later }
def PolicyExactCardSaid : Prop := Claim7.holds Tryz.pinned (.plain (OpenSpec.ofChange policyExactSpec)) policyExactCard

/-- THE SECOND FORM's CARD OF 'chartroomlaw46.PolicyCheckSpec'. -/
def policyCheckSpecUptoCard : Claim7 := { stood := { row := policyCheckSpecUptoRow, standIns := [], harness := (true, "664efc23f7f8d02f716f24a331e441cd61250a040e7899043e6afc1490270e61"), looks := true }, kinds := [], alts := [], laidByText := true, laidKinds := [.data, .data, .widerDeep, .sentinel, .sentinel], laidTests := true, laidLooks := .later }
def PolicyCheckSpecUptoCardSaid : Prop := Claim7.holds Tryz.pinned (.plain (OpenSpec.upto policyCheckSpecSpec)) policyCheckSpecUptoCard

/-- THE SECOND FORM's CARD OF 'chartroomlaw46.PolicyExportSpec'. -/
def policyExportSpecUptoCard : Claim7 := { stood := { row := policyExportSpecUptoRow, standIns := [], harness := (true, "664efc23f7f8d02f716f24a331e441cd61250a040e7899043e6afc1490270e61"), looks := true }, kinds := [], alts := [], laidByText := true, laidKinds := [.data, .data, .widerDeep, .sentinel, .sentinel], laidTests := true, laidLooks := .later }
def PolicyExportSpecUptoCardSaid : Prop := Claim7.holds Tryz.pinned (.plain (OpenSpec.upto policyExportSpecSpec)) policyExportSpecUptoCard

/-- THE SECOND FORM's CARD OF 'chartroomlaw46.PolicyTwo'. -/
def policyTwoUptoCard : Claim7 := { stood := { row := policyTwoUptoRow, standIns := [], harness := (true, "664efc23f7f8d02f716f24a331e441cd61250a040e7899043e6afc1490270e61"), looks := true }, kinds := [], alts := [], laidByText := true, laidKinds := [.data, .data, .widerDeep, .sentinel, .sentinel], laidTests := true, laidLooks := .later }
def PolicyTwoUptoCardSaid : Prop := Claim7.holds Tryz.pinned (.plain (OpenSpec.upto policyTwoSpec)) policyTwoUptoCard

/-- THE SECOND FORM's CARD OF 'chartroomlaw46.PolicyExact'. -/
def policyExactUptoCard : Claim7 := { stood := { row := policyExactUptoRow, standIns := [], harness := (true, "664efc23f7f8d02f716f24a331e441cd61250a040e7899043e6afc1490270e61"), looks := true }, kinds := [], alts := [], laidByText := true, laidKinds := [.data, .data, .widerDeep, .sentinel, .sentinel], laidTests := true, laidLooks := .later }
def PolicyExactUptoCardSaid : Prop := Claim7.holds Tryz.pinned (.plain (OpenSpec.upto policyExactSpec)) policyExactUptoCard
end Rows
end Go.Proofs.YtmeakefbepbapaaGreatDoor
