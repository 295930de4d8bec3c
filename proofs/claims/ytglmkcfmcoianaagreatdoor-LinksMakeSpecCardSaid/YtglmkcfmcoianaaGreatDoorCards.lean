/-
  DERIVED. GIVEN WITH THE SEED: THE CARDS: each row of YtglmkcfmcoianaaGreatDoorRows.lean that lists a variable, with what it lists TIED to the program's text (the seventh form; the later family's looks); each row that meets fmt, with fmt's text TOLD by the authors' own Lean function (tested against real Go, not proved from fmt's source: count such statements apart). THE CARD IS WHAT COUNTS. Prove the row's statement (the work); the ties are given (YtglmkcfmcoianaaGreatDoorTie.lean); close each card by the builder's one call (the guide's Derived/Test/ToyasCard.lean, 'card_holds'). Laid BY PROGRAM, IN A SANDBOX (cutbox-door.mjs). By AI agents, Wed Nov 11 2026. No macro, syntax, notation, axiom, sorry.
-/
import Derived.Test.YtglmkcfmcoianaaGreatDoorRows
import GoSem.ClaimSeven
namespace Go.Proofs.YtglmkcfmcoianaaGreatDoor
namespace Rows

/-- THE TIED CARD OF 'chartroomlaw40.LinksMakeSpec'. -/
def linksMakeSpecCard : Claim7 := { stood := { row := linksMakeSpecRow, standIns := [], harness := (true, "a7e5937041b28687e43a838da9575605bc0c89a0412c721e431dedc48a0cecae"), looks := true }, kinds := [], alts := [], laidByText := true, laidKinds := [.data, .data, .sentinel], laidTests := true, laidLooks := .later }
def LinksMakeSpecCardSaid : Prop := Claim7.holds Tryz.pinned (.plain (OpenSpec.ofChange linksMakeSpecSpec)) linksMakeSpecCard

/-- THE SECOND FORM's CARD OF 'chartroomlaw40.LinksMakeSpec'. -/
def linksMakeSpecUptoCard : Claim7 := { stood := { row := linksMakeSpecUptoRow, standIns := [], harness := (true, "a7e5937041b28687e43a838da9575605bc0c89a0412c721e431dedc48a0cecae"), looks := true }, kinds := [], alts := [], laidByText := true, laidKinds := [.data, .data, .sentinel], laidTests := true, laidLooks := .later }
def LinksMakeSpecUptoCardSaid : Prop := Claim7.holds Tryz.pinned (.plain (OpenSpec.upto linksMakeSpecSpec)) linksMakeSpecUptoCard
end Rows
end Go.Proofs.YtglmkcfmcoianaaGreatDoor
