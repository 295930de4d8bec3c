/- LinksMakeSpec: closed facts and the card, part 3 of 4 (see the first text of the claim for what is proved and its conditions). -/
import Derived.Test.YtglmkcfmcoianaaGreatDoorTie
import Derived.Test.YtglmkcfmcoianaaGreatDoorCards
import Derived.Test.YtglmkcfmcoianaaGreatDoorKa
import Derived.Test.YtglmkcfmcoianaaGreatDoorKb
import Derived.Test.YtglmkcfmcoianaaGreatDoorKc
namespace Go.Proofs.YtglmkcfmcoianaaGreatDoor
open Go Go.Proofs.Ch
theorem and_i {a b : Bool} (h1 : a = true) (h2 : b = true) : (a && b) = true := by rw [h1, h2]; rfl
set_option maxRecDepth 100000 in
theorem linksMakeSpec_closed : joinedFacts Tryz.pinned.checked.prog 3 Tryz.f3 Rows.linksMakeSpecSpec Rows.linksMakeSpecRow = true := by
  unfold joinedFacts
  exact (and_i (and_i (and_i (and_i (and_i (and_i (and_i (and_i (and_i (and_i (and_i (and_i (and_i (and_i (and_i (and_i (and_i (and_i (and_i (and_i (and_i (and_i (and_i (and_i (and_i (and_i (and_i (and_i (and_i (and_i (and_i fact0 fact1) fact2) fact3) fact4) fact5) fact6) fact7) fact8) fact9) fact10) fact11) fact12) fact13) fact14) fact15) fact16) fact17) fact18) fact19) fact20) fact21) fact22) fact23) fact24) fact25) fact26) fact27) fact28) fact29) fact30) fact31)
theorem linksMakeSpec_holds : Rows.LinksMakeSpecSaid :=
  OpenClaim.holds_of_wide 3 Tryz.f3 rfl rfl rfl rfl rfl rfl rfl ⟨rfl, rfl, rfl, rfl, rfl⟩ rfl rfl rfl rfl rfl linksMakeSpec_named Tryz.func3 linksMakeSpec_closed linksMakeSpec_inst linksMakeSpec_wrap
    (fun os started H enc _ => lifted os started H enc)
end Go.Proofs.YtglmkcfmcoianaaGreatDoor
