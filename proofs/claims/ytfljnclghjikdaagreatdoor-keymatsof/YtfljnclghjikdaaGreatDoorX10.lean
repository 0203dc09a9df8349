/- KeymatsOf returns true for every input and leaves its argument as it was: the tied card. No condition beyond the card's own cells. -/
import Derived.Test.YtfljnclghjikdaaGreatDoorX9
import Derived.Test.YtfljnclghjikdaaGreatDoorCards
import Derived.Test.YtfljnclghjikdaaGreatDoorTie
import Derived.SevenTiedAt
namespace Go.Proofs.YtfljnclghjikdaaGreatDoor
open Go.ChangeShapes Go.WideShapes Go.ChangeAt Go.RowKit Go.WideMaps Go.WideElems
set_option linter.unusedVariables false
set_option linter.unusedSimpArgs false
theorem card_holds : Rows.KeymatsOfCardSaid :=
  Claim7.holds_tied_plain_at .later [] [.data, .data, .data] true (true, "102ed1e5230cee1b2b7fe457ba9bb38f4c8cb2596cbdae0414be766d8690a0c0") false
    km_row_holds (fun _ h => by cases h) (by kernel_rfl) (fun _ h => by cases h) keymatsOf_row_tie rfl ⟨rfl, rfl⟩ (by kernel_rfl) rfl
    (fun f fn hf hfn => by
      obtain rfl : f = 4 := Option.some.inj ((show Tryz.prog.funcNamed "burrow/burrowlaw10.KeymatsOf" = some 4 by kernel_rfl).symm.trans hf) |>.symm
      obtain rfl : fn = Tryz.f4 := (Option.some.inj (Tryz.func4.symm.trans hfn)).symm
      exact ⟨by kernel_rfl, fun j t ht => by
        rw [Tryz.params4] at ht
        have h3 : t = 53 := by
          rcases j with _ | j
          · simpa using ht.symm
          · simp at ht
        subst h3
        exact (show Tryz.prog.wantsStandIn 53 = false by kernel_rfl)⟩)
    (by kernel_rfl)
#print axioms card_holds
end Go.Proofs.YtfljnclghjikdaaGreatDoor
