/- CiphersStream returns true for every input and leaves its arguments as they were: the tied card. No condition beyond the card's own cells. -/
import Derived.Test.YtfljnclghjikdaaGreatDoorK13
import Derived.Test.YtfljnclghjikdaaGreatDoorCards
import Derived.Test.YtfljnclghjikdaaGreatDoorTie
import Derived.SevenTiedAt
namespace Go.Proofs.YtfljnclghjikdaaGreatDoor
open Go.ChangeShapes Go.WideShapes Go.ChangeAt Go.RowKit Go.WideMaps Go.WideElems
set_option linter.unusedVariables false
set_option linter.unusedSimpArgs false
theorem card_holds : Rows.CiphersStreamCardSaid :=
  Claim7.holds_tied_plain_at .later [] [.data, .data, .data] true (true, "102ed1e5230cee1b2b7fe457ba9bb38f4c8cb2596cbdae0414be766d8690a0c0") false
    row_holds (fun _ h => by cases h) (by kernel_rfl) (fun _ h => by cases h) ciphersStream_row_tie rfl ⟨rfl, rfl⟩ (by kernel_rfl) rfl
    (fun f fn hf hfn => by
      obtain rfl : f = 3 := Option.some.inj ((show Tryz.prog.funcNamed "burrow/burrowlaw09.CiphersStream" = some 3 by kernel_rfl).symm.trans hf) |>.symm
      obtain rfl : fn = Tryz.f3 := (Option.some.inj (Tryz.func3.symm.trans hfn)).symm
      exact ⟨by kernel_rfl, fun j t ht => by
        rw [Tryz.params3] at ht
        have h3 : t = 22 ∨ t = 23 := by
          rcases j with _ | _ | _ | j
          · left; simpa using ht.symm
          · left; simpa using ht.symm
          · right; simpa using ht.symm
          · simp at ht
        rcases h3 with rfl | rfl
        · exact (show Tryz.prog.wantsStandIn 22 = false by kernel_rfl)
        · exact (show Tryz.prog.wantsStandIn 23 = false by kernel_rfl)⟩)
    (by kernel_rfl)
#print axioms card_holds
end Go.Proofs.YtfljnclghjikdaaGreatDoor
