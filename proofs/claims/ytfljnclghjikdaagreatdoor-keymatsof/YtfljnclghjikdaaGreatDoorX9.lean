/- A part of a proof: X9. -/
import Derived.Test.YtfljnclghjikdaaGreatDoorX8
import Derived.Test.YtfljnclghjikdaaGreatDoorKMJ
import Derived.Test.YtfljnclghjikdaaGreatDoorKMG
import Derived.Stop.Joined
/- KeymatsOf: the row. -/
namespace Go.Proofs.YtfljnclghjikdaaGreatDoor
open Go.ChangeShapes Go.WideShapes Go.ChangeAt Go.RowKit Go.WideMaps Go.WideElems
set_option linter.unusedVariables false
set_option linter.unusedSimpArgs false
theorem km_row_holds : Rows.KeymatsOfSaid :=
  OpenClaim.holds_of_wide 4 Tryz.f4 rfl rfl rfl rfl rfl rfl rfl ⟨rfl, rfl, rfl, rfl, rfl⟩ rfl rfl rfl rfl rfl km_named Tryz.func4 jfKeymatsOf km_inst km_wrap
    (fun os started H enc _ => km_lifted os started H enc)
end Go.Proofs.YtfljnclghjikdaaGreatDoor
