/- CiphersStream: the row. -/
import Derived.Test.YtfljnclghjikdaaGreatDoorK12
import Derived.Test.YtfljnclghjikdaaGreatDoorKFJ
import Derived.Test.YtfljnclghjikdaaGreatDoorKG
import Derived.Stop.Joined
namespace Go.Proofs.YtfljnclghjikdaaGreatDoor
open Go.ChangeShapes Go.WideShapes Go.ChangeAt Go.RowKit Go.WideMaps Go.WideElems
set_option linter.unusedVariables false
set_option linter.unusedSimpArgs false
theorem row_holds : Rows.CiphersStreamSaid :=
  OpenClaim.holds_of_wide 3 Tryz.f3 rfl rfl rfl rfl rfl rfl rfl ⟨rfl, rfl, rfl, rfl, rfl⟩ rfl rfl rfl rfl rfl cs_named Tryz.func3 jfCiphersStream cs_inst cs_wrap
    (fun os started H enc _ => lifted os started H enc)
end Go.Proofs.YtfljnclghjikdaaGreatDoor
