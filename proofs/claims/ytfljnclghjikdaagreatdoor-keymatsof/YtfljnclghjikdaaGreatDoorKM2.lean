/- A part of a proof: KM2. -/
import Derived.Test.YtfljnclghjikdaaGreatDoorRows
import Derived.JoinedOf
import Derived.KernelRfl
/- Closed facts of the row keymatsOf, part 2. -/
namespace Go.Proofs.YtfljnclghjikdaaGreatDoor
theorem jfKeymatsOf_2 : (mapsRowed Tryz.prog) = true := by kernel_rfl
theorem jfKeymatsOf_6 : ((Tryz.prog.stops == [])) = true := by kernel_rfl
theorem jfKeymatsOf_11 : ((Rows.keymatsOfRow.recurses == Tryz.prog.recurses 4)) = true := by kernel_rfl
theorem jfKeymatsOf_14 : ((Rows.keymatsOfRow.ifaces == (Tryz.f4.params.toList ++ Rows.keymatsOfSpec.plain.varTypes Tryz.prog).any (Tryz.prog.ifacesRec ·))) = true := by kernel_rfl
theorem jfKeymatsOf_18 : (Rows.keymatsOfSpec.vars.all (Tryz.prog.varReadable ·)) = true := by kernel_rfl
theorem jfKeymatsOf_22 : ((Rows.keymatsOfRow.plainKeys == Tryz.prog.plainKeys)) = true := by kernel_rfl
theorem jfKeymatsOf_26 : ((Rows.keymatsOfRow.lifted == Tryz.prog.liftsFinal)) = true := by kernel_rfl
theorem jfKeymatsOf_30 : ((Rows.keymatsOfRow.veiled == (Tryz.f4.params.toList ++ Rows.keymatsOfSpec.plain.varTypes Tryz.prog ++ Tryz.f4.resultTypes.toList).any (Tryz.prog.veiledRec ·))) = true := by kernel_rfl
end Go.Proofs.YtfljnclghjikdaaGreatDoor
