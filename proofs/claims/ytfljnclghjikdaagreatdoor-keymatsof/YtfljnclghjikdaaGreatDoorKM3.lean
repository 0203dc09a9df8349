/- A part of a proof: KM3. -/
import Derived.Test.YtfljnclghjikdaaGreatDoorRows
import Derived.JoinedOf
import Derived.KernelRfl
/- Closed facts of the row keymatsOf, part 3. -/
namespace Go.Proofs.YtfljnclghjikdaaGreatDoor
theorem jfKeymatsOf_3 : (Tryz.f4.params.all (Tryz.prog.readableRec ·)) = true := by kernel_rfl
theorem jfKeymatsOf_7 : ((Rows.keymatsOfRow.knobs == [])) = true := by kernel_rfl
theorem jfKeymatsOf_12 : ((Rows.keymatsOfRow.named == Tryz.prog.varsNamed 4)) = true := by kernel_rfl
theorem jfKeymatsOf_15 : ((Rows.keymatsOfRow.mapsOut == Tryz.prog.mapsAmong Tryz.f4.resultTypes.toList)) = true := by kernel_rfl
theorem jfKeymatsOf_19 : (Tryz.f4.resultTypes.all (fun t => Tryz.prog.readableRec t && decide (t < Tryz.prog.types.size))) = true := by kernel_rfl
theorem jfKeymatsOf_23 : (Rows.keymatsOfRow.shortTexts.isNone) = true := by kernel_rfl
theorem jfKeymatsOf_27 : ((Tryz.prog.make == some Rows.keymatsOfRow.make)) = true := by kernel_rfl
theorem jfKeymatsOf_31 : (Rows.keymatsOfRow.veiledFits Tryz.prog Tryz.f4.params.toList (Tryz.f4.params.toList ++ Rows.keymatsOfSpec.plain.varTypes Tryz.prog ++ Tryz.f4.resultTypes.toList)) = true := by kernel_rfl
end Go.Proofs.YtfljnclghjikdaaGreatDoor
