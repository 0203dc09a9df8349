/- A part of a proof: KM1. -/
import Derived.Test.YtfljnclghjikdaaGreatDoorRows
import Derived.JoinedOf
import Derived.KernelRfl
/- Closed facts of the row keymatsOf, part 1. -/
namespace Go.Proofs.YtfljnclghjikdaaGreatDoor
theorem jfKeymatsOf_1 : (laidOutB Tryz.prog) = true := by kernel_rfl
theorem jfKeymatsOf_5 : ((Rows.keymatsOfRow.stops == [])) = true := by kernel_rfl
theorem jfKeymatsOf_10 : ((Rows.keymatsOfRow.unfollowed == Tryz.prog.unfollowed 4)) = true := by kernel_rfl
theorem jfKeymatsOf_13 : ((Rows.keymatsOfRow.maps == (Tryz.f4.params.toList ++ Rows.keymatsOfSpec.plain.varTypes Tryz.prog).any (Tryz.prog.mapsRec ·))) = true := by kernel_rfl
theorem jfKeymatsOf_17 : ((Rows.keymatsOfRow.wideKeys == (Tryz.f4.params.toList ++ Rows.keymatsOfSpec.plain.varTypes Tryz.prog ++ Tryz.f4.resultTypes.toList).any (Tryz.prog.wideKeysFrom ·))) = true := by kernel_rfl
theorem jfKeymatsOf_21 : ((Rows.keymatsOfRow.loopsOut == Tryz.f4.resultTypes.toList.any (Tryz.prog.loopsFrom ·))) = true := by kernel_rfl
theorem jfKeymatsOf_25 : (Tryz.prog.mayEnter) = true := by kernel_rfl
theorem jfKeymatsOf_29 : ((Rows.keymatsOfRow.pinned == Rows.keymatsOfRow.pinnedBy)) = true := by kernel_rfl
end Go.Proofs.YtfljnclghjikdaaGreatDoor
