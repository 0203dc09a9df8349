/- Closed facts of the row ciphersStream, part 1. -/
import Derived.Test.YtfljnclghjikdaaGreatDoorRows
import Derived.JoinedOf
import Derived.KernelRfl
namespace Go.Proofs.YtfljnclghjikdaaGreatDoor
theorem jfCiphersStream_1 : (laidOutB Tryz.prog) = true := by kernel_rfl
theorem jfCiphersStream_5 : ((Rows.ciphersStreamRow.stops == [])) = true := by kernel_rfl
theorem jfCiphersStream_10 : ((Rows.ciphersStreamRow.unfollowed == Tryz.prog.unfollowed 3)) = true := by kernel_rfl
theorem jfCiphersStream_13 : ((Rows.ciphersStreamRow.maps == (Tryz.f3.params.toList ++ Rows.ciphersStreamSpec.plain.varTypes Tryz.prog).any (Tryz.prog.mapsRec ·))) = true := by kernel_rfl
theorem jfCiphersStream_17 : ((Rows.ciphersStreamRow.wideKeys == (Tryz.f3.params.toList ++ Rows.ciphersStreamSpec.plain.varTypes Tryz.prog ++ Tryz.f3.resultTypes.toList).any (Tryz.prog.wideKeysFrom ·))) = true := by kernel_rfl
theorem jfCiphersStream_21 : ((Rows.ciphersStreamRow.loopsOut == Tryz.f3.resultTypes.toList.any (Tryz.prog.loopsFrom ·))) = true := by kernel_rfl
theorem jfCiphersStream_25 : (Tryz.prog.mayEnter) = true := by kernel_rfl
theorem jfCiphersStream_29 : ((Rows.ciphersStreamRow.pinned == Rows.ciphersStreamRow.pinnedBy)) = true := by kernel_rfl
end Go.Proofs.YtfljnclghjikdaaGreatDoor
