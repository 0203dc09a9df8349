/- Closed facts of the row ciphersStream, part 3. -/
import Derived.Test.YtfljnclghjikdaaGreatDoorRows
import Derived.JoinedOf
import Derived.KernelRfl
namespace Go.Proofs.YtfljnclghjikdaaGreatDoor
theorem jfCiphersStream_3 : (Tryz.f3.params.all (Tryz.prog.readableRec ·)) = true := by kernel_rfl
theorem jfCiphersStream_7 : ((Rows.ciphersStreamRow.knobs == [])) = true := by kernel_rfl
theorem jfCiphersStream_12 : ((Rows.ciphersStreamRow.named == Tryz.prog.varsNamed 3)) = true := by kernel_rfl
theorem jfCiphersStream_15 : ((Rows.ciphersStreamRow.mapsOut == Tryz.prog.mapsAmong Tryz.f3.resultTypes.toList)) = true := by kernel_rfl
theorem jfCiphersStream_19 : (Tryz.f3.resultTypes.all (fun t => Tryz.prog.readableRec t && decide (t < Tryz.prog.types.size))) = true := by kernel_rfl
theorem jfCiphersStream_23 : (Rows.ciphersStreamRow.shortTexts.isNone) = true := by kernel_rfl
theorem jfCiphersStream_27 : ((Tryz.prog.make == some Rows.ciphersStreamRow.make)) = true := by kernel_rfl
theorem jfCiphersStream_31 : (Rows.ciphersStreamRow.veiledFits Tryz.prog Tryz.f3.params.toList (Tryz.f3.params.toList ++ Rows.ciphersStreamSpec.plain.varTypes Tryz.prog ++ Tryz.f3.resultTypes.toList)) = true := by kernel_rfl
end Go.Proofs.YtfljnclghjikdaaGreatDoor
