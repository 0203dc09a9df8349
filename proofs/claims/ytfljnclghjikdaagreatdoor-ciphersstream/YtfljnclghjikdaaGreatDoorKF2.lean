/- Closed facts of the row ciphersStream, part 2. -/
import Derived.Test.YtfljnclghjikdaaGreatDoorRows
import Derived.JoinedOf
import Derived.KernelRfl
namespace Go.Proofs.YtfljnclghjikdaaGreatDoor
theorem jfCiphersStream_2 : (mapsRowed Tryz.prog) = true := by kernel_rfl
theorem jfCiphersStream_6 : ((Tryz.prog.stops == [])) = true := by kernel_rfl
theorem jfCiphersStream_11 : ((Rows.ciphersStreamRow.recurses == Tryz.prog.recurses 3)) = true := by kernel_rfl
theorem jfCiphersStream_14 : ((Rows.ciphersStreamRow.ifaces == (Tryz.f3.params.toList ++ Rows.ciphersStreamSpec.plain.varTypes Tryz.prog).any (Tryz.prog.ifacesRec ·))) = true := by kernel_rfl
theorem jfCiphersStream_18 : (Rows.ciphersStreamSpec.vars.all (Tryz.prog.varReadable ·)) = true := by kernel_rfl
theorem jfCiphersStream_22 : ((Rows.ciphersStreamRow.plainKeys == Tryz.prog.plainKeys)) = true := by kernel_rfl
theorem jfCiphersStream_26 : ((Rows.ciphersStreamRow.lifted == Tryz.prog.liftsFinal)) = true := by kernel_rfl
theorem jfCiphersStream_30 : ((Rows.ciphersStreamRow.veiled == (Tryz.f3.params.toList ++ Rows.ciphersStreamSpec.plain.varTypes Tryz.prog ++ Tryz.f3.resultTypes.toList).any (Tryz.prog.veiledRec ·))) = true := by kernel_rfl
end Go.Proofs.YtfljnclghjikdaaGreatDoor
