/- Closed facts of the row ciphersStream, part 0. -/
import Derived.Test.YtfljnclghjikdaaGreatDoorRows
import Derived.JoinedOf
import Derived.KernelRfl
namespace Go.Proofs.YtfljnclghjikdaaGreatDoor
theorem jfCiphersStream_0 : (Rows.ciphersStreamRow.wf (OpenSpec.ofChange Rows.ciphersStreamSpec)) = true := by kernel_rfl
theorem jfCiphersStream_4 : (namedTie Tryz.prog Rows.ciphersStreamRow.named Rows.ciphersStreamSpec.vars) = true := by kernel_rfl
theorem jfCiphersStream_8 : ((Tryz.prog.stopKnobs == [])) = true := by kernel_rfl
theorem jfCiphersStream_9 : ((Rows.ciphersStreamRow.inPlace == Tryz.prog.inPlace 3)) = true := by kernel_rfl
theorem jfCiphersStream_16 : ((Rows.ciphersStreamRow.loops == (Tryz.f3.params.toList ++ Rows.ciphersStreamSpec.plain.varTypes Tryz.prog).any (Tryz.prog.loopsFrom ·))) = true := by kernel_rfl
theorem jfCiphersStream_20 : ((Rows.ciphersStreamRow.ifacesOut == Tryz.f3.resultTypes.toList.any (Tryz.prog.ifacesRec ·))) = true := by kernel_rfl
theorem jfCiphersStream_24 : (Tryz.prog.stopsHeard) = true := by kernel_rfl
theorem jfCiphersStream_28 : ((Rows.ciphersStreamRow.kinds == (if Rows.ciphersStreamRow.domain.isEmpty then [] else Tryz.f3.params.toList.map fun t => match Tryz.prog.underlying t with | some (.int k) => some k | _ => none))) = true := by kernel_rfl
end Go.Proofs.YtfljnclghjikdaaGreatDoor
