/- A part of a proof: KM0. -/
import Derived.Test.YtfljnclghjikdaaGreatDoorRows
import Derived.JoinedOf
import Derived.KernelRfl
/- Closed facts of the row keymatsOf, part 0. -/
namespace Go.Proofs.YtfljnclghjikdaaGreatDoor
theorem jfKeymatsOf_0 : (Rows.keymatsOfRow.wf (OpenSpec.ofChange Rows.keymatsOfSpec)) = true := by kernel_rfl
theorem jfKeymatsOf_4 : (namedTie Tryz.prog Rows.keymatsOfRow.named Rows.keymatsOfSpec.vars) = true := by kernel_rfl
theorem jfKeymatsOf_8 : ((Tryz.prog.stopKnobs == [])) = true := by kernel_rfl
theorem jfKeymatsOf_9 : ((Rows.keymatsOfRow.inPlace == Tryz.prog.inPlace 4)) = true := by kernel_rfl
theorem jfKeymatsOf_16 : ((Rows.keymatsOfRow.loops == (Tryz.f4.params.toList ++ Rows.keymatsOfSpec.plain.varTypes Tryz.prog).any (Tryz.prog.loopsFrom ·))) = true := by kernel_rfl
theorem jfKeymatsOf_20 : ((Rows.keymatsOfRow.ifacesOut == Tryz.f4.resultTypes.toList.any (Tryz.prog.ifacesRec ·))) = true := by kernel_rfl
theorem jfKeymatsOf_24 : (Tryz.prog.stopsHeard) = true := by kernel_rfl
theorem jfKeymatsOf_28 : ((Rows.keymatsOfRow.kinds == (if Rows.keymatsOfRow.domain.isEmpty then [] else Tryz.f4.params.toList.map fun t => match Tryz.prog.underlying t with | some (.int k) => some k | _ => none))) = true := by kernel_rfl
end Go.Proofs.YtfljnclghjikdaaGreatDoor
