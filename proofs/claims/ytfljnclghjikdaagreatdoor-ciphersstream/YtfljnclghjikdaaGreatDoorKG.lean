/- CiphersStream: more closed facts of the row. -/
import Derived.Test.YtfljnclghjikdaaGreatDoorRows
import Derived.KernelRfl
namespace Go.Proofs.YtfljnclghjikdaaGreatDoor
theorem cs_named : Tryz.prog.funcNamed Rows.ciphersStreamRow.func = some 3 := by kernel_rfl
theorem cs_inst : Tryz.f3.isInstance Tryz.prog Rows.ciphersStreamRow.origin Rows.ciphersStreamRow.targs := of_decide_eq_true (by kernel_rfl)
theorem cs_wrap : Tryz.f3.isWrapper Tryz.prog Rows.ciphersStreamRow.wrapper Rows.ciphersStreamRow.mainSum := by
  unfold Func.isWrapper; first | (rw [if_pos (by decide +kernel)]; kernel_rfl) | (rw [if_neg (by decide +kernel)]; exact ⟨rfl, rfl⟩)
end Go.Proofs.YtfljnclghjikdaaGreatDoor
