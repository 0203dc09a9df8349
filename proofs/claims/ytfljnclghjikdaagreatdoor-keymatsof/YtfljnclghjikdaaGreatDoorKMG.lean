/- A part of a proof: KMG. -/
import Derived.Test.YtfljnclghjikdaaGreatDoorRows
import Derived.KernelRfl
/- KeymatsOf: more closed facts of the row. -/
namespace Go.Proofs.YtfljnclghjikdaaGreatDoor
theorem km_named : Tryz.prog.funcNamed Rows.keymatsOfRow.func = some 4 := by kernel_rfl
theorem km_inst : Tryz.f4.isInstance Tryz.prog Rows.keymatsOfRow.origin Rows.keymatsOfRow.targs := of_decide_eq_true (by kernel_rfl)
theorem km_wrap : Tryz.f4.isWrapper Tryz.prog Rows.keymatsOfRow.wrapper Rows.keymatsOfRow.mainSum := by
  unfold Func.isWrapper; first | (rw [if_pos (by decide +kernel)]; kernel_rfl) | (rw [if_neg (by decide +kernel)]; exact ⟨rfl, rfl⟩)
end Go.Proofs.YtfljnclghjikdaaGreatDoor
