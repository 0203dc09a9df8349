/- The closed facts of the row ciphersStream, put together. -/
import Derived.Test.YtfljnclghjikdaaGreatDoorKF0
import Derived.Test.YtfljnclghjikdaaGreatDoorKF1
import Derived.Test.YtfljnclghjikdaaGreatDoorKF2
import Derived.Test.YtfljnclghjikdaaGreatDoorKF3
namespace Go.Proofs.YtfljnclghjikdaaGreatDoor
set_option maxRecDepth 100000 in
theorem jfCiphersStream : joinedFacts Tryz.prog 3 Tryz.f3 Rows.ciphersStreamSpec Rows.ciphersStreamRow = true := by
  unfold joinedFacts
  simp only [Bool.and_eq_true]
  exact ⟨⟨⟨⟨⟨⟨⟨⟨⟨⟨⟨⟨⟨⟨⟨⟨⟨⟨⟨⟨⟨⟨⟨⟨⟨⟨⟨⟨⟨⟨⟨jfCiphersStream_0, jfCiphersStream_1⟩, jfCiphersStream_2⟩, jfCiphersStream_3⟩, jfCiphersStream_4⟩, jfCiphersStream_5⟩, jfCiphersStream_6⟩, jfCiphersStream_7⟩, jfCiphersStream_8⟩, jfCiphersStream_9⟩, jfCiphersStream_10⟩, jfCiphersStream_11⟩, jfCiphersStream_12⟩, jfCiphersStream_13⟩, jfCiphersStream_14⟩, jfCiphersStream_15⟩, jfCiphersStream_16⟩, jfCiphersStream_17⟩, jfCiphersStream_18⟩, jfCiphersStream_19⟩, jfCiphersStream_20⟩, jfCiphersStream_21⟩, jfCiphersStream_22⟩, jfCiphersStream_23⟩, jfCiphersStream_24⟩, jfCiphersStream_25⟩, jfCiphersStream_26⟩, jfCiphersStream_27⟩, (by kernel_rfl)⟩, jfCiphersStream_29⟩, jfCiphersStream_30⟩, jfCiphersStream_31⟩
end Go.Proofs.YtfljnclghjikdaaGreatDoor
