/- A part of a proof: KMJ. -/
import Derived.Test.YtfljnclghjikdaaGreatDoorKM0
import Derived.Test.YtfljnclghjikdaaGreatDoorKM1
import Derived.Test.YtfljnclghjikdaaGreatDoorKM2
import Derived.Test.YtfljnclghjikdaaGreatDoorKM3
/- The closed facts of the row keymatsOf, put together. -/
namespace Go.Proofs.YtfljnclghjikdaaGreatDoor
set_option maxRecDepth 100000 in
theorem jfKeymatsOf : joinedFacts Tryz.prog 4 Tryz.f4 Rows.keymatsOfSpec Rows.keymatsOfRow = true := by
  unfold joinedFacts
  simp only [Bool.and_eq_true]
  exact ⟨⟨⟨⟨⟨⟨⟨⟨⟨⟨⟨⟨⟨⟨⟨⟨⟨⟨⟨⟨⟨⟨⟨⟨⟨⟨⟨⟨⟨⟨⟨jfKeymatsOf_0, jfKeymatsOf_1⟩, jfKeymatsOf_2⟩, jfKeymatsOf_3⟩, jfKeymatsOf_4⟩, jfKeymatsOf_5⟩, jfKeymatsOf_6⟩, jfKeymatsOf_7⟩, jfKeymatsOf_8⟩, jfKeymatsOf_9⟩, jfKeymatsOf_10⟩, jfKeymatsOf_11⟩, jfKeymatsOf_12⟩, jfKeymatsOf_13⟩, jfKeymatsOf_14⟩, jfKeymatsOf_15⟩, jfKeymatsOf_16⟩, jfKeymatsOf_17⟩, jfKeymatsOf_18⟩, jfKeymatsOf_19⟩, jfKeymatsOf_20⟩, jfKeymatsOf_21⟩, jfKeymatsOf_22⟩, jfKeymatsOf_23⟩, jfKeymatsOf_24⟩, jfKeymatsOf_25⟩, jfKeymatsOf_26⟩, jfKeymatsOf_27⟩, (by kernel_rfl)⟩, jfKeymatsOf_29⟩, jfKeymatsOf_30⟩, jfKeymatsOf_31⟩
end Go.Proofs.YtfljnclghjikdaaGreatDoor
