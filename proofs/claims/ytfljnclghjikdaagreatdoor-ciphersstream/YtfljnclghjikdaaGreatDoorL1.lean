/- A part of a proof: the walk. -/
import Derived.Test.YtfljnclghjikdaaGreatDoorC5
set_option maxRecDepth 1000000
namespace Go.Sl
def lK : Nat → List UInt8
  | 0 => List.replicate 16 0
  | i + 1 => (lK i).set i (UInt8.ofNat i)
def lB : Nat → List UInt8
  | 0 => List.replicate 16 0
  | i + 1 => (lB i).set i (UInt8.ofNat (17 * i))
@[simp] theorem lK_len (i : Nat) : (lK i).length = 16 := by
  induction i with
  | zero => exact List.length_replicate
  | succ i ih => simp [lK, ih]
@[simp] theorem lB_len (i : Nat) : (lB i).length = 16 := by
  induction i with
  | zero => exact List.length_replicate
  | succ i ih => simp [lB, ih]
def wantF : List UInt8 := [105, 196, 224, 216, 106, 123, 4, 48, 216, 205, 183, 128, 112, 180, 197, 90]
@[simp] theorem wantF_len : wantF.length = 16 := rfl
theorem lives_enc : encF (machF (lK 16)) (lB 16) = wantF := by decide +kernel
theorem lives_dec : decF (machF (lK 16)) wantF = lB 16 := by decide +kernel
end Go.Sl
