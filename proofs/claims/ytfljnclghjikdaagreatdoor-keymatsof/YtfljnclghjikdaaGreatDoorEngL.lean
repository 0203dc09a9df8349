/- A part of a proof: EngE, EngF, EngG, EngH, EngI, EngJ, EngK, EngL. -/
import Derived.Test.YtfljnclghjikdaaGreatDoorEngD
import Derived.ChangeKeysEq
/- The engine, part E: typed numbers. (Printed by mkE.py of this session.) -/
set_option linter.unusedVariables false
set_option linter.unusedSimpArgs false
namespace Go.Sl

abbrev nI (k : Nat) : Value := .int .i64 (k : Int)

theorem w64 {n : Int} (h : -9223372036854775808 ≤ n ∧ n ≤ 9223372036854775807) : IntKind.i64.wrap n = n := by
  simp only [IntKind.wrap, IntKind.bits, IntKind.signed]
  have e : (2 : Int) ^ 64 = 18446744073709551616 := by decide
  have e' : (2 : Int) ^ (64 - 1) = 9223372036854775808 := by decide
  simp only [e, e']
  simp
  omega
theorem wI_add {a b : Nat} (h : a + b < 9223372036854775808) : IntKind.i64.wrap ((a : Int) + (b : Int)) = ((a + b : Nat) : Int) := by rw [w64 (by omega)]; omega
theorem wI_sub {a b : Nat} (h : b ≤ a) (h2 : a < 9223372036854775808) : IntKind.i64.wrap ((a : Int) - (b : Int)) = ((a - b : Nat) : Int) := by rw [w64 (by omega)]; omega
theorem wI_mul {a b : Nat} (h : a * b < 9223372036854775808) : IntKind.i64.wrap ((a : Int) * (b : Int)) = ((a * b : Nat) : Int) := by rw [← Int.natCast_mul, w64 (by omega)]
theorem wI_id {a : Nat} (h : a < 9223372036854775808) : IntKind.i64.wrap (a : Int) = (a : Int) := w64 (by omega)
theorem tI_rem (a b : Nat) : Int.tmod (a : Int) (b : Int) = ((a % b : Nat) : Int) := by rw [Int.tmod_eq_emod_of_nonneg (by omega)]; simp
theorem tI_quo (a b : Nat) (h : a < 9223372036854775808) : IntKind.i64.wrap (Int.tdiv (a : Int) (b : Int)) = ((a / b : Nat) : Int) := by
  rw [Int.tdiv_eq_ediv_of_nonneg (by omega), ← Int.natCast_ediv]
  have : a / b ≤ a := Nat.div_le_self a b
  generalize a / b = q at *
  exact w64 (by omega)
theorem dI_lt (a b : Nat) : decide ((a : Int) < (b : Int)) = decide (a < b) := by simp
theorem dI_le (a b : Nat) : decide ((a : Int) ≤ (b : Int)) = decide (a ≤ b) := by simp
theorem dI_eq (a b : Nat) : decide ((a : Int) = (b : Int)) = decide (a = b) := by simp; omega
theorem bv_of (n m : Nat) (h : m < 2 ^ n) : (BitVec.ofInt n (m : Int)) = BitVec.ofNat n m := by simp


/-! ### 8 bits -/
abbrev u8 (x : UInt8) : Value := .int .u8 (x.toNat : Int)
theorem w8_nat (n : Nat) : IntKind.wrap .u8 (n : Int) = ((UInt8.ofNat n).toNat : Int) := by
  simp only [IntKind.wrap, IntKind.bits, IntKind.signed, UInt8.toNat_ofNat']
  simp
theorem w8_id (x : UInt8) : IntKind.wrap .u8 (x.toNat : Int) = (x.toNat : Int) := by rw [w8_nat]; simp
theorem w8_lt (x : UInt8) : x.toNat < 256 := x.toNat_lt
theorem w8_add (x y : UInt8) : IntKind.wrap .u8 ((x.toNat : Int) + (y.toNat : Int)) = ((x + y).toNat : Int) := by
  rw [← Int.natCast_add, w8_nat, UInt8.ofNat_add, UInt8.ofNat_toNat, UInt8.ofNat_toNat]
theorem w8_mul (x y : UInt8) : IntKind.wrap .u8 ((x.toNat : Int) * (y.toNat : Int)) = ((x * y).toNat : Int) := by
  rw [← Int.natCast_mul, w8_nat, UInt8.ofNat_mul, UInt8.ofNat_toNat, UInt8.ofNat_toNat]
theorem w8_sub (x y : UInt8) : IntKind.wrap .u8 ((x.toNat : Int) - (y.toNat : Int)) = ((x - y).toNat : Int) := by
  have h1 := w8_lt x
  have h2 := w8_lt y
  simp only [IntKind.wrap, IntKind.bits, IntKind.signed, UInt8.toNat_sub]
  simp
  omega
theorem bv8 (x : UInt8) : BitVec.ofInt (IntKind.bits .u8) (x.toNat : Int) = x.toBitVec := by
  simp only [IntKind.bits, BitVec.ofInt_natCast]
  exact BitVec.eq_of_toNat_eq (by simp)
theorem w8_bv (v : BitVec 8) : IntKind.wrap .u8 (v.toNat : Int) = ((UInt8.ofBitVec v).toNat : Int) := by
  have := w8_id (UInt8.ofBitVec v)
  simpa using this
theorem x8_xor (x y : UInt8) : bitsB .xor .u8 (x.toNat : Int) (y.toNat : Int) = ((x ^^^ y).toNat : Int) := by
  simp only [bitsB, bv8]; exact w8_bv _
theorem x8_or (x y : UInt8) : bitsB .or .u8 (x.toNat : Int) (y.toNat : Int) = ((x ||| y).toNat : Int) := by
  simp only [bitsB, bv8]; exact w8_bv _
theorem x8_and (x y : UInt8) : bitsB .and .u8 (x.toNat : Int) (y.toNat : Int) = ((x &&& y).toNat : Int) := by
  simp only [bitsB, bv8]; exact w8_bv _
theorem x8_andNot (x y : UInt8) : bitsB .andNot .u8 (x.toNat : Int) (y.toNat : Int) = ((x &&& ~~~y).toNat : Int) := by
  simp only [bitsB, bv8]; exact w8_bv _
theorem x8_com (x : UInt8) : bitsB .xor .u8 (if IntKind.signed .u8 then -1 else IntKind.max .u8) (x.toNat : Int) = ((~~~x).toNat : Int) := by
  have e : (if IntKind.signed .u8 then (-1 : Int) else IntKind.max .u8) = (((UInt8.ofNat 255).toNat : Nat) : Int) := by decide
  rw [e, x8_xor]
  have h2 : (UInt8.ofNat 255) ^^^ x = ~~~x := by
    apply UInt8.toBitVec_inj.1
    have hb : (UInt8.ofNat 255).toBitVec = BitVec.allOnes 8 := by decide
    rw [UInt8.toBitVec_xor, hb, BitVec.allOnes_xor, UInt8.toBitVec_not]
  rw [h2]
def shl8 (x : UInt8) (n : Nat) : UInt8 := UInt8.ofNat (x.toNat * 2 ^ n)
def shr8 (x : UInt8) (n : Nat) : UInt8 := UInt8.ofNat (x.toNat / 2 ^ n)
theorem h8_shl (x : UInt8) (n : Nat) : IntKind.wrap .u8 ((x.toNat : Int) * 2 ^ (min (n : Int).toNat (IntKind.bits .u8))) = ((shl8 x n).toNat : Int) := by
  have e : (x.toNat : Int) * 2 ^ (min (n : Int).toNat (IntKind.bits .u8)) = ((x.toNat * 2 ^ (min n 8) : Nat) : Int) := by simp [IntKind.bits]
  rw [e, w8_nat]
  unfold shl8
  rcases Nat.lt_or_ge n 8 with h | h
  · rw [Nat.min_eq_left (by omega)]
  · rw [Nat.min_eq_right h]
    simp only [UInt8.toNat_ofNat']
    obtain ⟨m, rfl⟩ : ∃ m, n = 8 + m := ⟨n - 8, by omega⟩
    rw [Nat.pow_add, ← Nat.mul_assoc, Nat.mul_right_comm]
    simp
theorem h8_shr (x : UInt8) (n : Nat) : Int.fdiv (x.toNat : Int) (2 ^ (min (n : Int).toNat (IntKind.bits .u8))) = ((shr8 x n).toNat : Int) := by
  have hx := w8_lt x
  have e : (2 : Int) ^ (min (n : Int).toNat (IntKind.bits .u8)) = ((2 ^ (min n 8) : Nat) : Int) := by simp [IntKind.bits]
  rw [e, Int.fdiv_eq_ediv_of_nonneg _ (Int.natCast_nonneg _), ← Int.natCast_ediv]
  unfold shr8
  simp only [UInt8.toNat_ofNat']
  rcases Nat.lt_or_ge n 8 with h | h
  · rw [Nat.min_eq_left (by omega), Nat.mod_eq_of_lt (Nat.lt_of_le_of_lt (Nat.div_le_self _ _) (by simpa using hx))]
  · rw [Nat.min_eq_right h, Nat.div_eq_of_lt (by simpa using hx), Nat.div_eq_of_lt (Nat.lt_of_lt_of_le (by simpa using hx) (Nat.pow_le_pow_right (by omega) h))]
theorem d8_eq (x y : UInt8) : decide ((x.toNat : Int) = (y.toNat : Int)) = decide (x = y) := by
  rw [dI_eq]; simp only [UInt8.toNat_inj]
theorem d8_lt (x y : UInt8) : decide ((x.toNat : Int) < (y.toNat : Int)) = decide (x < y) := by
  rw [dI_lt]; simp only [UInt8.lt_iff_toNat_lt]
theorem d8_le (x y : UInt8) : decide ((x.toNat : Int) ≤ (y.toNat : Int)) = decide (x ≤ y) := by
  rw [dI_le]; simp only [UInt8.le_iff_toNat_le]
theorem t8_rem (x y : UInt8) : Int.tmod (x.toNat : Int) (y.toNat : Int) = ((x % y).toNat : Int) := by rw [tI_rem, UInt8.toNat_mod]
theorem t8_quo (x y : UInt8) : IntKind.wrap .u8 (Int.tdiv (x.toNat : Int) (y.toNat : Int)) = ((x / y).toNat : Int) := by
  rw [Int.tdiv_eq_ediv_of_nonneg (by omega), ← Int.natCast_ediv, ← UInt8.toNat_div, w8_id]


/-! ### 16 bits -/
abbrev u16 (x : UInt16) : Value := .int .u16 (x.toNat : Int)
theorem w16_nat (n : Nat) : IntKind.wrap .u16 (n : Int) = ((UInt16.ofNat n).toNat : Int) := by
  simp only [IntKind.wrap, IntKind.bits, IntKind.signed, UInt16.toNat_ofNat']
  simp
theorem w16_id (x : UInt16) : IntKind.wrap .u16 (x.toNat : Int) = (x.toNat : Int) := by rw [w16_nat]; simp
theorem w16_lt (x : UInt16) : x.toNat < 65536 := x.toNat_lt
theorem w16_add (x y : UInt16) : IntKind.wrap .u16 ((x.toNat : Int) + (y.toNat : Int)) = ((x + y).toNat : Int) := by
  rw [← Int.natCast_add, w16_nat, UInt16.ofNat_add, UInt16.ofNat_toNat, UInt16.ofNat_toNat]
theorem w16_mul (x y : UInt16) : IntKind.wrap .u16 ((x.toNat : Int) * (y.toNat : Int)) = ((x * y).toNat : Int) := by
  rw [← Int.natCast_mul, w16_nat, UInt16.ofNat_mul, UInt16.ofNat_toNat, UInt16.ofNat_toNat]
theorem w16_sub (x y : UInt16) : IntKind.wrap .u16 ((x.toNat : Int) - (y.toNat : Int)) = ((x - y).toNat : Int) := by
  have h1 := w16_lt x
  have h2 := w16_lt y
  simp only [IntKind.wrap, IntKind.bits, IntKind.signed, UInt16.toNat_sub]
  simp
  omega
theorem bv16 (x : UInt16) : BitVec.ofInt (IntKind.bits .u16) (x.toNat : Int) = x.toBitVec := by
  simp only [IntKind.bits, BitVec.ofInt_natCast]
  exact BitVec.eq_of_toNat_eq (by simp)
theorem w16_bv (v : BitVec 16) : IntKind.wrap .u16 (v.toNat : Int) = ((UInt16.ofBitVec v).toNat : Int) := by
  have := w16_id (UInt16.ofBitVec v)
  simpa using this
theorem x16_xor (x y : UInt16) : bitsB .xor .u16 (x.toNat : Int) (y.toNat : Int) = ((x ^^^ y).toNat : Int) := by
  simp only [bitsB, bv16]; exact w16_bv _
theorem x16_or (x y : UInt16) : bitsB .or .u16 (x.toNat : Int) (y.toNat : Int) = ((x ||| y).toNat : Int) := by
  simp only [bitsB, bv16]; exact w16_bv _
theorem x16_and (x y : UInt16) : bitsB .and .u16 (x.toNat : Int) (y.toNat : Int) = ((x &&& y).toNat : Int) := by
  simp only [bitsB, bv16]; exact w16_bv _
theorem x16_andNot (x y : UInt16) : bitsB .andNot .u16 (x.toNat : Int) (y.toNat : Int) = ((x &&& ~~~y).toNat : Int) := by
  simp only [bitsB, bv16]; exact w16_bv _
theorem x16_com (x : UInt16) : bitsB .xor .u16 (if IntKind.signed .u16 then -1 else IntKind.max .u16) (x.toNat : Int) = ((~~~x).toNat : Int) := by
  have e : (if IntKind.signed .u16 then (-1 : Int) else IntKind.max .u16) = (((UInt16.ofNat 65535).toNat : Nat) : Int) := by decide
  rw [e, x16_xor]
  have h2 : (UInt16.ofNat 65535) ^^^ x = ~~~x := by
    apply UInt16.toBitVec_inj.1
    have hb : (UInt16.ofNat 65535).toBitVec = BitVec.allOnes 16 := by decide
    rw [UInt16.toBitVec_xor, hb, BitVec.allOnes_xor, UInt16.toBitVec_not]
  rw [h2]
def shl16 (x : UInt16) (n : Nat) : UInt16 := UInt16.ofNat (x.toNat * 2 ^ n)
def shr16 (x : UInt16) (n : Nat) : UInt16 := UInt16.ofNat (x.toNat / 2 ^ n)
theorem h16_shl (x : UInt16) (n : Nat) : IntKind.wrap .u16 ((x.toNat : Int) * 2 ^ (min (n : Int).toNat (IntKind.bits .u16))) = ((shl16 x n).toNat : Int) := by
  have e : (x.toNat : Int) * 2 ^ (min (n : Int).toNat (IntKind.bits .u16)) = ((x.toNat * 2 ^ (min n 16) : Nat) : Int) := by simp [IntKind.bits]
  rw [e, w16_nat]
  unfold shl16
  rcases Nat.lt_or_ge n 16 with h | h
  · rw [Nat.min_eq_left (by omega)]
  · rw [Nat.min_eq_right h]
    simp only [UInt16.toNat_ofNat']
    obtain ⟨m, rfl⟩ : ∃ m, n = 16 + m := ⟨n - 16, by omega⟩
    rw [Nat.pow_add, ← Nat.mul_assoc, Nat.mul_right_comm]
    simp
theorem h16_shr (x : UInt16) (n : Nat) : Int.fdiv (x.toNat : Int) (2 ^ (min (n : Int).toNat (IntKind.bits .u16))) = ((shr16 x n).toNat : Int) := by
  have hx := w16_lt x
  have e : (2 : Int) ^ (min (n : Int).toNat (IntKind.bits .u16)) = ((2 ^ (min n 16) : Nat) : Int) := by simp [IntKind.bits]
  rw [e, Int.fdiv_eq_ediv_of_nonneg _ (Int.natCast_nonneg _), ← Int.natCast_ediv]
  unfold shr16
  simp only [UInt16.toNat_ofNat']
  rcases Nat.lt_or_ge n 16 with h | h
  · rw [Nat.min_eq_left (by omega), Nat.mod_eq_of_lt (Nat.lt_of_le_of_lt (Nat.div_le_self _ _) (by simpa using hx))]
  · rw [Nat.min_eq_right h, Nat.div_eq_of_lt (by simpa using hx), Nat.div_eq_of_lt (Nat.lt_of_lt_of_le (by simpa using hx) (Nat.pow_le_pow_right (by omega) h))]
theorem d16_eq (x y : UInt16) : decide ((x.toNat : Int) = (y.toNat : Int)) = decide (x = y) := by
  rw [dI_eq]; simp only [UInt16.toNat_inj]
theorem d16_lt (x y : UInt16) : decide ((x.toNat : Int) < (y.toNat : Int)) = decide (x < y) := by
  rw [dI_lt]; simp only [UInt16.lt_iff_toNat_lt]
theorem d16_le (x y : UInt16) : decide ((x.toNat : Int) ≤ (y.toNat : Int)) = decide (x ≤ y) := by
  rw [dI_le]; simp only [UInt16.le_iff_toNat_le]
theorem t16_rem (x y : UInt16) : Int.tmod (x.toNat : Int) (y.toNat : Int) = ((x % y).toNat : Int) := by rw [tI_rem, UInt16.toNat_mod]
theorem t16_quo (x y : UInt16) : IntKind.wrap .u16 (Int.tdiv (x.toNat : Int) (y.toNat : Int)) = ((x / y).toNat : Int) := by
  rw [Int.tdiv_eq_ediv_of_nonneg (by omega), ← Int.natCast_ediv, ← UInt16.toNat_div, w16_id]


/-! ### 32 bits -/
abbrev u32 (x : UInt32) : Value := .int .u32 (x.toNat : Int)
theorem w32_nat (n : Nat) : IntKind.wrap .u32 (n : Int) = ((UInt32.ofNat n).toNat : Int) := by
  simp only [IntKind.wrap, IntKind.bits, IntKind.signed, UInt32.toNat_ofNat']
  simp
theorem w32_id (x : UInt32) : IntKind.wrap .u32 (x.toNat : Int) = (x.toNat : Int) := by rw [w32_nat]; simp
theorem w32_lt (x : UInt32) : x.toNat < 4294967296 := x.toNat_lt
theorem w32_add (x y : UInt32) : IntKind.wrap .u32 ((x.toNat : Int) + (y.toNat : Int)) = ((x + y).toNat : Int) := by
  rw [← Int.natCast_add, w32_nat, UInt32.ofNat_add, UInt32.ofNat_toNat, UInt32.ofNat_toNat]
theorem w32_mul (x y : UInt32) : IntKind.wrap .u32 ((x.toNat : Int) * (y.toNat : Int)) = ((x * y).toNat : Int) := by
  rw [← Int.natCast_mul, w32_nat, UInt32.ofNat_mul, UInt32.ofNat_toNat, UInt32.ofNat_toNat]
theorem w32_sub (x y : UInt32) : IntKind.wrap .u32 ((x.toNat : Int) - (y.toNat : Int)) = ((x - y).toNat : Int) := by
  have h1 := w32_lt x
  have h2 := w32_lt y
  simp only [IntKind.wrap, IntKind.bits, IntKind.signed, UInt32.toNat_sub]
  simp
  omega
theorem bv32 (x : UInt32) : BitVec.ofInt (IntKind.bits .u32) (x.toNat : Int) = x.toBitVec := by
  simp only [IntKind.bits, BitVec.ofInt_natCast]
  exact BitVec.eq_of_toNat_eq (by simp)
theorem w32_bv (v : BitVec 32) : IntKind.wrap .u32 (v.toNat : Int) = ((UInt32.ofBitVec v).toNat : Int) := by
  have := w32_id (UInt32.ofBitVec v)
  simpa using this
theorem x32_xor (x y : UInt32) : bitsB .xor .u32 (x.toNat : Int) (y.toNat : Int) = ((x ^^^ y).toNat : Int) := by
  simp only [bitsB, bv32]; exact w32_bv _
theorem x32_or (x y : UInt32) : bitsB .or .u32 (x.toNat : Int) (y.toNat : Int) = ((x ||| y).toNat : Int) := by
  simp only [bitsB, bv32]; exact w32_bv _
theorem x32_and (x y : UInt32) : bitsB .and .u32 (x.toNat : Int) (y.toNat : Int) = ((x &&& y).toNat : Int) := by
  simp only [bitsB, bv32]; exact w32_bv _
theorem x32_andNot (x y : UInt32) : bitsB .andNot .u32 (x.toNat : Int) (y.toNat : Int) = ((x &&& ~~~y).toNat : Int) := by
  simp only [bitsB, bv32]; exact w32_bv _
theorem x32_com (x : UInt32) : bitsB .xor .u32 (if IntKind.signed .u32 then -1 else IntKind.max .u32) (x.toNat : Int) = ((~~~x).toNat : Int) := by
  have e : (if IntKind.signed .u32 then (-1 : Int) else IntKind.max .u32) = (((UInt32.ofNat 4294967295).toNat : Nat) : Int) := by decide
  rw [e, x32_xor]
  have h2 : (UInt32.ofNat 4294967295) ^^^ x = ~~~x := by
    apply UInt32.toBitVec_inj.1
    have hb : (UInt32.ofNat 4294967295).toBitVec = BitVec.allOnes 32 := by decide
    rw [UInt32.toBitVec_xor, hb, BitVec.allOnes_xor, UInt32.toBitVec_not]
  rw [h2]
def shl32 (x : UInt32) (n : Nat) : UInt32 := UInt32.ofNat (x.toNat * 2 ^ n)
def shr32 (x : UInt32) (n : Nat) : UInt32 := UInt32.ofNat (x.toNat / 2 ^ n)
theorem h32_shl (x : UInt32) (n : Nat) : IntKind.wrap .u32 ((x.toNat : Int) * 2 ^ (min (n : Int).toNat (IntKind.bits .u32))) = ((shl32 x n).toNat : Int) := by
  have e : (x.toNat : Int) * 2 ^ (min (n : Int).toNat (IntKind.bits .u32)) = ((x.toNat * 2 ^ (min n 32) : Nat) : Int) := by simp [IntKind.bits]
  rw [e, w32_nat]
  unfold shl32
  rcases Nat.lt_or_ge n 32 with h | h
  · rw [Nat.min_eq_left (by omega)]
  · rw [Nat.min_eq_right h]
    simp only [UInt32.toNat_ofNat']
    obtain ⟨m, rfl⟩ : ∃ m, n = 32 + m := ⟨n - 32, by omega⟩
    rw [Nat.pow_add, ← Nat.mul_assoc, Nat.mul_right_comm]
    simp
theorem h32_shr (x : UInt32) (n : Nat) : Int.fdiv (x.toNat : Int) (2 ^ (min (n : Int).toNat (IntKind.bits .u32))) = ((shr32 x n).toNat : Int) := by
  have hx := w32_lt x
  have e : (2 : Int) ^ (min (n : Int).toNat (IntKind.bits .u32)) = ((2 ^ (min n 32) : Nat) : Int) := by simp [IntKind.bits]
  rw [e, Int.fdiv_eq_ediv_of_nonneg _ (Int.natCast_nonneg _), ← Int.natCast_ediv]
  unfold shr32
  simp only [UInt32.toNat_ofNat']
  rcases Nat.lt_or_ge n 32 with h | h
  · rw [Nat.min_eq_left (by omega), Nat.mod_eq_of_lt (Nat.lt_of_le_of_lt (Nat.div_le_self _ _) (by simpa using hx))]
  · rw [Nat.min_eq_right h, Nat.div_eq_of_lt (by simpa using hx), Nat.div_eq_of_lt (Nat.lt_of_lt_of_le (by simpa using hx) (Nat.pow_le_pow_right (by omega) h))]
theorem d32_eq (x y : UInt32) : decide ((x.toNat : Int) = (y.toNat : Int)) = decide (x = y) := by
  rw [dI_eq]; simp only [UInt32.toNat_inj]
theorem d32_lt (x y : UInt32) : decide ((x.toNat : Int) < (y.toNat : Int)) = decide (x < y) := by
  rw [dI_lt]; simp only [UInt32.lt_iff_toNat_lt]
theorem d32_le (x y : UInt32) : decide ((x.toNat : Int) ≤ (y.toNat : Int)) = decide (x ≤ y) := by
  rw [dI_le]; simp only [UInt32.le_iff_toNat_le]
theorem t32_rem (x y : UInt32) : Int.tmod (x.toNat : Int) (y.toNat : Int) = ((x % y).toNat : Int) := by rw [tI_rem, UInt32.toNat_mod]
theorem t32_quo (x y : UInt32) : IntKind.wrap .u32 (Int.tdiv (x.toNat : Int) (y.toNat : Int)) = ((x / y).toNat : Int) := by
  rw [Int.tdiv_eq_ediv_of_nonneg (by omega), ← Int.natCast_ediv, ← UInt32.toNat_div, w32_id]


/-! ### 64 bits -/
abbrev u64 (x : UInt64) : Value := .int .u64 (x.toNat : Int)
theorem w64_nat (n : Nat) : IntKind.wrap .u64 (n : Int) = ((UInt64.ofNat n).toNat : Int) := by
  simp only [IntKind.wrap, IntKind.bits, IntKind.signed, UInt64.toNat_ofNat']
  simp
theorem w64_id (x : UInt64) : IntKind.wrap .u64 (x.toNat : Int) = (x.toNat : Int) := by rw [w64_nat]; simp
theorem w64_lt (x : UInt64) : x.toNat < 18446744073709551616 := x.toNat_lt
theorem w64_add (x y : UInt64) : IntKind.wrap .u64 ((x.toNat : Int) + (y.toNat : Int)) = ((x + y).toNat : Int) := by
  rw [← Int.natCast_add, w64_nat, UInt64.ofNat_add, UInt64.ofNat_toNat, UInt64.ofNat_toNat]
theorem w64_mul (x y : UInt64) : IntKind.wrap .u64 ((x.toNat : Int) * (y.toNat : Int)) = ((x * y).toNat : Int) := by
  rw [← Int.natCast_mul, w64_nat, UInt64.ofNat_mul, UInt64.ofNat_toNat, UInt64.ofNat_toNat]
theorem w64_sub (x y : UInt64) : IntKind.wrap .u64 ((x.toNat : Int) - (y.toNat : Int)) = ((x - y).toNat : Int) := by
  have h1 := w64_lt x
  have h2 := w64_lt y
  simp only [IntKind.wrap, IntKind.bits, IntKind.signed, UInt64.toNat_sub]
  simp
  omega
theorem bv64 (x : UInt64) : BitVec.ofInt (IntKind.bits .u64) (x.toNat : Int) = x.toBitVec := by
  simp only [IntKind.bits, BitVec.ofInt_natCast]
  exact BitVec.eq_of_toNat_eq (by simp)
theorem w64_bv (v : BitVec 64) : IntKind.wrap .u64 (v.toNat : Int) = ((UInt64.ofBitVec v).toNat : Int) := by
  have := w64_id (UInt64.ofBitVec v)
  simpa using this
theorem x64_xor (x y : UInt64) : bitsB .xor .u64 (x.toNat : Int) (y.toNat : Int) = ((x ^^^ y).toNat : Int) := by
  simp only [bitsB, bv64]; exact w64_bv _
theorem x64_or (x y : UInt64) : bitsB .or .u64 (x.toNat : Int) (y.toNat : Int) = ((x ||| y).toNat : Int) := by
  simp only [bitsB, bv64]; exact w64_bv _
theorem x64_and (x y : UInt64) : bitsB .and .u64 (x.toNat : Int) (y.toNat : Int) = ((x &&& y).toNat : Int) := by
  simp only [bitsB, bv64]; exact w64_bv _
theorem x64_andNot (x y : UInt64) : bitsB .andNot .u64 (x.toNat : Int) (y.toNat : Int) = ((x &&& ~~~y).toNat : Int) := by
  simp only [bitsB, bv64]; exact w64_bv _
theorem x64_com (x : UInt64) : bitsB .xor .u64 (if IntKind.signed .u64 then -1 else IntKind.max .u64) (x.toNat : Int) = ((~~~x).toNat : Int) := by
  have e : (if IntKind.signed .u64 then (-1 : Int) else IntKind.max .u64) = (((UInt64.ofNat 18446744073709551615).toNat : Nat) : Int) := by decide
  rw [e, x64_xor]
  have h2 : (UInt64.ofNat 18446744073709551615) ^^^ x = ~~~x := by
    apply UInt64.toBitVec_inj.1
    have hb : (UInt64.ofNat 18446744073709551615).toBitVec = BitVec.allOnes 64 := by decide
    rw [UInt64.toBitVec_xor, hb, BitVec.allOnes_xor, UInt64.toBitVec_not]
  rw [h2]
def shl64 (x : UInt64) (n : Nat) : UInt64 := UInt64.ofNat (x.toNat * 2 ^ n)
def shr64 (x : UInt64) (n : Nat) : UInt64 := UInt64.ofNat (x.toNat / 2 ^ n)
theorem h64_shl (x : UInt64) (n : Nat) : IntKind.wrap .u64 ((x.toNat : Int) * 2 ^ (min (n : Int).toNat (IntKind.bits .u64))) = ((shl64 x n).toNat : Int) := by
  have e : (x.toNat : Int) * 2 ^ (min (n : Int).toNat (IntKind.bits .u64)) = ((x.toNat * 2 ^ (min n 64) : Nat) : Int) := by simp [IntKind.bits]
  rw [e, w64_nat]
  unfold shl64
  rcases Nat.lt_or_ge n 64 with h | h
  · rw [Nat.min_eq_left (by omega)]
  · rw [Nat.min_eq_right h]
    simp only [UInt64.toNat_ofNat']
    obtain ⟨m, rfl⟩ : ∃ m, n = 64 + m := ⟨n - 64, by omega⟩
    rw [Nat.pow_add, ← Nat.mul_assoc, Nat.mul_right_comm]
    simp
theorem h64_shr (x : UInt64) (n : Nat) : Int.fdiv (x.toNat : Int) (2 ^ (min (n : Int).toNat (IntKind.bits .u64))) = ((shr64 x n).toNat : Int) := by
  have hx := w64_lt x
  have e : (2 : Int) ^ (min (n : Int).toNat (IntKind.bits .u64)) = ((2 ^ (min n 64) : Nat) : Int) := by simp [IntKind.bits]
  rw [e, Int.fdiv_eq_ediv_of_nonneg _ (Int.natCast_nonneg _), ← Int.natCast_ediv]
  unfold shr64
  simp only [UInt64.toNat_ofNat']
  rcases Nat.lt_or_ge n 64 with h | h
  · rw [Nat.min_eq_left (by omega), Nat.mod_eq_of_lt (Nat.lt_of_le_of_lt (Nat.div_le_self _ _) (by simpa using hx))]
  · rw [Nat.min_eq_right h, Nat.div_eq_of_lt (by simpa using hx), Nat.div_eq_of_lt (Nat.lt_of_lt_of_le (by simpa using hx) (Nat.pow_le_pow_right (by omega) h))]
theorem d64_eq (x y : UInt64) : decide ((x.toNat : Int) = (y.toNat : Int)) = decide (x = y) := by
  rw [dI_eq]; simp only [UInt64.toNat_inj]
theorem d64_lt (x y : UInt64) : decide ((x.toNat : Int) < (y.toNat : Int)) = decide (x < y) := by
  rw [dI_lt]; simp only [UInt64.lt_iff_toNat_lt]
theorem d64_le (x y : UInt64) : decide ((x.toNat : Int) ≤ (y.toNat : Int)) = decide (x ≤ y) := by
  rw [dI_le]; simp only [UInt64.le_iff_toNat_le]
theorem t64_rem (x y : UInt64) : Int.tmod (x.toNat : Int) (y.toNat : Int) = ((x % y).toNat : Int) := by rw [tI_rem, UInt64.toNat_mod]
theorem t64_quo (x y : UInt64) : IntKind.wrap .u64 (Int.tdiv (x.toNat : Int) (y.toNat : Int)) = ((x / y).toNat : Int) := by
  rw [Int.tdiv_eq_ediv_of_nonneg (by omega), ← Int.natCast_ediv, ← UInt64.toNat_div, w64_id]

end Go.Sl
/- The engine, part F: small helpers of a walk. -/
set_option linter.unusedVariables false
namespace Go.Sl

theorem leE_nil {σ : Env} (h : look0 σ MK = none := by rfl) : leE [] σ := ⟨h.symm, trivial⟩
theorem leE_cons {σ r : Env} {t : Nat} {v : Value} (h : look σ t = some v) (hr : leE r σ) : leE ((t, v) :: r) σ := by
  obtain ⟨h1, h2⟩ := look_lt h
  exact ⟨by rw [look0_cons_ne _ _ h1]; exact hr.1, h2, hr.2⟩
theorem leE_mark {σ : Env} {v : Value} (h : look0 σ MK = some v) : leE [(MK, v)] σ := ⟨by rw [look0_cons_eq, h], h, trivial⟩

section
variable {next : Env → HL → Prop} {K : KK} {σ : Env} {S : HL} {id : Nat}
theorem thenN (h : next σ S) : thenK next K .normal σ S := h
theorem thenX (h : K (.exit id) σ S) : thenK next K (.exit id) σ S := h
theorem thenR (h : K .ret σ S) : thenK next K .ret σ S := h
theorem thenG (h : K (.goto id) σ S) : thenK next K (.goto id) σ S := h
theorem blockN (h : K .normal σ S) : blockK id K .normal σ S := h
theorem blockR (h : K .ret σ S) : blockK id K .ret σ S := h
theorem blockG {l : Nat} (h : K (.goto l) σ S) : blockK id K (.goto l) σ S := h
theorem blockX (h : K .normal σ S) : blockK id K (.exit id) σ S := by simp only [blockK, if_true]; exact h
theorem blockY {id' : Nat} (hne : Nat.beq id' id = false) (h : K (.exit id') σ S) : blockK id K (.exit id') σ S := by
  have : id' ≠ id := fun e => by rw [e] at hne; simp at hne
  simp only [blockK, if_neg this]; exact h
theorem scopeN (h : K .normal σ S) : gotoK K .normal σ S := h
theorem scopeR (h : K .ret σ S) : gotoK K .ret σ S := h
theorem scopeX (h : K (.exit id) σ S) : gotoK K (.exit id) σ S := h
theorem retN {P : Program} {fn : Func} {R : Value → HL → Prop} {v : Value} (T : HL) (h : ResOk P fn σ S v) (hT : T.Sublist S) (hR : R v T) (hd : look0 σ MK = none := by rfl) : retK P fn R .normal σ S := ⟨v, T, .inl ⟨hd, h, hT⟩, hR⟩
theorem retR {P : Program} {fn : Func} {R : Value → HL → Prop} {v : Value} (T : HL) (h : ResOk P fn σ S v) (hT : T.Sublist S) (hR : R v T) (hd : look0 σ MK = none := by rfl) : retK P fn R .ret σ S := ⟨v, T, .inl ⟨hd, h, hT⟩, hR⟩
/-- A return behind a loop over a function: the mark's block is D. -/
theorem retRM {P : Program} {fn : Func} {R : Value → HL → Prop} {v : Value} {D : Nat} {Z : HL} (T : HL) (hd : look0 σ MK = some (.pointer (some ⟨D, 0, none⟩))) (hp : S.Perm ((D, .deferred (some [])) :: Z)) (h : ResOk P fn σ Z v) (hT : T.Sublist Z) (hR : R v T) : retK P fn R .ret σ S := ⟨v, T, .inr ⟨D, Z, hd, hp, h, hT⟩, hR⟩
theorem retNM {P : Program} {fn : Func} {R : Value → HL → Prop} {v : Value} {D : Nat} {Z : HL} (T : HL) (hd : look0 σ MK = some (.pointer (some ⟨D, 0, none⟩))) (hp : S.Perm ((D, .deferred (some [])) :: Z)) (h : ResOk P fn σ Z v) (hT : T.Sublist Z) (hR : R v T) : retK P fn R .normal σ S := ⟨v, T, .inr ⟨D, Z, hd, hp, h, hT⟩, hR⟩
end

theorem CW.drawnS {P n id l σ S K} (e : Nat) (hm : (P.follows .mixedOrders || !Region.departs ⟨l⟩) = true) (hok : opsOk n l = true) (hsel : Region.noSelect ⟨l⟩ = true)
    (he : lastOk ⟨l⟩ e = true) (hp : ∀ c σ S, ¬ K (.panic c) σ S)
    (h : DL P n ⟨l⟩ S e l.length (Array.replicate l.length false) σ S K) : CW P n (.region id ⟨l⟩ true) σ S K := CW.drawn S e hm hok hsel he hp h

/-- Ways meet again behind x. -/
theorem CW.seqCut {ι : Type} {P n x y σ S K} (I : ι → Prop) (E : ι → Env) (H : ι → HL)
    (h : CW P n x σ S (thenK (fun σ' S' => ∃ i, I i ∧ leE (E i) σ' ∧ (H i).Sublist S') K)) (h2 : ∀ i, I i → CW P n y (E i) (H i) K) : CW P n (.seq x y) σ S K := by
  refine CW.seq (CW.mono h ?_)
  rintro e σ' S' hk
  cases e with
  | normal =>
    obtain ⟨i, hI, hE, hH⟩ := hk
    exact CW.weak hE hH (h2 i hI)
  | _ => exact hk

/-! lists -/
theorem m_get {α : Type} {f : α → Value} {xs : List α} {k : Nat} (d : α) (h : k < xs.length) : (xs.map f)[k]? = some (f (xs.getD k d)) := by
  simp [List.getElem?_eq_getElem h, List.getD_eq_getElem?_getD]
theorem m_set {α : Type} {f : α → Value} (xs : List α) (k : Nat) (v : α) : (xs.map f).set k (f v) = (xs.set k v).map f := by simp [List.map_set]
theorem m_all {α : Type} {f : α → Value} (hf : ∀ a, oneB (f a) = true) (xs : List α) : (xs.map f).all oneB = true := by simp [hf]
theorem m_cut {α : Type} {f : α → Value} (xs : List α) (o n : Nat) : (((xs.map f).drop o).take n) = (((xs.drop o).take n)).map f := by simp
theorem m_all_of {α : Type} {f : α → Value} (xs : List α) (n : Nat) (h : xs.length = n) : ((xs.map f).drop 0).take n = xs.map f := by rw [List.drop_zero, List.take_of_length_le (by simp [h])]
theorem wr_all {l vs : List Value} (h : vs.length = l.length) : wrL l 0 vs = vs := by simp [wrL, h]

theorem m_wr {α : Type} {f : α → Value} (xs : List α) (o : Nat) (ys : List α) : wrL (xs.map f) o (ys.map f) = (wrL xs o ys).map f := by simp [wrL]
theorem lt8 (x : UInt8) : ((x.toNat : Nat) : Int) < ((256 : Nat) : Int) := by have := x.toNat_lt; omega
theorem wrL_len {α : Type} {l : List α} {off : Nat} {vs : List α} (h : off + vs.length ≤ l.length) : (wrL l off vs).length = l.length := by simp [wrL]; omega
theorem lt8L {x : UInt8} {L : Nat} (h : 256 ≤ L) : x.toNat < L := by have := x.toNat_lt; omega
theorem lt8B {x : UInt8} {b L : Nat} (h : b + 256 ≤ L) : b + x.toNat < L := by have := x.toNat_lt; omega
theorem wrL_len' {α : Type} {l : List α} {off : Nat} {vs : List α} {n m : Nat} (hl : l.length = n) (hv : vs.length = m) (h : off + m ≤ n) : (wrL l off vs).length = n := by
  rw [wrL_len (by omega), hl]
theorem hsub1 {a : Nat × Obj} {S : HL} (h : a ∈ S) : ∀ p ∈ [a], p ∈ S := fun p hp => by simp at hp; subst hp; exact h
theorem hsub2 {a b : Nat × Obj} {S : HL} (h : a ∈ S) (h2 : b ∈ S) : ∀ p ∈ [a, b], p ∈ S := fun p hp => by
  simp at hp; rcases hp with rfl | rfl <;> assumption
theorem hsub3 {a b c : Nat × Obj} {S : HL} (h : a ∈ S) (h2 : b ∈ S) (h3 : c ∈ S) : ∀ p ∈ [a, b, c], p ∈ S := fun p hp => by
  simp at hp; rcases hp with rfl | rfl | rfl <;> assumption
theorem hsub0 {S : HL} : ∀ p ∈ ([] : HL), p ∈ S := fun p hp => by cases hp
theorem ix01 (k : Nat) : 0 + (k : Int).toNat * 1 = k := by simp
theorem ixb1 (b k : Nat) : b + (k : Int).toNat * 1 = b + k := by simp
theorem ix0m (k m : Nat) : 0 + (k : Int).toNat * m = k * m := by simp
theorem ixbm (b k m : Nat) : b + (k : Int).toNat * m = b + k * m := by simp
theorem fo0 (n : Nat) : 0 + n = n := Nat.zero_add n
theorem foB (b n : Nat) : b + n = b + n := rfl
theorem dropS {x : Nat × Obj} {H S : HL} (h : H.Sublist S) : H.Sublist (x :: S) := List.Sublist.cons _ h
theorem keepS {b : Nat} {o o' : Obj} {H S : HL} (he : o = o') (h : H.Sublist S) : ((b, o) :: H).Sublist ((b, o') :: S) := by subst he; exact List.Sublist.cons_cons _ h
end Go.Sl

/- The engine, part G: slices: len, cap, cuts, made ones, append, copy. -/
set_option linter.unusedVariables false
set_option linter.unusedSimpArgs false
namespace Go.Sl
variable {P : Program} {n : Nat} {σ : Env} {S : HL} {K : Env → HL → Prop} {d : Nat} {dst : Option Nat} {ty : TypeId} {pos : String} {aft : Array Edge} {g : Option (Nat × Bool)}

theorem QW.len_s {x : Operand} {t e : Nat} {a : Option Addr} {l c : Nat} (ht : UT P t (.slice e)) (hx : ev σ x = some (.slice a l c)) :
    QW P S ⟨dst, .call { callee := .builtin .len, args := #[x], argTypes := #[t] }, ty, pos, aft, g⟩ σ (nI l) :=
  fun ρ w hρ _ => by simp [execOp, resolve, invoke, builtin, Builtin.len_, hρ x _ hx, ht w, goInt]
theorem QW.len_str {x : Operand} {t : Nat} {s : ByteArray} (ht : UT P t .string) (hx : ev σ x = some (.string s)) :
    QW P S ⟨dst, .call { callee := .builtin .len, args := #[x], argTypes := #[t] }, ty, pos, aft, g⟩ σ (nI s.size) :=
  fun ρ w hρ _ => by simp [execOp, resolve, invoke, builtin, Builtin.len_, hρ x _ hx, ht w, goInt]
theorem QW.cap_s {x : Operand} {t e : Nat} {a : Option Addr} {l c : Nat} (ht : UT P t (.slice e)) (hx : ev σ x = some (.slice a l c)) :
    QW P S ⟨dst, .call { callee := .builtin .cap, args := #[x], argTypes := #[t] }, ty, pos, aft, g⟩ σ (nI c) :=
  fun ρ w hρ _ => by simp [execOp, resolve, invoke, builtin, Builtin.cap_, hρ x _ hx, ht w, goInt]
theorem QW.minI {x y : Operand} {ts : Array TypeId} {a b : Nat} (hx : ev σ x = some (nI a)) (hy : ev σ y = some (nI b)) :
    QW P S ⟨dst, .call { callee := .builtin .min, args := #[x, y], argTypes := ts }, ty, pos, aft, g⟩ σ (nI (min a b)) :=
  fun ρ w hρ _ => by
    have e : (if b < a then (b : Int) else (a : Int)) = ((min a b : Nat) : Int) := by
      split <;> omega
    simp only [execOp, resolve, invoke, builtin, Builtin.min_, Array.map, hρ x _ hx, hρ y _ hy]
    simp [Builtin.min2, e, hρ x _ hx, hρ y _ hy]
theorem QW.maxI {x y : Operand} {ts : Array TypeId} {k : IntKind} {a b : Int} (hx : ev σ x = some (.int k a)) (hy : ev σ y = some (.int k b)) :
    QW P S ⟨dst, .call { callee := .builtin .max, args := #[x, y], argTypes := ts }, ty, pos, aft, g⟩ σ (.int k (if b > a then b else a)) :=
  fun ρ w hρ _ => by
    simp [execOp, resolve, invoke, builtin, Builtin.max_, Builtin.max2, hρ x _ hx, hρ y _ hy]

/-! ### cuts -/
def sliceOff (off l m sz : Nat) : Nat := if m = l then off else off + l * sz
theorem sliceOff0 (off m sz : Nat) : sliceOff off 0 m sz = off := by simp [sliceOff]
theorem sliceOff1 {off l m sz : Nat} (h : l < m) : sliceOff off l m sz = off + l * sz := by simp [sliceOff]; omega
def optV (σ : Env) (o : Option Operand) (l dflt : Nat) : Prop := match o with | none => l = dflt | some x => ∃ k, ev σ x = some (.int k (l : Int))
theorem optV_none {l : Nat} : optV σ none l l := rfl
theorem optV_some {x : Operand} {k : IntKind} {l dflt : Nat} (h : ev σ x = some (.int k (l : Int))) : optV σ (some x) l dflt := ⟨k, h⟩

theorem sliceBound_ok {k : IntKind} {l y : Nat} {code : BoundsCode} (h : l ≤ y) (w : World) : (Instr.sliceBound (.int k (l : Int)) y code).run P w = .ok l w := by
  have h1 : (0 : Int) ≤ (l : Int) ∧ (l : Int) ≤ (y : Int) := by omega
  simp [Instr.sliceBound, asIntOf, h1]
theorem sliceBounds_ok {ρ : Operand → Value} (hρ : Ext σ ρ) {isS : Bool} {len cap l h m : Nat} {lo hi mx : Option Operand}
    (hlo : optV σ lo l 0) (hhi : optV σ hi h len) (hmx : optV σ mx m cap) (hx : mx = none ∨ hi ≠ none) (h1 : l ≤ h) (h2 : h ≤ m) (h3 : m ≤ cap) (w : World) :
    (Instr.sliceBounds isS len cap (lo.map ρ) (hi.map ρ) (mx.map ρ)).run P w = .ok (l, h, m) w := by
  cases lo <;> cases hi <;> cases mx <;> simp only [optV] at hlo hhi hmx <;> simp at hx
  all_goals (try (obtain ⟨k1, e1⟩ := hlo)); (try (obtain ⟨k2, e2⟩ := hhi)); (try (obtain ⟨k3, e3⟩ := hmx))
  all_goals (try subst hlo); (try subst hhi); (try subst hmx)
  all_goals simp only [Instr.sliceBounds, Option.map]
  all_goals (try rw [hρ _ _ e1]); (try rw [hρ _ _ e2]); (try rw [hρ _ _ e3])
  all_goals simp [sliceBound_ok (P := P) h1, sliceBound_ok (P := P) h2, sliceBound_ok (P := P) h3]

theorem QW.sliceS {x : Operand} {t e sz : Nat} {b off len cap l h m off' : Nat} {lo hi mx : Option Operand} (ht : UT P t (.slice e)) (hn : SZ P e sz) (hx : ev σ x = some (sl b off len cap))
    (hlo : optV σ lo l 0) (hhi : optV σ hi h len) (hmx : optV σ mx m cap) (hm : mx = none ∨ hi ≠ none) (h1 : l ≤ h) (h2 : h ≤ m) (h3 : m ≤ cap) (ho : sliceOff off l m sz = off') :
    QW P S ⟨dst, .slice t x lo hi mx, ty, pos, aft, g⟩ σ (sl b off' (h - l) (m - l)) :=
  fun ρ w hρ _ => by
    subst ho
    simp only [execOp, Instr.sliceAt, Instr.slice, hρ x _ hx]
    simp [ht w, sliceBounds_ok (P := P) hρ hlo hhi hmx hm h1 h2 h3, hn w, sliceOff]
    split <;> simp [Addr.add_none]
theorem QW.sliceNil {x : Operand} {t e sz : Nat} {lo hi mx : Option Operand} (ht : UT P t (.slice e)) (hn : SZ P e sz) (hx : ev σ x = some (.slice none 0 0))
    (hlo : optV σ lo 0 0) (hhi : optV σ hi 0 0) (hmx : optV σ mx 0 0) (hm : mx = none ∨ hi ≠ none) :
    QW P S ⟨dst, .slice t x lo hi mx, ty, pos, aft, g⟩ σ (.slice none 0 0) :=
  fun ρ w hρ _ => by
    simp only [execOp, Instr.sliceAt, Instr.slice, hρ x _ hx]
    simp [ht w, sliceBounds_ok (P := P) hρ hlo hhi hmx hm (Nat.le_refl 0) (Nat.le_refl 0) (Nat.le_refl 0), hn w]
/-- A cut of an array in memory. -/
theorem QW.sliceA {x : Operand} {t e sz len : Nat} {b off l h m off' : Nat} {lo hi mx : Option Operand} (ht : UT P t (.array len e)) (hn : SZ P e sz) (hx : ev σ x = some (ptr b off))
    (hlo : optV σ lo l 0) (hhi : optV σ hi h len) (hmx : optV σ mx m len) (hm : mx = none ∨ hi ≠ none) (h1 : l ≤ h) (h2 : h ≤ m) (h3 : m ≤ len) (ho : sliceOff off l m sz = off') :
    QW P S ⟨dst, .slice t x lo hi mx, ty, pos, aft, g⟩ σ (sl b off' (h - l) (m - l)) :=
  fun ρ w hρ _ => by
    subst ho
    simp only [execOp, Instr.sliceAt, hρ x _ hx]
    simp [ht w, Instr.sureAddr, sliceBounds_ok (P := P) hρ hlo hhi hmx hm h1 h2 h3, hn w, sliceOff]
    split <;> simp [Addr.add_none]
theorem QW.sliceStr {x : Operand} {t : Nat} {s : ByteArray} {l h : Nat} {lo hi : Option Operand} (ht : UT P t .string) (hx : ev σ x = some (.string s))
    (hlo : optV σ lo l 0) (hhi : optV σ hi h s.size) (h1 : l ≤ h) (h2 : h ≤ s.size) :
    QW P S ⟨dst, .slice t x lo hi none, ty, pos, aft, g⟩ σ (.string (s.extract l h)) :=
  fun ρ w hρ _ => by
    have hb : (Instr.sliceBounds false s.size s.size (lo.map ρ) (hi.map ρ) none).run P w = .ok (l, h, s.size) w := sliceBounds_ok (P := P) (isS := false) (mx := none) (len := s.size) (cap := s.size) hρ hlo hhi rfl (.inl rfl) h1 h2 (Nat.le_refl _) w
    simp only [execOp, Instr.sliceAt, Instr.slice, hρ x _ hx]
    simp [ht w, hb]

theorem sliceOff1' {l m : Nat} (h : l < m) : sliceOff 0 l m 1 = l := by simp [sliceOff]; omega
theorem sliceOffB {off l m : Nat} (h : l < m) : sliceOff off l m 1 = off + l := by simp [sliceOff]; omega
theorem QW.sliceS0 {x : Operand} {t e sz : Nat} {b off len cap h m : Nat} {hi mx : Option Operand} (ht : UT P t (.slice e)) (hn : SZ P e sz) (hx : ev σ x = some (sl b off len cap))
    (hhi : optV σ hi h len) (hmx : optV σ mx m cap) (hm : mx = none ∨ hi ≠ none) (h2 : h ≤ m) (h3 : m ≤ cap) :
    QW P S ⟨dst, .slice t x none hi mx, ty, pos, aft, g⟩ σ (sl b off h m) :=
  QW.sliceS (l := 0) (off' := off) ht hn hx rfl hhi hmx hm (Nat.zero_le _) h2 h3 (sliceOff0 _ _ _)
theorem QW.sliceA0 {x : Operand} {t e sz len : Nat} {b off h m : Nat} {hi mx : Option Operand} (ht : UT P t (.array len e)) (hn : SZ P e sz) (hx : ev σ x = some (ptr b off))
    (hhi : optV σ hi h len) (hmx : optV σ mx m len) (hm : mx = none ∨ hi ≠ none) (h2 : h ≤ m) (h3 : m ≤ len) :
    QW P S ⟨dst, .slice t x none hi mx, ty, pos, aft, g⟩ σ (sl b off h m) :=
  QW.sliceA (l := 0) (off' := off) ht hn hx rfl hhi hmx hm (Nat.zero_le _) h2 h3 (sliceOff0 _ _ _)

/-! ### made slices -/
theorem range_rep (k : Nat) (z : Value) : (Array.range k).map (fun i => (#[z] : Array Value)[i % (#[z] : Array Value).size]!) = ⟨List.replicate k z⟩ := by
  apply Array.ext
  · simp
  · intro i h1 h2
    simp [Nat.mod_one]
theorem OW.makeSlice {x y : Operand} {t e : Nat} {info : TypeInfo} {z : Value} {l c : Nat} (ht : UT P t (.slice e)) (hi : TI P e info) (hn : SZ P e 1) (hz : ZV P e z) (hzc : z.cells = #[z])
    (hx : ev σ x = some (nI l)) (hy : ev σ y = some (nI c)) (hlc : l ≤ c) (hb : info.bytes * c ≤ 281474976710656) (hc : c < 9223372036854775808)
    (hk : ∀ b, K ((d, sl b 0 l c) :: σ) ((b, blk (List.replicate c z) e) :: S)) : OW P n ⟨some d, .makeSlice t x y, ty, pos, aft, g⟩ σ S K :=
  OW.run_ rfl fun w0 ρ w hρ hs => by
    have e1 : IntKind.i64.wrap (c : Int) = (c : Int) := wI_id hc
    have e2 : IntKind.i64.wrap (l : Int) = (l : Int) := wI_id (by omega)
    have e3 : ((c : Int) < 0) = False := by simp
    have e4 : ((l : Int) < 0) = False := by simp
    have e5 : ((c : Int) < (l : Int)) = False := by simp; omega
    have e6 : (281474976710656 < (info.bytes : Int) * (c : Int)) = False := by
      have : ((info.bytes * c : Nat) : Int) ≤ 281474976710656 := by omega
      simp only [Int.natCast_mul] at this
      simp; omega
    have hrun : (Instr.makeSlice t (nI l) (nI c)).run P w = .ok (sl w.heap.size 0 l c) { w with heap := w.heap.push (blk (List.replicate c z) e) } := by
      by_cases h0 : c = 0
      · subst h0
        have hl0 : l = 0 := by omega
        subst hl0
        have e0 : IntKind.i64.wrap 0 = 0 := by decide
        have e9 : (Array.range 0) = #[] := rfl
        simp [e9, Instr.makeSlice, ht w, asInt, asIntOf, hi w, e0, hn w, newRow, run_newObj]
      · have e7 : ¬ (c * 1 = 0) := by omega
        simp only [Nat.mul_one] at e7
        have h1 : Array.map (fun x => ([z] : List Value)[x % 1]?.getD default) (Array.range c) = ⟨List.replicate c z⟩ := by
          apply Array.ext
          · simp
          · intro i h1 h2
            simp [Nat.mod_one]
        simp [Instr.makeSlice, ht w, asInt, asIntOf, hi w, e1, e2, e3, e4, e5, e6, hn w, e7, hz w, hzc, newRow, run_newObj, h0, h1]
        rfl
    exact ⟨_, _, _, by simp [execOp, hρ x _ hx, hρ y _ hy, hrun], hs.alloc _, hk _⟩
/-- '[]T{x}' of one cell. -/
theorem OW.buildSlice1 {x : Operand} {t e : Nat} {z v : Value} (ht : UT P t (.slice e)) (hn : SZ P e 1) (hz : ZV P e z) (hzc : z.cells = #[z]) (hx : ev σ x = some v) (hv : v.cells = #[v])
    (hk : ∀ b, K ((d, sl b 0 1 1) :: σ) ((b, blk [v] e) :: S)) : OW P n ⟨some d, .buildSlice t 1 #[(0, x)], ty, pos, aft, g⟩ σ S K :=
  OW.run_ rfl fun w0 ρ w hρ hs => ⟨_, _, _, by
    have e1 : Array.range 1 = #[0] := by decide
    simp [execOp, Instr.buildSlice, ht w, hn w, hz w, hzc, hρ x _ hx, Instr.fill, hv, newRow, run_newObj, e1], hs.alloc _, hk _⟩
theorem OW.buildSlice0 {t e sz : Nat} (ht : UT P t (.slice e)) (hn : SZ P e sz)
    (hk : ∀ b, K ((d, sl b 0 0 0) :: σ) ((b, blk [] e) :: S)) : OW P n ⟨some d, .buildSlice t 0 #[], ty, pos, aft, g⟩ σ S K :=
  OW.run_ rfl fun w0 ρ w hρ hs => ⟨_, _, _, by
    have e9 : (Array.range 0) = #[] := rfl
    simp [execOp, Instr.buildSlice, ht w, hn w, Instr.fill, newRow, run_newObj, e9], hs.alloc _, hk _⟩
end Go.Sl

/- The engine, part H: append to a slice of one's own; copy. -/
set_option linter.unusedVariables false
set_option linter.unusedSimpArgs false
namespace Go.Sl

/-- A slice of one's own that begins at its block's head: its block, capacity, what lies behind. None: nil. -/
structure Buf where
  b : Nat
  cap : Nat
  rest : List Value
def bufV (o : Option Buf) (n : Nat) : Value := match o with | none => .slice none 0 0 | some u => sl u.b 0 n u.cap
def bufH (o : Option Buf) (xs : List Value) (T : TypeId) : HL := match o with | none => [] | some u => [(u.b, blk (xs ++ u.rest) T)]
def bufOk (o : Option Buf) (n sz : Nat) : Prop := match o with | none => n = 0 | some u => n * sz + u.rest.length = u.cap * sz ∧ n ≤ u.cap

inductive SegF : HL → HL → (HL → HL) → Prop
  | here {X S} : SegF (X ++ S) X (fun Y => Y ++ S)
  | there {x S X F} : SegF S X F → SegF (x :: S) X (fun Y => x :: F Y)
  | thereA {Z S X F} : SegF S X F → SegF (Z ++ S) X (fun Y => Z ++ F Y)
theorem SegF.spec {S X F} (h : SegF S X F) : ∃ R, S.Perm (X ++ R) ∧ ∀ Y, (F Y).Perm (Y ++ R) := by
  induction h with
  | @here X S => exact ⟨S, List.Perm.refl _, fun _ => List.Perm.refl _⟩
  | @there x S X F _ ih =>
    obtain ⟨R, h1, h2⟩ := ih
    refine ⟨x :: R, ?_, fun Y => ?_⟩
    · exact (h1.cons x).trans (List.perm_middle.symm)
    · exact ((h2 Y).cons x).trans (List.perm_middle.symm)
  | @thereA Z S X F _ ih =>
    obtain ⟨R, h1, h2⟩ := ih
    have key : ∀ (A B : HL) (W : HL), A.Perm (W ++ R) → (Z ++ A).Perm (W ++ (Z ++ R)) := fun A B W h => by
      refine (h.append_left Z).trans ?_
      rw [← List.append_assoc, ← List.append_assoc]
      exact (List.perm_append_comm).append_right R
    exact ⟨Z ++ R, key _ [] _ h1, fun Y => key _ [] _ (h2 Y)⟩

/-- What stands to be appended, or copied: m elements of sz cells each, ys. -/
def Src (P : Program) (S : HL) (x : Value) (m sz : Nat) (ys : List Value) : Prop :=
  ∀ w0 w, Sat w0 S w → (Builtin.lenOf x).run P w = .ok m w ∧ ∀ k, k ≤ m → (Builtin.firstCells sz k x).run P w = .ok ⟨ys.take (k * sz)⟩ w
theorem Src.sl {P : Program} {S : HL} {b off m c sz : Nat} {l ys : List Value} {T : TypeId} {fr : Nat × Nat} (hm : (b, Obj.cells ⟨l⟩ T fr) ∈ S) (hle : off + m * sz ≤ l.length) (hy : (l.drop off).take (m * sz) = ys) :
    Src P S (sl b off m c) m sz ys := by
  intro w0 w hs
  refine ⟨rfl, fun k hk => ?_⟩
  have hkm : k * sz ≤ m * sz := Nat.mul_le_mul_right _ hk
  have := run_loadCellsFrom (P := P) (w := w) (b := b) (c := ⟨l⟩) (fun off => hs.cell hm off) (k * sz) 0 off #[] (by simp; omega)
  subst hy
  simp only [Builtin.firstCells, loadCells, this]
  simp [List.take_take, Nat.min_eq_left hkm]
theorem Src.one {P : Program} {S : HL} {b c : Nat} {v : Value} {T : TypeId} {fr : Nat × Nat} (hm : (b, Obj.cells ⟨[v]⟩ T fr) ∈ S) : Src P S (Go.Sl.sl b 0 1 c) 1 1 [v] := Src.sl (off := 0) (l := [v]) hm (by simp) (by simp)
theorem keepA {X Y H S : HL} (he : X = Y) (h : H.Sublist S) : (X ++ H).Sublist (Y ++ S) := by subst he; exact List.Sublist.append_left h X
theorem bufH_congr {o : Option Buf} {xs ys : List Value} {T : TypeId} (h : xs = ys) : bufH o xs T = bufH o ys T := by rw [h]
theorem Src.nil {P : Program} {S : HL} {a : Option Addr} {c sz : Nat} : Src P S (.slice a 0 c) 0 sz [] := by
  intro w0 w hs
  refine ⟨rfl, fun k hk => ?_⟩
  have : k = 0 := by omega
  subst this
  cases a <;> simp [Builtin.firstCells, loadCells, loadCellsFrom]
theorem Src.str {P : Program} {S : HL} {s : ByteArray} : Src P S (.string s) s.size 1 (s.data.toList.map u8) := by
  intro w0 w hs
  refine ⟨rfl, fun k hk => ?_⟩
  simp only [Builtin.firstCells]
  have e : ((s.extract 0 k).data.map fun b => Value.int .u8 (b.toNat : Int)) = ⟨(s.data.toList.map u8).take k⟩ := by
    apply Array.ext'
    simp [List.map_take]
  simp only [Sem.run_pure, Nat.mul_one, e]

theorem nextcap_le (need cap : Nat) (h : cap < need) : Builtin.nextslicecap need cap ≤ 2 * need + 192 := by
  have step : ∀ r c, c < 2 * need + 192 → c < need ∨ c ≤ 2 * need + 192 → Builtin.growBy need r c ≤ 2 * need + 192 := by
    intro r
    induction r with
    | zero => intro c h1 _; simp only [Builtin.growBy]; omega
    | succ r ih =>
      intro c h1 h2
      simp only [Builtin.growBy]
      split
      · omega
      · rename_i hc
        by_cases hh : c + (c + 768) / 4 < 2 * need + 192
        · exact ih _ hh (.inr (by omega))
        · omega
  unfold Builtin.nextslicecap
  split
  · omega
  · split
    · omega
    · exact step 4 cap (by omega) (.inl h)

theorem wrL_tail (xs rest ys : List Value) : wrL (xs ++ rest) xs.length ys = xs ++ ys ++ rest.drop ys.length := by
  simp [wrL, List.drop_append]

variable {P : Program} {n : Nat} {σ : Env} {S : HL} {K : Env → HL → Prop} {d : Nat} {dst : Option Nat} {ty : TypeId} {pos : String} {aft : Array Edge} {g : Option (Nat × Bool)}


theorem run_append_grow {t t2 e sz k m cap : Nat} {info : TypeInfo} {z yv : Value} {D2 : TypeDesc} {base : Option Addr} {xs ys : List Value} {w : World}
    (ht : UT P t (.slice e)) (ht2 : UT P t2 D2) (hD : (∃ e2, D2 = .slice e2) ∨ D2 = .string) (hi : TI P e info) (hn : SZ P e sz) (hz : ZV P e z)
    (hl : (Builtin.lenOf yv).run P w = .ok m w) (hf : ∀ w' : World, w'.heap = w.heap → (Builtin.firstCells sz m yv).run P w' = .ok ⟨ys⟩ w')
    (hold : ∀ w' : World, w'.heap = w.heap → (Builtin.firstCells sz k (.slice base k cap)).run P w' = .ok ⟨xs⟩ w')
    (hlt : cap < k + m) (hb0 : info.bytes ≠ 0) (hb : (2 * (k + m) + 192) * info.bytes ≤ 281474976710656) :
    ∃ c, k + m ≤ c ∧ (Builtin.append_ #[t, t2] ty #[.slice base k cap, yv]).run P w =
      .ok (sl w.heap.size 0 (k + m) c) { w with drawn := w.drawn + 1, heap := w.heap.push (blk (xs ++ ys ++ (Builtin.zeroCells z.cells (c - (k + m))).toList) e) } := by
  refine ⟨(Question.appendCap (k + m) cap e).cut (w.tape w.drawn (Question.appendCap (k + m) cap e)), ?_, ?_⟩
  · show k + m ≤ (k + m) + _
    omega
  have hnc : ¬ (k + m ≤ cap) := by omega
  have hcap : ¬ (281474976710656 < Builtin.nextslicecap (k + m) cap * info.bytes) := by
    have h1 := Nat.mul_le_mul_right info.bytes (nextcap_le _ _ hlt)
    omega
  have hnf : (Question.appendCap (k + m) cap e).forced = false := rfl
  unfold Builtin.append_
  rcases hD with ⟨e2, rfl⟩ | rfl
  all_goals
    simp [ht w, hn w, ht2 w, hl, hnc, hi w, hcap, hb0, hnf]
    generalize (Question.appendCap (k + m) cap e).cut (w.tape w.drawn (Question.appendCap (k + m) cap e)) = c
    rw [hi w.drew, Result.andThen_ok, hold w.drew rfl, Result.andThen_ok, hf w.drew rfl, Result.andThen_ok, hz w.drew, Result.andThen_ok]
    have e9 : (⟨xs⟩ ++ (⟨ys⟩ ++ Builtin.zeroCells z.cells (c - (k + m))) : Array Value) = ⟨xs ++ (ys ++ (Builtin.zeroCells z.cells (c - (k + m))).toList)⟩ := by
      apply Array.ext'
      simp
    simp only [newRow, Sem.run_bind, run_newObj, Result.andThen_ok, Sem.run_pure, e9]
    rfl

theorem run_append_fits {t t2 e sz k m cap b : Nat} {yv : Value} {D2 : TypeDesc} {ys l : List Value} {S S' : HL} {w0 w : World}
    (ht : UT P t (.slice e)) (ht2 : UT P t2 D2) (hD : (∃ e2, D2 = .slice e2) ∨ D2 = .string) (hn : SZ P e sz) (hs : Sat w0 S w)
    (hl : (Builtin.lenOf yv).run P w = .ok m w) (hf : (Builtin.firstCells sz m yv).run P w = .ok ⟨ys⟩ w) (hyl : ys.length = m * sz)
    (hle : k + m ≤ cap) (hu : Upd S b (blk l e) (blk (wrL l (k * sz) ys) e) S') (hll : k * sz + m * sz ≤ l.length) (h1 : ys.all oneB = true) :
    ∃ w', (Builtin.append_ #[t, t2] ty #[sl b 0 k cap, yv]).run P w = .ok (sl b 0 (k + m) cap) w' ∧ Sat w0 S' w' := by
  obtain ⟨w', hr, hs'⟩ := run_storeCells (P := P) (w0 := w0) (b := b) (T := e) ys (k * sz) 0 l S S' w hs (by simpa using hu) (by simp; omega) h1
  refine ⟨w', ?_, hs'⟩
  unfold Builtin.append_
  rcases hD with ⟨e2, rfl⟩ | rfl
  all_goals simp [ht w, hn w, ht2 w, hl, hle, hf, Addr.add_none, hr]
theorem run_append_none {t t2 e sz : Nat} {yv : Value} {D2 : TypeDesc} {w : World}
    (ht : UT P t (.slice e)) (ht2 : UT P t2 D2) (hD : (∃ e2, D2 = .slice e2) ∨ D2 = .string) (hn : SZ P e sz)
    (hl : (Builtin.lenOf yv).run P w = .ok 0 w) (hf : (Builtin.firstCells sz 0 yv).run P w = .ok ⟨[]⟩ w) :
    (Builtin.append_ #[t, t2] ty #[.slice none 0 0, yv]).run P w = .ok (.slice none 0 0) w := by
  unfold Builtin.append_
  rcases hD with ⟨e2, rfl⟩ | rfl
  all_goals simp [ht w, hn w, ht2 w, hl, hf]

theorem OW.append {x y : Operand} {t t2 e sz k m : Nat} {info : TypeInfo} {z yv : Value} {D2 : TypeDesc} {o : Option Buf} {xs ys : List Value} {F : HL → HL}
    (ht : UT P t (.slice e)) (ht2 : UT P t2 D2) (hD : (∃ e2, D2 = .slice e2) ∨ D2 = .string) (hi : TI P e info) (hn : SZ P e sz) (hz : ZV P e z) (hzc : z.cells.size = sz)
    (hx : ev σ x = some (bufV o k)) (hseg : SegF S (bufH o xs e) F) (hlen : xs.length = k * sz) (hok : bufOk o k sz)
    (hy : ev σ y = some yv) (hsrc : Src P S yv m sz ys) (hyl : ys.length = m * sz) (h1 : ys.all oneB = true)
    (hb0 : info.bytes ≠ 0) (hb : (2 * (k + m) + 192) * info.bytes ≤ 281474976710656)
    (hk : ∀ o', bufOk o' (k + m) sz → K ((d, bufV o' (k + m)) :: σ) (F (bufH o' (xs ++ ys) e))) :
    OW P n ⟨some d, .call { callee := .builtin .append, args := #[x, y], argTypes := #[t, t2] }, ty, pos, aft, g⟩ σ S K :=
  OW.run_ rfl fun w0 ρ w hρ hs => by
    obtain ⟨R, hp1, hp2⟩ := hseg.spec
    have hs1 := hs.perm hp1.symm
    obtain ⟨hl, hf⟩ := hsrc w0 w hs
    have hfm : ∀ w' : World, w'.heap = w.heap → (Builtin.firstCells sz m yv).run P w' = .ok ⟨ys⟩ w' := by
      intro w' hw'
      have hs2 : Sat w' S w' := ⟨hs.nd, fun p hp => by rw [hw']; exact hs.get p hp, rfl, rfl, rfl, Nat.le_refl _⟩
      have := (hsrc w' w' hs2).2 m (Nat.le_refl _)
      rwa [← hyl, List.take_length] at this
    suffices h : ∃ v w' o', (Builtin.append_ #[t, t2] ty #[bufV o k, yv]).run P w = .ok v w' ∧ bufOk o' (k + m) sz ∧ v = bufV o' (k + m) ∧ Sat w0 (bufH o' (xs ++ ys) e ++ R) w' by
      obtain ⟨v, w', o', hr, hok', rfl, hs'⟩ := h
      refine ⟨_, w', F (bufH o' (xs ++ ys) e), ?_, hs'.perm (hp2 _), hk o' hok'⟩
      simp only [execOp, resolve, invoke, builtin]
      simp [hρ x _ hx, hρ y _ hy, hr]
    have grow : ∀ (cap : Nat) (base : Option Addr), cap < k + m → (∀ w' : World, w'.heap = w.heap → (Builtin.firstCells sz k (.slice base k cap)).run P w' = .ok ⟨xs⟩ w') →
        Sat w0 R w → ∃ v w' o', (Builtin.append_ #[t, t2] ty #[.slice base k cap, yv]).run P w = .ok v w' ∧ bufOk o' (k + m) sz ∧ v = bufV o' (k + m) ∧ Sat w0 (bufH o' (xs ++ ys) e ++ R) w' := by
      intro cap base hlt hold hsR
      obtain ⟨c, hc, hr⟩ := run_append_grow (P := P) (ty := ty) (base := base) (cap := cap) ht ht2 hD hi hn hz hl hfm hold hlt hb0 hb
      refine ⟨_, _, some ⟨w.heap.size, c, (Builtin.zeroCells z.cells (c - (k + m))).toList⟩, hr, ⟨?_, hc⟩, rfl, ?_⟩
      · have hrl : (Builtin.zeroCells z.cells (c - (k + m))).toList.length = (c - (k + m)) * sz := by simp [Builtin.zeroCells, hzc]
        simp only [hrl]
        rw [← Nat.add_mul, Nat.add_sub_cancel' hc]
      · exact (hsR.drawn (w.drawn + 1)).alloc (blk (xs ++ ys ++ (Builtin.zeroCells z.cells (c - (k + m))).toList) e)
    cases o with
    | none =>
      have hk0 : k = 0 := hok
      subst hk0
      have hxs : xs = [] := by simpa using hlen
      subst hxs
      by_cases hm : m = 0
      · subst hm
        have hys : ys = [] := by simpa using hyl
        subst hys
        exact ⟨_, w, none, run_append_none ht ht2 hD hn hl (hfm w rfl), rfl, rfl, hs1⟩
      · refine grow 0 none (by omega) ?_ hs1
        intro w' _
        simp [Builtin.firstCells]
    | some u =>
      obtain ⟨hcap, hkc⟩ := hok
      simp only [bufH, List.singleton_append] at hs1
      by_cases hfit : k + m ≤ u.cap
      · have hmul : (k + m) * sz ≤ u.cap * sz := Nat.mul_le_mul_right _ hfit
        rw [Nat.add_mul] at hmul
        obtain ⟨w', hr, hs'⟩ := run_append_fits (P := P) (ty := ty) (cap := u.cap) ht ht2 hD hn hs1 hl (hfm w rfl) hyl hfit Upd.head (by simp [hlen]; omega) h1
        refine ⟨_, w', some ⟨u.b, u.cap, u.rest.drop ys.length⟩, hr, ⟨?_, hfit⟩, rfl, ?_⟩
        · simp [hyl, Nat.add_mul]; omega
        · rw [← hlen, wrL_tail] at hs'
          exact hs'
      · refine grow u.cap (some ⟨u.b, 0, none⟩) (by omega) ?_ (hs1.weak (List.sublist_cons_self _ _))
        intro w' hw'
        have hs2 : Sat w' ((u.b, blk (xs ++ u.rest) e) :: R) w' := ⟨hs1.nd, fun p hp => by rw [hw']; exact hs1.get p hp, rfl, rfl, rfl, Nat.le_refl _⟩
        have := ((Src.sl (P := P) (S := (u.b, blk (xs ++ u.rest) e) :: R) (b := u.b) (off := 0) (m := k) (c := u.cap) (sz := sz) (l := xs ++ u.rest) (ys := xs) List.mem_cons_self (by simp [hlen]) (by simp [← hlen])) w' w' hs2).2 k (Nat.le_refl _)
        rwa [← hlen, List.take_length] at this

theorem OW.copy {x y : Operand} {t t2 e sz m n1 cap b off : Nat} {yv : Value} {ys l l' : List Value} {S' : HL} {e' : TypeId}
    (ht : UT P t (.slice e)) (hn : SZ P e sz) (hx : ev σ x = some (sl b off n1 cap)) (hm : (b, blk l e') ∈ S)
    (hy : ev σ y = some yv) (hsrc : Src P S yv m sz ys) (hyl : ys.length = m * sz) (h1 : ys.all oneB = true)
    (hle : off + n1 * sz ≤ l.length) (hl' : wrL l off (ys.take (min m n1 * sz)) = l') (hu : Upd S b (blk l e') (blk l' e') S')
    (hk : K ((d, nI (min m n1)) :: σ) S') :
    OW P n ⟨some d, .call { callee := .builtin .copy, args := #[x, y], argTypes := #[t, t2] }, ty, pos, aft, g⟩ σ S K :=
  OW.run_ rfl fun w0 ρ w hρ hs => by
    subst hl'
    obtain ⟨hl, hf⟩ := hsrc w0 w hs
    have hmn : min m n1 * sz ≤ m * sz := Nat.mul_le_mul_right _ (Nat.min_le_left _ _)
    have hmn2 : min m n1 * sz ≤ n1 * sz := Nat.mul_le_mul_right _ (Nat.min_le_right _ _)
    have hlen : (ys.take (min m n1 * sz)).length = min m n1 * sz := by simp [hyl]; try omega
    obtain ⟨w', hr, hs'⟩ := run_storeCells (P := P) (w0 := w0) (b := b) (T := e') (ys.take (min m n1 * sz)) off 0 l S S' w hs (by simpa using hu) (by simp only [hlen]; omega)
      (by simp only [List.all_eq_true] at h1 ⊢; exact fun v hv => h1 v (List.mem_of_mem_take hv))
    refine ⟨_, w', S', ?_, hs', hk⟩
    have hcopy : (Builtin.copy_ #[t, t2] ty #[sl b off n1 cap, yv]).run P w = .ok (nI (min m n1)) w' := by
      unfold Builtin.copy_
      simp [ht w, hl, hn w, hf _ (Nat.min_le_left m n1), hr, goInt]
    simp only [execOp, resolve, invoke, builtin]
    simp [hρ x _ hx, hρ y _ hy, hcopy]
end Go.Sl

/- The engine, part I: literals of arrays and structs. -/
set_option linter.unusedVariables false
set_option linter.unusedSimpArgs false
namespace Go.Sl
variable {P : Program} {n : Nat} {σ : Env} {S : HL} {K : Env → HL → Prop} {d : Nat} {dst : Option Nat} {ty : TypeId} {pos : String} {aft : Array Edge} {g : Option (Nat × Bool)}

abbrev PartsOk (σ : Env) (parts : Array (Nat × Operand)) (ps : List (Nat × Value)) : Prop := ∀ ρ, Ext σ ρ → parts.map (fun p => (p.1, ρ p.2)) = ⟨ps⟩
theorem parts0 : PartsOk σ #[] [] := fun ρ _ => by simp
theorem parts1 {i : Nat} {x : Operand} {v : Value} (h : ev σ x = some v) : PartsOk σ #[(i, x)] [(i, v)] := fun ρ hρ => by simp [hρ x v h]
theorem parts2 {i j : Nat} {x y : Operand} {v u : Value} (h : ev σ x = some v) (h2 : ev σ y = some u) : PartsOk σ #[(i, x), (j, y)] [(i, v), (j, u)] := fun ρ hρ => by simp [hρ x v h, hρ y u h2]
theorem parts3 {i j k : Nat} {x y z : Operand} {v u t : Value} (h : ev σ x = some v) (h2 : ev σ y = some u) (h3 : ev σ z = some t) : PartsOk σ #[(i, x), (j, y), (k, z)] [(i, v), (j, u), (k, t)] := fun ρ hρ => by simp [hρ x v h, hρ y u h2, hρ z t h3]
theorem parts4 {i j k l : Nat} {x y z s : Operand} {v u t r : Value} (h : ev σ x = some v) (h2 : ev σ y = some u) (h3 : ev σ z = some t) (h4 : ev σ s = some r) : PartsOk σ #[(i, x), (j, y), (k, z), (l, s)] [(i, v), (j, u), (k, t), (l, r)] :=
  fun ρ hρ => by simp [hρ x v h, hρ y u h2, hρ z t h3, hρ s r h4]
theorem parts_of {parts : Array (Nat × Operand)} {ps : List (Nat × Value)} (h : parts.toList.map (fun p => (ev σ p.2).map (fun v => (p.1, v))) = ps.map some) : PartsOk σ parts ps := by
  intro ρ hρ
  obtain ⟨l⟩ := parts
  apply Array.ext'
  simp only [Array.toList_map]
  simp only at h
  induction l generalizing ps with
  | nil => cases ps <;> simp_all
  | cons p r ih =>
    cases ps with
    | nil => simp at h
    | cons q t =>
      simp only [List.map_cons, List.cons.injEq] at h
      obtain ⟨h1, h2⟩ := h
      cases hv : ev σ p.2 with
      | none => simp [hv] at h1
      | some v =>
        simp only [hv, Option.map_some, Option.some.injEq] at h1
        simp only [List.map_cons, hρ _ _ hv, h1, ih h2]

theorem QW.build0 {t : TypeId} {l : List Value} {D : TypeDesc} (ht : UT P t D) (hD : (∃ n e, D = .array n e) ∨ (∃ fs, D = .struct fs ∧ ∃ pl, ∀ w, (fs.mapM (fun f => do pure (f.offset, ← sizeOf f.type)) : Sem (Array (Nat × Nat))).run P w = .ok pl w))
    (hz : ZV P t (.agg ⟨l⟩)) (hs : ∀ e n, D = .array n e → ∃ k, SZ P e k) : QW P S ⟨dst, .build t #[], ty, pos, aft, g⟩ σ (.agg ⟨l⟩) :=
  fun ρ w hρ _ => by
    rcases hD with ⟨n, e, rfl⟩ | ⟨fs, rfl, pl, hpl⟩
    · obtain ⟨k, hk⟩ := hs e n rfl
      simp [execOp, Instr.build, hz w, ht w, hk w, Instr.fill, Value.cells]
    · have := hpl w
      simp [execOp, Instr.build, hz w, ht w, Instr.fill, Value.cells] at this ⊢
      simp [this]
theorem QW.buildA {t len e sz : Nat} {z : Value} {parts : Array (Nat × Operand)} {ps : List (Nat × Value)} {cells : List Value} (ht : UT P t (.array len e)) (hn : SZ P e sz) (hz : ZV P t z) (hp : PartsOk σ parts ps)
    (hf : Instr.fill (fun i => some (i * sz, sz)) z.cells ps = some ⟨cells⟩) : QW P S ⟨dst, .build t parts, ty, pos, aft, g⟩ σ (.agg ⟨cells⟩) :=
  fun ρ w hρ _ => by
    have := hp ρ hρ
    simp [execOp, Instr.build, hz w, ht w, hn w, this, hf]
theorem QW.buildS {t : Nat} {fs : Array Field} {pl : Array (Nat × Nat)} {z : Value} {parts : Array (Nat × Operand)} {ps : List (Nat × Value)} {cells : List Value} (ht : UT P t (.struct fs))
    (hpl : ∀ w, (fs.mapM (fun f => do pure (f.offset, ← sizeOf f.type)) : Sem (Array (Nat × Nat))).run P w = .ok pl w) (hz : ZV P t z) (hp : PartsOk σ parts ps)
    (hf : Instr.fill (pl[·]?) z.cells ps = some ⟨cells⟩) : QW P S ⟨dst, .build t parts, ty, pos, aft, g⟩ σ (.agg ⟨cells⟩) :=
  fun ρ w hρ _ => by
    have h1 := hp ρ hρ
    have h2 := hpl w
    simp [execOp, Instr.build, hz w, ht w, h1, hf] at h2 ⊢
    simp [h2, hf]

theorem fold_set (off : Nat) : ∀ (l : List Value) (i : Nat) (cs : Array Value), off + i + l.length ≤ cs.size →
    (l.zipIdx i).foldl (fun cs (x : Value × Nat) => cs.setIfInBounds (off + x.2) x.1) cs = ⟨wrL cs.toList (off + i) l⟩ := by
  intro l
  induction l with
  | nil => intro i cs _; simp [wrL]
  | cons v l ih =>
    intro i cs h
    simp only [List.length_cons] at h
    simp only [List.zipIdx_cons, List.foldl_cons]
    rw [ih (i + 1) _ (by simp; omega), wrL_cons v l (by simp; omega)]
    simp [Array.toList_setIfInBounds, Nat.add_assoc]
theorem fill_cons {place : Nat → Option (Nat × Nat)} {cells : List Value} {i off sz : Nat} {v : Value} {rest : List (Nat × Value)} {r : Option (Array Value)} (hp : place i = some (off, sz)) (hv : v.cells.size = sz) (hle : off + sz ≤ cells.length)
    (hr : Instr.fill place ⟨wrL cells off v.cells.toList⟩ rest = r) : Instr.fill place ⟨cells⟩ ((i, v) :: rest) = r := by
  subst hr
  have := fold_set off v.cells.toList 0 ⟨cells⟩ (by simp [hv]; exact hle)
  simp only [Nat.add_zero] at this
  have e : v.cells.zipIdx.foldl (fun (cs : Array Value) (x : Value × Nat) => cs.setIfInBounds (off + x.2) x.1) (⟨cells⟩ : Array Value) = ⟨wrL cells off v.cells.toList⟩ := by
    rw [← this, ← Array.foldl_toList, Array.toList_zipIdx]
  have h2 : (decide (v.cells.size ≠ sz) || decide (off + v.cells.size > (⟨cells⟩ : Array Value).size)) = false := by simp [hv]; omega
  rw [← e]
  simp only [Instr.fill, hp, h2]
  rfl

theorem OW.buildSlice1N {x : Operand} {t e sz : Nat} {z : Value} {l : List Value} (ht : UT P t (.slice e)) (hn : SZ P e sz) (h0 : sz ≠ 0) (hz : ZV P e z) (hx : ev σ x = some (.agg ⟨l⟩)) (hl : l.length = sz) (hb : sz ≤ 16777216)
    (hk : ∀ b, K ((d, sl b 0 1 1) :: σ) ((b, blk l e) :: S)) : OW P n ⟨some d, .buildSlice t 1 #[(0, x)], ty, pos, aft, g⟩ σ S K :=
  OW.run_ rfl fun w0 ρ w hρ hs => by
    have hb' : ¬ (16777216 < sz) := by omega
    obtain ⟨cs, hcs⟩ : ∃ cs : List Value, Array.map (fun x => z.cells[x % z.cells.size]!) (Array.range sz) = ⟨cs⟩ := ⟨_, rfl⟩
    have hcl : cs.length = sz := by
      have := congrArg Array.size hcs
      simpa using this.symm
    have hfill : Instr.fill (fun i => some (i * sz, sz)) ⟨cs⟩ [(0, .agg ⟨l⟩)] = some ⟨l⟩ := by
      refine fill_cons (off := 0) (sz := sz) (by simp) (by simp [Value.cells, hl]) (by omega) ?_
      simp only [Instr.fill, Value.cells]
      rw [show wrL cs 0 l = l from by simp [wrL, hl, hcl]]
    refine ⟨_, _, _, ?_, hs.alloc (blk l e), hk _⟩
    simp only [execOp, Instr.buildSlice, hρ x _ hx]
    simp [ht w, hn w, hz w, hb', h0, hcs, newRow, run_newObj, hρ x _ hx, hfill]
end Go.Sl

/- The engine, part J: byte slices that are read. -/
set_option linter.unusedVariables false
set_option linter.unusedSimpArgs false
namespace Go.Sl

/-- v is a slice of the bytes bs, somewhere in S. -/
def RdB (S : HL) (v : Value) (bs : List UInt8) : Prop :=
  (bs = [] ∧ ∃ a c, v = .slice a 0 c) ∨
  (bs ≠ [] ∧ ∃ b off c l T fr, v = sl b off bs.length c ∧ (b, Obj.cells ⟨l⟩ T fr) ∈ S ∧ ∀ k, k < bs.length → l[off + k]? = some (u8 (bs.getD k 0)))
theorem RdB.mono {S T : HL} {v : Value} {bs : List UInt8} (h : RdB S v bs) (hs : ∀ p ∈ S, p ∈ T) : RdB T v bs := by
  rcases h with h | ⟨h0, b, off, c, l, T', fr, h1, h2, h3⟩
  · exact .inl h
  · exact .inr ⟨h0, b, off, c, l, T', fr, h1, hs _ h2, h3⟩
theorem RdB.of {S : HL} {b off c : Nat} {bs xs : List UInt8} {T : TypeId} {n : Nat} (hm : (b, blk (xs.map u8) T) ∈ S) (hn : bs.length = n) (h : ∀ k, k < n → off + k < xs.length ∧ xs.getD (off + k) 0 = bs.getD k 0) : RdB S (sl b off n c) bs := by
  subst hn
  by_cases h0 : bs = []
  · subst h0; exact .inl ⟨rfl, _, _, rfl⟩
  · refine .inr ⟨h0, b, off, c, _, T, _, rfl, hm, fun k hk => ?_⟩
    rw [m_get 0 (h k hk).1, (h k hk).2]
theorem RdB.whole {S : HL} {b c : Nat} {bs xs : List UInt8} {T : TypeId} (hm : (b, blk ((bs ++ xs).map u8) T) ∈ S) : RdB S (sl b 0 bs.length c) bs :=
  RdB.of hm rfl fun k hk => by simp [List.getD_eq_getElem?_getD, List.getElem?_append, hk]; omega
theorem RdB.all {S : HL} {b c : Nat} {bs : List UInt8} {T : TypeId} (hm : (b, blk (bs.map u8) T) ∈ S) : RdB S (sl b 0 bs.length c) bs :=
  RdB.of hm rfl fun k hk => by simp [hk]
theorem Src.rdb {P : Program} {S : HL} {v : Value} {bs : List UInt8} (h : RdB S v bs) : Src P S v bs.length 1 (bs.map u8) := by
  rcases h with ⟨rfl, a, c, rfl⟩ | ⟨h0, b, off, c, l, T', fr, rfl, h2, h3⟩
  · exact Src.nil
  · have hp : bs.length ≠ 0 := by simpa using h0
    have hle : off + bs.length * 1 ≤ l.length := by
      have := h3 (bs.length - 1) (by omega)
      have hlt : off + (bs.length - 1) < l.length := by
        rcases Nat.lt_or_ge (off + (bs.length - 1)) l.length with h | h
        · exact h
        · simp [List.getElem?_eq_none h] at this
      omega
    refine Src.sl h2 hle ?_
    apply List.ext_getElem?
    intro i
    rw [Nat.mul_one, List.getElem?_take]
    split
    · rename_i hi
      rw [List.getElem?_drop, h3 i hi]
      simp [List.getElem?_eq_getElem hi, List.getD_eq_getElem?_getD]
    · rename_i hi
      simp only [List.getElem?_map]
      rw [List.getElem?_eq_none (by omega)]
      rfl
def dn : Nat → Value
  | 0 => .int .i64 (-1)
  | m + 1 => nI m
theorem dn_eq (m : Nat) : Value.int .i64 ((m : Int) - 1) = dn m := by
  cases m with
  | zero => rfl
  | succ m => simp [dn]
end Go.Sl

/- The engine, part K: append to a list whose old block stays; == on arrays of bytes; the whole memory as blocks. -/
set_option linter.unusedVariables false
set_option linter.unusedSimpArgs false
namespace Go.Sl
variable {P : Program} {n : Nat} {σ : Env} {S : HL} {K : Env → HL → Prop} {d : Nat} {dst : Option Nat} {ty : TypeId} {pos : String} {aft : Array Edge} {g : Option (Nat × Bool)}

theorem OW.appendKeep {x y : Operand} {t t2 e sz k m : Nat} {info : TypeInfo} {z yv : Value} {D2 : TypeDesc} {o : Option Buf} {xs ys : List Value} {F : HL → HL}
    (ht : UT P t (.slice e)) (ht2 : UT P t2 D2) (hD : (∃ e2, D2 = .slice e2) ∨ D2 = .string) (hi : TI P e info) (hn : SZ P e sz) (hz : ZV P e z) (hzc : z.cells.size = sz)
    (hx : ev σ x = some (bufV o k)) (hseg : SegF S (bufH o xs e) F) (hlen : xs.length = k * sz) (hok : bufOk o k sz)
    (hy : ev σ y = some yv) (hsrc : Src P S yv m sz ys) (hyl : ys.length = m * sz) (h1 : ys.all oneB = true) (hm0 : 0 < m)
    (hb0 : info.bytes ≠ 0) (hb : (2 * (k + m) + 192) * info.bytes ≤ 281474976710656)
    (hk1 : ∀ u, o = some u → k + m ≤ u.cap → bufOk (some ⟨u.b, u.cap, u.rest.drop ys.length⟩) (k + m) sz →
      K ((d, bufV (some ⟨u.b, u.cap, u.rest.drop ys.length⟩) (k + m)) :: σ) (F (bufH (some ⟨u.b, u.cap, u.rest.drop ys.length⟩) (xs ++ ys) e)))
    (hk2 : ∀ u', (∀ u, o = some u → u.cap < k + m) → bufOk (some u') (k + m) sz → K ((d, bufV (some u') (k + m)) :: σ) (bufH (some u') (xs ++ ys) e ++ S)) :
    OW P n ⟨some d, .call { callee := .builtin .append, args := #[x, y], argTypes := #[t, t2] }, ty, pos, aft, g⟩ σ S K :=
  OW.run_ rfl fun w0 ρ w hρ hs => by
    obtain ⟨R, hp1, hp2⟩ := hseg.spec
    have hs1 := hs.perm hp1.symm
    obtain ⟨hl, hf⟩ := hsrc w0 w hs
    have hfm : ∀ w' : World, w'.heap = w.heap → (Builtin.firstCells sz m yv).run P w' = .ok ⟨ys⟩ w' := by
      intro w' hw'
      have hs2 : Sat w' S w' := ⟨hs.nd, fun p hp => by rw [hw']; exact hs.get p hp, rfl, rfl, rfl, Nat.le_refl _⟩
      have := (hsrc w' w' hs2).2 m (Nat.le_refl _)
      rwa [← hyl, List.take_length] at this
    suffices h : ∃ v w' S', (Builtin.append_ #[t, t2] ty #[bufV o k, yv]).run P w = .ok v w' ∧ Sat w0 S' w' ∧ K ((d, v) :: σ) S' by
      obtain ⟨v, w', S', hr, hs', hk⟩ := h
      refine ⟨_, w', S', ?_, hs', hk⟩
      simp only [execOp, resolve, invoke, builtin]
      simp [hρ x _ hx, hρ y _ hy, hr]
    have grow : ∀ (cap : Nat) (base : Option Addr), cap < k + m → (∀ u, o = some u → u.cap < k + m) → (∀ w' : World, w'.heap = w.heap → (Builtin.firstCells sz k (.slice base k cap)).run P w' = .ok ⟨xs⟩ w') →
        ∃ v w' S', (Builtin.append_ #[t, t2] ty #[.slice base k cap, yv]).run P w = .ok v w' ∧ Sat w0 S' w' ∧ K ((d, v) :: σ) S' := by
      intro cap base hlt hno hold
      obtain ⟨c, hc, hr⟩ := run_append_grow (P := P) (ty := ty) (base := base) (cap := cap) ht ht2 hD hi hn hz hl hfm hold hlt hb0 hb
      refine ⟨_, _, _, hr, (hs.drawn (w.drawn + 1)).alloc (blk (xs ++ ys ++ (Builtin.zeroCells z.cells (c - (k + m))).toList) e), hk2 ⟨w.heap.size, c, (Builtin.zeroCells z.cells (c - (k + m))).toList⟩ hno ⟨?_, hc⟩⟩
      have hrl : (Builtin.zeroCells z.cells (c - (k + m))).toList.length = (c - (k + m)) * sz := by simp [Builtin.zeroCells, hzc]
      simp only [hrl]
      rw [← Nat.add_mul, Nat.add_sub_cancel' hc]
    cases o with
    | none =>
      have hk0 : k = 0 := hok
      subst hk0
      have hxs : xs = [] := by simpa using hlen
      subst hxs
      refine grow 0 none (by omega) (fun u h => by cases h) ?_
      intro w' _
      simp [Builtin.firstCells]
    | some u =>
      obtain ⟨hcap, hkc⟩ := hok
      simp only [bufH, List.singleton_append] at hs1
      by_cases hfit : k + m ≤ u.cap
      · have hmul : (k + m) * sz ≤ u.cap * sz := Nat.mul_le_mul_right _ hfit
        rw [Nat.add_mul] at hmul
        obtain ⟨w', hr, hs'⟩ := run_append_fits (P := P) (ty := ty) (cap := u.cap) ht ht2 hD hn hs1 hl (hfm w rfl) hyl hfit Upd.head (by simp [hlen]; omega) h1
        refine ⟨_, w', _, hr, ?_, hk1 u rfl hfit ⟨?_, hfit⟩⟩
        · rw [← hlen, wrL_tail] at hs'
          exact hs'.perm (hp2 _)
        · simp [hyl, Nat.add_mul]; omega
      · refine grow u.cap (some ⟨u.b, 0, none⟩) (by omega) (fun u2 h => by injection h with h; subst h; omega) ?_
        intro w' hw'
        have hs2 : Sat w' ((u.b, blk (xs ++ u.rest) e) :: R) w' := ⟨hs1.nd, fun p hp => by rw [hw']; exact hs1.get p hp, rfl, rfl, rfl, Nat.le_refl _⟩
        have := ((Src.sl (P := P) (S := (u.b, blk (xs ++ u.rest) e) :: R) (b := u.b) (off := 0) (m := k) (c := u.cap) (sz := sz) (l := xs ++ u.rest) (ys := xs) List.mem_cons_self (by simp [hlen]) (by simp [← hlen])) w' w' hs2).2 k (Nat.le_refl _)
        rwa [← hlen, List.take_length] at this

theorem run_eqItems_u8 {P : Program} (w : World) (dd : Nat) {e : TypeId} (he : P.plainKey e = true) (hu : P.underlying e = some (.int .u8)) (hc : P.cellsOf e = 1) (xs ys : List UInt8) :
    ∀ is : List Nat, (∀ i ∈ is, i < xs.length ∧ i < ys.length) → (Op.eqItems (dd + 1) e (P.cellsOf e) ⟨xs.map u8⟩ ⟨ys.map u8⟩ is).run P w = .ok (decide (∀ i ∈ is, xs.getD i 0 = ys.getD i 0)) w := by
  intro is
  induction is with
  | nil => intro _; simp [Op.eqItems]
  | cons i is ih =>
    intro h
    obtain ⟨h1, h2⟩ := h i List.mem_cons_self
    have ih' := ih fun j hj => h j (List.mem_cons_of_mem _ hj)
    have p1 : (part e ⟨xs.map u8⟩ (i * P.cellsOf e)).run P w = .ok (u8 (xs.getD i 0)) w := run_part_plain w he (by rw [hc, Nat.mul_one]; exact (List.getElem?_toArray).trans (m_get (f := u8) 0 h1))
    have p2 : (part e ⟨ys.map u8⟩ (i * P.cellsOf e)).run P w = .ok (u8 (ys.getD i 0)) w := run_part_plain w he (by rw [hc, Nat.mul_one]; exact (List.getElem?_toArray).trans (m_get (f := u8) 0 h2))
    have p3 : (Op.equalIn (dd + 1) e (u8 (xs.getD i 0)) (u8 (ys.getD i 0))).run P w = .ok (decide (xs.getD i 0 = ys.getD i 0)) w := by
      rw [show u8 (xs.getD i 0) = .int .u8 _ from rfl, show u8 (ys.getD i 0) = .int .u8 _ from rfl, run_equalIn_int w dd e .u8 .u8 _ _ hu]
      congr 1
      rw [show decide (xs.getD i 0 = ys.getD i 0) = decide (((xs.getD i 0).toNat : Int) = ((ys.getD i 0).toNat : Int)) from decide_eq_decide.2 ⟨fun h => by rw [h], fun h => UInt8.toNat_inj.1 (Int.ofNat.inj h)⟩]
      rfl
    simp only [Op.eqItems, Sem.run_bind, p1, p2, p3, Result.andThen_ok]
    by_cases hq : xs.getD i 0 = ys.getD i 0
    · simp only [hq, decide_true, Bool.not_true, Bool.false_eq_true, if_false, ih', List.forall_mem_cons, true_and]
    · simp only [hq, decide_false, Bool.not_false, if_true, Sem.run_pure, List.forall_mem_cons, false_and]

theorem QW.eqlA {x y : Operand} {t e len : Nat} {xs ys : List UInt8} {i : TypeInfo} {tr : Bool} (hx : ev σ x = some (.agg ⟨xs.map u8⟩)) (hy : ev σ y = some (.agg ⟨ys.map u8⟩))
    (hm : P.eqGuardType P.depth t = false) (hu : P.underlying t = some (.array len e)) (hi : P.info? e = some i) (he : P.plainKey e = true) (hue : P.underlying e = some (.int .u8)) (hc : P.cellsOf e = 1)
    (hxl : xs.length = len) (hyl : ys.length = len) (ht : decide (xs = ys) = tr) : QW P S ⟨dst, .binOp .eql t x y t, ty, pos, aft, g⟩ σ (.bool tr) :=
  fun ρ w hρ _ => by
    have hd : decide (∀ i ∈ List.range len, xs.getD i 0 = ys.getD i 0) = tr := by
      subst ht
      apply decide_eq_decide.2
      constructor
      · intro h
        apply List.ext_getElem (by omega)
        intro j h1 h2
        have := h j (by simp; omega)
        simpa [List.getD_eq_getElem?_getD, h1, h2] using this
      · rintro rfl _ _; rfl
    have := run_equalIn_array (P := P) w 9999 (t := t) (e := e) (n := len) ⟨xs.map u8⟩ ⟨ys.map u8⟩ hu hi
    rw [run_eqItems_u8 w 9998 he hue hc xs ys (List.range len) (fun i hi => by simp at hi; omega), hd] at this
    have hb := run_eql_struct (P := P) w t ⟨xs.map u8⟩ ⟨ys.map u8⟩
    rw [this] at hb
    simp only [execOp, hρ x _ hx, hρ y _ hy]
    simp [run_eqGuard_agg (P := P) w .eql t x y _ _ hm, hb]
@[simp] theorem oneB_buf (o : Option Buf) (k : Nat) : oneB (bufV o k) = true := by cases o <;> rfl
theorem RdB.isSl {S : HL} {v : Value} {bs : List UInt8} (h : RdB S v bs) : ∃ a c, v = .slice a bs.length c := by
  rcases h with ⟨rfl, a, c, rfl⟩ | ⟨_, b, off, c, l, T, fr, rfl, _, _⟩
  · exact ⟨a, c, rfl⟩
  · exact ⟨_, c, rfl⟩
theorem RdB.at {S : HL} {a : Option Addr} {c : Nat} {bs : List UInt8} (h : RdB S (.slice a bs.length c) bs) (h0 : 0 < bs.length) :
    ∃ b off l T fr, a = some ⟨b, off, none⟩ ∧ (b, Obj.cells ⟨l⟩ T fr) ∈ S ∧ ∀ k, k < bs.length → l[off + k]? = some (u8 (bs.getD k 0)) := by
  rcases h with ⟨rfl, _⟩ | ⟨_, b, off, c, l, T, fr, hv, hm, hg⟩
  · cases h0
  · injection hv with h1 _ _
    exact ⟨b, off, l, T, fr, h1, hm, hg⟩
theorem RdB.buf {S : HL} {o : Option Buf} {bs : List UInt8} {xs : List Value} {T : TypeId} (hb : o = none → bs = []) (hm : ∀ p ∈ bufH o (bs.map u8 ++ xs) T, p ∈ S) : RdB S (bufV o bs.length) bs := by
  cases o with
  | none => rw [hb rfl]; exact .inl ⟨rfl, none, 0, rfl⟩
  | some u =>
    by_cases h0 : bs = []
    · subst h0; exact .inl ⟨rfl, _, _, rfl⟩
    · refine .inr ⟨h0, u.b, 0, u.cap, _, T, _, rfl, hm _ (List.mem_cons_self), fun k hk => ?_⟩
      rw [Nat.zero_add, List.getElem?_append_left (by simp; omega), List.getElem?_append_left (by simpa using hk)]
      exact m_get 0 hk

theorem dropA {X H S : HL} (h : H.Sublist S) : H.Sublist (X ++ S) := h.trans (List.sublist_append_right _ _)
theorem bufOk.some {o : Option Buf} {k sz : Nat} (h : bufOk o k sz) (h0 : 0 < k) : ∃ u, o = some u := by
  cases o with
  | none => exact absurd (show k = 0 from h) (by omega)
  | some u => exact ⟨u, rfl⟩
theorem QW.len_buf {x : Operand} {t e : Nat} {o : Option Buf} {k sz : Nat} (hok : bufOk o k sz) (ht : UT P t (.slice e)) (hx : ev σ x = some (bufV o k)) :
    QW P S ⟨dst, .call { callee := .builtin .len, args := #[x], argTypes := #[t] }, ty, pos, aft, g⟩ σ (nI k) := by
  cases o with
  | none => have hk : k = 0 := hok; subst hk; exact QW.len_s ht hx
  | some u => exact QW.len_s ht hx
theorem Upd.buf {u : Buf} {xs ys : List Value} {T : TypeId} {R : HL} : Upd (bufH (some u) xs T ++ R) u.b (blk (xs ++ u.rest) T) (blk (ys ++ u.rest) T) (bufH (some u) ys T ++ R) := Upd.head
theorem OW.storeB {x y : Operand} {t : TypeId} {u : Buf} {xs ys : List Value} {T : TypeId} {k : Nat} {v : Value} {S' : HL} (hx : ev σ x = some (ptr u.b k)) (hy : ev σ y = some v) (hn : SZ P t 1) (h1 : oneB v = true)
    (hu : Upd S u.b (blk (xs ++ u.rest) T) (blk (ys ++ u.rest) T) S') (hk : k < xs.length) (hl : xs.set k v = ys) (hK : K σ S') : OW P n ⟨none, .store t x y, ty, pos, aft, g⟩ σ S K :=
  OW.store1 hx hy hn h1 hu.mem (by simp; omega) (by rw [List.set_append_left _ _ hk, hl]) hu hK
def fT (m : UInt8) (xs : List UInt8) (k : Nat) : List UInt8 := List.replicate k m ++ xs.drop k
theorem fT_len (m : UInt8) (xs : List UInt8) (k : Nat) (h : k ≤ xs.length) : (fT m xs k).length = xs.length := by simp [fT]; omega
theorem fT_zero (m : UInt8) (xs : List UInt8) : fT m xs 0 = xs := by simp [fT]
theorem fT_all (m : UInt8) (xs : List UInt8) : fT m xs xs.length = List.replicate xs.length m := by simp [fT]
theorem fT_set (m : UInt8) (xs : List UInt8) (k : Nat) (h : k < xs.length) : (fT m xs k).set k m = fT m xs (k + 1) := by
  simp only [fT]
  rw [List.set_append_right _ _ (by simp), List.length_replicate, Nat.sub_self, List.drop_eq_getElem_cons h, List.set_cons_zero, List.replicate_succ', List.append_assoc]
  rfl
theorem CallS.permK {P : Program} {f : FuncId} {args : Array Value} {S : HL} {K : Value → HL → Prop} (h : CallS P f args S fun v S' => ∃ T, S'.Perm T ∧ K v T) : CallS P f args S K := by
  intro w0 w hs
  refine Calls.mono (h w0 w hs) ?_
  rintro e w' ⟨v, S', rfl, hs', T, hp, hk⟩
  exact ⟨v, T, rfl, hs'.perm hp.symm, hk⟩
theorem OW.permK {o : Oper} (h : OW P n o σ S fun σ' S' => ∃ T, S'.Perm T ∧ K σ' T) : OW P n o σ S K := by
  intro w0 ρ w hρ hs
  have := h w0 ρ w hρ hs
  revert this
  generalize (execOp ρ o).run P w = r
  unfold After
  split
  · rintro ⟨S', hs', T, hp, hk⟩; exact ⟨T, hs'.perm hp.symm, hk⟩
  · rintro ⟨S', hs', T, hp, hk⟩; exact ⟨T, hs'.perm hp.symm, hk⟩
  · rintro ⟨S', hs', hk⟩; exact ⟨S', hs', hk.permK⟩
  · exact fun h => h
def sameB (o p : Option Buf) : Prop := ∀ k, bufV o k = bufV p k
theorem OW.append2 {x y : Operand} {t t2 e sz k m : Nat} {info : TypeInfo} {z yv : Value} {D2 : TypeDesc} {o : Option Buf} {xs ys : List Value} {F : HL → HL}
    (ht : UT P t (.slice e)) (ht2 : UT P t2 D2) (hD : (∃ e2, D2 = .slice e2) ∨ D2 = .string) (hi : TI P e info) (hn : SZ P e sz) (hz : ZV P e z) (hzc : z.cells.size = sz)
    (hx : ev σ x = some (bufV o k)) (hseg : SegF S (bufH o xs e) F) (hlen : xs.length = k * sz) (hok : bufOk o k sz)
    (hy : ev σ y = some yv) (hsrc : Src P S yv m sz ys) (hyl : ys.length = m * sz) (h1 : ys.all oneB = true) (hm0 : 0 < m)
    (hb0 : info.bytes ≠ 0) (hb : (2 * (k + m) + 192) * info.bytes ≤ 281474976710656)
    (hk : ∀ o' Z, bufOk o' (k + m) sz → ((Z = [] ∧ sameB o o') ∨ Z = bufH o xs e) → K ((d, bufV o' (k + m)) :: σ) (F (bufH o' (xs ++ ys) e ++ Z))) :
    OW P n ⟨some d, .call { callee := .builtin .append, args := #[x, y], argTypes := #[t, t2] }, ty, pos, aft, g⟩ σ S K := by
  refine OW.permK (OW.appendKeep ht ht2 hD hi hn hz hzc hx hseg hlen hok hy hsrc hyl h1 hm0 hb0 hb ?_ ?_)
  · rintro u rfl _ hok'
    refine ⟨_, ?_, hk _ [] hok' (.inl ⟨rfl, fun _ => rfl⟩)⟩
    rw [List.append_nil]
  · intro u' _ hok'
    refine ⟨_, ?_, hk (some u') _ hok' (.inr rfl)⟩
    obtain ⟨R, hp1, hp2⟩ := hseg.spec
    refine (hp1.append_left _).trans (List.Perm.trans ?_ (hp2 _).symm)
    rw [List.append_assoc]
theorem bufOk.nil {o : Option Buf} {n k : Nat} {bs : List UInt8} (h : bufOk o (n + k) 1) (hn : bs.length = n) : o = none → bs = [] := by
  rintro rfl
  have : n + k = 0 := h
  exact List.eq_nil_of_length_eq_zero (by omega)
theorem grow_step {o lo lo' : Option Buf} {Y Z : HL} {xs r : List UInt8} {k : Nat} (h : RdB Y (bufV o xs.length) xs ∨ sameB o lo) (hlo : bufOk lo (xs.length + k) 1)
    (hZ : (Z = [] ∧ sameB lo lo') ∨ Z = bufH lo ((xs ++ r).map u8) 5) : RdB (Z ++ Y) (bufV o xs.length) xs ∨ sameB o lo' := by
  rcases h with h | h
  · exact .inl (h.mono fun p hp => List.mem_append_right _ hp)
  · rcases hZ with ⟨_, hZ⟩ | rfl
    · exact .inr fun k => (h k).trans (hZ k)
    · left
      rw [h xs.length]
      refine RdB.buf (xs := r.map u8) (T := 5) (hlo.nil rfl) fun p hp => List.mem_append_left _ ?_
      rwa [List.map_append]
theorem grow_end {o lo : Option Buf} {Y : HL} {xs r : List UInt8} {k : Nat} (h : RdB Y (bufV o xs.length) xs ∨ sameB o lo) (hlo : bufOk lo (xs.length + k) 1) :
    RdB (bufH lo ((xs ++ r).map u8) 5 ++ Y) (bufV o xs.length) xs := by
  rcases h with h | h
  · exact h.mono fun p hp => List.mem_append_right _ hp
  · rw [h xs.length]
    refine RdB.buf (xs := r.map u8) (T := 5) (hlo.nil rfl) fun p hp => List.mem_append_left _ ?_
    rwa [List.map_append]
theorem grow_long {lo : Option Buf} {Y : HL} {bs : List UInt8} {k : Nat} (hlo : bufOk lo k 1) (hk : bs.length = k) :
    RdB (bufH lo (bs.map u8) 5 ++ Y) (bufV lo k) bs := by
  subst hk
  refine RdB.buf (xs := []) (T := 5) (bufOk.nil (k := 0) hlo rfl) fun p hp => List.mem_append_left _ ?_
  rwa [List.append_nil] at hp
end Go.Sl

/- The engine, part L: slices of several elements that are written out. -/
set_option linter.unusedVariables false
set_option linter.unusedSimpArgs false
namespace Go.Sl
variable {P : Program} {n : Nat} {σ : Env} {S : HL} {K : Env → HL → Prop} {d : Nat} {dst : Option Nat} {ty : TypeId} {pos : String} {aft : Array Edge} {g : Option (Nat × Bool)}
theorem OW.buildSliceP {t e m : Nat} {z : Value} {parts : Array (Nat × Operand)} {ps : List (Nat × Value)} {cells : List Value} (ht : UT P t (.slice e)) (hn : SZ P e 1) (hz : ZV P e z) (hzc : z.cells = #[z]) (hm : 0 < m) (hb : m ≤ 16777216)
    (hp : PartsOk σ parts ps) (hf : Instr.fill (fun i => some (i * 1, 1)) ⟨List.replicate m z⟩ ps = some ⟨cells⟩)
    (hk : ∀ b, K ((d, sl b 0 m m) :: σ) ((b, blk cells e) :: S)) : OW P n ⟨some d, .buildSlice t m parts, ty, pos, aft, g⟩ σ S K :=
  OW.run_ rfl fun w0 ρ w hρ hs => by
    have hb' : ¬ (16777216 < m * 1) := by omega
    have hm0 : m ≠ 0 := by omega
    have hcs : Array.map (fun i => z.cells[i % z.cells.size]!) (Array.range (m * 1)) = ⟨List.replicate m z⟩ := by
      rw [Nat.mul_one, hzc]; exact range_rep m z
    refine ⟨_, _, _, ?_, hs.alloc (blk cells e), hk _⟩
    simp only [execOp, Instr.buildSlice, hp ρ hρ]
    simp [ht w, hn w, hz w, hb', hm0, newRow, run_newObj]
    have hb2 : ¬ (16777216 < m) := by omega
    have hf2 : Instr.fill (fun i => some (i, 1)) (Array.map (fun i => z.cells[i % z.cells.size]!) (Array.range m)) ps = some ⟨cells⟩ := by
      rw [Nat.mul_one] at hcs
      rw [hcs, ← hf]
      congr 1
      funext i
      rw [Nat.mul_one]
    rw [if_neg hb2, hf2]
    simp [run_newObj]
end Go.Sl
