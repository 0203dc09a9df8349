/- The engine, part E: typed numbers. (Printed by mkE.py of this session.) -/
import Derived.Test.YtfljnclghjikdaaGreatDoorEngD
set_option linter.unusedVariables false
set_option linter.unusedSimpArgs false
namespace Go.Sl

abbrev nI (k : Nat) : Value := .int .i64 (k : Int)

theorem w64 {n : Int} (h : -9223372036854775808 ≤ n ∧ n ≤ 9223372036854775807) : IntKind.i64.wrap n = n := by
  simp only [IntKind.wrap, IntKind.bits, IntKind.signed]
  have e : (2 : Int) ^ 64 = 18446744073709551616 := by decide
  have e' : (2 : Int) ^ (64 - 1) = 9223372036854775808 := by decide
  simp only [e, e']
  simp
  omega
theorem wI_add {a b : Nat} (h : a + b < 9223372036854775808) : IntKind.i64.wrap ((a : Int) + (b : Int)) = ((a + b : Nat) : Int) := by rw [w64 (by omega)]; omega
theorem wI_sub {a b : Nat} (h : b ≤ a) (h2 : a < 9223372036854775808) : IntKind.i64.wrap ((a : Int) - (b : Int)) = ((a - b : Nat) : Int) := by rw [w64 (by omega)]; omega
theorem wI_mul {a b : Nat} (h : a * b < 9223372036854775808) : IntKind.i64.wrap ((a : Int) * (b : Int)) = ((a * b : Nat) : Int) := by rw [← Int.natCast_mul, w64 (by omega)]
theorem wI_id {a : Nat} (h : a < 9223372036854775808) : IntKind.i64.wrap (a : Int) = (a : Int) := w64 (by omega)
theorem tI_rem (a b : Nat) : Int.tmod (a : Int) (b : Int) = ((a % b : Nat) : Int) := by rw [Int.tmod_eq_emod_of_nonneg (by omega)]; simp
theorem tI_quo (a b : Nat) (h : a < 9223372036854775808) : IntKind.i64.wrap (Int.tdiv (a : Int) (b : Int)) = ((a / b : Nat) : Int) := by
  rw [Int.tdiv_eq_ediv_of_nonneg (by omega), ← Int.natCast_ediv]
  have : a / b ≤ a := Nat.div_le_self a b
  generalize a / b = q at *
  exact w64 (by omega)
theorem dI_lt (a b : Nat) : decide ((a : Int) < (b : Int)) = decide (a < b) := by simp
theorem dI_le (a b : Nat) : decide ((a : Int) ≤ (b : Int)) = decide (a ≤ b) := by simp
theorem dI_eq (a b : Nat) : decide ((a : Int) = (b : Int)) = decide (a = b) := by simp; omega
theorem bv_of (n m : Nat) (h : m < 2 ^ n) : (BitVec.ofInt n (m : Int)) = BitVec.ofNat n m := by simp


/-! ### 8 bits -/
abbrev u8 (x : UInt8) : Value := .int .u8 (x.toNat : Int)
theorem w8_nat (n : Nat) : IntKind.wrap .u8 (n : Int) = ((UInt8.ofNat n).toNat : Int) := by
  simp only [IntKind.wrap, IntKind.bits, IntKind.signed, UInt8.toNat_ofNat']
  simp
theorem w8_id (x : UInt8) : IntKind.wrap .u8 (x.toNat : Int) = (x.toNat : Int) := by rw [w8_nat]; simp
theorem w8_lt (x : UInt8) : x.toNat < 256 := x.toNat_lt
theorem w8_add (x y : UInt8) : IntKind.wrap .u8 ((x.toNat : Int) + (y.toNat : Int)) = ((x + y).toNat : Int) := by
  rw [← Int.natCast_add, w8_nat, UInt8.ofNat_add, UInt8.ofNat_toNat, UInt8.ofNat_toNat]
theorem w8_mul (x y : UInt8) : IntKind.wrap .u8 ((x.toNat : Int) * (y.toNat : Int)) = ((x * y).toNat : Int) := by
  rw [← Int.natCast_mul, w8_nat, UInt8.ofNat_mul, UInt8.ofNat_toNat, UInt8.ofNat_toNat]
theorem w8_sub (x y : UInt8) : IntKind.wrap .u8 ((x.toNat : Int) - (y.toNat : Int)) = ((x - y).toNat : Int) := by
  have h1 := w8_lt x
  have h2 := w8_lt y
  simp only [IntKind.wrap, IntKind.bits, IntKind.signed, UInt8.toNat_sub]
  simp
  omega
theorem bv8 (x : UInt8) : BitVec.ofInt (IntKind.bits .u8) (x.toNat : Int) = x.toBitVec := by
  simp only [IntKind.bits, BitVec.ofInt_natCast]
  exact BitVec.eq_of_toNat_eq (by simp)
theorem w8_bv (v : BitVec 8) : IntKind.wrap .u8 (v.toNat : Int) = ((UInt8.ofBitVec v).toNat : Int) := by
  have := w8_id (UInt8.ofBitVec v)
  simpa using this
theorem x8_xor (x y : UInt8) : bitsB .xor .u8 (x.toNat : Int) (y.toNat : Int) = ((x ^^^ y).toNat : Int) := by
  simp only [bitsB, bv8]; exact w8_bv _
theorem x8_or (x y : UInt8) : bitsB .or .u8 (x.toNat : Int) (y.toNat : Int) = ((x ||| y).toNat : Int) := by
  simp only [bitsB, bv8]; exact w8_bv _
theorem x8_and (x y : UInt8) : bitsB .and .u8 (x.toNat : Int) (y.toNat : Int) = ((x &&& y).toNat : Int) := by
  simp only [bitsB, bv8]; exact w8_bv _
theorem x8_andNot (x y : UInt8) : bitsB .andNot .u8 (x.toNat : Int) (y.toNat : Int) = ((x &&& ~~~y).toNat : Int) := by
  simp only [bitsB, bv8]; exact w8_bv _
theorem x8_com (x : UInt8) : bitsB .xor .u8 (if IntKind.signed .u8 then -1 else IntKind.max .u8) (x.toNat : Int) = ((~~~x).toNat : Int) := by
  have e : (if IntKind.signed .u8 then (-1 : Int) else IntKind.max .u8) = (((UInt8.ofNat 255).toNat : Nat) : Int) := by decide
  rw [e, x8_xor]
  have h2 : (UInt8.ofNat 255) ^^^ x = ~~~x := by
    apply UInt8.toBitVec_inj.1
    have hb : (UInt8.ofNat 255).toBitVec = BitVec.allOnes 8 := by decide
    rw [UInt8.toBitVec_xor, hb, BitVec.allOnes_xor, UInt8.toBitVec_not]
  rw [h2]
def shl8 (x : UInt8) (n : Nat) : UInt8 := UInt8.ofNat (x.toNat * 2 ^ n)
def shr8 (x : UInt8) (n : Nat) : UInt8 := UInt8.ofNat (x.toNat / 2 ^ n)
theorem h8_shl (x : UInt8) (n : Nat) : IntKind.wrap .u8 ((x.toNat : Int) * 2 ^ (min (n : Int).toNat (IntKind.bits .u8))) = ((shl8 x n).toNat : Int) := by
  have e : (x.toNat : Int) * 2 ^ (min (n : Int).toNat (IntKind.bits .u8)) = ((x.toNat * 2 ^ (min n 8) : Nat) : Int) := by simp [IntKind.bits]
  rw [e, w8_nat]
  unfold shl8
  rcases Nat.lt_or_ge n 8 with h | h
  · rw [Nat.min_eq_left (by omega)]
  · rw [Nat.min_eq_right h]
    simp only [UInt8.toNat_ofNat']
    obtain ⟨m, rfl⟩ : ∃ m, n = 8 + m := ⟨n - 8, by omega⟩
    rw [Nat.pow_add, ← Nat.mul_assoc, Nat.mul_right_comm]
    simp
theorem h8_shr (x : UInt8) (n : Nat) : Int.fdiv (x.toNat : Int) (2 ^ (min (n : Int).toNat (IntKind.bits .u8))) = ((shr8 x n).toNat : Int) := by
  have hx := w8_lt x
  have e : (2 : Int) ^ (min (n : Int).toNat (IntKind.bits .u8)) = ((2 ^ (min n 8) : Nat) : Int) := by simp [IntKind.bits]
  rw [e, Int.fdiv_eq_ediv_of_nonneg _ (Int.natCast_nonneg _), ← Int.natCast_ediv]
  unfold shr8
  simp only [UInt8.toNat_ofNat']
  rcases Nat.lt_or_ge n 8 with h | h
  · rw [Nat.min_eq_left (by omega), Nat.mod_eq_of_lt (Nat.lt_of_le_of_lt (Nat.div_le_self _ _) (by simpa using hx))]
  · rw [Nat.min_eq_right h, Nat.div_eq_of_lt (by simpa using hx), Nat.div_eq_of_lt (Nat.lt_of_lt_of_le (by simpa using hx) (Nat.pow_le_pow_right (by omega) h))]
theorem d8_eq (x y : UInt8) : decide ((x.toNat : Int) = (y.toNat : Int)) = decide (x = y) := by
  rw [dI_eq]; simp only [UInt8.toNat_inj]
theorem d8_lt (x y : UInt8) : decide ((x.toNat : Int) < (y.toNat : Int)) = decide (x < y) := by
  rw [dI_lt]; simp only [UInt8.lt_iff_toNat_lt]
theorem d8_le (x y : UInt8) : decide ((x.toNat : Int) ≤ (y.toNat : Int)) = decide (x ≤ y) := by
  rw [dI_le]; simp only [UInt8.le_iff_toNat_le]
theorem t8_rem (x y : UInt8) : Int.tmod (x.toNat : Int) (y.toNat : Int) = ((x % y).toNat : Int) := by rw [tI_rem, UInt8.toNat_mod]
theorem t8_quo (x y : UInt8) : IntKind.wrap .u8 (Int.tdiv (x.toNat : Int) (y.toNat : Int)) = ((x / y).toNat : Int) := by
  rw [Int.tdiv_eq_ediv_of_nonneg (by omega), ← Int.natCast_ediv, ← UInt8.toNat_div, w8_id]


/-! ### 16 bits -/
abbrev u16 (x : UInt16) : Value := .int .u16 (x.toNat : Int)
theorem w16_nat (n : Nat) : IntKind.wrap .u16 (n : Int) = ((UInt16.ofNat n).toNat : Int) := by
  simp only [IntKind.wrap, IntKind.bits, IntKind.signed, UInt16.toNat_ofNat']
  simp
theorem w16_id (x : UInt16) : IntKind.wrap .u16 (x.toNat : Int) = (x.toNat : Int) := by rw [w16_nat]; simp
theorem w16_lt (x : UInt16) : x.toNat < 65536 := x.toNat_lt
theorem w16_add (x y : UInt16) : IntKind.wrap .u16 ((x.toNat : Int) + (y.toNat : Int)) = ((x + y).toNat : Int) := by
  rw [← Int.natCast_add, w16_nat, UInt16.ofNat_add, UInt16.ofNat_toNat, UInt16.ofNat_toNat]
theorem w16_mul (x y : UInt16) : IntKind.wrap .u16 ((x.toNat : Int) * (y.toNat : Int)) = ((x * y).toNat : Int) := by
  rw [← Int.natCast_mul, w16_nat, UInt16.ofNat_mul, UInt16.ofNat_toNat, UInt16.ofNat_toNat]
theorem w16_sub (x y : UInt16) : IntKind.wrap .u16 ((x.toNat : Int) - (y.toNat : Int)) = ((x - y).toNat : Int) := by
  have h1 := w16_lt x
  have h2 := w16_lt y
  simp only [IntKind.wrap, IntKind.bits, IntKind.signed, UInt16.toNat_sub]
  simp
  omega
theorem bv16 (x : UInt16) : BitVec.ofInt (IntKind.bits .u16) (x.toNat : Int) = x.toBitVec := by
  simp only [IntKind.bits, BitVec.ofInt_natCast]
  exact BitVec.eq_of_toNat_eq (by simp)
theorem w16_bv (v : BitVec 16) : IntKind.wrap .u16 (v.toNat : Int) = ((UInt16.ofBitVec v).toNat : Int) := by
  have := w16_id (UInt16.ofBitVec v)
  simpa using this
theorem x16_xor (x y : UInt16) : bitsB .xor .u16 (x.toNat : Int) (y.toNat : Int) = ((x ^^^ y).toNat : Int) := by
  simp only [bitsB, bv16]; exact w16_bv _
theorem x16_or (x y : UInt16) : bitsB .or .u16 (x.toNat : Int) (y.toNat : Int) = ((x ||| y).toNat : Int) := by
  simp only [bitsB, bv16]; exact w16_bv _
theorem x16_and (x y : UInt16) : bitsB .and .u16 (x.toNat : Int) (y.toNat : Int) = ((x &&& y).toNat : Int) := by
  simp only [bitsB, bv16]; exact w16_bv _
theorem x16_andNot (x y : UInt16) : bitsB .andNot .u16 (x.toNat : Int) (y.toNat : Int) = ((x &&& ~~~y).toNat : Int) := by
  simp only [bitsB, bv16]; exact w16_bv _
theorem x16_com (x : UInt16) : bitsB .xor .u16 (if IntKind.signed .u16 then -1 else IntKind.max .u16) (x.toNat : Int) = ((~~~x).toNat : Int) := by
  have e : (if IntKind.signed .u16 then (-1 : Int) else IntKind.max .u16) = (((UInt16.ofNat 65535).toNat : Nat) : Int) := by decide
  rw [e, x16_xor]
  have h2 : (UInt16.ofNat 65535) ^^^ x = ~~~x := by
    apply UInt16.toBitVec_inj.1
    have hb : (UInt16.ofNat 65535).toBitVec = BitVec.allOnes 16 := by decide
    rw [UInt16.toBitVec_xor, hb, BitVec.allOnes_xor, UInt16.toBitVec_not]
  rw [h2]
def shl16 (x : UInt16) (n : Nat) : UInt16 := UInt16.ofNat (x.toNat * 2 ^ n)
def shr16 (x : UInt16) (n : Nat) : UInt16 := UInt16.ofNat (x.toNat / 2 ^ n)
theorem h16_shl (x : UInt16) (n : Nat) : IntKind.wrap .u16 ((x.toNat : Int) * 2 ^ (min (n : Int).toNat (IntKind.bits .u16))) = ((shl16 x n).toNat : Int) := by
  have e : (x.toNat : Int) * 2 ^ (min (n : Int).toNat (IntKind.bits .u16)) = ((x.toNat * 2 ^ (min n 16) : Nat) : Int) := by simp [IntKind.bits]
  rw [e, w16_nat]
  unfold shl16
  rcases Nat.lt_or_ge n 16 with h | h
  · rw [Nat.min_eq_left (by omega)]
  · rw [Nat.min_eq_right h]
    simp only [UInt16.toNat_ofNat']
    obtain ⟨m, rfl⟩ : ∃ m, n = 16 + m := ⟨n - 16, by omega⟩
    rw [Nat.pow_add, ← Nat.mul_assoc, Nat.mul_right_comm]
    simp
theorem h16_shr (x : UInt16) (n : Nat) : Int.fdiv (x.toNat : Int) (2 ^ (min (n : Int).toNat (IntKind.bits .u16))) = ((shr16 x n).toNat : Int) := by
  have hx := w16_lt x
  have e : (2 : Int) ^ (min (n : Int).toNat (IntKind.bits .u16)) = ((2 ^ (min n 16) : Nat) : Int) := by simp [IntKind.bits]
  rw [e, Int.fdiv_eq_ediv_of_nonneg _ (Int.natCast_nonneg _), ← Int.natCast_ediv]
  unfold shr16
  simp only [UInt16.toNat_ofNat']
  rcases Nat.lt_or_ge n 16 with h | h
  · rw [Nat.min_eq_left (by omega), Nat.mod_eq_of_lt (Nat.lt_of_le_of_lt (Nat.div_le_self _ _) (by simpa using hx))]
  · rw [Nat.min_eq_right h, Nat.div_eq_of_lt (by simpa using hx), Nat.div_eq_of_lt (Nat.lt_of_lt_of_le (by simpa using hx) (Nat.pow_le_pow_right (by omega) h))]
theorem d16_eq (x y : UInt16) : decide ((x.toNat : Int) = (y.toNat : Int)) = decide (x = y) := by
  rw [dI_eq]; simp only [UInt16.toNat_inj]
theorem d16_lt (x y : UInt16) : decide ((x.toNat : Int) < (y.toNat : Int)) = decide (x < y) := by
  rw [dI_lt]; simp only [UInt16.lt_iff_toNat_lt]
theorem d16_le (x y : UInt16) : decide ((x.toNat : Int) ≤ (y.toNat : Int)) = decide (x ≤ y) := by
  rw [dI_le]; simp only [UInt16.le_iff_toNat_le]
theorem t16_rem (x y : UInt16) : Int.tmod (x.toNat : Int) (y.toNat : Int) = ((x % y).toNat : Int) := by rw [tI_rem, UInt16.toNat_mod]
theorem t16_quo (x y : UInt16) : IntKind.wrap .u16 (Int.tdiv (x.toNat : Int) (y.toNat : Int)) = ((x / y).toNat : Int) := by
  rw [Int.tdiv_eq_ediv_of_nonneg (by omega), ← Int.natCast_ediv, ← UInt16.toNat_div, w16_id]


/-! ### 32 bits -/
abbrev u32 (x : UInt32) : Value := .int .u32 (x.toNat : Int)
theorem w32_nat (n : Nat) : IntKind.wrap .u32 (n : Int) = ((UInt32.ofNat n).toNat : Int) := by
  simp only [IntKind.wrap, IntKind.bits, IntKind.signed, UInt32.toNat_ofNat']
  simp
theorem w32_id (x : UInt32) : IntKind.wrap .u32 (x.toNat : Int) = (x.toNat : Int) := by rw [w32_nat]; simp
theorem w32_lt (x : UInt32) : x.toNat < 4294967296 := x.toNat_lt
theorem w32_add (x y : UInt32) : IntKind.wrap .u32 ((x.toNat : Int) + (y.toNat : Int)) = ((x + y).toNat : Int) := by
  rw [← Int.natCast_add, w32_nat, UInt32.ofNat_add, UInt32.ofNat_toNat, UInt32.ofNat_toNat]
theorem w32_mul (x y : UInt32) : IntKind.wrap .u32 ((x.toNat : Int) * (y.toNat : Int)) = ((x * y).toNat : Int) := by
  rw [← Int.natCast_mul, w32_nat, UInt32.ofNat_mul, UInt32.ofNat_toNat, UInt32.ofNat_toNat]
theorem w32_sub (x y : UInt32) : IntKind.wrap .u32 ((x.toNat : Int) - (y.toNat : Int)) = ((x - y).toNat : Int) := by
  have h1 := w32_lt x
  have h2 := w32_lt y
  simp only [IntKind.wrap, IntKind.bits, IntKind.signed, UInt32.toNat_sub]
  simp
  omega
theorem bv32 (x : UInt32) : BitVec.ofInt (IntKind.bits .u32) (x.toNat : Int) = x.toBitVec := by
  simp only [IntKind.bits, BitVec.ofInt_natCast]
  exact BitVec.eq_of_toNat_eq (by simp)
theorem w32_bv (v : BitVec 32) : IntKind.wrap .u32 (v.toNat : Int) = ((UInt32.ofBitVec v).toNat : Int) := by
  have := w32_id (UInt32.ofBitVec v)
  simpa using this
theorem x32_xor (x y : UInt32) : bitsB .xor .u32 (x.toNat : Int) (y.toNat : Int) = ((x ^^^ y).toNat : Int) := by
  simp only [bitsB, bv32]; exact w32_bv _
theorem x32_or (x y : UInt32) : bitsB .or .u32 (x.toNat : Int) (y.toNat : Int) = ((x ||| y).toNat : Int) := by
  simp only [bitsB, bv32]; exact w32_bv _
theorem x32_and (x y : UInt32) : bitsB .and .u32 (x.toNat : Int) (y.toNat : Int) = ((x &&& y).toNat : Int) := by
  simp only [bitsB, bv32]; exact w32_bv _
theorem x32_andNot (x y : UInt32) : bitsB .andNot .u32 (x.toNat : Int) (y.toNat : Int) = ((x &&& ~~~y).toNat : Int) := by
  simp only [bitsB, bv32]; exact w32_bv _
theorem x32_com (x : UInt32) : bitsB .xor .u32 (if IntKind.signed .u32 then -1 else IntKind.max .u32) (x.toNat : Int) = ((~~~x).toNat : Int) := by
  have e : (if IntKind.signed .u32 then (-1 : Int) else IntKind.max .u32) = (((UInt32.ofNat 4294967295).toNat : Nat) : Int) := by decide
  rw [e, x32_xor]
  have h2 : (UInt32.ofNat 4294967295) ^^^ x = ~~~x := by
    apply UInt32.toBitVec_inj.1
    have hb : (UInt32.ofNat 4294967295).toBitVec = BitVec.allOnes 32 := by decide
    rw [UInt32.toBitVec_xor, hb, BitVec.allOnes_xor, UInt32.toBitVec_not]
  rw [h2]
def shl32 (x : UInt32) (n : Nat) : UInt32 := UInt32.ofNat (x.toNat * 2 ^ n)
def shr32 (x : UInt32) (n : Nat) : UInt32 := UInt32.ofNat (x.toNat / 2 ^ n)
theorem h32_shl (x : UInt32) (n : Nat) : IntKind.wrap .u32 ((x.toNat : Int) * 2 ^ (min (n : Int).toNat (IntKind.bits .u32))) = ((shl32 x n).toNat : Int) := by
  have e : (x.toNat : Int) * 2 ^ (min (n : Int).toNat (IntKind.bits .u32)) = ((x.toNat * 2 ^ (min n 32) : Nat) : Int) := by simp [IntKind.bits]
  rw [e, w32_nat]
  unfold shl32
  rcases Nat.lt_or_ge n 32 with h | h
  · rw [Nat.min_eq_left (by omega)]
  · rw [Nat.min_eq_right h]
    simp only [UInt32.toNat_ofNat']
    obtain ⟨m, rfl⟩ : ∃ m, n = 32 + m := ⟨n - 32, by omega⟩
    rw [Nat.pow_add, ← Nat.mul_assoc, Nat.mul_right_comm]
    simp
theorem h32_shr (x : UInt32) (n : Nat) : Int.fdiv (x.toNat : Int) (2 ^ (min (n : Int).toNat (IntKind.bits .u32))) = ((shr32 x n).toNat : Int) := by
  have hx := w32_lt x
  have e : (2 : Int) ^ (min (n : Int).toNat (IntKind.bits .u32)) = ((2 ^ (min n 32) : Nat) : Int) := by simp [IntKind.bits]
  rw [e, Int.fdiv_eq_ediv_of_nonneg _ (Int.natCast_nonneg _), ← Int.natCast_ediv]
  unfold shr32
  simp only [UInt32.toNat_ofNat']
  rcases Nat.lt_or_ge n 32 with h | h
  · rw [Nat.min_eq_left (by omega), Nat.mod_eq_of_lt (Nat.lt_of_le_of_lt (Nat.div_le_self _ _) (by simpa using hx))]
  · rw [Nat.min_eq_right h, Nat.div_eq_of_lt (by simpa using hx), Nat.div_eq_of_lt (Nat.lt_of_lt_of_le (by simpa using hx) (Nat.pow_le_pow_right (by omega) h))]
theorem d32_eq (x y : UInt32) : decide ((x.toNat : Int) = (y.toNat : Int)) = decide (x = y) := by
  rw [dI_eq]; simp only [UInt32.toNat_inj]
theorem d32_lt (x y : UInt32) : decide ((x.toNat : Int) < (y.toNat : Int)) = decide (x < y) := by
  rw [dI_lt]; simp only [UInt32.lt_iff_toNat_lt]
theorem d32_le (x y : UInt32) : decide ((x.toNat : Int) ≤ (y.toNat : Int)) = decide (x ≤ y) := by
  rw [dI_le]; simp only [UInt32.le_iff_toNat_le]
theorem t32_rem (x y : UInt32) : Int.tmod (x.toNat : Int) (y.toNat : Int) = ((x % y).toNat : Int) := by rw [tI_rem, UInt32.toNat_mod]
theorem t32_quo (x y : UInt32) : IntKind.wrap .u32 (Int.tdiv (x.toNat : Int) (y.toNat : Int)) = ((x / y).toNat : Int) := by
  rw [Int.tdiv_eq_ediv_of_nonneg (by omega), ← Int.natCast_ediv, ← UInt32.toNat_div, w32_id]


/-! ### 64 bits -/
abbrev u64 (x : UInt64) : Value := .int .u64 (x.toNat : Int)
theorem w64_nat (n : Nat) : IntKind.wrap .u64 (n : Int) = ((UInt64.ofNat n).toNat : Int) := by
  simp only [IntKind.wrap, IntKind.bits, IntKind.signed, UInt64.toNat_ofNat']
  simp
theorem w64_id (x : UInt64) : IntKind.wrap .u64 (x.toNat : Int) = (x.toNat : Int) := by rw [w64_nat]; simp
theorem w64_lt (x : UInt64) : x.toNat < 18446744073709551616 := x.toNat_lt
theorem w64_add (x y : UInt64) : IntKind.wrap .u64 ((x.toNat : Int) + (y.toNat : Int)) = ((x + y).toNat : Int) := by
  rw [← Int.natCast_add, w64_nat, UInt64.ofNat_add, UInt64.ofNat_toNat, UInt64.ofNat_toNat]
theorem w64_mul (x y : UInt64) : IntKind.wrap .u64 ((x.toNat : Int) * (y.toNat : Int)) = ((x * y).toNat : Int) := by
  rw [← Int.natCast_mul, w64_nat, UInt64.ofNat_mul, UInt64.ofNat_toNat, UInt64.ofNat_toNat]
theorem w64_sub (x y : UInt64) : IntKind.wrap .u64 ((x.toNat : Int) - (y.toNat : Int)) = ((x - y).toNat : Int) := by
  have h1 := w64_lt x
  have h2 := w64_lt y
  simp only [IntKind.wrap, IntKind.bits, IntKind.signed, UInt64.toNat_sub]
  simp
  omega
theorem bv64 (x : UInt64) : BitVec.ofInt (IntKind.bits .u64) (x.toNat : Int) = x.toBitVec := by
  simp only [IntKind.bits, BitVec.ofInt_natCast]
  exact BitVec.eq_of_toNat_eq (by simp)
theorem w64_bv (v : BitVec 64) : IntKind.wrap .u64 (v.toNat : Int) = ((UInt64.ofBitVec v).toNat : Int) := by
  have := w64_id (UInt64.ofBitVec v)
  simpa using this
theorem x64_xor (x y : UInt64) : bitsB .xor .u64 (x.toNat : Int) (y.toNat : Int) = ((x ^^^ y).toNat : Int) := by
  simp only [bitsB, bv64]; exact w64_bv _
theorem x64_or (x y : UInt64) : bitsB .or .u64 (x.toNat : Int) (y.toNat : Int) = ((x ||| y).toNat : Int) := by
  simp only [bitsB, bv64]; exact w64_bv _
theorem x64_and (x y : UInt64) : bitsB .and .u64 (x.toNat : Int) (y.toNat : Int) = ((x &&& y).toNat : Int) := by
  simp only [bitsB, bv64]; exact w64_bv _
theorem x64_andNot (x y : UInt64) : bitsB .andNot .u64 (x.toNat : Int) (y.toNat : Int) = ((x &&& ~~~y).toNat : Int) := by
  simp only [bitsB, bv64]; exact w64_bv _
theorem x64_com (x : UInt64) : bitsB .xor .u64 (if IntKind.signed .u64 then -1 else IntKind.max .u64) (x.toNat : Int) = ((~~~x).toNat : Int) := by
  have e : (if IntKind.signed .u64 then (-1 : Int) else IntKind.max .u64) = (((UInt64.ofNat 18446744073709551615).toNat : Nat) : Int) := by decide
  rw [e, x64_xor]
  have h2 : (UInt64.ofNat 18446744073709551615) ^^^ x = ~~~x := by
    apply UInt64.toBitVec_inj.1
    have hb : (UInt64.ofNat 18446744073709551615).toBitVec = BitVec.allOnes 64 := by decide
    rw [UInt64.toBitVec_xor, hb, BitVec.allOnes_xor, UInt64.toBitVec_not]
  rw [h2]
def shl64 (x : UInt64) (n : Nat) : UInt64 := UInt64.ofNat (x.toNat * 2 ^ n)
def shr64 (x : UInt64) (n : Nat) : UInt64 := UInt64.ofNat (x.toNat / 2 ^ n)
theorem h64_shl (x : UInt64) (n : Nat) : IntKind.wrap .u64 ((x.toNat : Int) * 2 ^ (min (n : Int).toNat (IntKind.bits .u64))) = ((shl64 x n).toNat : Int) := by
  have e : (x.toNat : Int) * 2 ^ (min (n : Int).toNat (IntKind.bits .u64)) = ((x.toNat * 2 ^ (min n 64) : Nat) : Int) := by simp [IntKind.bits]
  rw [e, w64_nat]
  unfold shl64
  rcases Nat.lt_or_ge n 64 with h | h
  · rw [Nat.min_eq_left (by omega)]
  · rw [Nat.min_eq_right h]
    simp only [UInt64.toNat_ofNat']
    obtain ⟨m, rfl⟩ : ∃ m, n = 64 + m := ⟨n - 64, by omega⟩
    rw [Nat.pow_add, ← Nat.mul_assoc, Nat.mul_right_comm]
    simp
theorem h64_shr (x : UInt64) (n : Nat) : Int.fdiv (x.toNat : Int) (2 ^ (min (n : Int).toNat (IntKind.bits .u64))) = ((shr64 x n).toNat : Int) := by
  have hx := w64_lt x
  have e : (2 : Int) ^ (min (n : Int).toNat (IntKind.bits .u64)) = ((2 ^ (min n 64) : Nat) : Int) := by simp [IntKind.bits]
  rw [e, Int.fdiv_eq_ediv_of_nonneg _ (Int.natCast_nonneg _), ← Int.natCast_ediv]
  unfold shr64
  simp only [UInt64.toNat_ofNat']
  rcases Nat.lt_or_ge n 64 with h | h
  · rw [Nat.min_eq_left (by omega), Nat.mod_eq_of_lt (Nat.lt_of_le_of_lt (Nat.div_le_self _ _) (by simpa using hx))]
  · rw [Nat.min_eq_right h, Nat.div_eq_of_lt (by simpa using hx), Nat.div_eq_of_lt (Nat.lt_of_lt_of_le (by simpa using hx) (Nat.pow_le_pow_right (by omega) h))]
theorem d64_eq (x y : UInt64) : decide ((x.toNat : Int) = (y.toNat : Int)) = decide (x = y) := by
  rw [dI_eq]; simp only [UInt64.toNat_inj]
theorem d64_lt (x y : UInt64) : decide ((x.toNat : Int) < (y.toNat : Int)) = decide (x < y) := by
  rw [dI_lt]; simp only [UInt64.lt_iff_toNat_lt]
theorem d64_le (x y : UInt64) : decide ((x.toNat : Int) ≤ (y.toNat : Int)) = decide (x ≤ y) := by
  rw [dI_le]; simp only [UInt64.le_iff_toNat_le]
theorem t64_rem (x y : UInt64) : Int.tmod (x.toNat : Int) (y.toNat : Int) = ((x % y).toNat : Int) := by rw [tI_rem, UInt64.toNat_mod]
theorem t64_quo (x y : UInt64) : IntKind.wrap .u64 (Int.tdiv (x.toNat : Int) (y.toNat : Int)) = ((x / y).toNat : Int) := by
  rw [Int.tdiv_eq_ediv_of_nonneg (by omega), ← Int.natCast_ediv, ← UInt64.toNat_div, w64_id]

end Go.Sl