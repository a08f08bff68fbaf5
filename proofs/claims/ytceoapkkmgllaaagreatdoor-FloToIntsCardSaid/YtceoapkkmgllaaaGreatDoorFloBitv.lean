/- Bits of a 64-bit word: the sign turned, and left out. -/
import Derived.Laws.BitsAllLaws
import Derived.Laws.BitsLemmas
namespace FloM
theorem xor_top (b : Nat) (h : b < 2 ^ 63) : b ^^^ 2 ^ 63 = 2 ^ 63 + b := by
  apply Nat.eq_of_testBit_eq
  intro i
  rw [Nat.testBit_xor, Nat.testBit_two_pow]
  rcases Nat.lt_trichotomy i 63 with h1 | h1 | h1
  · rw [Nat.testBit_two_pow_add_gt h1, decide_eq_false (by omega), Bool.xor_false]
  · subst h1
    rw [Nat.testBit_two_pow_add_eq, Nat.testBit_lt_two_pow h]; simp
  · have : b.testBit i = false := Nat.testBit_lt_two_pow (Nat.lt_of_lt_of_le h (Nat.pow_le_pow_right (by omega) (by omega)))
    have h2 : (2 ^ 63 + b).testBit i = false := Nat.testBit_lt_two_pow (Nat.lt_of_lt_of_le (show 2 ^ 63 + b < 2 ^ 64 by omega) (Nat.pow_le_pow_right (by omega) (by omega)))
    rw [this, h2]; simp; omega
theorem xor_sign (u : Nat) (h : u < 2 ^ 64) : u ^^^ 2 ^ 63 = if u < 2 ^ 63 then 2 ^ 63 + u else u - 2 ^ 63 := by
  split
  · next h1 => exact xor_top u h1
  · next h1 =>
    have := xor_top (u - 2 ^ 63) (by omega)
    rw [show 2 ^ 63 + (u - 2 ^ 63) = u by omega] at this
    have h2 : u ^^^ 2 ^ 63 = (u - 2 ^ 63 ^^^ 2 ^ 63) ^^^ 2 ^ 63 := by rw [this]
    rw [h2, Nat.xor_assoc, Nat.xor_self, Nat.xor_zero]
theorem bv_xor (u : Nat) (h : u < 2 ^ 64) : (BitVec.ofNat 64 u ^^^ 9223372036854775808#64).toNat % 18446744073709551616 = if u < 2 ^ 63 then 2 ^ 63 + u else u - 2 ^ 63 := by
  rw [BitVec.toNat_xor, BitVec.toNat_ofNat, BitVec.toNat_ofNat, Nat.mod_eq_of_lt h, Nat.mod_eq_of_lt (show 9223372036854775808 < 2 ^ 64 by decide)]
  rw [← xor_sign u h]
  exact Nat.mod_eq_of_lt (Nat.xor_lt_two_pow (n := 64) h (by decide))
theorem bv_and (u : Nat) (h : u < 2 ^ 64) : (BitVec.ofNat 64 u &&& 9223372036854775807#64).toNat % 18446744073709551616 = u % 2 ^ 63 := by
  rw [BitVec.toNat_and, BitVec.toNat_ofNat, BitVec.toNat_ofNat, Nat.mod_eq_of_lt h, Nat.mod_eq_of_lt (show 9223372036854775807 < 2 ^ 64 by decide)]
  have := Nat.and_two_pow_sub_one_eq_mod u 63
  rw [show (2:Nat) ^ 63 - 1 = 9223372036854775807 by decide] at this
  rw [this]
  exact Nat.mod_eq_of_lt (Nat.lt_of_lt_of_le (Nat.mod_lt _ (by decide)) (by decide))
end FloM
namespace Go
theorem ofInt_i64 (a : Nat) (ha : a < 9223372036854775808) : (BitVec.ofInt 64 (a : Int)).toNat = a := by
  rw [BitVec.ofInt_natCast, BitVec.toNat_ofNat]; exact Nat.mod_eq_of_lt (by omega)
theorem i64_and_nat (a b : Nat) (ha : a < 9223372036854775808) (hb : b < 9223372036854775808) : bits .and .i64 (a : Int) (b : Int) = ((a &&& b : Nat) : Int) := by
  have hx : a &&& b < 2 ^ 63 := Nat.and_lt_two_pow _ (by omega)
  show IntKind.i64.wrap ((BitVec.ofInt 64 (a : Int) &&& BitVec.ofInt 64 (b : Int)).toNat : Int) = _
  rw [BitVec.toNat_and, ofInt_i64 a ha, ofInt_i64 b hb, IntKind.wrap_i64]
  omega
theorem i64_or_nat (a b : Nat) (ha : a < 9223372036854775808) (hb : b < 9223372036854775808) : bits .or .i64 (a : Int) (b : Int) = ((a ||| b : Nat) : Int) := by
  have hx : a ||| b < 2 ^ 63 := Nat.or_lt_two_pow (by omega) (by omega)
  show IntKind.i64.wrap ((BitVec.ofInt 64 (a : Int) ||| BitVec.ofInt 64 (b : Int)).toNat : Int) = _
  rw [BitVec.toNat_or, ofInt_i64 a ha, ofInt_i64 b hb, IntKind.wrap_i64]
  omega
theorem i64_xor_nat (a b : Nat) (ha : a < 9223372036854775808) (hb : b < 9223372036854775808) : bits .xor .i64 (a : Int) (b : Int) = ((a ^^^ b : Nat) : Int) := by
  have hx : a ^^^ b < 2 ^ 63 := Nat.xor_lt_two_pow (by omega) (by omega)
  show IntKind.i64.wrap ((BitVec.ofInt 64 (a : Int) ^^^ BitVec.ofInt 64 (b : Int)).toNat : Int) = _
  rw [BitVec.toNat_xor, ofInt_i64 a ha, ofInt_i64 b hb, IntKind.wrap_i64]
  omega
end Go
