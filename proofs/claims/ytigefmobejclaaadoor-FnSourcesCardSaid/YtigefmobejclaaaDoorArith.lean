/- Plain facts on the bits of 64-bit integers: no program in sight. -/
import Derived.WalkKit
namespace Go.Proofs.YtigefmobejclaaaDoor
open Go.RowKit

theorem wrap_i64_eq (n : Int) : IntKind.i64.wrap n = (n + 9223372036854775808) % 18446744073709551616 - 9223372036854775808 := by
  show (if (true && decide (n % 2 ^ 64 ≥ 2 ^ 63)) = true then n % 2 ^ 64 - 2 ^ 64 else n % 2 ^ 64) = _
  by_cases h : n % 2 ^ 64 ≥ 2 ^ 63
  · rw [if_pos (by simpa using h)]; omega
  · rw [if_neg (by simpa using h)]; omega

theorem wrap_i64_id {n : Int} (h0 : -9223372036854775808 ≤ n) (h1 : n < 9223372036854775808) : IntKind.i64.wrap n = n := by rw [wrap_i64_eq]; omega

theorem toNat_ofInt64 (n : Int) : ((BitVec.ofInt 64 n).toNat : Int) = n % 18446744073709551616 := by
  rw [BitVec.toNat_ofInt]
  show ((n % 18446744073709551616).toNat : Int) = _
  omega

theorem ofNat64_toNat (a : Nat) (h : a < 18446744073709551616) : (BitVec.ofInt 64 (a : Int)).toNat = a := by
  have := toNat_ofInt64 (a : Int); omega

theorem i64_and_nat (a b : Nat) (ha : a < 9223372036854775808) (hb : b < 9223372036854775808) : bits .and .i64 (a : Int) (b : Int) = ((a &&& b : Nat) : Int) := by
  show IntKind.i64.wrap ((BitVec.ofInt 64 (a : Int) &&& BitVec.ofInt 64 (b : Int)).toNat : Int) = _
  have h : a &&& b ≤ a := Nat.and_le_left
  rw [BitVec.toNat_and, ofNat64_toNat a (by omega), ofNat64_toNat b (by omega)]
  exact wrap_i64_id (by omega) (by omega)

theorem i64_xor_nat (a b : Nat) (ha : a < 9223372036854775808) (hb : b < 9223372036854775808) : bits .xor .i64 (a : Int) (b : Int) = ((a ^^^ b : Nat) : Int) := by
  show IntKind.i64.wrap ((BitVec.ofInt 64 (a : Int) ^^^ BitVec.ofInt 64 (b : Int)).toNat : Int) = _
  have h : a ^^^ b < 2 ^ 63 := Nat.xor_lt_two_pow (by omega) (by omega)
  rw [BitVec.toNat_xor, ofNat64_toNat a (by omega), ofNat64_toNat b (by omega)]
  exact wrap_i64_id (by omega) (by omega)

theorem i64_or_nat (a b : Nat) (ha : a < 9223372036854775808) (hb : b < 9223372036854775808) : bits .or .i64 (a : Int) (b : Int) = ((a ||| b : Nat) : Int) := by
  show IntKind.i64.wrap ((BitVec.ofInt 64 (a : Int) ||| BitVec.ofInt 64 (b : Int)).toNat : Int) = _
  have h : a ||| b < 2 ^ 63 := Nat.or_lt_two_pow (by omega) (by omega)
  rw [BitVec.toNat_or, ofNat64_toNat a (by omega), ofNat64_toNat b (by omega)]
  exact wrap_i64_id (by omega) (by omega)

theorem i64_and_mask32 (n : Int) : bits .and .i64 n 4294967295 = n % 4294967296 := by
  show IntKind.i64.wrap ((BitVec.ofInt 64 n &&& BitVec.ofInt 64 4294967295).toNat : Int) = _
  have e : (BitVec.ofInt 64 4294967295).toNat = 2 ^ 32 - 1 := by decide
  have e2 := toNat_ofInt64 n
  rw [BitVec.toNat_and, e, Nat.and_two_pow_sub_one_eq_mod, wrap_i64_id (by omega) (by omega)]
  omega

theorem i64_and_mask16 (n : Int) : bits .and .i64 n 65535 = n % 65536 := by
  show IntKind.i64.wrap ((BitVec.ofInt 64 n &&& BitVec.ofInt 64 65535).toNat : Int) = _
  have e : (BitVec.ofInt 64 65535).toNat = 2 ^ 16 - 1 := by decide
  have e2 := toNat_ofInt64 n
  rw [BitVec.toNat_and, e, Nat.and_two_pow_sub_one_eq_mod, wrap_i64_id (by omega) (by omega)]
  omega

theorem i64_and_mask8 (n : Int) : bits .and .i64 n 255 = n % 256 := by
  show IntKind.i64.wrap ((BitVec.ofInt 64 n &&& BitVec.ofInt 64 255).toNat : Int) = _
  have e : (BitVec.ofInt 64 255).toNat = 2 ^ 8 - 1 := by decide
  have e2 := toNat_ofInt64 n
  rw [BitVec.toNat_and, e, Nat.and_two_pow_sub_one_eq_mod, wrap_i64_id (by omega) (by omega)]
  omega

theorem i64_and_mask4 (n : Int) : bits .and .i64 n 15 = n % 16 := by
  show IntKind.i64.wrap ((BitVec.ofInt 64 n &&& BitVec.ofInt 64 15).toNat : Int) = _
  have e : (BitVec.ofInt 64 15).toNat = 2 ^ 4 - 1 := by decide
  have e2 := toNat_ofInt64 n
  rw [BitVec.toNat_and, e, Nat.and_two_pow_sub_one_eq_mod, wrap_i64_id (by omega) (by omega)]
  omega

theorem i64_and_mask3 (n : Int) : bits .and .i64 n 7 = n % 8 := by
  show IntKind.i64.wrap ((BitVec.ofInt 64 n &&& BitVec.ofInt 64 7).toNat : Int) = _
  have e : (BitVec.ofInt 64 7).toNat = 2 ^ 3 - 1 := by decide
  have e2 := toNat_ofInt64 n
  rw [BitVec.toNat_and, e, Nat.and_two_pow_sub_one_eq_mod, wrap_i64_id (by omega) (by omega)]
  omega

theorem i64_and_mask1 (n : Int) : bits .and .i64 n 1 = n % 2 := by
  show IntKind.i64.wrap ((BitVec.ofInt 64 n &&& BitVec.ofInt 64 1).toNat : Int) = _
  have e : (BitVec.ofInt 64 1).toNat = 2 ^ 1 - 1 := by decide
  have e2 := toNat_ofInt64 n
  rw [BitVec.toNat_and, e, Nat.and_two_pow_sub_one_eq_mod, wrap_i64_id (by omega) (by omega)]
  omega

theorem i64_xor_range (k : Nat) (hk : k ≤ 63) {a b : Int} (ha : 0 ≤ a) (ha' : a < 2 ^ k) (hb : 0 ≤ b) (hb' : b < 2 ^ k) : 0 ≤ bits .xor .i64 a b ∧ bits .xor .i64 a b < 2 ^ k := by
  obtain ⟨x, rfl⟩ := Int.eq_ofNat_of_zero_le ha
  obtain ⟨y, rfl⟩ := Int.eq_ofNat_of_zero_le hb
  have hp : (2 : Nat) ^ k ≤ 2 ^ 63 := Nat.pow_le_pow_right (by omega) hk
  have hx : x < 2 ^ k := by exact_mod_cast ha'
  have hy : y < 2 ^ k := by exact_mod_cast hb'
  rw [i64_xor_nat x y (by omega) (by omega)]
  have := Nat.xor_lt_two_pow hx hy
  exact ⟨by omega, by exact_mod_cast this⟩

theorem i64_xor_zero {a : Int} (ha : 0 ≤ a) (ha' : a < 9223372036854775808) : bits .xor .i64 a 0 = a := by
  obtain ⟨x, rfl⟩ := Int.eq_ofNat_of_zero_le ha
  have := i64_xor_nat x 0 (by omega) (by omega)
  simpa using this

theorem i64_xor_self {a : Int} (ha : 0 ≤ a) (ha' : a < 9223372036854775808) : bits .xor .i64 a a = 0 := by
  obtain ⟨x, rfl⟩ := Int.eq_ofNat_of_zero_le ha
  have := i64_xor_nat x x (by omega) (by omega)
  simpa using this

end Go.Proofs.YtigefmobejclaaaDoor
