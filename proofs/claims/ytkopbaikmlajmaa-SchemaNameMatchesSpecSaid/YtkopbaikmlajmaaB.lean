/- Go's '&' and '|' on int, where the numbers are small; no conditions beyond the bounds in each statement. -/
import Derived.Laws.Bits64b
import Derived.Laws.BitsAllLaws
import Derived.IntWalk
namespace Go.Proofs.Ytkopbaikmlajmaa.Q
theorem wrap_i64_small (n : Int) (h0 : -9223372036854775808 ≤ n) (h1 : n ≤ 9223372036854775807) : IntKind.i64.wrap n = n := IntWalk.i64_in _ (by omega)
theorem and_i64_nat (a b : Nat) (ha : a < 9223372036854775808) (hb : b < 9223372036854775808) : bits .and .i64 (a : Int) (b : Int) = ((a &&& b : Nat) : Int) := by
  have hx : a &&& b < 2 ^ 63 := Nat.and_lt_two_pow _ (by omega)
  have h1 : (BitVec.ofInt 64 (a : Int)).toNat = a := by
    rw [BitVec.ofInt_natCast, BitVec.toNat_ofNat]; exact Nat.mod_eq_of_lt (by omega)
  have h2 : (BitVec.ofInt 64 (b : Int)).toNat = b := by
    rw [BitVec.ofInt_natCast, BitVec.toNat_ofNat]; exact Nat.mod_eq_of_lt (by omega)
  show IntKind.i64.wrap ((BitVec.ofInt 64 (a : Int) &&& BitVec.ofInt 64 (b : Int)).toNat : Int) = _
  rw [BitVec.toNat_and, h1, h2]
  exact wrap_i64_small _ (by omega) (by omega)
theorem or_i64_nat (a b : Nat) (ha : a < 9223372036854775808) (hb : b < 9223372036854775808) : bits .or .i64 (a : Int) (b : Int) = ((a ||| b : Nat) : Int) := by
  have hx : a ||| b < 2 ^ 63 := Nat.or_lt_two_pow (by omega) (by omega)
  have h1 : (BitVec.ofInt 64 (a : Int)).toNat = a := by
    rw [BitVec.ofInt_natCast, BitVec.toNat_ofNat]; exact Nat.mod_eq_of_lt (by omega)
  have h2 : (BitVec.ofInt 64 (b : Int)).toNat = b := by
    rw [BitVec.ofInt_natCast, BitVec.toNat_ofNat]; exact Nat.mod_eq_of_lt (by omega)
  show IntKind.i64.wrap ((BitVec.ofInt 64 (a : Int) ||| BitVec.ofInt 64 (b : Int)).toNat : Int) = _
  rw [BitVec.toNat_or, h1, h2]
  exact wrap_i64_small _ (by omega) (by omega)
/-- 'a | b' where b is a multiple of 2^k and a is below 2^k. -/
theorem or_i64_add (a b : Int) (k : Nat) (m : Int) (ha : 0 ≤ a) (hk : a < 2 ^ k) (hb : b = m * 2 ^ k) (hm : 0 ≤ m) (hs : b < 9223372036854775808) (hka : a < 9223372036854775808) : bits .or .i64 a b = a + b := by
  have hp : (0 : Int) < 2 ^ k := Int.pow_pos (by omega)
  have hb0 : 0 ≤ b := by rw [hb]; exact Int.mul_nonneg hm (Int.le_of_lt hp)
  obtain ⟨x, rfl⟩ := Int.eq_ofNat_of_zero_le ha
  obtain ⟨y, rfl⟩ := Int.eq_ofNat_of_zero_le hb0
  obtain ⟨q, rfl⟩ := Int.eq_ofNat_of_zero_le hm
  have hx : x < 2 ^ k := by exact_mod_cast hk
  have hy : y = 2 ^ k * q := by
    have : (y : Int) = ((2 ^ k * q : Nat) : Int) := by rw [hb]; push_cast; rw [Int.mul_comm]
    exact_mod_cast this
  rw [or_i64_nat x y (by omega) (by omega), hy, Nat.or_comm, ← Nat.two_pow_add_eq_or_of_lt hx]
  push_cast
  omega
theorem or_i64_add' (a b : Int) (k : Nat) (m : Int) (ha : 0 ≤ a) (hk : a < 2 ^ k) (hb : b = m * 2 ^ k) (hm : 0 ≤ m) (hs : b < 9223372036854775808) (hka : a < 9223372036854775808) : bits .or .i64 b a = b + a := by
  have hp : (0 : Int) < 2 ^ k := Int.pow_pos (by omega)
  have hb0 : 0 ≤ b := by rw [hb]; exact Int.mul_nonneg hm (Int.le_of_lt hp)
  have := or_i64_add a b k m ha hk hb hm hs hka
  obtain ⟨x, rfl⟩ := Int.eq_ofNat_of_zero_le ha
  obtain ⟨y, rfl⟩ := Int.eq_ofNat_of_zero_le hb0
  rw [or_i64_nat x y (by omega) (by omega)] at this
  rw [or_i64_nat y x (by omega) (by omega), Nat.or_comm, this]
  omega
theorem and1_i64 (x : Int) : bits .and .i64 x 1 = x % 2 := by
  have h2 : (BitVec.ofInt 64 (1 : Int)).toNat = 1 := by rfl
  show IntKind.i64.wrap ((BitVec.ofInt 64 x &&& BitVec.ofInt 64 (1 : Int)).toNat : Int) = _
  rw [BitVec.toNat_and, h2, Nat.and_one_is_mod, BitVec.toNat_ofInt, wrap_i64_small _ (by omega) (by omega)]
  omega
theorem and1_i64_self (x : Int) : (bits .and .i64 x 1 == x) = (decide (x = 0) || decide (x = 1)) := by
  rw [and1_i64, Bool.eq_iff_iff]
  simp only [beq_iff_eq, Bool.or_eq_true, decide_eq_true_eq]
  omega
end Go.Proofs.Ytkopbaikmlajmaa.Q
