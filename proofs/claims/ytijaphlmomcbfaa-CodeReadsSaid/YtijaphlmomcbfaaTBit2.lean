/- Words, bit by bit: masks, and words put together, as sums. No program in sight. -/
import Derived.Test.YtijaphlmomcbfaaLC
import Derived.Laws.BitsAllLaws
namespace Go.Proofs.Ytijaphlmomcbfaa
set_option linter.unusedVariables false
set_option linter.unusedSimpArgs false
set_option linter.unnecessarySimpa false
open Go.RowKit
theorem or_sum (s : Nat) {a b M : Int} (hM : (2 : Int) ^ s = M) (ha : 0 ≤ a) (hb : 0 ≤ b) (hs : b < M) (hm : a % M = 0) (hA : a < 18446744073709551616) (hB : b < 18446744073709551616) : bits .or .u64 a b = a + b := by
  subst hM
  rw [u64_or a b ha hA hb hB, nat_join s]
  · omega
  · have : ((a.toNat : Int)) % ((2 ^ s : Nat) : Int) = 0 := by rw [Int.toNat_of_nonneg ha]; simpa using hm
    exact_mod_cast this
  · have : (b.toNat : Int) < ((2 ^ s : Nat) : Int) := by rw [Int.toNat_of_nonneg hb]; simpa using hs
    exact_mod_cast this
theorem or_sum' (s : Nat) {a b M : Int} (hM : (2 : Int) ^ s = M) (ha : 0 ≤ a) (hb : 0 ≤ b) (hs : a < M) (hm : b % M = 0) (hA : a < 18446744073709551616) (hB : b < 18446744073709551616) : bits .or .u64 a b = a + b := by
  have h := or_sum s hM hb ha hs hm hB hA
  rw [u64_or b a hb hB ha hA, Nat.or_comm] at h
  rw [u64_or a b ha hA hb hB, h]; omega
theorem and_lit (s : Nat) {x m M : Int} (hm : m + 1 = M) (hM : ((2 ^ s : Nat) : Int) = M) (h0 : 0 ≤ x) (h1 : x < 18446744073709551616) (h2 : m < 18446744073709551616) : bits .and .u64 x m = x % M := by
  subst hM
  obtain rfl : m = ((2 ^ s - 1 : Nat) : Int) := by
    have : 1 ≤ 2 ^ s := Nat.one_le_two_pow
    omega
  rw [u64_and x _ h0 h1 (by omega) h2, Int.toNat_natCast, Nat.and_two_pow_sub_one_eq_mod]
  rw [Int.natCast_emod, Int.toNat_of_nonneg h0]
end Go.Proofs.Ytijaphlmomcbfaa
