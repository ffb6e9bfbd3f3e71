/-
  Plain laws on folded numbers: no program in sight.
-/
import Derived.Laws.BitsAllLaws
import Derived.Laws.DeepNot64
import Derived.RowKit
namespace Go.Proofs.Ytooliekmfbkopaa.Num
open Go Go.RowKit

def foldN (i : Int) : Nat := if 0 ≤ i then 2 * i.toNat else 2 * (-i - 1).toNat + 1
def unfoldN (n : Nat) : Int := if n % 2 = 0 then ((n / 2 : Nat) : Int) else -((n / 2 : Nat) : Int) - 1

theorem foldN_lt (i : Int) (h0 : -9223372036854775808 ≤ i) (h1 : i ≤ 9223372036854775807) : foldN i < 18446744073709551616 := by
  unfold foldN; split <;> omega
theorem unfold_fold (i : Int) : unfoldN (foldN i) = i := by
  unfold unfoldN foldN; split <;> split <;> omega
theorem fold_unfold (n : Nat) : foldN (unfoldN n) = n := by
  unfold unfoldN foldN; split <;> split <;> omega
theorem unfoldN_bounds (n : Nat) (h : n < 18446744073709551616) : -9223372036854775808 ≤ unfoldN n ∧ unfoldN n ≤ 9223372036854775807 := by
  unfold unfoldN; split <;> omega

theorem xor_ones (x : Nat) (h : x < 18446744073709551616) : x ^^^ 18446744073709551615 = 18446744073709551615 - x := by
  have e := congrArg BitVec.toNat (BitVec.xor_allOnes (x := BitVec.ofNat 64 x))
  rw [BitVec.toNat_xor, BitVec.toNat_not, BitVec.toNat_allOnes, BitVec.toNat_ofNat, Nat.mod_eq_of_lt (by omega)] at e
  simpa using e

theorem fold_bits (i : Int) (h0 : -9223372036854775808 ≤ i) (h1 : i ≤ 9223372036854775807) :
    bits .xor .u64 (IntKind.u64.wrap (IntKind.u64.wrap i * 2)) (IntKind.u64.wrap (i / 9223372036854775808)) = (foldN i : Int) := by
  simp only [IntKind.wrap_u64]
  unfold foldN
  by_cases h : 0 ≤ i
  · rw [if_pos h, show i / 9223372036854775808 % 18446744073709551616 = ((0 : Nat) : Int) by omega, show i % 18446744073709551616 * 2 % 18446744073709551616 = ((2 * i.toNat : Nat) : Int) by omega,
      u64_xor_nat _ _ (by omega) (by omega), Nat.xor_zero]
  · rw [if_neg h, show i / 9223372036854775808 % 18446744073709551616 = ((18446744073709551615 : Nat) : Int) by omega,
      show i % 18446744073709551616 * 2 % 18446744073709551616 = ((18446744073709551615 - (2 * (-i - 1).toNat + 1) : Nat) : Int) by omega,
      u64_xor_nat _ _ (by omega) (by omega), xor_ones _ (by omega)]
    congr 1
    omega

theorem i64_xor_zero (a : Int) (h0 : 0 ≤ a) (h1 : a < 9223372036854775808) : bits .xor .i64 a 0 = a := by
  obtain ⟨n, rfl⟩ := Int.eq_ofNat_of_zero_le h0
  have h2 : (BitVec.ofInt 64 (n : Int)).toNat = n := by
    rw [BitVec.ofInt_natCast, BitVec.toNat_ofNat]; exact Nat.mod_eq_of_lt (by omega)
  show IntKind.i64.wrap ((BitVec.ofInt 64 (n : Int) ^^^ BitVec.ofInt 64 0).toNat : Int) = _
  rw [BitVec.toNat_xor, h2]
  simp [IntKind.wrap, IntKind.bits, IntKind.signed]
  omega
theorem i64_xor_ones (a : Int) (h0 : 0 ≤ a) (h1 : a < 9223372036854775808) : bits .xor .i64 a (-1) = -a - 1 := by
  obtain ⟨n, rfl⟩ := Int.eq_ofNat_of_zero_le h0
  have e : bits .xor .i64 (n : Int) (-1) = bits .xor .i64 (-1) (n : Int) := by
    show IntKind.i64.wrap ((BitVec.ofInt 64 (n : Int) ^^^ BitVec.ofInt 64 (-1)).toNat : Int) = IntKind.i64.wrap ((BitVec.ofInt 64 (-1) ^^^ BitVec.ofInt 64 (n : Int)).toNat : Int)
    rw [BitVec.xor_comm]
  rw [e, i64_not n (by omega)]
  omega

theorem unfold_bits (n : Nat) (h : n < 18446744073709551616) :
    bits .xor .i64 (wrap64 ((n : Int) / 2)) (wrap64 (-wrap64 (bits .and .u64 (n : Int) 1))) = unfoldN n := by
  have e1 : wrap64 ((n : Int) / 2) = (n : Int) / 2 := by unfold wrap64; omega
  have e2 : bits .and .u64 (n : Int) 1 = ((n % 2 : Nat) : Int) := by
    rw [show (1 : Int) = ((1 : Nat) : Int) from rfl, u64_and_nat n 1 h (by omega), nat_mask1]
  rw [e1, e2]
  unfold unfoldN
  by_cases hm : n % 2 = 0
  · rw [if_pos hm, hm, show wrap64 (-wrap64 ((0 : Nat) : Int)) = 0 by decide, i64_xor_zero _ (by omega) (by omega)]
    omega
  · rw [if_neg hm, show n % 2 = 1 by omega, show wrap64 (-wrap64 ((1 : Nat) : Int)) = -1 by decide, i64_xor_ones _ (by omega) (by omega)]
    omega

theorem ref_pos (i : Int) (h0 : 0 ≤ i) (h1 : i ≤ 9223372036854775807) : IntKind.u64.wrap (2 * IntKind.u64.wrap i) = (foldN i : Int) := by
  simp only [IntKind.wrap_u64]; unfold foldN; rw [if_pos h0]; omega
theorem ref_neg (i : Int) (h0 : i < 0) (h1 : -9223372036854775808 ≤ i) : IntKind.u64.wrap (IntKind.u64.wrap (2 * IntKind.u64.wrap (wrap64 (-wrap64 (i + 1)))) + 1) = (foldN i : Int) := by
  rw [show wrap64 (i + 1) = i + 1 by unfold wrap64; omega, show wrap64 (-(i + 1)) = -(i + 1) by unfold wrap64; omega]
  simp only [IntKind.wrap_u64]; unfold foldN; rw [if_neg (by omega)]; omega
end Go.Proofs.Ytooliekmfbkopaa.Num
