/-
  Plain mathematics: the bit operations of the model on numbers that are not negative. No program in sight.
-/
import Derived.Test.YtkipaefhnmfebaaOnes
import Derived.Laws.BitsAllLaws
import Derived.Laws.Bits64b
import Derived.IntWalk
namespace Go.Proofs.Ytkipaefhnmfebaa
open Go.RowKit

theorem ofInt64 (a : Nat) (ha : a < 4611686018427387904) : (BitVec.ofInt 64 (a : Int)).toNat = a := by
  rw [BitVec.ofInt_natCast, BitVec.toNat_ofNat]; exact Nat.mod_eq_of_lt (by omega)
theorem i64_xor (a b : Nat) (ha : a < 4611686018427387904) (hb : b < 4611686018427387904) : bits .xor .i64 (a : Int) (b : Int) = ((a ^^^ b : Nat) : Int) := by
  have hx : a ^^^ b < 2 ^ 62 := Nat.xor_lt_two_pow (by omega) (by omega)
  show IntKind.i64.wrap ((BitVec.ofInt 64 (a : Int) ^^^ BitVec.ofInt 64 (b : Int)).toNat : Int) = _
  rw [BitVec.toNat_xor, ofInt64 a ha, ofInt64 b hb]
  exact IntWalk.i64_in _ (by omega)
theorem i64_and (a b : Nat) (ha : a < 4611686018427387904) (hb : b < 4611686018427387904) : bits .and .i64 (a : Int) (b : Int) = ((a &&& b : Nat) : Int) := by
  have hx : a &&& b ≤ a := Nat.and_le_left
  show IntKind.i64.wrap ((BitVec.ofInt 64 (a : Int) &&& BitVec.ofInt 64 (b : Int)).toNat : Int) = _
  rw [BitVec.toNat_and, ofInt64 a ha, ofInt64 b hb]
  exact IntWalk.i64_in _ (by omega)
theorem i64_or (a b : Nat) (ha : a < 4611686018427387904) (hb : b < 4611686018427387904) : bits .or .i64 (a : Int) (b : Int) = ((a ||| b : Nat) : Int) := by
  have hx : a ||| b < 2 ^ 62 := Nat.or_lt_two_pow (by omega) (by omega)
  show IntKind.i64.wrap ((BitVec.ofInt 64 (a : Int) ||| BitVec.ofInt 64 (b : Int)).toNat : Int) = _
  rw [BitVec.toNat_or, ofInt64 a ha, ofInt64 b hb]
  exact IntWalk.i64_in _ (by omega)
/-- The lowest bit of a number, shifted. -/
theorem i64_bit (r j : Nat) (hr : r < 4611686018427387904) : bits .and .i64 ((r : Int) / 2 ^ j) 1 = ((r / 2 ^ j % 2 : Nat) : Int) := by
  have e : ((r : Int) / 2 ^ j) = ((r / 2 ^ j : Nat) : Int) := by simp
  rw [e, show (1 : Int) = ((1 : Nat) : Int) from rfl, i64_and _ _ (Nat.lt_of_le_of_lt (Nat.div_le_self _ _) hr) (by decide), nat_mask1]
theorem i64_bit_yes {r j : Nat} (hr : r < 4611686018427387904) (h : r / 2 ^ j % 2 = 1) : (bits .and .i64 ((r : Int) / 2 ^ j) 1 == 1) = true := by
  rw [i64_bit r j hr, h]; rfl
theorem i64_bit_no {r j : Nat} (hr : r < 4611686018427387904) (h : ¬ r / 2 ^ j % 2 = 1) : (bits .and .i64 ((r : Int) / 2 ^ j) 1 == 1) = false := by
  rw [i64_bit r j hr, show r / 2 ^ j % 2 = 0 by omega]; rfl
theorem wrap64_in {n : Int} (h : -9223372036854775808 ≤ n ∧ n ≤ 9223372036854775807) : wrap64 n = n := by
  unfold wrap64; omega
end Go.Proofs.Ytkipaefhnmfebaa
