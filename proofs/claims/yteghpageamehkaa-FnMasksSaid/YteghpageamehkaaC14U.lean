/-
  Contracts of chapter 14: FixedGrid.
-/
import Derived.Test.YteghpageamehkaaC14I
import Derived.Test.YteghpageamehkaaC14T
namespace Go.Proofs.Yteghpageamehkaa
set_option linter.unusedSimpArgs false
open Go.RowKit

def fgN (n : Int) : Int := if sizeB n then n else 0
def fgC (n : Int) : Int := if sizeB n then 0 else 2
def fgL (n : Int) : List Int := if sizeB n then fixL n.toNat else []
theorem fgL_len (n : Int) : (fgL n).length ≤ 1681 := by
  unfold fgL
  split
  · rename_i h
    obtain ⟨N, rfl, h1, h2, h3⟩ := sizeB_true h
    rw [fixL_len]
    exact Nat.mul_le_mul (by omega) (by omega)
  · simp


end Go.Proofs.Yteghpageamehkaa
