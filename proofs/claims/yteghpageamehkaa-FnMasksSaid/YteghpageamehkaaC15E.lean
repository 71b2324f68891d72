/-
  Contracts of chapter 15: the data cells of a size, or none.
-/
import Derived.Test.YteghpageamehkaaC15P
import Derived.Test.YteghpageamehkaaC14
import Derived.Test.YteghpageamehkaaLst
namespace Go.Proofs.Yteghpageamehkaa
set_option linter.unusedSimpArgs false
open Go.RowKit

def dpC (n : Int) : Int := if sizeB n then 0 else 2
def dpR (n : Int) : List (Int × Int) := if sizeB n then dataL n.toNat else []
theorem dataL_le {N : Nat} (h : N ≤ 41) : (dataL N).length ≤ 1640 := by
  have h1 := dpL_le (fun r c => !noD N r c) N ((N - 1) / 2)
  have h2 : (N - 1) / 2 * (2 * N) ≤ 20 * 82 := Nat.mul_le_mul (by omega) (by omega)
  unfold dataL; omega
theorem dpR_le (n : Int) : (dpR n).length ≤ 1640 := by
  unfold dpR
  cases hs : sizeB n
  · simp
  · obtain ⟨N, rfl, h1, h2, h3⟩ := sizeB_true hs
    simpa using dataL_le h2
end Go.Proofs.Yteghpageamehkaa
