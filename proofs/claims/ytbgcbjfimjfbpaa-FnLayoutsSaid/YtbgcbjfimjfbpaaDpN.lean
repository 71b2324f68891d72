/-
  Plain mathematics: how many data cells a matrix size has. No program in sight.
-/
import Derived.Test.YtbgcbjfimjfbpaaDp
namespace Go.Proofs.Ytbgcbjfimjfbpaa
open Go.RowKit

def negB (x : Int) : Bool := decide (x < 0)
/-- How many data cells there are. -/
def countOk : Bool := sizes.all fun N => (dataF N).length + 30 == cnt negB (fixL N)
theorem countOk_true : countOk = true := by decide +kernel
theorem data_count {N : Nat} (h : 17 ≤ N ∧ N ≤ 41 ∧ N % 4 = 1) : (dataL N).length + 30 = cnt negB (fixL N) := by
  rw [data_F h]
  have h1 := List.all_eq_true.1 countOk_true N (size_mem h)
  simpa using h1
end Go.Proofs.Ytbgcbjfimjfbpaa
