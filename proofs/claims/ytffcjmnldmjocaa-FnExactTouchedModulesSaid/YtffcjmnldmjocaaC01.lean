/-
  Contracts of the small functions of chapter 1: ranges, absolute values.
-/
import Derived.Test.YtffcjmnldmjocaaRows
import Derived.Test.YtffcjmnldmjocaaMath
namespace Go.Proofs.Ytffcjmnldmjocaa
open Go.RowKit

set_option maxHeartbeats 400000 in
theorem inRange_any (n l h : Int) (w : World) :
    Calls Try.prog 32 #[.int .i64 n, .int .i64 l, .int .i64 h] w fun e w' => e = .returned (.bool (inR n l h)) ∧ w = w' := by
  go_enter Try.func32, Try.ntmps32
  go_wp2
  all_goals (go_ret; exact ⟨ret_bool (by unfold inR; by_cases h1 : l ≤ n <;> by_cases h2 : n ≤ h <;> simp [h1, h2] <;> omega), rfl⟩)
set_option maxHeartbeats 400000 in
theorem l01In_any (n l h : Int) (w : World) :
    Calls Try.prog 27 #[.int .i64 n, .int .i64 l, .int .i64 h] w fun e w' => e = .returned (.bool (inR n l h)) ∧ w = w' := by
  go_enter Try.func27, Try.ntmps27
  go_wp2
  all_goals (go_ret; exact ⟨ret_bool (by unfold inR; by_cases h1 : l ≤ n <;> by_cases h2 : n ≤ h <;> simp [h1, h2] <;> omega), rfl⟩)
end Go.Proofs.Ytffcjmnldmjocaa
