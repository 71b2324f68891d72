/-
  Contracts of the small functions of chapter 1: ranges, absolute values.
-/
import Derived.Test.YtkdaodfhilhfgaaRows
import Derived.Test.YtkdaodfhilhfgaaMath
namespace Go.Proofs.Ytkdaodfhilhfgaa
open Go.RowKit

set_option maxHeartbeats 400000 in
theorem inRange_any (n l h : Int) (w : World) :
    Calls Try.prog 52 #[.int .i64 n, .int .i64 l, .int .i64 h] w fun e w' => e = .returned (.bool (inR n l h)) ∧ w = w' := by
  go_enter Try.func52, Try.ntmps52
  go_wp2
  all_goals (go_ret; exact ⟨ret_bool (by unfold inR; by_cases h1 : l ≤ n <;> by_cases h2 : n ≤ h <;> simp [h1, h2] <;> omega), rfl⟩)
set_option maxHeartbeats 400000 in
theorem l01In_any (n l h : Int) (w : World) :
    Calls Try.prog 37 #[.int .i64 n, .int .i64 l, .int .i64 h] w fun e w' => e = .returned (.bool (inR n l h)) ∧ w = w' := by
  go_enter Try.func37, Try.ntmps37
  go_wp2
  all_goals (go_ret; exact ⟨ret_bool (by unfold inR; by_cases h1 : l ≤ n <;> by_cases h2 : n ≤ h <;> simp [h1, h2] <;> omega), rfl⟩)
end Go.Proofs.Ytkdaodfhilhfgaa
