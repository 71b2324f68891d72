/-
  Contracts of the small functions of chapter 1: ranges, absolute values.
-/
import Derived.Test.YtnhhbpdjapccpaaDoorRows
import Derived.Test.YtnhhbpdjapccpaaDoorMath
namespace Go.Proofs.YtnhhbpdjapccpaaDoor
open Go.RowKit

set_option maxHeartbeats 400000 in
theorem inRange_any (n l h : Int) (w : World) :
    Calls Tryd.prog 31 #[.int .i64 n, .int .i64 l, .int .i64 h] w fun e w' => e = .returned (.bool (inR n l h)) ∧ w = w' := by
  go_enter Tryd.func31, Tryd.ntmps31
  go_wp2
  all_goals (go_ret; exact ⟨ret_bool (by unfold inR; by_cases h1 : l ≤ n <;> by_cases h2 : n ≤ h <;> simp [h1, h2] <;> omega), rfl⟩)
set_option maxHeartbeats 400000 in
theorem l01In_any (n l h : Int) (w : World) :
    Calls Tryd.prog 33 #[.int .i64 n, .int .i64 l, .int .i64 h] w fun e w' => e = .returned (.bool (inR n l h)) ∧ w = w' := by
  go_enter Tryd.func33, Tryd.ntmps33
  go_wp2
  all_goals (go_ret; exact ⟨ret_bool (by unfold inR; by_cases h1 : l ≤ n <;> by_cases h2 : n ≤ h <;> simp [h1, h2] <;> omega), rfl⟩)
set_option maxHeartbeats 400000 in
theorem l01Abs_any (n : Int) (w : World) (h0 : -9223372036854775807 ≤ n) (h1 : n ≤ 9223372036854775807) :
    Calls Tryd.prog 47 #[.int .i64 n] w fun e w' => e = .returned (.int .i64 (n.natAbs : Int)) ∧ w = w' := by
  go_enter Tryd.func47, Tryd.ntmps47
  go_wp2
  all_goals (go_ret; exact ⟨ret_int (by omega), rfl⟩)
end Go.Proofs.YtnhhbpdjapccpaaDoor
