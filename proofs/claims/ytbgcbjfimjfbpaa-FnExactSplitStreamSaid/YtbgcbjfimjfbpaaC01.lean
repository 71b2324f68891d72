/-
  Contracts of the small functions of chapter 1: ranges, absolute values.
-/
import Derived.Test.YtbgcbjfimjfbpaaRows
import Derived.Test.YtbgcbjfimjfbpaaMath
namespace Go.Proofs.Ytbgcbjfimjfbpaa
open Go.RowKit

set_option maxHeartbeats 400000 in
theorem inRange_any (n l h : Int) (w : World) :
    Calls Try.prog 60 #[.int .i64 n, .int .i64 l, .int .i64 h] w fun e w' => e = .returned (.bool (inR n l h)) ∧ w = w' := by
  go_enter Try.func60, Try.ntmps60
  go_wp2
  all_goals (go_ret; exact ⟨ret_bool (by unfold inR; by_cases h1 : l ≤ n <;> by_cases h2 : n ≤ h <;> simp [h1, h2] <;> omega), rfl⟩)
set_option maxHeartbeats 400000 in
theorem l01In_any (n l h : Int) (w : World) :
    Calls Try.prog 47 #[.int .i64 n, .int .i64 l, .int .i64 h] w fun e w' => e = .returned (.bool (inR n l h)) ∧ w = w' := by
  go_enter Try.func47, Try.ntmps47
  go_wp2
  all_goals (go_ret; exact ⟨ret_bool (by unfold inR; by_cases h1 : l ≤ n <;> by_cases h2 : n ≤ h <;> simp [h1, h2] <;> omega), rfl⟩)
set_option maxHeartbeats 400000 in
theorem l01Abs_any (n : Int) (w : World) (h0 : -9223372036854775807 ≤ n) (h1 : n ≤ 9223372036854775807) :
    Calls Try.prog 126 #[.int .i64 n] w fun e w' => e = .returned (.int .i64 (n.natAbs : Int)) ∧ w = w' := by
  go_enter Try.func126, Try.ntmps126
  go_wp2
  all_goals (go_ret; exact ⟨ret_int (by omega), rfl⟩)
set_option maxHeartbeats 400000 in
theorem distance_any (n : Int) (w : World) (h0 : -9223372036854775807 ≤ n) (h1 : n ≤ 9223372036854775807) :
    Calls Try.prog 129 #[.int .i64 n] w fun e w' => e = .returned (.int .i64 (n.natAbs : Int)) ∧ w = w' := by
  go_enter Try.func129, Try.ntmps129
  go_wp2
  all_goals (go_ret; exact ⟨ret_int (by omega), rfl⟩)
end Go.Proofs.Ytbgcbjfimjfbpaa
