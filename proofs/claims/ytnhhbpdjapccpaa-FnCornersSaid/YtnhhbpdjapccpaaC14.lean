/-
  Contracts of chapter 14: which grids are valid, matrix sizes.
-/
import Derived.Test.YtnhhbpdjapccpaaC01
import Derived.Test.YtnhhbpdjapccpaaLst
namespace Go.Proofs.Ytnhhbpdjapccpaa
set_option linter.unusedSimpArgs false
open Go.RowKit

set_option maxHeartbeats 400000 in
theorem isMatrixSize_any (n : Int) (w : World) : Calls Try.prog 65 #[.int .i64 n] w fun e w' => e = .returned (.bool (sizeB n)) ∧ w = w' := by
  cases h : inR n 17 41
  · go_enter Try.func65, Try.ntmps65
    go_wp2_with (go_at_call 42; refine (inRange_any _ _ _ _).mono ?_; rintro e w' ⟨rfl, rfl⟩)
    all_goals (go_ret; exact ⟨ret_bool (by simp [sizeB, h]), rfl⟩)
  · go_enter Try.func65, Try.ntmps65
    go_wp2_with (go_at_call 42; refine (inRange_any _ _ _ _).mono ?_; rintro e w' ⟨rfl, rfl⟩)
    all_goals (go_ret; exact ⟨ret_bool (by simp [sizeB, h]), rfl⟩)
set_option maxHeartbeats 400000 in
theorem l14Size_any (n : Int) (w : World) : Calls Try.prog 68 #[.int .i64 n] w fun e w' => e = .returned (.bool (sizeB n)) ∧ w = w' := by
  cases h : inR n 17 41
  · go_enter Try.func68, Try.ntmps68
    go_wp2_with (go_at_call 41; refine (l01In_any _ _ _ _).mono ?_; rintro e w' ⟨rfl, rfl⟩)
    all_goals (go_ret; exact ⟨ret_bool (by simp [sizeB, h]), rfl⟩)
  · go_enter Try.func68, Try.ntmps68
    go_wp2_with (go_at_call 41; refine (l01In_any _ _ _ _).mono ?_; rintro e w' ⟨rfl, rfl⟩)
    all_goals (go_ret; exact ⟨ret_bool (by simp [sizeB, h]), rfl⟩)


end Go.Proofs.Ytnhhbpdjapccpaa
