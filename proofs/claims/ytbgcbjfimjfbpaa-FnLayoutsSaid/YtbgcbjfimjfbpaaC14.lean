/-
  Contracts of chapter 14: which grids are valid, matrix sizes.
-/
import Derived.Test.YtbgcbjfimjfbpaaC01
import Derived.Test.YtbgcbjfimjfbpaaLst
namespace Go.Proofs.Ytbgcbjfimjfbpaa
set_option linter.unusedSimpArgs false
open Go.RowKit

set_option maxHeartbeats 400000 in
theorem isMatrixSize_any (n : Int) (w : World) : Calls Try.prog 62 #[.int .i64 n] w fun e w' => e = .returned (.bool (sizeB n)) ∧ w = w' := by
  cases h : inR n 17 41
  · go_enter Try.func62, Try.ntmps62
    go_wp2_with (go_at_call 60; refine (inRange_any _ _ _ _).mono ?_; rintro e w' ⟨rfl, rfl⟩)
    all_goals (go_ret; exact ⟨ret_bool (by simp [sizeB, h]), rfl⟩)
  · go_enter Try.func62, Try.ntmps62
    go_wp2_with (go_at_call 60; refine (inRange_any _ _ _ _).mono ?_; rintro e w' ⟨rfl, rfl⟩)
    all_goals (go_ret; exact ⟨ret_bool (by simp [sizeB, h]), rfl⟩)


end Go.Proofs.Ytbgcbjfimjfbpaa
