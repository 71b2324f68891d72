/-
  Contracts of chapter 20: which rasters are valid; the laws' own words on rasters.
-/
import Derived.Test.YtffcjmnldmjocaaC01
import Derived.Test.YtffcjmnldmjocaaLst
import Derived.Test.YtffcjmnldmjocaaArgG
namespace Go.Proofs.Ytffcjmnldmjocaa
set_option linter.unusedSimpArgs false
open Go.ChangeShapes Go.WideShapes Go.ChangeAt Go.RowKit Go.Deep

/-- May a raster have r rows and c columns? Is a raster valid? -/
def rszB (r c : Int) : Bool := inR r 1 400 && inR c 1 400 && decide (r * c ≤ 40000)
def rasB (r c : Int) (xs : List Int) : Bool := rszB r c && decide ((xs.length : Int) = r * c) && allIn 0 255 xs
theorem rszB_true {r c : Int} (h : rszB r c = true) : (1 ≤ r ∧ r ≤ 400) ∧ (1 ≤ c ∧ c ≤ 400) ∧ r * c ≤ 40000 := by
  simp only [rszB, Bool.and_eq_true, decide_eq_true_eq] at h
  exact ⟨inR_true h.1.1, inR_true h.1.2, h.2⟩
theorem rasB_true {r c : Int} {xs : List Int} (h : rasB r c xs = true) : 1 ≤ xs.length ∧ xs.length ≤ 40000 ∧ ∀ k, k < xs.length → 0 ≤ nth xs k ∧ nth xs k ≤ 255 := by
  simp only [rasB, Bool.and_eq_true, decide_eq_true_eq] at h
  obtain ⟨h1, h2, h3⟩ := rszB_true h.1.1
  have h4 := mul_bd1 h1.1 h2.1
  have h5 := h.1.2
  exact ⟨by omega, by omega, fun k hk => allIn_nth h.2 hk⟩
set_option maxHeartbeats 1000000 in
theorem isRasterSize_any (r c : Int) (w : World) : Calls Try.prog 63 #[.int .i64 r, .int .i64 c] w fun e w' => e = .returned (.bool (rszB r c)) ∧ w = w' := by
  cases h1 : inR r 1 400
  · go_enter Try.func63, Try.ntmps63
    go_wp2_with (go_at_call 32; refine (inRange_any _ _ _ _).mono ?_; rintro e w' ⟨rfl, rfl⟩)
    go_ret
    exact ⟨ret_bool (by simp [rszB, h1]), rfl⟩
  cases h2 : inR c 1 400
  · go_enter Try.func63, Try.ntmps63
    go_wp2_with (go_at_call 32; refine (inRange_any _ _ _ _).mono ?_; rintro e w' ⟨rfl, rfl⟩)
    go_ret
    exact ⟨ret_bool (by simp [rszB, h2]), rfl⟩
  have b1 := inR_true h1
  have b2 := inR_true h2
  have b3 := mul_bd (show 0 ≤ r by omega) b1.2 (show 0 ≤ c by omega) b2.2
  by_cases h3 : r * c ≤ 40000
  · go_enter Try.func63, Try.ntmps63
    go_wp2_with (go_at_call 32; refine (inRange_any _ _ _ _).mono ?_; rintro e w' ⟨rfl, rfl⟩)
    go_ret
    exact ⟨ret_bool (by simp [rszB, h1, h2, h3]), rfl⟩
  · go_enter Try.func63, Try.ntmps63
    go_wp2_with (go_at_call 32; refine (inRange_any _ _ _ _).mono ?_; rintro e w' ⟨rfl, rfl⟩)
    go_ret
    exact ⟨ret_bool (by simp [rszB, h1, h2, h3]), rfl⟩
set_option maxHeartbeats 1000000 in
theorem l20Size_any (r c : Int) (w : World) : Calls Try.prog 54 #[.int .i64 r, .int .i64 c] w fun e w' => e = .returned (.bool (rszB r c)) ∧ w = w' := by
  cases h1 : inR r 1 400
  · go_enter Try.func54, Try.ntmps54
    go_wp2_with (go_at_call 27; refine (l01In_any _ _ _ _).mono ?_; rintro e w' ⟨rfl, rfl⟩)
    go_ret
    exact ⟨ret_bool (by simp [rszB, h1]), rfl⟩
  cases h2 : inR c 1 400
  · go_enter Try.func54, Try.ntmps54
    go_wp2_with (go_at_call 27; refine (l01In_any _ _ _ _).mono ?_; rintro e w' ⟨rfl, rfl⟩)
    go_ret
    exact ⟨ret_bool (by simp [rszB, h2]), rfl⟩
  have b1 := inR_true h1
  have b2 := inR_true h2
  have b3 := mul_bd (show 0 ≤ r by omega) b1.2 (show 0 ≤ c by omega) b2.2
  by_cases h3 : r * c ≤ 40000
  · go_enter Try.func54, Try.ntmps54
    go_wp2_with (go_at_call 27; refine (l01In_any _ _ _ _).mono ?_; rintro e w' ⟨rfl, rfl⟩)
    go_ret
    exact ⟨ret_bool (by simp [rszB, h1, h2, h3]), rfl⟩
  · go_enter Try.func54, Try.ntmps54
    go_wp2_with (go_at_call 27; refine (l01In_any _ _ _ _).mono ?_; rintro e w' ⟨rfl, rfl⟩)
    go_ret
    exact ⟨ret_bool (by simp [rszB, h1, h2, h3]), rfl⟩
theorem l20Grey_any (n : Int) (w : World) : Calls Try.prog 28 #[.int .i64 n] w fun e w' => e = .returned (.bool (inR n 0 255)) ∧ w = w' := by
  cases h : inR n 0 255
  all_goals
    go_enter Try.func28, Try.ntmps28
    go_wp2_with (go_at_call 27; refine (l01In_any _ _ _ _).mono ?_; rintro e w' ⟨rfl, rfl⟩)
    go_ret
    exact ⟨rfl, rfl⟩
end Go.Proofs.Ytffcjmnldmjocaa
