/-
  Contracts of chapter 26: samplings.
-/
import Derived.Test.YtflpllmbpfdnjaaC01
namespace Go.Proofs.Ytflpllmbpfdnjaa
open Go.RowKit

theorem mul_bd26 {a b A B : Int} (h1 : 0 ≤ a) (h2 : a ≤ A) (h3 : 0 ≤ b) (h4 : b ≤ B) : 0 ≤ a * b ∧ a * b ≤ A * B :=
  ⟨Int.mul_nonneg h1 h3, Int.mul_le_mul h2 h4 h3 (Int.le_trans h1 h2)⟩

/-- A valid sampling. -/
def isSamplingB (r c l m : Int) : Bool := inR r 1 3500 && inR c 1 3500 && decide (r * c ≤ 3500) && inR l 0 256 && inR m 0 256

set_option maxHeartbeats 400000 in
theorem IsSampling_any (r c l m : Int) (w : World) :
    Calls Try.prog 36 #[.agg #[.int .i64 r, .int .i64 c, .int .i64 l, .int .i64 m]] w fun e' w' =>
      e' = .returned (.bool (isSamplingB r c l m)) ∧ Below w.heap.size w w' := by
  rcases inR_cases r 1 3500 with ⟨e1, r1, r2⟩ | ⟨e1, _⟩
  · rcases inR_cases c 1 3500 with ⟨e2, c1, c2⟩ | ⟨e2, _⟩
    · obtain ⟨p1, p2⟩ := mul_bd26 (a := r) (b := c) (A := 3500) (B := 3500) (by omega) r2 (by omega) c2
      go_enter Try.func36, Try.ntmps36
      go_wp2_with (go_at_call 48; refine (inRange_any _ _ _ _).mono ?_; rintro e w' ⟨rfl, rfl⟩)
      all_goals (go_ret; exact ⟨ret_bool (by unfold isSamplingB; simp [*] <;> (intro h; omega)), by go_grown⟩)
    · go_enter Try.func36, Try.ntmps36
      go_wp2_with (go_at_call 48; refine (inRange_any _ _ _ _).mono ?_; rintro e w' ⟨rfl, rfl⟩)
      all_goals (go_ret; exact ⟨ret_bool (by unfold isSamplingB; simp [*] <;> (intro h; omega)), by go_grown⟩)
  · go_enter Try.func36, Try.ntmps36
    go_wp2_with (go_at_call 48; refine (inRange_any _ _ _ _).mono ?_; rintro e w' ⟨rfl, rfl⟩)
    all_goals (go_ret; exact ⟨ret_bool (by unfold isSamplingB; simp [*] <;> (intro h; omega)), by go_grown⟩)
set_option maxHeartbeats 400000 in
theorem sIsSampling_any (r c l m : Int) (w : World) :
    Calls Try.prog 33 #[.agg #[.int .i64 r, .int .i64 c, .int .i64 l, .int .i64 m]] w fun e' w' =>
      e' = .returned (.bool (isSamplingB r c l m)) ∧ Below w.heap.size w w' := by
  rcases inR_cases r 1 3500 with ⟨e1, r1, r2⟩ | ⟨e1, _⟩
  · rcases inR_cases c 1 3500 with ⟨e2, c1, c2⟩ | ⟨e2, _⟩
    · obtain ⟨p1, p2⟩ := mul_bd26 (a := r) (b := c) (A := 3500) (B := 3500) (by omega) r2 (by omega) c2
      go_enter Try.func33, Try.ntmps33
      go_wp2_with (go_at_call 44; refine (l01In_any _ _ _ _).mono ?_; rintro e w' ⟨rfl, rfl⟩)
      all_goals (go_ret; exact ⟨ret_bool (by unfold isSamplingB; simp [*] <;> (intro h; omega)), by go_grown⟩)
    · go_enter Try.func33, Try.ntmps33
      go_wp2_with (go_at_call 44; refine (l01In_any _ _ _ _).mono ?_; rintro e w' ⟨rfl, rfl⟩)
      all_goals (go_ret; exact ⟨ret_bool (by unfold isSamplingB; simp [*] <;> (intro h; omega)), by go_grown⟩)
  · go_enter Try.func33, Try.ntmps33
    go_wp2_with (go_at_call 44; refine (l01In_any _ _ _ _).mono ?_; rintro e w' ⟨rfl, rfl⟩)
    all_goals (go_ret; exact ⟨ret_bool (by unfold isSamplingB; simp [*] <;> (intro h; omega)), by go_grown⟩)
set_option maxHeartbeats 400000 in
theorem toSampling_any (r c l m : Int) (w : World) :
    Calls Try.prog 14 #[.agg #[.int .i64 r, .int .i64 c, .int .i64 l, .int .i64 m]] w fun e' w' =>
      e' = .returned (.agg #[.int .i64 r, .int .i64 c, .int .i64 l, .int .i64 m]) ∧ Below w.heap.size w w' := by
  go_enter Try.func14, Try.ntmps14
  go_wp2
  go_returns
  exact ⟨rfl, by go_grown⟩
end Go.Proofs.Ytflpllmbpfdnjaa
