/-
  Contracts of chapter 24: valid quads.
-/
import Derived.Test.YtnhhbpdjapccpaaC24
namespace Go.Proofs.Ytnhhbpdjapccpaa
open Go.RowKit

theorem quadB_1 {ax ay bx bY cx cy dx dy : Int} (h : spotB ax ay = false) : quadB ax ay bx bY cx cy dx dy = false := by unfold quadB; rw [h]; simp
theorem quadB_2 {ax ay bx bY cx cy dx dy : Int} (h : spotB bx bY = false) : quadB ax ay bx bY cx cy dx dy = false := by unfold quadB; rw [h]; simp
theorem quadB_3 {ax ay bx bY cx cy dx dy : Int} (h : spotB cx cy = false) : quadB ax ay bx bY cx cy dx dy = false := by unfold quadB; rw [h]; simp
theorem quadB_4 {ax ay bx bY cx cy dx dy : Int} (h : spotB dx dy = false) : quadB ax ay bx bY cx cy dx dy = false := by unfold quadB; rw [h]; simp
theorem quadB_ok {ax ay bx bY cx cy dx dy : Int} (h1 : spotB ax ay = true) (h2 : spotB bx bY = true) (h3 : spotB cx cy = true) (h4 : spotB dx dy = true) :
    quadB ax ay bx bY cx cy dx dy = (decide (0 < turnI ax ay bx bY cx cy) && decide (0 < turnI bx bY cx cy dx dy) && decide (0 < turnI cx cy dx dy ax ay) && decide (0 < turnI dx dy ax ay bx bY)) := by
  unfold quadB; rw [h1, h2, h3, h4]; simp
set_option maxHeartbeats 400000 in
theorem corners_any (ax ay bx bY cx cy dx dy : Int) (w : World) :
    Calls Try.prog 70 #[.agg #[.int .i64 ax, .int .i64 ay, .int .i64 bx, .int .i64 bY, .int .i64 cx, .int .i64 cy, .int .i64 dx, .int .i64 dy]] w fun e w' => e = .returned (.agg #[.int .i64 ax, .int .i64 ay, .int .i64 bx, .int .i64 bY, .int .i64 cx, .int .i64 cy, .int .i64 dx, .int .i64 dy]) ∧ Below w.heap.size w w' := by
  go_enter Try.func70, Try.ntmps70
  go_wp2
  go_returns
  exact ⟨rfl, by go_grown⟩
set_option maxRecDepth 100000 in
set_option maxHeartbeats 4000000 in
theorem sIsQuad_any (ax ay bx bY cx cy dx dy : Int) (w : World) :
    Calls Try.prog 55 #[.agg #[.int .i64 ax, .int .i64 ay, .int .i64 bx, .int .i64 bY, .int .i64 cx, .int .i64 cy, .int .i64 dx, .int .i64 dy]] w fun e w' => e = .returned (.bool (quadB ax ay bx bY cx cy dx dy)) ∧ Below w.heap.size w w' := by
  cases h1 : spotB ax ay
  · rw [quadB_1 h1]
    go_enter Try.func55, Try.ntmps55
    go_wp2_with (go_at_call 67; go_call (sIsSpot_any _ _ _) as e1 w1 ⟨rfl, hb1⟩; obtain ⟨hc1, hf1⟩ := bcell hb1; have hB1 : Below w.heap.size w w1 := (below_then (by go_grown) (by first | omega | (simp; done) | (simp; omega)) hb1); have hz1a : w.heap.size < w1.heap.size := (by have := hb1.size; first | omega | (simp at this; omega)))
    all_goals (go_ret; exact ⟨rfl, by (repeat (first | assumption | exact Below.refl _ _ | refine below_drewN' ?_ _ | refine Below.drew ?_ | refine Below.alloc ?_ (by first | (simp; done) | (simp; omega) | omega) _ | refine Below.setCell ?_ (by first | (simp; done) | (simp; omega) | omega) _))⟩)
  · cases h2 : spotB bx bY
    · rw [quadB_2 h2]
      go_enter Try.func55, Try.ntmps55
      go_wp2_with (go_at_call 67; go_call (sIsSpot_any _ _ _) as e1 w1 ⟨rfl, hb1⟩; obtain ⟨hc1, hf1⟩ := bcell hb1; have hB1 : Below w.heap.size w w1 := (below_then (by go_grown) (by first | omega | (simp; done) | (simp; omega)) hb1); have hz1a : w.heap.size < w1.heap.size := (by have := hb1.size; first | omega | (simp at this; omega)))
      all_goals (go_ret; exact ⟨rfl, by (repeat (first | assumption | exact Below.refl _ _ | refine below_drewN' ?_ _ | refine Below.drew ?_ | refine Below.alloc ?_ (by first | (simp; done) | (simp; omega) | omega) _ | refine Below.setCell ?_ (by first | (simp; done) | (simp; omega) | omega) _))⟩)
    · cases h3 : spotB cx cy
      · rw [quadB_3 h3]
        go_enter Try.func55, Try.ntmps55
        go_wp2_with (go_at_call 67; go_call (sIsSpot_any _ _ _) as e1 w1 ⟨rfl, hb1⟩; obtain ⟨hc1, hf1⟩ := bcell hb1; have hB1 : Below w.heap.size w w1 := (below_then (by go_grown) (by first | omega | (simp; done) | (simp; omega)) hb1); have hz1a : w.heap.size < w1.heap.size := (by have := hb1.size; first | omega | (simp at this; omega)))
        all_goals (go_ret; exact ⟨rfl, by (repeat (first | assumption | exact Below.refl _ _ | refine below_drewN' ?_ _ | refine Below.drew ?_ | refine Below.alloc ?_ (by first | (simp; done) | (simp; omega) | omega) _ | refine Below.setCell ?_ (by first | (simp; done) | (simp; omega) | omega) _))⟩)
      · cases h4 : spotB dx dy
        · rw [quadB_4 h4]
          go_enter Try.func55, Try.ntmps55
          go_wp2_with (go_at_call 67; go_call (sIsSpot_any _ _ _) as e1 w1 ⟨rfl, hb1⟩; obtain ⟨hc1, hf1⟩ := bcell hb1; have hB1 : Below w.heap.size w w1 := (below_then (by go_grown) (by first | omega | (simp; done) | (simp; omega)) hb1); have hz1a : w.heap.size < w1.heap.size := (by have := hb1.size; first | omega | (simp at this; omega)))
          all_goals (go_ret; exact ⟨rfl, by (repeat (first | assumption | exact Below.refl _ _ | refine below_drewN' ?_ _ | refine Below.drew ?_ | refine Below.alloc ?_ (by first | (simp; done) | (simp; omega) | omega) _ | refine Below.setCell ?_ (by first | (simp; done) | (simp; omega) | omega) _))⟩)
        · rw [quadB_ok h1 h2 h3 h4]
          have r1 := spotB_true h1
          have r2 := spotB_true h2
          have r3 := spotB_true h3
          have r4 := spotB_true h4
          have HT5 := Lib.hid (fun w => l24Turn_any ax ay bx bY cx cy w (by omega) (by omega) (by omega) (by omega) (by omega) (by omega) (by omega) (by omega) (by omega) (by omega) (by omega) (by omega))
          have HT6 := Lib.hid (fun w => l24Turn_any bx bY cx cy dx dy w (by omega) (by omega) (by omega) (by omega) (by omega) (by omega) (by omega) (by omega) (by omega) (by omega) (by omega) (by omega))
          have HT7 := Lib.hid (fun w => l24Turn_any cx cy dx dy ax ay w (by omega) (by omega) (by omega) (by omega) (by omega) (by omega) (by omega) (by omega) (by omega) (by omega) (by omega) (by omega))
          have HT8 := Lib.hid (fun w => l24Turn_any dx dy ax ay bx bY w (by omega) (by omega) (by omega) (by omega) (by omega) (by omega) (by omega) (by omega) (by omega) (by omega) (by omega) (by omega))
          clear r1 r2 r3 r4
          go_enter Try.func55, Try.ntmps55
          go_wp2_with first | (go_at_call 67; go_call (sIsSpot_any _ _ _) as e1 w1 ⟨rfl, hb1⟩; obtain ⟨hc1, hf1⟩ := bcell hb1; have hB1 : Below w.heap.size w w1 := (below_then (by go_grown) (by first | omega | (simp; done) | (simp; omega)) hb1); have hz1a : w.heap.size < w1.heap.size := (by have := hb1.size; first | omega | (simp at this; omega))) | (go_at_call 76; with_reducible refine (HT5.out _).mono ?_; rintro e5 w5 ⟨rfl, hb5⟩; obtain ⟨hc5, hf5⟩ := bcell hb5; have hB5 : Below w.heap.size w w5 := (below_then (by go_grown) (by first | omega | (simp; done) | (simp; omega)) hb5); have hz5a : w.heap.size < w5.heap.size := (by have := hb5.size; first | omega | (simp at this; omega))) | (go_at_call 76; with_reducible refine (HT6.out _).mono ?_; rintro e6 w6 ⟨rfl, hb6⟩; obtain ⟨hc6, hf6⟩ := bcell hb6; have hB6 : Below w.heap.size w w6 := (below_then (by go_grown) (by first | omega | (simp; done) | (simp; omega)) hb6); have hz6a : w.heap.size < w6.heap.size := (by have := hb6.size; first | omega | (simp at this; omega))) | (go_at_call 76; with_reducible refine (HT7.out _).mono ?_; rintro e7 w7 ⟨rfl, hb7⟩; obtain ⟨hc7, hf7⟩ := bcell hb7; have hB7 : Below w.heap.size w w7 := (below_then (by go_grown) (by first | omega | (simp; done) | (simp; omega)) hb7); have hz7a : w.heap.size < w7.heap.size := (by have := hb7.size; first | omega | (simp at this; omega))) | (go_at_call 76; with_reducible refine (HT8.out _).mono ?_; rintro e8 w8 ⟨rfl, hb8⟩; obtain ⟨hc8, hf8⟩ := bcell hb8; have hB8 : Below w.heap.size w w8 := (below_then (by go_grown) (by first | omega | (simp; done) | (simp; omega)) hb8); have hz8a : w.heap.size < w8.heap.size := (by have := hb8.size; first | omega | (simp at this; omega)))
          all_goals (go_ret; exact ⟨ret_bool (by clear HT5 HT6 HT7 HT8; simp [*] <;> omega), by (repeat (first | assumption | exact Below.refl _ _ | refine below_drewN' ?_ _ | refine Below.drew ?_ | refine Below.alloc ?_ (by first | (simp; done) | (simp; omega) | omega) _ | refine Below.setCell ?_ (by first | (simp; done) | (simp; omega) | omega) _))⟩)
end Go.Proofs.Ytnhhbpdjapccpaa
