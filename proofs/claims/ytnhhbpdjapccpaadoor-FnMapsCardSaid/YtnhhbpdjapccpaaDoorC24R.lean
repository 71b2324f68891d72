/-
  Contracts of chapter 24: the program's valid quads.
-/
import Derived.Test.YtnhhbpdjapccpaaDoorC24Q
namespace Go.Proofs.YtnhhbpdjapccpaaDoor
open Go.RowKit

set_option maxRecDepth 100000 in
set_option maxHeartbeats 4000000 in
theorem IsQuad_any (ax ay bx bY cx cy dx dy : Int) (w : World) :
    Calls Tryd.prog 12 #[.agg #[.int .i64 ax, .int .i64 ay, .int .i64 bx, .int .i64 bY, .int .i64 cx, .int .i64 cy, .int .i64 dx, .int .i64 dy]] w fun e w' => e = .returned (.bool (quadB ax ay bx bY cx cy dx dy)) ∧ Below w.heap.size w w' := by
  cases h1 : spotB ax ay
  · rw [quadB_1 h1]
    have hx0 : ∀ w : World, (Instr.index 51 (.agg #[.int .i64 ax, .int .i64 ay, .int .i64 bx, .int .i64 bY, .int .i64 cx, .int .i64 cy, .int .i64 dx, .int .i64 dy]) (.int .i64 0)).run Tryd.prog w = .ok (.agg #[.int .i64 ax, .int .i64 ay]) w := fun _ => by kernel_rfl
    have hx1 : ∀ w : World, (Instr.index 51 (.agg #[.int .i64 ax, .int .i64 ay, .int .i64 bx, .int .i64 bY, .int .i64 cx, .int .i64 cy, .int .i64 dx, .int .i64 dy]) (.int .i64 1)).run Tryd.prog w = .ok (.agg #[.int .i64 bx, .int .i64 bY]) w := fun _ => by kernel_rfl
    have hx2 : ∀ w : World, (Instr.index 51 (.agg #[.int .i64 ax, .int .i64 ay, .int .i64 bx, .int .i64 bY, .int .i64 cx, .int .i64 cy, .int .i64 dx, .int .i64 dy]) (.int .i64 2)).run Tryd.prog w = .ok (.agg #[.int .i64 cx, .int .i64 cy]) w := fun _ => by kernel_rfl
    have hx3 : ∀ w : World, (Instr.index 51 (.agg #[.int .i64 ax, .int .i64 ay, .int .i64 bx, .int .i64 bY, .int .i64 cx, .int .i64 cy, .int .i64 dx, .int .i64 dy]) (.int .i64 3)).run Tryd.prog w = .ok (.agg #[.int .i64 dx, .int .i64 dy]) w := fun _ => by kernel_rfl
    go_enter Tryd.func12, Tryd.ntmps12
    go_wp2_with (go_at_call 26; go_call (corners_any _ _ _ _ _ _ _ _ _) as e1 w1 ⟨rfl, hb1⟩; obtain ⟨hc1, hf1⟩ := bcell hb1; have hB1 : Below w.heap.size w w1 := (below_then (by first | (go_grown; done) | (repeat (first | (with_reducible assumption) | (with_reducible exact Below.refl _ _) | (with_reducible refine below_drewN' ?_ _) | (with_reducible refine Below.drew ?_) | ((with_reducible refine Below.alloc ?_ ?_ _); rotate_left; focus (first | (simp; done) | (simp; omega) | omega)) | ((with_reducible refine Below.setCell ?_ ?_ _); rotate_left; focus (first | (simp; done) | (simp; omega) | omega))))) (by first | omega | (simp; done) | (simp; omega)) hb1); have hz1a : w.heap.size < w1.heap.size := (by have := hb1.size; first | omega | (simp at this; omega)))
    refine wp_loop_rounds 5 ?_
    repeat any_goals (rw [rounds_succ]; go_wp2_with (go_at_call 27; go_call (IsSpot_any _ _ _) as e2 w2 ⟨rfl, hb2⟩; obtain ⟨hc2, hf2⟩ := bcell hb2; have hB2 : Below w.heap.size w w2 := (below_then (by first | (go_grown; done) | (repeat (first | (with_reducible assumption) | (with_reducible exact Below.refl _ _) | (with_reducible refine below_drewN' ?_ _) | (with_reducible refine Below.drew ?_) | ((with_reducible refine Below.alloc ?_ ?_ _); rotate_left; focus (first | (simp; done) | (simp; omega) | omega)) | ((with_reducible refine Below.setCell ?_ ?_ _); rotate_left; focus (first | (simp; done) | (simp; omega) | omega))))) (by first | omega | (simp; done) | (simp; omega)) hb2); have hz2a : w.heap.size < w2.heap.size := (by have := hb2.size; first | omega | (simp at this; omega)); have hz2b : w1.heap.size < w2.heap.size := (by have := hb2.size; first | omega | (simp at this; omega))))
    all_goals (go_ret; exact ⟨rfl, by (repeat (first | (with_reducible assumption) | (with_reducible exact Below.refl _ _) | (with_reducible refine below_drewN' ?_ _) | (with_reducible refine Below.drew ?_) | ((with_reducible refine Below.alloc ?_ ?_ _); rotate_left; focus (first | (simp; done) | (simp; omega) | omega)) | ((with_reducible refine Below.setCell ?_ ?_ _); rotate_left; focus (first | (simp; done) | (simp; omega) | omega))))⟩)
  · cases h2 : spotB bx bY
    · rw [quadB_2 h2]
      have hx0 : ∀ w : World, (Instr.index 51 (.agg #[.int .i64 ax, .int .i64 ay, .int .i64 bx, .int .i64 bY, .int .i64 cx, .int .i64 cy, .int .i64 dx, .int .i64 dy]) (.int .i64 0)).run Tryd.prog w = .ok (.agg #[.int .i64 ax, .int .i64 ay]) w := fun _ => by kernel_rfl
      have hx1 : ∀ w : World, (Instr.index 51 (.agg #[.int .i64 ax, .int .i64 ay, .int .i64 bx, .int .i64 bY, .int .i64 cx, .int .i64 cy, .int .i64 dx, .int .i64 dy]) (.int .i64 1)).run Tryd.prog w = .ok (.agg #[.int .i64 bx, .int .i64 bY]) w := fun _ => by kernel_rfl
      have hx2 : ∀ w : World, (Instr.index 51 (.agg #[.int .i64 ax, .int .i64 ay, .int .i64 bx, .int .i64 bY, .int .i64 cx, .int .i64 cy, .int .i64 dx, .int .i64 dy]) (.int .i64 2)).run Tryd.prog w = .ok (.agg #[.int .i64 cx, .int .i64 cy]) w := fun _ => by kernel_rfl
      have hx3 : ∀ w : World, (Instr.index 51 (.agg #[.int .i64 ax, .int .i64 ay, .int .i64 bx, .int .i64 bY, .int .i64 cx, .int .i64 cy, .int .i64 dx, .int .i64 dy]) (.int .i64 3)).run Tryd.prog w = .ok (.agg #[.int .i64 dx, .int .i64 dy]) w := fun _ => by kernel_rfl
      go_enter Tryd.func12, Tryd.ntmps12
      go_wp2_with (go_at_call 26; go_call (corners_any _ _ _ _ _ _ _ _ _) as e1 w1 ⟨rfl, hb1⟩; obtain ⟨hc1, hf1⟩ := bcell hb1; have hB1 : Below w.heap.size w w1 := (below_then (by first | (go_grown; done) | (repeat (first | (with_reducible assumption) | (with_reducible exact Below.refl _ _) | (with_reducible refine below_drewN' ?_ _) | (with_reducible refine Below.drew ?_) | ((with_reducible refine Below.alloc ?_ ?_ _); rotate_left; focus (first | (simp; done) | (simp; omega) | omega)) | ((with_reducible refine Below.setCell ?_ ?_ _); rotate_left; focus (first | (simp; done) | (simp; omega) | omega))))) (by first | omega | (simp; done) | (simp; omega)) hb1); have hz1a : w.heap.size < w1.heap.size := (by have := hb1.size; first | omega | (simp at this; omega)))
      refine wp_loop_rounds 5 ?_
      repeat any_goals (rw [rounds_succ]; go_wp2_with (go_at_call 27; go_call (IsSpot_any _ _ _) as e2 w2 ⟨rfl, hb2⟩; obtain ⟨hc2, hf2⟩ := bcell hb2; have hB2 : Below w.heap.size w w2 := (below_then (by first | (go_grown; done) | (repeat (first | (with_reducible assumption) | (with_reducible exact Below.refl _ _) | (with_reducible refine below_drewN' ?_ _) | (with_reducible refine Below.drew ?_) | ((with_reducible refine Below.alloc ?_ ?_ _); rotate_left; focus (first | (simp; done) | (simp; omega) | omega)) | ((with_reducible refine Below.setCell ?_ ?_ _); rotate_left; focus (first | (simp; done) | (simp; omega) | omega))))) (by first | omega | (simp; done) | (simp; omega)) hb2); have hz2a : w.heap.size < w2.heap.size := (by have := hb2.size; first | omega | (simp at this; omega)); have hz2b : w1.heap.size < w2.heap.size := (by have := hb2.size; first | omega | (simp at this; omega))))
      all_goals (go_ret; exact ⟨rfl, by (repeat (first | (with_reducible assumption) | (with_reducible exact Below.refl _ _) | (with_reducible refine below_drewN' ?_ _) | (with_reducible refine Below.drew ?_) | ((with_reducible refine Below.alloc ?_ ?_ _); rotate_left; focus (first | (simp; done) | (simp; omega) | omega)) | ((with_reducible refine Below.setCell ?_ ?_ _); rotate_left; focus (first | (simp; done) | (simp; omega) | omega))))⟩)
    · cases h3 : spotB cx cy
      · rw [quadB_3 h3]
        have hx0 : ∀ w : World, (Instr.index 51 (.agg #[.int .i64 ax, .int .i64 ay, .int .i64 bx, .int .i64 bY, .int .i64 cx, .int .i64 cy, .int .i64 dx, .int .i64 dy]) (.int .i64 0)).run Tryd.prog w = .ok (.agg #[.int .i64 ax, .int .i64 ay]) w := fun _ => by kernel_rfl
        have hx1 : ∀ w : World, (Instr.index 51 (.agg #[.int .i64 ax, .int .i64 ay, .int .i64 bx, .int .i64 bY, .int .i64 cx, .int .i64 cy, .int .i64 dx, .int .i64 dy]) (.int .i64 1)).run Tryd.prog w = .ok (.agg #[.int .i64 bx, .int .i64 bY]) w := fun _ => by kernel_rfl
        have hx2 : ∀ w : World, (Instr.index 51 (.agg #[.int .i64 ax, .int .i64 ay, .int .i64 bx, .int .i64 bY, .int .i64 cx, .int .i64 cy, .int .i64 dx, .int .i64 dy]) (.int .i64 2)).run Tryd.prog w = .ok (.agg #[.int .i64 cx, .int .i64 cy]) w := fun _ => by kernel_rfl
        have hx3 : ∀ w : World, (Instr.index 51 (.agg #[.int .i64 ax, .int .i64 ay, .int .i64 bx, .int .i64 bY, .int .i64 cx, .int .i64 cy, .int .i64 dx, .int .i64 dy]) (.int .i64 3)).run Tryd.prog w = .ok (.agg #[.int .i64 dx, .int .i64 dy]) w := fun _ => by kernel_rfl
        go_enter Tryd.func12, Tryd.ntmps12
        go_wp2_with (go_at_call 26; go_call (corners_any _ _ _ _ _ _ _ _ _) as e1 w1 ⟨rfl, hb1⟩; obtain ⟨hc1, hf1⟩ := bcell hb1; have hB1 : Below w.heap.size w w1 := (below_then (by first | (go_grown; done) | (repeat (first | (with_reducible assumption) | (with_reducible exact Below.refl _ _) | (with_reducible refine below_drewN' ?_ _) | (with_reducible refine Below.drew ?_) | ((with_reducible refine Below.alloc ?_ ?_ _); rotate_left; focus (first | (simp; done) | (simp; omega) | omega)) | ((with_reducible refine Below.setCell ?_ ?_ _); rotate_left; focus (first | (simp; done) | (simp; omega) | omega))))) (by first | omega | (simp; done) | (simp; omega)) hb1); have hz1a : w.heap.size < w1.heap.size := (by have := hb1.size; first | omega | (simp at this; omega)))
        refine wp_loop_rounds 5 ?_
        repeat any_goals (rw [rounds_succ]; go_wp2_with (go_at_call 27; go_call (IsSpot_any _ _ _) as e2 w2 ⟨rfl, hb2⟩; obtain ⟨hc2, hf2⟩ := bcell hb2; have hB2 : Below w.heap.size w w2 := (below_then (by first | (go_grown; done) | (repeat (first | (with_reducible assumption) | (with_reducible exact Below.refl _ _) | (with_reducible refine below_drewN' ?_ _) | (with_reducible refine Below.drew ?_) | ((with_reducible refine Below.alloc ?_ ?_ _); rotate_left; focus (first | (simp; done) | (simp; omega) | omega)) | ((with_reducible refine Below.setCell ?_ ?_ _); rotate_left; focus (first | (simp; done) | (simp; omega) | omega))))) (by first | omega | (simp; done) | (simp; omega)) hb2); have hz2a : w.heap.size < w2.heap.size := (by have := hb2.size; first | omega | (simp at this; omega)); have hz2b : w1.heap.size < w2.heap.size := (by have := hb2.size; first | omega | (simp at this; omega))))
        all_goals (go_ret; exact ⟨rfl, by (repeat (first | (with_reducible assumption) | (with_reducible exact Below.refl _ _) | (with_reducible refine below_drewN' ?_ _) | (with_reducible refine Below.drew ?_) | ((with_reducible refine Below.alloc ?_ ?_ _); rotate_left; focus (first | (simp; done) | (simp; omega) | omega)) | ((with_reducible refine Below.setCell ?_ ?_ _); rotate_left; focus (first | (simp; done) | (simp; omega) | omega))))⟩)
      · cases h4 : spotB dx dy
        · rw [quadB_4 h4]
          have hx0 : ∀ w : World, (Instr.index 51 (.agg #[.int .i64 ax, .int .i64 ay, .int .i64 bx, .int .i64 bY, .int .i64 cx, .int .i64 cy, .int .i64 dx, .int .i64 dy]) (.int .i64 0)).run Tryd.prog w = .ok (.agg #[.int .i64 ax, .int .i64 ay]) w := fun _ => by kernel_rfl
          have hx1 : ∀ w : World, (Instr.index 51 (.agg #[.int .i64 ax, .int .i64 ay, .int .i64 bx, .int .i64 bY, .int .i64 cx, .int .i64 cy, .int .i64 dx, .int .i64 dy]) (.int .i64 1)).run Tryd.prog w = .ok (.agg #[.int .i64 bx, .int .i64 bY]) w := fun _ => by kernel_rfl
          have hx2 : ∀ w : World, (Instr.index 51 (.agg #[.int .i64 ax, .int .i64 ay, .int .i64 bx, .int .i64 bY, .int .i64 cx, .int .i64 cy, .int .i64 dx, .int .i64 dy]) (.int .i64 2)).run Tryd.prog w = .ok (.agg #[.int .i64 cx, .int .i64 cy]) w := fun _ => by kernel_rfl
          have hx3 : ∀ w : World, (Instr.index 51 (.agg #[.int .i64 ax, .int .i64 ay, .int .i64 bx, .int .i64 bY, .int .i64 cx, .int .i64 cy, .int .i64 dx, .int .i64 dy]) (.int .i64 3)).run Tryd.prog w = .ok (.agg #[.int .i64 dx, .int .i64 dy]) w := fun _ => by kernel_rfl
          go_enter Tryd.func12, Tryd.ntmps12
          go_wp2_with (go_at_call 26; go_call (corners_any _ _ _ _ _ _ _ _ _) as e1 w1 ⟨rfl, hb1⟩; obtain ⟨hc1, hf1⟩ := bcell hb1; have hB1 : Below w.heap.size w w1 := (below_then (by first | (go_grown; done) | (repeat (first | (with_reducible assumption) | (with_reducible exact Below.refl _ _) | (with_reducible refine below_drewN' ?_ _) | (with_reducible refine Below.drew ?_) | ((with_reducible refine Below.alloc ?_ ?_ _); rotate_left; focus (first | (simp; done) | (simp; omega) | omega)) | ((with_reducible refine Below.setCell ?_ ?_ _); rotate_left; focus (first | (simp; done) | (simp; omega) | omega))))) (by first | omega | (simp; done) | (simp; omega)) hb1); have hz1a : w.heap.size < w1.heap.size := (by have := hb1.size; first | omega | (simp at this; omega)))
          refine wp_loop_rounds 5 ?_
          repeat any_goals (rw [rounds_succ]; go_wp2_with (go_at_call 27; go_call (IsSpot_any _ _ _) as e2 w2 ⟨rfl, hb2⟩; obtain ⟨hc2, hf2⟩ := bcell hb2; have hB2 : Below w.heap.size w w2 := (below_then (by first | (go_grown; done) | (repeat (first | (with_reducible assumption) | (with_reducible exact Below.refl _ _) | (with_reducible refine below_drewN' ?_ _) | (with_reducible refine Below.drew ?_) | ((with_reducible refine Below.alloc ?_ ?_ _); rotate_left; focus (first | (simp; done) | (simp; omega) | omega)) | ((with_reducible refine Below.setCell ?_ ?_ _); rotate_left; focus (first | (simp; done) | (simp; omega) | omega))))) (by first | omega | (simp; done) | (simp; omega)) hb2); have hz2a : w.heap.size < w2.heap.size := (by have := hb2.size; first | omega | (simp at this; omega)); have hz2b : w1.heap.size < w2.heap.size := (by have := hb2.size; first | omega | (simp at this; omega))))
          all_goals (go_ret; exact ⟨rfl, by (repeat (first | (with_reducible assumption) | (with_reducible exact Below.refl _ _) | (with_reducible refine below_drewN' ?_ _) | (with_reducible refine Below.drew ?_) | ((with_reducible refine Below.alloc ?_ ?_ _); rotate_left; focus (first | (simp; done) | (simp; omega) | omega)) | ((with_reducible refine Below.setCell ?_ ?_ _); rotate_left; focus (first | (simp; done) | (simp; omega) | omega))))⟩)
        · have r1 := spotB_true h1
          have r2 := spotB_true h2
          have r3 := spotB_true h3
          have r4 := spotB_true h4
          have HT5 := Lib.hid (fun w => turn_any ax ay bx bY cx cy w (by omega) (by omega) (by omega) (by omega) (by omega) (by omega) (by omega) (by omega) (by omega) (by omega) (by omega) (by omega))
          have HT6 := Lib.hid (fun w => turn_any bx bY cx cy dx dy w (by omega) (by omega) (by omega) (by omega) (by omega) (by omega) (by omega) (by omega) (by omega) (by omega) (by omega) (by omega))
          have HT7 := Lib.hid (fun w => turn_any cx cy dx dy ax ay w (by omega) (by omega) (by omega) (by omega) (by omega) (by omega) (by omega) (by omega) (by omega) (by omega) (by omega) (by omega))
          have HT8 := Lib.hid (fun w => turn_any dx dy ax ay bx bY w (by omega) (by omega) (by omega) (by omega) (by omega) (by omega) (by omega) (by omega) (by omega) (by omega) (by omega) (by omega))
          clear r1 r2 r3 r4
          have hx0 : ∀ w : World, (Instr.index 51 (.agg #[.int .i64 ax, .int .i64 ay, .int .i64 bx, .int .i64 bY, .int .i64 cx, .int .i64 cy, .int .i64 dx, .int .i64 dy]) (.int .i64 0)).run Tryd.prog w = .ok (.agg #[.int .i64 ax, .int .i64 ay]) w := fun _ => by kernel_rfl
          have hx1 : ∀ w : World, (Instr.index 51 (.agg #[.int .i64 ax, .int .i64 ay, .int .i64 bx, .int .i64 bY, .int .i64 cx, .int .i64 cy, .int .i64 dx, .int .i64 dy]) (.int .i64 1)).run Tryd.prog w = .ok (.agg #[.int .i64 bx, .int .i64 bY]) w := fun _ => by kernel_rfl
          have hx2 : ∀ w : World, (Instr.index 51 (.agg #[.int .i64 ax, .int .i64 ay, .int .i64 bx, .int .i64 bY, .int .i64 cx, .int .i64 cy, .int .i64 dx, .int .i64 dy]) (.int .i64 2)).run Tryd.prog w = .ok (.agg #[.int .i64 cx, .int .i64 cy]) w := fun _ => by kernel_rfl
          have hx3 : ∀ w : World, (Instr.index 51 (.agg #[.int .i64 ax, .int .i64 ay, .int .i64 bx, .int .i64 bY, .int .i64 cx, .int .i64 cy, .int .i64 dx, .int .i64 dy]) (.int .i64 3)).run Tryd.prog w = .ok (.agg #[.int .i64 dx, .int .i64 dy]) w := fun _ => by kernel_rfl
          go_enter Tryd.func12, Tryd.ntmps12
          go_wp2_with (go_at_call 26; go_call (corners_any _ _ _ _ _ _ _ _ _) as e1 w1 ⟨rfl, hb1⟩; obtain ⟨hc1, hf1⟩ := bcell hb1; have hB1 : Below w.heap.size w w1 := (below_then (by first | (go_grown; done) | (repeat (first | (with_reducible assumption) | (with_reducible exact Below.refl _ _) | (with_reducible refine below_drewN' ?_ _) | (with_reducible refine Below.drew ?_) | ((with_reducible refine Below.alloc ?_ ?_ _); rotate_left; focus (first | (simp; done) | (simp; omega) | omega)) | ((with_reducible refine Below.setCell ?_ ?_ _); rotate_left; focus (first | (simp; done) | (simp; omega) | omega))))) (by first | omega | (simp; done) | (simp; omega)) hb1); have hz1a : w.heap.size < w1.heap.size := (by have := hb1.size; first | omega | (simp at this; omega)))
          refine wp_loop_rounds 5 ?_
          repeat any_goals (rw [rounds_succ]; go_wp2_with (go_at_call 27; go_call (IsSpot_any _ _ _) as e2 w2 ⟨rfl, hb2⟩; obtain ⟨hc2, hf2⟩ := bcell hb2; have hB2 : Below w.heap.size w w2 := (below_then (by first | (go_grown; done) | (repeat (first | (with_reducible assumption) | (with_reducible exact Below.refl _ _) | (with_reducible refine below_drewN' ?_ _) | (with_reducible refine Below.drew ?_) | ((with_reducible refine Below.alloc ?_ ?_ _); rotate_left; focus (first | (simp; done) | (simp; omega) | omega)) | ((with_reducible refine Below.setCell ?_ ?_ _); rotate_left; focus (first | (simp; done) | (simp; omega) | omega))))) (by first | omega | (simp; done) | (simp; omega)) hb2); have hz2a : w.heap.size < w2.heap.size := (by have := hb2.size; first | omega | (simp at this; omega)); have hz2b : w1.heap.size < w2.heap.size := (by have := hb2.size; first | omega | (simp at this; omega)); have hk2a : w2.cell? ⟨w1.heap.size, 0, none⟩ = some (.int .i64 ax) := (hc2 _ _ (by first | (simp; done) | omega | (simp; omega))).trans (by first | assumption | (go_simp; done) | (go_simp; assumption)); have hk2b : w2.cell? ⟨w1.heap.size, 1, none⟩ = some (.int .i64 ay) := (hc2 _ _ (by first | (simp; done) | omega | (simp; omega))).trans (by first | assumption | (go_simp; done) | (go_simp; assumption)); have hk2c : w2.cell? ⟨w1.heap.size, 2, none⟩ = some (.int .i64 bx) := (hc2 _ _ (by first | (simp; done) | omega | (simp; omega))).trans (by first | assumption | (go_simp; done) | (go_simp; assumption)); have hk2d : w2.cell? ⟨w1.heap.size, 3, none⟩ = some (.int .i64 bY) := (hc2 _ _ (by first | (simp; done) | omega | (simp; omega))).trans (by first | assumption | (go_simp; done) | (go_simp; assumption)); have hk2e : w2.cell? ⟨w1.heap.size, 4, none⟩ = some (.int .i64 cx) := (hc2 _ _ (by first | (simp; done) | omega | (simp; omega))).trans (by first | assumption | (go_simp; done) | (go_simp; assumption)); have hk2f : w2.cell? ⟨w1.heap.size, 5, none⟩ = some (.int .i64 cy) := (hc2 _ _ (by first | (simp; done) | omega | (simp; omega))).trans (by first | assumption | (go_simp; done) | (go_simp; assumption)); have hk2g : w2.cell? ⟨w1.heap.size, 6, none⟩ = some (.int .i64 dx) := (hc2 _ _ (by first | (simp; done) | omega | (simp; omega))).trans (by first | assumption | (go_simp; done) | (go_simp; assumption)); have hk2h : w2.cell? ⟨w1.heap.size, 7, none⟩ = some (.int .i64 dy) := (hc2 _ _ (by first | (simp; done) | omega | (simp; omega))).trans (by first | assumption | (go_simp; done) | (go_simp; assumption))))
          clear hx0 hx1 hx2 hx3
          go_loopw [17] (fun i wr => ∃ z : Int, 0 ≤ z ∧ z ≤ 4 ∧ i = .int .i64 z ∧ Hid ((1 ≤ z → 0 < turnI ax ay bx bY cx cy) ∧ (2 ≤ z → 0 < turnI bx bY cx cy dx dy) ∧ (3 ≤ z → 0 < turnI cx cy dx dy ax ay) ∧ (4 ≤ z → 0 < turnI dx dy ax ay bx bY)) ∧ w.heap.size < wr.heap.size ∧ w1.heap.size < wr.heap.size ∧ Below w.heap.size w wr ∧ wr.cell? ⟨w1.heap.size, 0, none⟩ = some (.int .i64 ax) ∧ wr.cell? ⟨w1.heap.size, 1, none⟩ = some (.int .i64 ay) ∧ wr.cell? ⟨w1.heap.size, 2, none⟩ = some (.int .i64 bx) ∧ wr.cell? ⟨w1.heap.size, 3, none⟩ = some (.int .i64 bY) ∧ wr.cell? ⟨w1.heap.size, 4, none⟩ = some (.int .i64 cx) ∧ wr.cell? ⟨w1.heap.size, 5, none⟩ = some (.int .i64 cy) ∧ wr.cell? ⟨w1.heap.size, 6, none⟩ = some (.int .i64 dx) ∧ wr.cell? ⟨w1.heap.size, 7, none⟩ = some (.int .i64 dy)) (fun i _ => 4 - (intOf i).toNat)
          case atStart => exact ⟨0, by omega, by omega, rfl, ⟨fun h => absurd h (by omega), fun h => absurd h (by omega), fun h => absurd h (by omega), fun h => absurd h (by omega)⟩, by omega, by omega, hB2, hk2a, hk2b, hk2c, hk2d, hk2e, hk2f, hk2g, hk2h⟩
          case round =>
            obtain ⟨z, z0, z4, rfl, HH, hs1, hs2, hBr, hq0, hq1, hq2, hq3, hq4, hq5, hq6, hq7⟩ := hrel
            clear hb2 hc2 hf2 hB2 hz2a hz2b hk2a hk2b hk2c hk2d hk2e hk2f hk2g hk2h hb1 hc1 hf1 hB1 hz1a
            have e1 : IntKind.i64.wrap 1 = 1 := by decide
            have e2 : IntKind.i64.wrap 2 = 2 := by decide
            have e3 : IntKind.i64.wrap 3 = 3 := by decide
            have e4 : IntKind.i64.wrap 4 = 4 := by decide
            have e5 : IntKind.i64.wrap 5 = 5 := by decide
            have m1 : (1 : Int).tmod 4 = 1 := by decide
            have m2 : (2 : Int).tmod 4 = 2 := by decide
            have m3 : (3 : Int).tmod 4 = 3 := by decide
            have m4 : (4 : Int).tmod 4 = 0 := by decide
            have m5 : (5 : Int).tmod 4 = 1 := by decide
            rcases (show z = 0 ∨ z = 1 ∨ z = 2 ∨ z = 3 ∨ z = 4 by omega) with rfl | rfl | rfl | rfl | rfl
            · by_cases ht : 0 < turnI ax ay bx bY cx cy
              · go_wp2_with fail
                refine wp_region_qat [] 15 [] (by kernel_rfl) (by kernel_rfl) ?_
                intro hbc
                simp only [List.take_succ_cons, List.take_zero, List.drop_succ_cons, List.drop_zero]
                repeat (first
                  | refine wpQ_pass rfl ?_
                  | (refine wpQ_step rfl (fun K hK => ?_)
                     go_simp
                     first
                       | (refine hK _ ?_; clear hK K)
                       | (apply Exists.intro
                          refine ⟨fun z => ?_, ?_⟩
                          focus (first | (go_at_call 28; exact HT5.out _))
                          refine hK _ ?_
                          clear hK K)))
                refine wpQ_nil ⟨?_, ?_⟩
                · exact rfl
                intro  w3 hb3 hF3
                clear hbc
                obtain ⟨hc3, hf3⟩ := bcell hb3
                have hB3 : Below w.heap.size w w3 := below_then (by first | (go_grown; done) | (repeat (first | (with_reducible assumption) | (with_reducible exact Below.refl _ _) | (with_reducible refine below_drewN' ?_ _) | (with_reducible refine Below.drew ?_) | ((with_reducible refine Below.alloc ?_ ?_ _); rotate_left; focus (first | (simp; done) | (simp; omega) | omega)) | ((with_reducible refine Below.setCell ?_ ?_ _); rotate_left; focus (first | (simp; done) | (simp; omega) | omega))))) (by first | (simp; done) | (simp; omega) | omega) hb3
                have hz3a : w.heap.size < w3.heap.size := (by have := hb3.size; first | omega | (simp at this; omega))
                have hz3b : w1.heap.size < w3.heap.size := (by have := hb3.size; first | omega | (simp at this; omega))
                clear hF3
                try simp only [Act.put, List.setIfInBounds_toArray, List.set_cons_succ, List.set_cons_zero]
                have hk3a : w3.cell? ⟨w1.heap.size, 0, none⟩ = some (.int .i64 ax) := (hc3 _ _ (by omega)).trans hq0
                have hk3b : w3.cell? ⟨w1.heap.size, 1, none⟩ = some (.int .i64 ay) := (hc3 _ _ (by omega)).trans hq1
                have hk3c : w3.cell? ⟨w1.heap.size, 2, none⟩ = some (.int .i64 bx) := (hc3 _ _ (by omega)).trans hq2
                have hk3d : w3.cell? ⟨w1.heap.size, 3, none⟩ = some (.int .i64 bY) := (hc3 _ _ (by omega)).trans hq3
                have hk3e : w3.cell? ⟨w1.heap.size, 4, none⟩ = some (.int .i64 cx) := (hc3 _ _ (by omega)).trans hq4
                have hk3f : w3.cell? ⟨w1.heap.size, 5, none⟩ = some (.int .i64 cy) := (hc3 _ _ (by omega)).trans hq5
                have hk3g : w3.cell? ⟨w1.heap.size, 6, none⟩ = some (.int .i64 dx) := (hc3 _ _ (by omega)).trans hq6
                have hk3h : w3.cell? ⟨w1.heap.size, 7, none⟩ = some (.int .i64 dy) := (hc3 _ _ (by omega)).trans hq7
                go_wp2_with fail
                go_roundw
                case rel => exact ⟨1, by omega, by omega, by first | rfl | go_num, ⟨fun _ => ht, fun h => absurd h (by omega), fun h => absurd h (by omega), fun h => absurd h (by omega)⟩, by omega, by omega, hB3, hk3a, hk3b, hk3c, hk3d, hk3e, hk3f, hk3g, hk3h⟩
                case measure => simp [intOf]
              · have hn : quadB ax ay bx bY cx cy dx dy = false := by rw [quadB_ok h1 h2 h3 h4]; simp; omega
                have HN := Lib.hid hn
                clear hn
                go_wp2_with fail
                refine wp_region_qat [] 15 [] (by kernel_rfl) (by kernel_rfl) ?_
                intro hbc
                simp only [List.take_succ_cons, List.take_zero, List.drop_succ_cons, List.drop_zero]
                repeat (first
                  | refine wpQ_pass rfl ?_
                  | (refine wpQ_step rfl (fun K hK => ?_)
                     go_simp
                     first
                       | (refine hK _ ?_; clear hK K)
                       | (apply Exists.intro
                          refine ⟨fun z => ?_, ?_⟩
                          focus (first | (go_at_call 28; exact HT5.out _))
                          refine hK _ ?_
                          clear hK K)))
                refine wpQ_nil ⟨?_, ?_⟩
                · exact rfl
                intro  w3 hb3 hF3
                clear hbc
                obtain ⟨hc3, hf3⟩ := bcell hb3
                have hB3 : Below w.heap.size w w3 := below_then (by first | (go_grown; done) | (repeat (first | (with_reducible assumption) | (with_reducible exact Below.refl _ _) | (with_reducible refine below_drewN' ?_ _) | (with_reducible refine Below.drew ?_) | ((with_reducible refine Below.alloc ?_ ?_ _); rotate_left; focus (first | (simp; done) | (simp; omega) | omega)) | ((with_reducible refine Below.setCell ?_ ?_ _); rotate_left; focus (first | (simp; done) | (simp; omega) | omega))))) (by first | (simp; done) | (simp; omega) | omega) hb3
                have hz3a : w.heap.size < w3.heap.size := (by have := hb3.size; first | omega | (simp at this; omega))
                have hz3b : w1.heap.size < w3.heap.size := (by have := hb3.size; first | omega | (simp at this; omega))
                clear hF3
                try simp only [Act.put, List.setIfInBounds_toArray, List.set_cons_succ, List.set_cons_zero]
                go_wp2_with fail
                go_ret
                exact ⟨ret_bool HN.out.symm, by (repeat (first | (with_reducible assumption) | (with_reducible exact Below.refl _ _) | (with_reducible refine below_drewN' ?_ _) | (with_reducible refine Below.drew ?_) | ((with_reducible refine Below.alloc ?_ ?_ _); rotate_left; focus (first | (simp; done) | (simp; omega) | omega)) | ((with_reducible refine Below.setCell ?_ ?_ _); rotate_left; focus (first | (simp; done) | (simp; omega) | omega))))⟩
            · by_cases ht : 0 < turnI bx bY cx cy dx dy
              · go_wp2_with fail
                refine wp_region_qat [] 15 [] (by kernel_rfl) (by kernel_rfl) ?_
                intro hbc
                simp only [List.take_succ_cons, List.take_zero, List.drop_succ_cons, List.drop_zero]
                repeat (first
                  | refine wpQ_pass rfl ?_
                  | (refine wpQ_step rfl (fun K hK => ?_)
                     go_simp
                     first
                       | (refine hK _ ?_; clear hK K)
                       | (apply Exists.intro
                          refine ⟨fun z => ?_, ?_⟩
                          focus (first | (go_at_call 28; exact HT6.out _))
                          refine hK _ ?_
                          clear hK K)))
                refine wpQ_nil ⟨?_, ?_⟩
                · exact rfl
                intro  w3 hb3 hF3
                clear hbc
                obtain ⟨hc3, hf3⟩ := bcell hb3
                have hB3 : Below w.heap.size w w3 := below_then (by first | (go_grown; done) | (repeat (first | (with_reducible assumption) | (with_reducible exact Below.refl _ _) | (with_reducible refine below_drewN' ?_ _) | (with_reducible refine Below.drew ?_) | ((with_reducible refine Below.alloc ?_ ?_ _); rotate_left; focus (first | (simp; done) | (simp; omega) | omega)) | ((with_reducible refine Below.setCell ?_ ?_ _); rotate_left; focus (first | (simp; done) | (simp; omega) | omega))))) (by first | (simp; done) | (simp; omega) | omega) hb3
                have hz3a : w.heap.size < w3.heap.size := (by have := hb3.size; first | omega | (simp at this; omega))
                have hz3b : w1.heap.size < w3.heap.size := (by have := hb3.size; first | omega | (simp at this; omega))
                clear hF3
                try simp only [Act.put, List.setIfInBounds_toArray, List.set_cons_succ, List.set_cons_zero]
                have hk3a : w3.cell? ⟨w1.heap.size, 0, none⟩ = some (.int .i64 ax) := (hc3 _ _ (by omega)).trans hq0
                have hk3b : w3.cell? ⟨w1.heap.size, 1, none⟩ = some (.int .i64 ay) := (hc3 _ _ (by omega)).trans hq1
                have hk3c : w3.cell? ⟨w1.heap.size, 2, none⟩ = some (.int .i64 bx) := (hc3 _ _ (by omega)).trans hq2
                have hk3d : w3.cell? ⟨w1.heap.size, 3, none⟩ = some (.int .i64 bY) := (hc3 _ _ (by omega)).trans hq3
                have hk3e : w3.cell? ⟨w1.heap.size, 4, none⟩ = some (.int .i64 cx) := (hc3 _ _ (by omega)).trans hq4
                have hk3f : w3.cell? ⟨w1.heap.size, 5, none⟩ = some (.int .i64 cy) := (hc3 _ _ (by omega)).trans hq5
                have hk3g : w3.cell? ⟨w1.heap.size, 6, none⟩ = some (.int .i64 dx) := (hc3 _ _ (by omega)).trans hq6
                have hk3h : w3.cell? ⟨w1.heap.size, 7, none⟩ = some (.int .i64 dy) := (hc3 _ _ (by omega)).trans hq7
                go_wp2_with fail
                go_roundw
                case rel => exact ⟨2, by omega, by omega, by first | rfl | go_num, ⟨fun _ => HH.out.1 (by omega), fun _ => ht, fun h => absurd h (by omega), fun h => absurd h (by omega)⟩, by omega, by omega, hB3, hk3a, hk3b, hk3c, hk3d, hk3e, hk3f, hk3g, hk3h⟩
                case measure => simp [intOf]
              · have hn : quadB ax ay bx bY cx cy dx dy = false := by rw [quadB_ok h1 h2 h3 h4]; simp; omega
                have HN := Lib.hid hn
                clear hn
                go_wp2_with fail
                refine wp_region_qat [] 15 [] (by kernel_rfl) (by kernel_rfl) ?_
                intro hbc
                simp only [List.take_succ_cons, List.take_zero, List.drop_succ_cons, List.drop_zero]
                repeat (first
                  | refine wpQ_pass rfl ?_
                  | (refine wpQ_step rfl (fun K hK => ?_)
                     go_simp
                     first
                       | (refine hK _ ?_; clear hK K)
                       | (apply Exists.intro
                          refine ⟨fun z => ?_, ?_⟩
                          focus (first | (go_at_call 28; exact HT6.out _))
                          refine hK _ ?_
                          clear hK K)))
                refine wpQ_nil ⟨?_, ?_⟩
                · exact rfl
                intro  w3 hb3 hF3
                clear hbc
                obtain ⟨hc3, hf3⟩ := bcell hb3
                have hB3 : Below w.heap.size w w3 := below_then (by first | (go_grown; done) | (repeat (first | (with_reducible assumption) | (with_reducible exact Below.refl _ _) | (with_reducible refine below_drewN' ?_ _) | (with_reducible refine Below.drew ?_) | ((with_reducible refine Below.alloc ?_ ?_ _); rotate_left; focus (first | (simp; done) | (simp; omega) | omega)) | ((with_reducible refine Below.setCell ?_ ?_ _); rotate_left; focus (first | (simp; done) | (simp; omega) | omega))))) (by first | (simp; done) | (simp; omega) | omega) hb3
                have hz3a : w.heap.size < w3.heap.size := (by have := hb3.size; first | omega | (simp at this; omega))
                have hz3b : w1.heap.size < w3.heap.size := (by have := hb3.size; first | omega | (simp at this; omega))
                clear hF3
                try simp only [Act.put, List.setIfInBounds_toArray, List.set_cons_succ, List.set_cons_zero]
                go_wp2_with fail
                go_ret
                exact ⟨ret_bool HN.out.symm, by (repeat (first | (with_reducible assumption) | (with_reducible exact Below.refl _ _) | (with_reducible refine below_drewN' ?_ _) | (with_reducible refine Below.drew ?_) | ((with_reducible refine Below.alloc ?_ ?_ _); rotate_left; focus (first | (simp; done) | (simp; omega) | omega)) | ((with_reducible refine Below.setCell ?_ ?_ _); rotate_left; focus (first | (simp; done) | (simp; omega) | omega))))⟩
            · by_cases ht : 0 < turnI cx cy dx dy ax ay
              · go_wp2_with fail
                refine wp_region_qat [] 15 [] (by kernel_rfl) (by kernel_rfl) ?_
                intro hbc
                simp only [List.take_succ_cons, List.take_zero, List.drop_succ_cons, List.drop_zero]
                repeat (first
                  | refine wpQ_pass rfl ?_
                  | (refine wpQ_step rfl (fun K hK => ?_)
                     go_simp
                     first
                       | (refine hK _ ?_; clear hK K)
                       | (apply Exists.intro
                          refine ⟨fun z => ?_, ?_⟩
                          focus (first | (go_at_call 28; exact HT7.out _))
                          refine hK _ ?_
                          clear hK K)))
                refine wpQ_nil ⟨?_, ?_⟩
                · exact rfl
                intro  w3 hb3 hF3
                clear hbc
                obtain ⟨hc3, hf3⟩ := bcell hb3
                have hB3 : Below w.heap.size w w3 := below_then (by first | (go_grown; done) | (repeat (first | (with_reducible assumption) | (with_reducible exact Below.refl _ _) | (with_reducible refine below_drewN' ?_ _) | (with_reducible refine Below.drew ?_) | ((with_reducible refine Below.alloc ?_ ?_ _); rotate_left; focus (first | (simp; done) | (simp; omega) | omega)) | ((with_reducible refine Below.setCell ?_ ?_ _); rotate_left; focus (first | (simp; done) | (simp; omega) | omega))))) (by first | (simp; done) | (simp; omega) | omega) hb3
                have hz3a : w.heap.size < w3.heap.size := (by have := hb3.size; first | omega | (simp at this; omega))
                have hz3b : w1.heap.size < w3.heap.size := (by have := hb3.size; first | omega | (simp at this; omega))
                clear hF3
                try simp only [Act.put, List.setIfInBounds_toArray, List.set_cons_succ, List.set_cons_zero]
                have hk3a : w3.cell? ⟨w1.heap.size, 0, none⟩ = some (.int .i64 ax) := (hc3 _ _ (by omega)).trans hq0
                have hk3b : w3.cell? ⟨w1.heap.size, 1, none⟩ = some (.int .i64 ay) := (hc3 _ _ (by omega)).trans hq1
                have hk3c : w3.cell? ⟨w1.heap.size, 2, none⟩ = some (.int .i64 bx) := (hc3 _ _ (by omega)).trans hq2
                have hk3d : w3.cell? ⟨w1.heap.size, 3, none⟩ = some (.int .i64 bY) := (hc3 _ _ (by omega)).trans hq3
                have hk3e : w3.cell? ⟨w1.heap.size, 4, none⟩ = some (.int .i64 cx) := (hc3 _ _ (by omega)).trans hq4
                have hk3f : w3.cell? ⟨w1.heap.size, 5, none⟩ = some (.int .i64 cy) := (hc3 _ _ (by omega)).trans hq5
                have hk3g : w3.cell? ⟨w1.heap.size, 6, none⟩ = some (.int .i64 dx) := (hc3 _ _ (by omega)).trans hq6
                have hk3h : w3.cell? ⟨w1.heap.size, 7, none⟩ = some (.int .i64 dy) := (hc3 _ _ (by omega)).trans hq7
                go_wp2_with fail
                go_roundw
                case rel => exact ⟨3, by omega, by omega, by first | rfl | go_num, ⟨fun _ => HH.out.1 (by omega), fun _ => HH.out.2.1 (by omega), fun _ => ht, fun h => absurd h (by omega)⟩, by omega, by omega, hB3, hk3a, hk3b, hk3c, hk3d, hk3e, hk3f, hk3g, hk3h⟩
                case measure => simp [intOf]
              · have hn : quadB ax ay bx bY cx cy dx dy = false := by rw [quadB_ok h1 h2 h3 h4]; simp; omega
                have HN := Lib.hid hn
                clear hn
                go_wp2_with fail
                refine wp_region_qat [] 15 [] (by kernel_rfl) (by kernel_rfl) ?_
                intro hbc
                simp only [List.take_succ_cons, List.take_zero, List.drop_succ_cons, List.drop_zero]
                repeat (first
                  | refine wpQ_pass rfl ?_
                  | (refine wpQ_step rfl (fun K hK => ?_)
                     go_simp
                     first
                       | (refine hK _ ?_; clear hK K)
                       | (apply Exists.intro
                          refine ⟨fun z => ?_, ?_⟩
                          focus (first | (go_at_call 28; exact HT7.out _))
                          refine hK _ ?_
                          clear hK K)))
                refine wpQ_nil ⟨?_, ?_⟩
                · exact rfl
                intro  w3 hb3 hF3
                clear hbc
                obtain ⟨hc3, hf3⟩ := bcell hb3
                have hB3 : Below w.heap.size w w3 := below_then (by first | (go_grown; done) | (repeat (first | (with_reducible assumption) | (with_reducible exact Below.refl _ _) | (with_reducible refine below_drewN' ?_ _) | (with_reducible refine Below.drew ?_) | ((with_reducible refine Below.alloc ?_ ?_ _); rotate_left; focus (first | (simp; done) | (simp; omega) | omega)) | ((with_reducible refine Below.setCell ?_ ?_ _); rotate_left; focus (first | (simp; done) | (simp; omega) | omega))))) (by first | (simp; done) | (simp; omega) | omega) hb3
                have hz3a : w.heap.size < w3.heap.size := (by have := hb3.size; first | omega | (simp at this; omega))
                have hz3b : w1.heap.size < w3.heap.size := (by have := hb3.size; first | omega | (simp at this; omega))
                clear hF3
                try simp only [Act.put, List.setIfInBounds_toArray, List.set_cons_succ, List.set_cons_zero]
                go_wp2_with fail
                go_ret
                exact ⟨ret_bool HN.out.symm, by (repeat (first | (with_reducible assumption) | (with_reducible exact Below.refl _ _) | (with_reducible refine below_drewN' ?_ _) | (with_reducible refine Below.drew ?_) | ((with_reducible refine Below.alloc ?_ ?_ _); rotate_left; focus (first | (simp; done) | (simp; omega) | omega)) | ((with_reducible refine Below.setCell ?_ ?_ _); rotate_left; focus (first | (simp; done) | (simp; omega) | omega))))⟩
            · by_cases ht : 0 < turnI dx dy ax ay bx bY
              · go_wp2_with fail
                refine wp_region_qat [] 15 [] (by kernel_rfl) (by kernel_rfl) ?_
                intro hbc
                simp only [List.take_succ_cons, List.take_zero, List.drop_succ_cons, List.drop_zero]
                repeat (first
                  | refine wpQ_pass rfl ?_
                  | (refine wpQ_step rfl (fun K hK => ?_)
                     go_simp
                     first
                       | (refine hK _ ?_; clear hK K)
                       | (apply Exists.intro
                          refine ⟨fun z => ?_, ?_⟩
                          focus (first | (go_at_call 28; exact HT8.out _))
                          refine hK _ ?_
                          clear hK K)))
                refine wpQ_nil ⟨?_, ?_⟩
                · exact rfl
                intro  w3 hb3 hF3
                clear hbc
                obtain ⟨hc3, hf3⟩ := bcell hb3
                have hB3 : Below w.heap.size w w3 := below_then (by first | (go_grown; done) | (repeat (first | (with_reducible assumption) | (with_reducible exact Below.refl _ _) | (with_reducible refine below_drewN' ?_ _) | (with_reducible refine Below.drew ?_) | ((with_reducible refine Below.alloc ?_ ?_ _); rotate_left; focus (first | (simp; done) | (simp; omega) | omega)) | ((with_reducible refine Below.setCell ?_ ?_ _); rotate_left; focus (first | (simp; done) | (simp; omega) | omega))))) (by first | (simp; done) | (simp; omega) | omega) hb3
                have hz3a : w.heap.size < w3.heap.size := (by have := hb3.size; first | omega | (simp at this; omega))
                have hz3b : w1.heap.size < w3.heap.size := (by have := hb3.size; first | omega | (simp at this; omega))
                clear hF3
                try simp only [Act.put, List.setIfInBounds_toArray, List.set_cons_succ, List.set_cons_zero]
                have hk3a : w3.cell? ⟨w1.heap.size, 0, none⟩ = some (.int .i64 ax) := (hc3 _ _ (by omega)).trans hq0
                have hk3b : w3.cell? ⟨w1.heap.size, 1, none⟩ = some (.int .i64 ay) := (hc3 _ _ (by omega)).trans hq1
                have hk3c : w3.cell? ⟨w1.heap.size, 2, none⟩ = some (.int .i64 bx) := (hc3 _ _ (by omega)).trans hq2
                have hk3d : w3.cell? ⟨w1.heap.size, 3, none⟩ = some (.int .i64 bY) := (hc3 _ _ (by omega)).trans hq3
                have hk3e : w3.cell? ⟨w1.heap.size, 4, none⟩ = some (.int .i64 cx) := (hc3 _ _ (by omega)).trans hq4
                have hk3f : w3.cell? ⟨w1.heap.size, 5, none⟩ = some (.int .i64 cy) := (hc3 _ _ (by omega)).trans hq5
                have hk3g : w3.cell? ⟨w1.heap.size, 6, none⟩ = some (.int .i64 dx) := (hc3 _ _ (by omega)).trans hq6
                have hk3h : w3.cell? ⟨w1.heap.size, 7, none⟩ = some (.int .i64 dy) := (hc3 _ _ (by omega)).trans hq7
                go_wp2_with fail
                go_roundw
                case rel => exact ⟨4, by omega, by omega, by first | rfl | go_num, ⟨fun _ => HH.out.1 (by omega), fun _ => HH.out.2.1 (by omega), fun _ => HH.out.2.2.1 (by omega), fun _ => ht⟩, by omega, by omega, hB3, hk3a, hk3b, hk3c, hk3d, hk3e, hk3f, hk3g, hk3h⟩
                case measure => simp [intOf]
              · have hn : quadB ax ay bx bY cx cy dx dy = false := by rw [quadB_ok h1 h2 h3 h4]; simp; omega
                have HN := Lib.hid hn
                clear hn
                go_wp2_with fail
                refine wp_region_qat [] 15 [] (by kernel_rfl) (by kernel_rfl) ?_
                intro hbc
                simp only [List.take_succ_cons, List.take_zero, List.drop_succ_cons, List.drop_zero]
                repeat (first
                  | refine wpQ_pass rfl ?_
                  | (refine wpQ_step rfl (fun K hK => ?_)
                     go_simp
                     first
                       | (refine hK _ ?_; clear hK K)
                       | (apply Exists.intro
                          refine ⟨fun z => ?_, ?_⟩
                          focus (first | (go_at_call 28; exact HT8.out _))
                          refine hK _ ?_
                          clear hK K)))
                refine wpQ_nil ⟨?_, ?_⟩
                · exact rfl
                intro  w3 hb3 hF3
                clear hbc
                obtain ⟨hc3, hf3⟩ := bcell hb3
                have hB3 : Below w.heap.size w w3 := below_then (by first | (go_grown; done) | (repeat (first | (with_reducible assumption) | (with_reducible exact Below.refl _ _) | (with_reducible refine below_drewN' ?_ _) | (with_reducible refine Below.drew ?_) | ((with_reducible refine Below.alloc ?_ ?_ _); rotate_left; focus (first | (simp; done) | (simp; omega) | omega)) | ((with_reducible refine Below.setCell ?_ ?_ _); rotate_left; focus (first | (simp; done) | (simp; omega) | omega))))) (by first | (simp; done) | (simp; omega) | omega) hb3
                have hz3a : w.heap.size < w3.heap.size := (by have := hb3.size; first | omega | (simp at this; omega))
                have hz3b : w1.heap.size < w3.heap.size := (by have := hb3.size; first | omega | (simp at this; omega))
                clear hF3
                try simp only [Act.put, List.setIfInBounds_toArray, List.set_cons_succ, List.set_cons_zero]
                go_wp2_with fail
                go_ret
                exact ⟨ret_bool HN.out.symm, by (repeat (first | (with_reducible assumption) | (with_reducible exact Below.refl _ _) | (with_reducible refine below_drewN' ?_ _) | (with_reducible refine Below.drew ?_) | ((with_reducible refine Below.alloc ?_ ?_ _); rotate_left; focus (first | (simp; done) | (simp; omega) | omega)) | ((with_reducible refine Below.setCell ?_ ?_ _); rotate_left; focus (first | (simp; done) | (simp; omega) | omega))))⟩
            · have hn : quadB ax ay bx bY cx cy dx dy = true := by rw [quadB_ok h1 h2 h3 h4]; have := HH.out; simp; exact ⟨⟨⟨this.1 (by omega), this.2.1 (by omega)⟩, this.2.2.1 (by omega)⟩, this.2.2.2 (by omega)⟩
              have HN := Lib.hid hn
              clear hn
              go_wp2_with fail
              go_ret
              exact ⟨ret_bool HN.out.symm, by (repeat (first | (with_reducible assumption) | (with_reducible exact Below.refl _ _) | (with_reducible refine below_drewN' ?_ _) | (with_reducible refine Below.drew ?_) | ((with_reducible refine Below.alloc ?_ ?_ _); rotate_left; focus (first | (simp; done) | (simp; omega) | omega)) | ((with_reducible refine Below.setCell ?_ ?_ _); rotate_left; focus (first | (simp; done) | (simp; omega) | omega))))⟩
end Go.Proofs.YtnhhbpdjapccpaaDoor
