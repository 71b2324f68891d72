/-
  Contracts of chapter 25: the map of a quad, valid or not.
-/
import Derived.Test.YtnhhbpdjapccpaaDoorC25V
import Derived.Test.YtnhhbpdjapccpaaDoorC24R
namespace Go.Proofs.YtnhhbpdjapccpaaDoor
open Go.RowKit

def mqL (ax ay bx bY cx cy dx dy : Int) : List Int := if quadB ax ay bx bY cx cy dx dy then redL (quadE ax ay bx bY dx dy (ax - bx + cx - dx) (ay - bY + cy - dy) (bx - cx) (bY - cy) (dx - cx) (dy - cy)) else [0, 0, 0, 0, 0, 0, 0, 0, 0]
def mqC (ax ay bx bY cx cy dx dy : Int) : Int := if quadB ax ay bx bY cx cy dx dy then 0 else 1
theorem mq_no {ax ay bx bY cx cy dx dy : Int} (h : quadB ax ay bx bY cx cy dx dy = false) : mqC ax ay bx bY cx cy dx dy = 1 ∧ mqL ax ay bx bY cx cy dx dy = [0, 0, 0, 0, 0, 0, 0, 0, 0] := by unfold mqC mqL; simp [h]
theorem mq_yes {ax ay bx bY cx cy dx dy : Int} (h : quadB ax ay bx bY cx cy dx dy = true) : mqC ax ay bx bY cx cy dx dy = 0 ∧ mqL ax ay bx bY cx cy dx dy = redL (quadE ax ay bx bY dx dy (ax - bx + cx - dx) (ay - bY + cy - dy) (bx - cx) (bY - cy) (dx - cx) (dy - cy)) := by unfold mqC mqL; simp [h]
theorem quadB_true {ax ay bx bY cx cy dx dy : Int} (h : quadB ax ay bx bY cx cy dx dy = true) : spotB ax ay = true ∧ spotB bx bY = true ∧ spotB cx cy = true ∧ spotB dx dy = true ∧ 0 < turnI bx bY cx cy dx dy := by
  cases h1 : spotB ax ay
  · rw [quadB_1 h1] at h; cases h
  cases h2 : spotB bx bY
  · rw [quadB_2 h2] at h; cases h
  cases h3 : spotB cx cy
  · rw [quadB_3 h3] at h; cases h
  cases h4 : spotB dx dy
  · rw [quadB_4 h4] at h; cases h
  rw [quadB_ok h1 h2 h3 h4] at h
  simp at h
  exact ⟨rfl, rfl, rfl, rfl, h.1.1.2⟩
set_option maxRecDepth 100000 in
set_option maxHeartbeats 2000000 in
theorem sMapOfQuad_any (ax ay bx bY cx cy dx dy : Int) (w : World) :
    Calls Tryd.prog 11 #[.agg #[.int .i64 ax, .int .i64 ay, .int .i64 bx, .int .i64 bY, .int .i64 cx, .int .i64 cy, .int .i64 dx, .int .i64 dy]] w fun e w' => e = .returned (.tuple #[.agg #[.int .i64 (nth (mqL ax ay bx bY cx cy dx dy) 0), .int .i64 (nth (mqL ax ay bx bY cx cy dx dy) 1), .int .i64 (nth (mqL ax ay bx bY cx cy dx dy) 2), .int .i64 (nth (mqL ax ay bx bY cx cy dx dy) 3), .int .i64 (nth (mqL ax ay bx bY cx cy dx dy) 4), .int .i64 (nth (mqL ax ay bx bY cx cy dx dy) 5), .int .i64 (nth (mqL ax ay bx bY cx cy dx dy) 6), .int .i64 (nth (mqL ax ay bx bY cx cy dx dy) 7), .int .i64 (nth (mqL ax ay bx bY cx cy dx dy) 8)], .int .i64 (mqC ax ay bx bY cx cy dx dy)]) ∧ Below w.heap.size w w' := by
  cases hq : quadB ax ay bx bY cx cy dx dy
  · obtain ⟨e1, e2⟩ := mq_no hq
    rw [e1, e2]
    clear e1 e2
    go_enter Tryd.func11, Tryd.ntmps11
    go_wp2_with (go_at_call 24; go_call (sIsQuad_any _ _ _ _ _ _ _ _ _) as e1 w1 ⟨rfl, hb1⟩; obtain ⟨hc1, hf1⟩ := bcell hb1; have hB1 : Below w.heap.size w w1 := (below_then (by first | (go_grown; done) | (repeat (first | (with_reducible assumption) | (with_reducible exact Below.refl _ _) | (with_reducible refine below_drewN' ?_ _) | (with_reducible refine Below.drew ?_) | ((with_reducible refine Below.alloc ?_ ?_ _); rotate_left; focus (first | (simp; done) | (simp; omega) | omega)) | ((with_reducible refine Below.setCell ?_ ?_ _); rotate_left; focus (first | (simp; done) | (simp; omega) | omega))))) (by first | omega | (simp; done) | (simp; omega)) hb1); have hz1a : w.heap.size + 1 < w1.heap.size := (by have := hb1.size; first | omega | (simp at this; omega)))
    (try simp only [Exit.inBlock, Exit.then]); refine bodyPost_ret (by simp [results, Tryd.results11, go_sem, hc1]; try rfl) rfl ?_
    exact ⟨rfl, (((((((((hB1.setCell (Nat.le_succ _) _).setCell (Nat.le_succ _) _).setCell (Nat.le_succ _) _).setCell (Nat.le_succ _) _).setCell (Nat.le_succ _) _).setCell (Nat.le_succ _) _).setCell (Nat.le_succ _) _).setCell (Nat.le_succ _) _).setCell (Nat.le_succ _) _)⟩
  · obtain ⟨e1, e2⟩ := mq_yes hq
    obtain ⟨h1, h2, h3, h4, h5⟩ := quadB_true hq
    rw [e1, e2]
    have M := Lib.hid (fun w => l25Quad_any ax ay bx bY cx cy dx dy w h1 h2 h3 h4 (by rw [det_turn]; omega))
    generalize redL (quadE ax ay bx bY dx dy (ax - bx + cx - dx) (ay - bY + cy - dy) (bx - cx) (bY - cy) (dx - cx) (dy - cy)) = L at M
    clear e1 e2 h1 h2 h3 h4 h5
    go_enter Tryd.func11, Tryd.ntmps11
    go_wp2_with first | (go_at_call 24; go_call (sIsQuad_any _ _ _ _ _ _ _ _ _) as e1 w1 ⟨rfl, hb1⟩; obtain ⟨hc1, hf1⟩ := bcell hb1; have hB1 : Below w.heap.size w w1 := (below_then (by first | (go_grown; done) | (repeat (first | (with_reducible assumption) | (with_reducible exact Below.refl _ _) | (with_reducible refine below_drewN' ?_ _) | (with_reducible refine Below.drew ?_) | ((with_reducible refine Below.alloc ?_ ?_ _); rotate_left; focus (first | (simp; done) | (simp; omega) | omega)) | ((with_reducible refine Below.setCell ?_ ?_ _); rotate_left; focus (first | (simp; done) | (simp; omega) | omega))))) (by first | omega | (simp; done) | (simp; omega)) hb1); have hz1a : w.heap.size + 1 < w1.heap.size := (by have := hb1.size; first | omega | (simp at this; omega))) | ((go_at_call 25; with_reducible refine (M.out _).mono ?_; rintro e2 w2 ⟨rfl, hb2⟩; obtain ⟨hc2, hf2⟩ := bcell hb2; have hB2 : Below w.heap.size w w2 := (below_then (by first | (go_grown; done) | (repeat (first | (with_reducible assumption) | (with_reducible exact Below.refl _ _) | (with_reducible refine below_drewN' ?_ _) | (with_reducible refine Below.drew ?_) | ((with_reducible refine Below.alloc ?_ ?_ _); rotate_left; focus (first | (simp; done) | (simp; omega) | omega)) | ((with_reducible refine Below.setCell ?_ ?_ _); rotate_left; focus (first | (simp; done) | (simp; omega) | omega))))) (by first | omega | (simp; done) | (simp; omega)) hb2); have hz2a : w.heap.size + 1 < w2.heap.size := (by have := hb2.size; first | omega | (simp at this; omega))); have hk2a : w2.cell? ⟨w.heap.size + 1, 0, none⟩ = some (.int .i64 0) := (hc2 _ _ (by omega)).trans ((hc1 _ _ (by simp)).trans (by go_simp)); have hk2b : w2.cell? ⟨w.heap.size + 1, 1, none⟩ = some (.int .i64 0) := (hc2 _ _ (by omega)).trans ((hc1 _ _ (by simp)).trans (by go_simp)); have hk2c : w2.cell? ⟨w.heap.size + 1, 2, none⟩ = some (.int .i64 0) := (hc2 _ _ (by omega)).trans ((hc1 _ _ (by simp)).trans (by go_simp)); have hk2d : w2.cell? ⟨w.heap.size + 1, 3, none⟩ = some (.int .i64 0) := (hc2 _ _ (by omega)).trans ((hc1 _ _ (by simp)).trans (by go_simp)); have hk2e : w2.cell? ⟨w.heap.size + 1, 4, none⟩ = some (.int .i64 0) := (hc2 _ _ (by omega)).trans ((hc1 _ _ (by simp)).trans (by go_simp)); have hk2f : w2.cell? ⟨w.heap.size + 1, 5, none⟩ = some (.int .i64 0) := (hc2 _ _ (by omega)).trans ((hc1 _ _ (by simp)).trans (by go_simp)); have hk2g : w2.cell? ⟨w.heap.size + 1, 6, none⟩ = some (.int .i64 0) := (hc2 _ _ (by omega)).trans ((hc1 _ _ (by simp)).trans (by go_simp)); have hk2h : w2.cell? ⟨w.heap.size + 1, 7, none⟩ = some (.int .i64 0) := (hc2 _ _ (by omega)).trans ((hc1 _ _ (by simp)).trans (by go_simp)); have hk2i : w2.cell? ⟨w.heap.size + 1, 8, none⟩ = some (.int .i64 0) := (hc2 _ _ (by omega)).trans ((hc1 _ _ (by simp)).trans (by go_simp)))
    (try simp only [Exit.inBlock, Exit.then]); refine bodyPost_ret (by simp [results, Tryd.results11, go_sem, hk2a, hk2b, hk2c, hk2d, hk2e, hk2f, hk2g, hk2h, hk2i]; try rfl) rfl ?_
    exact ⟨rfl, (((((((((hB2.setCell (Nat.le_succ _) _).setCell (Nat.le_succ _) _).setCell (Nat.le_succ _) _).setCell (Nat.le_succ _) _).setCell (Nat.le_succ _) _).setCell (Nat.le_succ _) _).setCell (Nat.le_succ _) _).setCell (Nat.le_succ _) _).setCell (Nat.le_succ _) _)⟩
set_option maxRecDepth 100000 in
set_option maxHeartbeats 2000000 in
theorem MapOfQuad_any (ax ay bx bY cx cy dx dy : Int) (w : World) :
    Calls Tryd.prog 10 #[.agg #[.int .i64 ax, .int .i64 ay, .int .i64 bx, .int .i64 bY, .int .i64 cx, .int .i64 cy, .int .i64 dx, .int .i64 dy]] w fun e w' => e = .returned (.tuple #[.agg #[.int .i64 (nth (mqL ax ay bx bY cx cy dx dy) 0), .int .i64 (nth (mqL ax ay bx bY cx cy dx dy) 1), .int .i64 (nth (mqL ax ay bx bY cx cy dx dy) 2), .int .i64 (nth (mqL ax ay bx bY cx cy dx dy) 3), .int .i64 (nth (mqL ax ay bx bY cx cy dx dy) 4), .int .i64 (nth (mqL ax ay bx bY cx cy dx dy) 5), .int .i64 (nth (mqL ax ay bx bY cx cy dx dy) 6), .int .i64 (nth (mqL ax ay bx bY cx cy dx dy) 7), .int .i64 (nth (mqL ax ay bx bY cx cy dx dy) 8)], .int .i64 (mqC ax ay bx bY cx cy dx dy)]) ∧ Below w.heap.size w w' := by
  cases hq : quadB ax ay bx bY cx cy dx dy
  · obtain ⟨e1, e2⟩ := mq_no hq
    rw [e1, e2]
    clear e1 e2
    go_enter Tryd.func10, Tryd.ntmps10
    go_wp2_with (go_at_call 12; go_call (IsQuad_any _ _ _ _ _ _ _ _ _) as e1 w1 ⟨rfl, hb1⟩; obtain ⟨hc1, hf1⟩ := bcell hb1; have hB1 : Below w.heap.size w w1 := (below_then (by first | (go_grown; done) | (repeat (first | (with_reducible assumption) | (with_reducible exact Below.refl _ _) | (with_reducible refine below_drewN' ?_ _) | (with_reducible refine Below.drew ?_) | ((with_reducible refine Below.alloc ?_ ?_ _); rotate_left; focus (first | (simp; done) | (simp; omega) | omega)) | ((with_reducible refine Below.setCell ?_ ?_ _); rotate_left; focus (first | (simp; done) | (simp; omega) | omega))))) (by first | omega | (simp; done) | (simp; omega)) hb1); have hz1a : w.heap.size + 1 < w1.heap.size := (by have := hb1.size; first | omega | (simp at this; omega)))
    (try simp only [Exit.inBlock, Exit.then]); refine bodyPost_ret (by simp [results, Tryd.results10, go_sem, hc1]; try rfl) rfl ?_
    exact ⟨rfl, (((((((((hB1.setCell (Nat.le_succ _) _).setCell (Nat.le_succ _) _).setCell (Nat.le_succ _) _).setCell (Nat.le_succ _) _).setCell (Nat.le_succ _) _).setCell (Nat.le_succ _) _).setCell (Nat.le_succ _) _).setCell (Nat.le_succ _) _).setCell (Nat.le_succ _) _)⟩
  · obtain ⟨e1, e2⟩ := mq_yes hq
    obtain ⟨h1, h2, h3, h4, h5⟩ := quadB_true hq
    rw [e1, e2]
    have M := Lib.hid (fun w => mapOfQuad_any ax ay bx bY cx cy dx dy w h1 h2 h3 h4)
    generalize redL (quadE ax ay bx bY dx dy (ax - bx + cx - dx) (ay - bY + cy - dy) (bx - cx) (bY - cy) (dx - cx) (dy - cy)) = L at M
    clear e1 e2 h1 h2 h3 h4 h5
    go_enter Tryd.func10, Tryd.ntmps10
    go_wp2_with first | (go_at_call 12; go_call (IsQuad_any _ _ _ _ _ _ _ _ _) as e1 w1 ⟨rfl, hb1⟩; obtain ⟨hc1, hf1⟩ := bcell hb1; have hB1 : Below w.heap.size w w1 := (below_then (by first | (go_grown; done) | (repeat (first | (with_reducible assumption) | (with_reducible exact Below.refl _ _) | (with_reducible refine below_drewN' ?_ _) | (with_reducible refine Below.drew ?_) | ((with_reducible refine Below.alloc ?_ ?_ _); rotate_left; focus (first | (simp; done) | (simp; omega) | omega)) | ((with_reducible refine Below.setCell ?_ ?_ _); rotate_left; focus (first | (simp; done) | (simp; omega) | omega))))) (by first | omega | (simp; done) | (simp; omega)) hb1); have hz1a : w.heap.size + 1 < w1.heap.size := (by have := hb1.size; first | omega | (simp at this; omega))) | ((go_at_call 23; with_reducible refine (M.out _).mono ?_; rintro e2 w2 ⟨rfl, hb2⟩; obtain ⟨hc2, hf2⟩ := bcell hb2; have hB2 : Below w.heap.size w w2 := (below_then (by first | (go_grown; done) | (repeat (first | (with_reducible assumption) | (with_reducible exact Below.refl _ _) | (with_reducible refine below_drewN' ?_ _) | (with_reducible refine Below.drew ?_) | ((with_reducible refine Below.alloc ?_ ?_ _); rotate_left; focus (first | (simp; done) | (simp; omega) | omega)) | ((with_reducible refine Below.setCell ?_ ?_ _); rotate_left; focus (first | (simp; done) | (simp; omega) | omega))))) (by first | omega | (simp; done) | (simp; omega)) hb2); have hz2a : w.heap.size + 1 < w2.heap.size := (by have := hb2.size; first | omega | (simp at this; omega))); have hk2a : w2.cell? ⟨w.heap.size + 1, 0, none⟩ = some (.int .i64 0) := (hc2 _ _ (by omega)).trans ((hc1 _ _ (by simp)).trans (by go_simp)); have hk2b : w2.cell? ⟨w.heap.size + 1, 1, none⟩ = some (.int .i64 0) := (hc2 _ _ (by omega)).trans ((hc1 _ _ (by simp)).trans (by go_simp)); have hk2c : w2.cell? ⟨w.heap.size + 1, 2, none⟩ = some (.int .i64 0) := (hc2 _ _ (by omega)).trans ((hc1 _ _ (by simp)).trans (by go_simp)); have hk2d : w2.cell? ⟨w.heap.size + 1, 3, none⟩ = some (.int .i64 0) := (hc2 _ _ (by omega)).trans ((hc1 _ _ (by simp)).trans (by go_simp)); have hk2e : w2.cell? ⟨w.heap.size + 1, 4, none⟩ = some (.int .i64 0) := (hc2 _ _ (by omega)).trans ((hc1 _ _ (by simp)).trans (by go_simp)); have hk2f : w2.cell? ⟨w.heap.size + 1, 5, none⟩ = some (.int .i64 0) := (hc2 _ _ (by omega)).trans ((hc1 _ _ (by simp)).trans (by go_simp)); have hk2g : w2.cell? ⟨w.heap.size + 1, 6, none⟩ = some (.int .i64 0) := (hc2 _ _ (by omega)).trans ((hc1 _ _ (by simp)).trans (by go_simp)); have hk2h : w2.cell? ⟨w.heap.size + 1, 7, none⟩ = some (.int .i64 0) := (hc2 _ _ (by omega)).trans ((hc1 _ _ (by simp)).trans (by go_simp)); have hk2i : w2.cell? ⟨w.heap.size + 1, 8, none⟩ = some (.int .i64 0) := (hc2 _ _ (by omega)).trans ((hc1 _ _ (by simp)).trans (by go_simp)))
    (try simp only [Exit.inBlock, Exit.then]); refine bodyPost_ret (by simp [results, Tryd.results10, go_sem, hk2a, hk2b, hk2c, hk2d, hk2e, hk2f, hk2g, hk2h, hk2i]; try rfl) rfl ?_
    exact ⟨rfl, (((((((((hB2.setCell (Nat.le_succ _) _).setCell (Nat.le_succ _) _).setCell (Nat.le_succ _) _).setCell (Nat.le_succ _) _).setCell (Nat.le_succ _) _).setCell (Nat.le_succ _) _).setCell (Nat.le_succ _) _).setCell (Nat.le_succ _) _).setCell (Nat.le_succ _) _)⟩
end Go.Proofs.YtnhhbpdjapccpaaDoor
