/-
  Contracts of chapter 24: CornersOf, both sides. Printed by gen/c24f.py.
-/
import Derived.Test.YtnhhbpdjapccpaaC24E
import Derived.Test.YtnhhbpdjapccpaaC24Q
namespace Go.Proofs.Ytnhhbpdjapccpaa
open Go.RowKit

def coC (sp sz qq : Bool) : Int := bif sp then (bif sz then (bif qq then 0 else 5) else 2) else 1
def coV (k x : Int) : Int := if k = 0 then x else 0
/-- The result of CornersOf. -/
def coR (k : Int) (xs : List Int) : Value := .tuple #[.agg ((xs.map fun x => Value.int .i64 (coV k x)).toArray), .int .i64 k]

set_option maxHeartbeats 2000000 in
theorem sCornersOf_sp (ax ay bx bY cx cy n : Int) (w : World) (h : (spotB ax ay && spotB bx bY && spotB cx cy) = false) :
    Calls Try.prog 36 #[.agg #[.int .i64 ax, .int .i64 ay], .agg #[.int .i64 bx, .int .i64 bY], .agg #[.int .i64 cx, .int .i64 cy], .int .i64 n] w fun e w' => e = .returned (.tuple #[.agg #[.int .i64 0, .int .i64 0, .int .i64 0, .int .i64 0, .int .i64 0, .int .i64 0, .int .i64 0, .int .i64 0], .int .i64 1]) ∧ Below w.heap.size w w' := by
  have I1 := Lib.hid (fun w => sIsSpot_any ax ay w)
  have I2 := Lib.hid (fun w => sIsSpot_any bx bY w)
  have I3 := Lib.hid (fun w => sIsSpot_any cx cy w)
  cases h1 : spotB ax ay
  · rw [h1] at I1
    go_enter Try.func36, Try.ntmps36
    go_upto_region 2 with first | (go_at_call 67; with_reducible refine (I1.out _).mono ?_; rintro e1 w1 ⟨rfl, hb1⟩; obtain ⟨hc1, hf1⟩ := bcell hb1; have hB1 : Below w.heap.size w w1 := (below_then (by first | (go_grown; done) | (repeat (first | (with_reducible assumption) | (with_reducible exact Below.refl _ _) | (with_reducible refine below_drewN' ?_ _) | (with_reducible refine Below.drew ?_) | ((with_reducible refine Below.alloc ?_ ?_ _); rotate_left; focus (first | (simp; done) | (simp; omega) | omega)) | ((with_reducible refine Below.setCell ?_ ?_ _); rotate_left; focus (first | (simp; done) | (simp; omega) | omega))))) (by first | omega | (simp; done) | (simp; omega)) hb1); have hz1a : w.heap.size + 1 + 1 + 1 < w1.heap.size := (by have := hb1.size; first | omega | (simp at this; omega)); have hz1b : w.heap.size + 1 + 1 < w1.heap.size := (by have := hb1.size; first | omega | (simp at this; omega)); have hz1c : w.heap.size + 1 < w1.heap.size := (by have := hb1.size; first | omega | (simp at this; omega)); have hz1d : w.heap.size < w1.heap.size := (by have := hb1.size; first | omega | (simp at this; omega)))
    have hr := ((RowAt.made (xs := [0, 0, 0, 0, 0, 0, 0, 0]) rfl).below hb1 (by simp))
    simp only [World.size_alloc] at hr
    have fr0 : w1.cell? ⟨w.heap.size + 1 + 1 + 1, 0, none⟩ = some (.int .i64 0) := hr.cell (k := 0) (by simp)
    have fr1 : w1.cell? ⟨w.heap.size + 1 + 1 + 1, 1, none⟩ = some (.int .i64 0) := hr.cell (k := 1) (by simp)
    have fr2 : w1.cell? ⟨w.heap.size + 1 + 1 + 1, 2, none⟩ = some (.int .i64 0) := hr.cell (k := 2) (by simp)
    have fr3 : w1.cell? ⟨w.heap.size + 1 + 1 + 1, 3, none⟩ = some (.int .i64 0) := hr.cell (k := 3) (by simp)
    have fr4 : w1.cell? ⟨w.heap.size + 1 + 1 + 1, 4, none⟩ = some (.int .i64 0) := hr.cell (k := 4) (by simp)
    have fr5 : w1.cell? ⟨w.heap.size + 1 + 1 + 1, 5, none⟩ = some (.int .i64 0) := hr.cell (k := 5) (by simp)
    have fr6 : w1.cell? ⟨w.heap.size + 1 + 1 + 1, 6, none⟩ = some (.int .i64 0) := hr.cell (k := 6) (by simp)
    have fr7 : w1.cell? ⟨w.heap.size + 1 + 1 + 1, 7, none⟩ = some (.int .i64 0) := hr.cell (k := 7) (by simp)
    have ffr : ∀ j, w1.frozen? ⟨w.heap.size + 1 + 1 + 1, j, none⟩ = false := hr.free
    have zr := hr.lt
    go_wp2_with fail
    (try simp only [Exit.inBlock, Exit.then]); refine bodyPost_ret (by simp [results, Try.results36, go_sem, fr0, fr1, fr2, fr3, fr4, fr5, fr6, fr7]; try rfl) rfl ?_
    exact ⟨rfl, by (repeat (first | (with_reducible assumption) | (with_reducible exact Below.refl _ _) | (with_reducible refine below_drewN' ?_ _) | (with_reducible refine Below.drew ?_) | ((with_reducible refine Below.alloc ?_ ?_ _); rotate_left; focus (first | (simp; done) | (simp; omega) | omega)) | ((with_reducible refine Below.setCell ?_ ?_ _); rotate_left; focus (first | (simp; done) | (simp; omega) | omega))))⟩
  · rw [h1] at I1
    cases h2 : spotB bx bY
    · rw [h2] at I2
      go_enter Try.func36, Try.ntmps36
      go_upto_region 2 with first | (go_at_call 67; with_reducible refine (I1.out _).mono ?_; rintro e1 w1 ⟨rfl, hb1⟩; obtain ⟨hc1, hf1⟩ := bcell hb1; have hB1 : Below w.heap.size w w1 := (below_then (by first | (go_grown; done) | (repeat (first | (with_reducible assumption) | (with_reducible exact Below.refl _ _) | (with_reducible refine below_drewN' ?_ _) | (with_reducible refine Below.drew ?_) | ((with_reducible refine Below.alloc ?_ ?_ _); rotate_left; focus (first | (simp; done) | (simp; omega) | omega)) | ((with_reducible refine Below.setCell ?_ ?_ _); rotate_left; focus (first | (simp; done) | (simp; omega) | omega))))) (by first | omega | (simp; done) | (simp; omega)) hb1); have hz1a : w.heap.size + 1 + 1 + 1 < w1.heap.size := (by have := hb1.size; first | omega | (simp at this; omega)); have hz1b : w.heap.size + 1 + 1 < w1.heap.size := (by have := hb1.size; first | omega | (simp at this; omega)); have hz1c : w.heap.size + 1 < w1.heap.size := (by have := hb1.size; first | omega | (simp at this; omega)); have hz1d : w.heap.size < w1.heap.size := (by have := hb1.size; first | omega | (simp at this; omega))) | (go_at_call 67; with_reducible refine (I2.out _).mono ?_; rintro e2 w2 ⟨rfl, hb2⟩; obtain ⟨hc2, hf2⟩ := bcell hb2; have hB2 : Below w.heap.size w w2 := (below_then (by first | (go_grown; done) | (repeat (first | (with_reducible assumption) | (with_reducible exact Below.refl _ _) | (with_reducible refine below_drewN' ?_ _) | (with_reducible refine Below.drew ?_) | ((with_reducible refine Below.alloc ?_ ?_ _); rotate_left; focus (first | (simp; done) | (simp; omega) | omega)) | ((with_reducible refine Below.setCell ?_ ?_ _); rotate_left; focus (first | (simp; done) | (simp; omega) | omega))))) (by first | omega | (simp; done) | (simp; omega)) hb2); have hz2a : w.heap.size + 1 + 1 + 1 < w2.heap.size := (by have := hb2.size; first | omega | (simp at this; omega)); have hz2b : w.heap.size + 1 + 1 < w2.heap.size := (by have := hb2.size; first | omega | (simp at this; omega)); have hz2c : w.heap.size + 1 < w2.heap.size := (by have := hb2.size; first | omega | (simp at this; omega)); have hz2d : w.heap.size < w2.heap.size := (by have := hb2.size; first | omega | (simp at this; omega)))
      have hr := ((RowAt.made (xs := [0, 0, 0, 0, 0, 0, 0, 0]) rfl).below hb1 (by simp))
      simp only [World.size_alloc] at hr
      replace hr := hr.below hb2 hr.lt
      have fr0 : w2.cell? ⟨w.heap.size + 1 + 1 + 1, 0, none⟩ = some (.int .i64 0) := hr.cell (k := 0) (by simp)
      have fr1 : w2.cell? ⟨w.heap.size + 1 + 1 + 1, 1, none⟩ = some (.int .i64 0) := hr.cell (k := 1) (by simp)
      have fr2 : w2.cell? ⟨w.heap.size + 1 + 1 + 1, 2, none⟩ = some (.int .i64 0) := hr.cell (k := 2) (by simp)
      have fr3 : w2.cell? ⟨w.heap.size + 1 + 1 + 1, 3, none⟩ = some (.int .i64 0) := hr.cell (k := 3) (by simp)
      have fr4 : w2.cell? ⟨w.heap.size + 1 + 1 + 1, 4, none⟩ = some (.int .i64 0) := hr.cell (k := 4) (by simp)
      have fr5 : w2.cell? ⟨w.heap.size + 1 + 1 + 1, 5, none⟩ = some (.int .i64 0) := hr.cell (k := 5) (by simp)
      have fr6 : w2.cell? ⟨w.heap.size + 1 + 1 + 1, 6, none⟩ = some (.int .i64 0) := hr.cell (k := 6) (by simp)
      have fr7 : w2.cell? ⟨w.heap.size + 1 + 1 + 1, 7, none⟩ = some (.int .i64 0) := hr.cell (k := 7) (by simp)
      have ffr : ∀ j, w2.frozen? ⟨w.heap.size + 1 + 1 + 1, j, none⟩ = false := hr.free
      have zr := hr.lt
      go_wp2_with fail
      (try simp only [Exit.inBlock, Exit.then]); refine bodyPost_ret (by simp [results, Try.results36, go_sem, fr0, fr1, fr2, fr3, fr4, fr5, fr6, fr7]; try rfl) rfl ?_
      exact ⟨rfl, by (repeat (first | (with_reducible assumption) | (with_reducible exact Below.refl _ _) | (with_reducible refine below_drewN' ?_ _) | (with_reducible refine Below.drew ?_) | ((with_reducible refine Below.alloc ?_ ?_ _); rotate_left; focus (first | (simp; done) | (simp; omega) | omega)) | ((with_reducible refine Below.setCell ?_ ?_ _); rotate_left; focus (first | (simp; done) | (simp; omega) | omega))))⟩
    · rw [h2] at I2
      cases h3 : spotB cx cy
      · rw [h3] at I3
        go_enter Try.func36, Try.ntmps36
        go_upto_region 2 with first | (go_at_call 67; with_reducible refine (I1.out _).mono ?_; rintro e1 w1 ⟨rfl, hb1⟩; obtain ⟨hc1, hf1⟩ := bcell hb1; have hB1 : Below w.heap.size w w1 := (below_then (by first | (go_grown; done) | (repeat (first | (with_reducible assumption) | (with_reducible exact Below.refl _ _) | (with_reducible refine below_drewN' ?_ _) | (with_reducible refine Below.drew ?_) | ((with_reducible refine Below.alloc ?_ ?_ _); rotate_left; focus (first | (simp; done) | (simp; omega) | omega)) | ((with_reducible refine Below.setCell ?_ ?_ _); rotate_left; focus (first | (simp; done) | (simp; omega) | omega))))) (by first | omega | (simp; done) | (simp; omega)) hb1); have hz1a : w.heap.size + 1 + 1 + 1 < w1.heap.size := (by have := hb1.size; first | omega | (simp at this; omega)); have hz1b : w.heap.size + 1 + 1 < w1.heap.size := (by have := hb1.size; first | omega | (simp at this; omega)); have hz1c : w.heap.size + 1 < w1.heap.size := (by have := hb1.size; first | omega | (simp at this; omega)); have hz1d : w.heap.size < w1.heap.size := (by have := hb1.size; first | omega | (simp at this; omega))) | (go_at_call 67; with_reducible refine (I2.out _).mono ?_; rintro e2 w2 ⟨rfl, hb2⟩; obtain ⟨hc2, hf2⟩ := bcell hb2; have hB2 : Below w.heap.size w w2 := (below_then (by first | (go_grown; done) | (repeat (first | (with_reducible assumption) | (with_reducible exact Below.refl _ _) | (with_reducible refine below_drewN' ?_ _) | (with_reducible refine Below.drew ?_) | ((with_reducible refine Below.alloc ?_ ?_ _); rotate_left; focus (first | (simp; done) | (simp; omega) | omega)) | ((with_reducible refine Below.setCell ?_ ?_ _); rotate_left; focus (first | (simp; done) | (simp; omega) | omega))))) (by first | omega | (simp; done) | (simp; omega)) hb2); have hz2a : w.heap.size + 1 + 1 + 1 < w2.heap.size := (by have := hb2.size; first | omega | (simp at this; omega)); have hz2b : w.heap.size + 1 + 1 < w2.heap.size := (by have := hb2.size; first | omega | (simp at this; omega)); have hz2c : w.heap.size + 1 < w2.heap.size := (by have := hb2.size; first | omega | (simp at this; omega)); have hz2d : w.heap.size < w2.heap.size := (by have := hb2.size; first | omega | (simp at this; omega))) | (go_at_call 67; with_reducible refine (I3.out _).mono ?_; rintro e3 w3 ⟨rfl, hb3⟩; obtain ⟨hc3, hf3⟩ := bcell hb3; have hB3 : Below w.heap.size w w3 := (below_then (by first | (go_grown; done) | (repeat (first | (with_reducible assumption) | (with_reducible exact Below.refl _ _) | (with_reducible refine below_drewN' ?_ _) | (with_reducible refine Below.drew ?_) | ((with_reducible refine Below.alloc ?_ ?_ _); rotate_left; focus (first | (simp; done) | (simp; omega) | omega)) | ((with_reducible refine Below.setCell ?_ ?_ _); rotate_left; focus (first | (simp; done) | (simp; omega) | omega))))) (by first | omega | (simp; done) | (simp; omega)) hb3); have hz3a : w.heap.size + 1 + 1 + 1 < w3.heap.size := (by have := hb3.size; first | omega | (simp at this; omega)); have hz3b : w.heap.size + 1 + 1 < w3.heap.size := (by have := hb3.size; first | omega | (simp at this; omega)); have hz3c : w.heap.size + 1 < w3.heap.size := (by have := hb3.size; first | omega | (simp at this; omega)); have hz3d : w.heap.size < w3.heap.size := (by have := hb3.size; first | omega | (simp at this; omega)))
        have hr := ((RowAt.made (xs := [0, 0, 0, 0, 0, 0, 0, 0]) rfl).below hb1 (by simp))
        simp only [World.size_alloc] at hr
        replace hr := hr.below hb2 hr.lt
        replace hr := hr.below hb3 hr.lt
        have fr0 : w3.cell? ⟨w.heap.size + 1 + 1 + 1, 0, none⟩ = some (.int .i64 0) := hr.cell (k := 0) (by simp)
        have fr1 : w3.cell? ⟨w.heap.size + 1 + 1 + 1, 1, none⟩ = some (.int .i64 0) := hr.cell (k := 1) (by simp)
        have fr2 : w3.cell? ⟨w.heap.size + 1 + 1 + 1, 2, none⟩ = some (.int .i64 0) := hr.cell (k := 2) (by simp)
        have fr3 : w3.cell? ⟨w.heap.size + 1 + 1 + 1, 3, none⟩ = some (.int .i64 0) := hr.cell (k := 3) (by simp)
        have fr4 : w3.cell? ⟨w.heap.size + 1 + 1 + 1, 4, none⟩ = some (.int .i64 0) := hr.cell (k := 4) (by simp)
        have fr5 : w3.cell? ⟨w.heap.size + 1 + 1 + 1, 5, none⟩ = some (.int .i64 0) := hr.cell (k := 5) (by simp)
        have fr6 : w3.cell? ⟨w.heap.size + 1 + 1 + 1, 6, none⟩ = some (.int .i64 0) := hr.cell (k := 6) (by simp)
        have fr7 : w3.cell? ⟨w.heap.size + 1 + 1 + 1, 7, none⟩ = some (.int .i64 0) := hr.cell (k := 7) (by simp)
        have ffr : ∀ j, w3.frozen? ⟨w.heap.size + 1 + 1 + 1, j, none⟩ = false := hr.free
        have zr := hr.lt
        go_wp2_with fail
        (try simp only [Exit.inBlock, Exit.then]); refine bodyPost_ret (by simp [results, Try.results36, go_sem, fr0, fr1, fr2, fr3, fr4, fr5, fr6, fr7]; try rfl) rfl ?_
        exact ⟨rfl, by (repeat (first | (with_reducible assumption) | (with_reducible exact Below.refl _ _) | (with_reducible refine below_drewN' ?_ _) | (with_reducible refine Below.drew ?_) | ((with_reducible refine Below.alloc ?_ ?_ _); rotate_left; focus (first | (simp; done) | (simp; omega) | omega)) | ((with_reducible refine Below.setCell ?_ ?_ _); rotate_left; focus (first | (simp; done) | (simp; omega) | omega))))⟩
      · rw [h1, h2, h3] at h; cases h
set_option maxHeartbeats 2000000 in
theorem sCornersOf_sz (ax ay bx bY cx cy n : Int) (w : World) (h1 : spotB ax ay = true) (h2 : spotB bx bY = true) (h3 : spotB cx cy = true) (hs : sizeB n = false) :
    Calls Try.prog 36 #[.agg #[.int .i64 ax, .int .i64 ay], .agg #[.int .i64 bx, .int .i64 bY], .agg #[.int .i64 cx, .int .i64 cy], .int .i64 n] w fun e w' => e = .returned (.tuple #[.agg #[.int .i64 0, .int .i64 0, .int .i64 0, .int .i64 0, .int .i64 0, .int .i64 0, .int .i64 0, .int .i64 0], .int .i64 2]) ∧ Below w.heap.size w w' := by
  have I1 := Lib.hid (fun w => sIsSpot_any ax ay w)
  have I2 := Lib.hid (fun w => sIsSpot_any bx bY w)
  have I3 := Lib.hid (fun w => sIsSpot_any cx cy w)
  rw [h1] at I1
  rw [h2] at I2
  rw [h3] at I3
  have HZ := Lib.hid (fun w => l14Size_any n w)
  rw [hs] at HZ
  clear hs
  go_enter Try.func36, Try.ntmps36
  go_upto_region 4 with first | (go_at_call 67; with_reducible refine (I1.out _).mono ?_; rintro e1 w1 ⟨rfl, hb1⟩; obtain ⟨hc1, hf1⟩ := bcell hb1; have hB1 : Below w.heap.size w w1 := (below_then (by first | (go_grown; done) | (repeat (first | (with_reducible assumption) | (with_reducible exact Below.refl _ _) | (with_reducible refine below_drewN' ?_ _) | (with_reducible refine Below.drew ?_) | ((with_reducible refine Below.alloc ?_ ?_ _); rotate_left; focus (first | (simp; done) | (simp; omega) | omega)) | ((with_reducible refine Below.setCell ?_ ?_ _); rotate_left; focus (first | (simp; done) | (simp; omega) | omega))))) (by first | omega | (simp; done) | (simp; omega)) hb1); have hz1a : w.heap.size + 1 + 1 + 1 < w1.heap.size := (by have := hb1.size; first | omega | (simp at this; omega)); have hz1b : w.heap.size + 1 + 1 < w1.heap.size := (by have := hb1.size; first | omega | (simp at this; omega)); have hz1c : w.heap.size + 1 < w1.heap.size := (by have := hb1.size; first | omega | (simp at this; omega)); have hz1d : w.heap.size < w1.heap.size := (by have := hb1.size; first | omega | (simp at this; omega))) | (go_at_call 67; with_reducible refine (I2.out _).mono ?_; rintro e2 w2 ⟨rfl, hb2⟩; obtain ⟨hc2, hf2⟩ := bcell hb2; have hB2 : Below w.heap.size w w2 := (below_then (by first | (go_grown; done) | (repeat (first | (with_reducible assumption) | (with_reducible exact Below.refl _ _) | (with_reducible refine below_drewN' ?_ _) | (with_reducible refine Below.drew ?_) | ((with_reducible refine Below.alloc ?_ ?_ _); rotate_left; focus (first | (simp; done) | (simp; omega) | omega)) | ((with_reducible refine Below.setCell ?_ ?_ _); rotate_left; focus (first | (simp; done) | (simp; omega) | omega))))) (by first | omega | (simp; done) | (simp; omega)) hb2); have hz2a : w.heap.size + 1 + 1 + 1 < w2.heap.size := (by have := hb2.size; first | omega | (simp at this; omega)); have hz2b : w.heap.size + 1 + 1 < w2.heap.size := (by have := hb2.size; first | omega | (simp at this; omega)); have hz2c : w.heap.size + 1 < w2.heap.size := (by have := hb2.size; first | omega | (simp at this; omega)); have hz2d : w.heap.size < w2.heap.size := (by have := hb2.size; first | omega | (simp at this; omega))) | (go_at_call 67; with_reducible refine (I3.out _).mono ?_; rintro e3 w3 ⟨rfl, hb3⟩; obtain ⟨hc3, hf3⟩ := bcell hb3; have hB3 : Below w.heap.size w w3 := (below_then (by first | (go_grown; done) | (repeat (first | (with_reducible assumption) | (with_reducible exact Below.refl _ _) | (with_reducible refine below_drewN' ?_ _) | (with_reducible refine Below.drew ?_) | ((with_reducible refine Below.alloc ?_ ?_ _); rotate_left; focus (first | (simp; done) | (simp; omega) | omega)) | ((with_reducible refine Below.setCell ?_ ?_ _); rotate_left; focus (first | (simp; done) | (simp; omega) | omega))))) (by first | omega | (simp; done) | (simp; omega)) hb3); have hz3a : w.heap.size + 1 + 1 + 1 < w3.heap.size := (by have := hb3.size; first | omega | (simp at this; omega)); have hz3b : w.heap.size + 1 + 1 < w3.heap.size := (by have := hb3.size; first | omega | (simp at this; omega)); have hz3c : w.heap.size + 1 < w3.heap.size := (by have := hb3.size; first | omega | (simp at this; omega)); have hz3d : w.heap.size < w3.heap.size := (by have := hb3.size; first | omega | (simp at this; omega))) | (go_at_call 68; refine (HZ.out _).mono ?_; rintro e w' ⟨rfl, rfl⟩)
  have hr := ((RowAt.made (xs := [0, 0, 0, 0, 0, 0, 0, 0]) rfl).below hb1 (by simp))
  simp only [World.size_alloc] at hr
  replace hr := hr.below hb2 hr.lt
  replace hr := hr.below hb3 hr.lt
  have fr0 : w3.cell? ⟨w.heap.size + 1 + 1 + 1, 0, none⟩ = some (.int .i64 0) := hr.cell (k := 0) (by simp)
  have fr1 : w3.cell? ⟨w.heap.size + 1 + 1 + 1, 1, none⟩ = some (.int .i64 0) := hr.cell (k := 1) (by simp)
  have fr2 : w3.cell? ⟨w.heap.size + 1 + 1 + 1, 2, none⟩ = some (.int .i64 0) := hr.cell (k := 2) (by simp)
  have fr3 : w3.cell? ⟨w.heap.size + 1 + 1 + 1, 3, none⟩ = some (.int .i64 0) := hr.cell (k := 3) (by simp)
  have fr4 : w3.cell? ⟨w.heap.size + 1 + 1 + 1, 4, none⟩ = some (.int .i64 0) := hr.cell (k := 4) (by simp)
  have fr5 : w3.cell? ⟨w.heap.size + 1 + 1 + 1, 5, none⟩ = some (.int .i64 0) := hr.cell (k := 5) (by simp)
  have fr6 : w3.cell? ⟨w.heap.size + 1 + 1 + 1, 6, none⟩ = some (.int .i64 0) := hr.cell (k := 6) (by simp)
  have fr7 : w3.cell? ⟨w.heap.size + 1 + 1 + 1, 7, none⟩ = some (.int .i64 0) := hr.cell (k := 7) (by simp)
  have ffr : ∀ j, w3.frozen? ⟨w.heap.size + 1 + 1 + 1, j, none⟩ = false := hr.free
  have zr := hr.lt
  go_wp2_with fail
  (try simp only [Exit.inBlock, Exit.then]); refine bodyPost_ret (by simp [results, Try.results36, go_sem, fr0, fr1, fr2, fr3, fr4, fr5, fr6, fr7]; try rfl) rfl ?_
  exact ⟨rfl, by (repeat (first | (with_reducible assumption) | (with_reducible exact Below.refl _ _) | (with_reducible refine below_drewN' ?_ _) | (with_reducible refine Below.drew ?_) | ((with_reducible refine Below.alloc ?_ ?_ _); rotate_left; focus (first | (simp; done) | (simp; omega) | omega)) | ((with_reducible refine Below.setCell ?_ ?_ _); rotate_left; focus (first | (simp; done) | (simp; omega) | omega))))⟩
set_option maxHeartbeats 2000000 in
theorem sCornersOf_sh (ax ay bx bY cx cy n : Int) (w : World) (h1 : spotB ax ay = true) (h2 : spotB bx bY = true) (h3 : spotB cx cy = true) (hs : sizeB n = true) (hn1 : 17 ≤ n) (hn2 : n ≤ 41) (Ax Ay Bx By Dx Dy : Int) (hA : Ax = cnA ax (bx - ax) (cx - ax) n) (hAy : Ay = cnA ay (bY - ay) (cy - ay) n) (hB : Bx = cnB Ax (bx - ax) n) (hBy : By = cnB Ay (bY - ay) n) (hD : Dx = cnB Ax (cx - ax) n) (hDy : Dy = cnB Ay (cy - ay) n) (hq : quadB Ax Ay Bx By (Bx + Dx - Ax) (By + Dy - Ay) Dx Dy = false) :
    Calls Try.prog 36 #[.agg #[.int .i64 ax, .int .i64 ay], .agg #[.int .i64 bx, .int .i64 bY], .agg #[.int .i64 cx, .int .i64 cy], .int .i64 n] w fun e w' => e = .returned (.tuple #[.agg #[.int .i64 0, .int .i64 0, .int .i64 0, .int .i64 0, .int .i64 0, .int .i64 0, .int .i64 0, .int .i64 0], .int .i64 5]) ∧ Below w.heap.size w w' := by
  have I1 := Lib.hid (fun w => sIsSpot_any ax ay w)
  have I2 := Lib.hid (fun w => sIsSpot_any bx bY w)
  have I3 := Lib.hid (fun w => sIsSpot_any cx cy w)
  rw [h1] at I1
  rw [h2] at I2
  rw [h3] at I3
  have HZ := Lib.hid (fun w => l14Size_any n w)
  rw [hs] at HZ
  clear hs
  have HL := Lib.hid (fun w => l24Corners_any ax ay bx bY cx cy n w h1 h2 h3 hn1 hn2 Ax Ay Bx By Dx Dy hA hAy hB hBy hD hDy)
  have HQ := Lib.hid (fun w => sIsQuad_any Ax Ay Bx By (Bx + Dx - Ax) (By + Dy - Ay) Dx Dy w)
  rw [hq] at HQ
  clear hq hA hAy hB hBy hD hDy
  go_enter Try.func36, Try.ntmps36
  go_upto_region 6 with first | (go_at_call 67; with_reducible refine (I1.out _).mono ?_; rintro e1 w1 ⟨rfl, hb1⟩; obtain ⟨hc1, hf1⟩ := bcell hb1; have hB1 : Below w.heap.size w w1 := (below_then (by first | (go_grown; done) | (repeat (first | (with_reducible assumption) | (with_reducible exact Below.refl _ _) | (with_reducible refine below_drewN' ?_ _) | (with_reducible refine Below.drew ?_) | ((with_reducible refine Below.alloc ?_ ?_ _); rotate_left; focus (first | (simp; done) | (simp; omega) | omega)) | ((with_reducible refine Below.setCell ?_ ?_ _); rotate_left; focus (first | (simp; done) | (simp; omega) | omega))))) (by first | omega | (simp; done) | (simp; omega)) hb1); have hz1a : w.heap.size + 1 + 1 + 1 < w1.heap.size := (by have := hb1.size; first | omega | (simp at this; omega)); have hz1b : w.heap.size + 1 + 1 < w1.heap.size := (by have := hb1.size; first | omega | (simp at this; omega)); have hz1c : w.heap.size + 1 < w1.heap.size := (by have := hb1.size; first | omega | (simp at this; omega)); have hz1d : w.heap.size < w1.heap.size := (by have := hb1.size; first | omega | (simp at this; omega))) | (go_at_call 67; with_reducible refine (I2.out _).mono ?_; rintro e2 w2 ⟨rfl, hb2⟩; obtain ⟨hc2, hf2⟩ := bcell hb2; have hB2 : Below w.heap.size w w2 := (below_then (by first | (go_grown; done) | (repeat (first | (with_reducible assumption) | (with_reducible exact Below.refl _ _) | (with_reducible refine below_drewN' ?_ _) | (with_reducible refine Below.drew ?_) | ((with_reducible refine Below.alloc ?_ ?_ _); rotate_left; focus (first | (simp; done) | (simp; omega) | omega)) | ((with_reducible refine Below.setCell ?_ ?_ _); rotate_left; focus (first | (simp; done) | (simp; omega) | omega))))) (by first | omega | (simp; done) | (simp; omega)) hb2); have hz2a : w.heap.size + 1 + 1 + 1 < w2.heap.size := (by have := hb2.size; first | omega | (simp at this; omega)); have hz2b : w.heap.size + 1 + 1 < w2.heap.size := (by have := hb2.size; first | omega | (simp at this; omega)); have hz2c : w.heap.size + 1 < w2.heap.size := (by have := hb2.size; first | omega | (simp at this; omega)); have hz2d : w.heap.size < w2.heap.size := (by have := hb2.size; first | omega | (simp at this; omega))) | (go_at_call 67; with_reducible refine (I3.out _).mono ?_; rintro e3 w3 ⟨rfl, hb3⟩; obtain ⟨hc3, hf3⟩ := bcell hb3; have hB3 : Below w.heap.size w w3 := (below_then (by first | (go_grown; done) | (repeat (first | (with_reducible assumption) | (with_reducible exact Below.refl _ _) | (with_reducible refine below_drewN' ?_ _) | (with_reducible refine Below.drew ?_) | ((with_reducible refine Below.alloc ?_ ?_ _); rotate_left; focus (first | (simp; done) | (simp; omega) | omega)) | ((with_reducible refine Below.setCell ?_ ?_ _); rotate_left; focus (first | (simp; done) | (simp; omega) | omega))))) (by first | omega | (simp; done) | (simp; omega)) hb3); have hz3a : w.heap.size + 1 + 1 + 1 < w3.heap.size := (by have := hb3.size; first | omega | (simp at this; omega)); have hz3b : w.heap.size + 1 + 1 < w3.heap.size := (by have := hb3.size; first | omega | (simp at this; omega)); have hz3c : w.heap.size + 1 < w3.heap.size := (by have := hb3.size; first | omega | (simp at this; omega)); have hz3d : w.heap.size < w3.heap.size := (by have := hb3.size; first | omega | (simp at this; omega))) | (go_at_call 68; refine (HZ.out _).mono ?_; rintro e w' ⟨rfl, rfl⟩) | (go_at_call 69; with_reducible refine (HL.out _).mono ?_; rintro e4 w4 ⟨rfl, hb4⟩; obtain ⟨hc4, hf4⟩ := bcell hb4; have hB4 : Below w.heap.size w w4 := (below_then (by first | (go_grown; done) | (repeat (first | (with_reducible assumption) | (with_reducible exact Below.refl _ _) | (with_reducible refine below_drewN' ?_ _) | (with_reducible refine Below.drew ?_) | ((with_reducible refine Below.alloc ?_ ?_ _); rotate_left; focus (first | (simp; done) | (simp; omega) | omega)) | ((with_reducible refine Below.setCell ?_ ?_ _); rotate_left; focus (first | (simp; done) | (simp; omega) | omega))))) (by first | omega | (simp; done) | (simp; omega)) hb4); have hz4a : w.heap.size + 1 + 1 + 1 < w4.heap.size := (by have := hb4.size; first | omega | (simp at this; omega)))
  have hr := ((RowAt.made (xs := [0, 0, 0, 0, 0, 0, 0, 0]) rfl).below hb1 (by simp))
  simp only [World.size_alloc] at hr
  replace hr := hr.below hb2 hr.lt
  replace hr := hr.below hb3 hr.lt
  replace hr := hr.below hb4 hr.lt
  obtain ⟨gq, hgq⟩ : ∃ g, w4.heap.size = g := ⟨_, rfl⟩
  have zq : w.heap.size + 1 + 1 + 1 < gq := by have := hr.lt; omega
  have hrq : RowAt (w4.alloc (.cells #[.int .i64 (Ax), .int .i64 (Ay), .int .i64 (Bx), .int .i64 (By), .int .i64 (Bx + Dx - Ax), .int .i64 (By + Dy - Ay), .int .i64 (Dx), .int .i64 (Dy)] 48)) gq 48 [Ax, Ay, Bx, By, Bx + Dx - Ax, By + Dy - Ay, Dx, Dy] := by
    have h := RowAt.made (w := w4) (t := 48) (xs := [Ax, Ay, Bx, By, Bx + Dx - Ax, By + Dy - Ay, Dx, Dy]) rfl
    rw [hgq] at h
    exact h
  rw [hgq]
  refine gen_worldC (P := fun W' => Code.wp _ _ _ _ W') (Q := fun W' => Below w.heap.size w W' ∧ RowAt W' (w.heap.size + 1 + 1 + 1) 48 [0, 0, 0, 0, 0, 0, 0, 0] ∧ RowAt W' gq 48 [Ax, Ay, Bx, By, Bx + Dx - Ax, By + Dy - Ay, Dx, Dy]) (by exact ⟨hB4.alloc (by have := hB4.size; omega) _, hr.below (B := w4.heap.size) ((Below.refl _ _).alloc (Nat.le_refl _) _) hr.lt, hrq⟩) ?_
  clear hrq hr
  rintro W1 ⟨hBW, hr, hrq⟩
  have fq0 : W1.cell? ⟨gq, 0, none⟩ = some (.int .i64 (Ax)) := hrq.cell (k := 0) (by simp)
  have fq1 : W1.cell? ⟨gq, 1, none⟩ = some (.int .i64 (Ay)) := hrq.cell (k := 1) (by simp)
  have fq2 : W1.cell? ⟨gq, 2, none⟩ = some (.int .i64 (Bx)) := hrq.cell (k := 2) (by simp)
  have fq3 : W1.cell? ⟨gq, 3, none⟩ = some (.int .i64 (By)) := hrq.cell (k := 3) (by simp)
  have fq4 : W1.cell? ⟨gq, 4, none⟩ = some (.int .i64 (Bx + Dx - Ax)) := hrq.cell (k := 4) (by simp)
  have fq5 : W1.cell? ⟨gq, 5, none⟩ = some (.int .i64 (By + Dy - Ay)) := hrq.cell (k := 5) (by simp)
  have fq6 : W1.cell? ⟨gq, 6, none⟩ = some (.int .i64 (Dx)) := hrq.cell (k := 6) (by simp)
  have fq7 : W1.cell? ⟨gq, 7, none⟩ = some (.int .i64 (Dy)) := hrq.cell (k := 7) (by simp)
  have zW := hrq.lt
  go_upto_region 7 with (go_at_call 55; with_reducible refine (HQ.out _).mono ?_; rintro e8 w8 ⟨rfl, hb8⟩; obtain ⟨hc8, hf8⟩ := bcell hb8; have hB8 : Below w.heap.size w w8 := (below_then (by first | (go_grown; done) | (repeat (first | (with_reducible assumption) | (with_reducible exact Below.refl _ _) | (with_reducible refine below_drewN' ?_ _) | (with_reducible refine Below.drew ?_) | ((with_reducible refine Below.alloc ?_ ?_ _); rotate_left; focus (first | (simp; done) | (simp; omega) | omega)) | ((with_reducible refine Below.setCell ?_ ?_ _); rotate_left; focus (first | (simp; done) | (simp; omega) | omega))))) (by first | omega | (simp; done) | (simp; omega)) hb8); have hz8a : gq < w8.heap.size := (by have := hb8.size; first | omega | (simp at this; omega)))
  replace hr := hr.below hb8 hr.lt
  have fr0 : w8.cell? ⟨w.heap.size + 1 + 1 + 1, 0, none⟩ = some (.int .i64 0) := hr.cell (k := 0) (by simp)
  have fr1 : w8.cell? ⟨w.heap.size + 1 + 1 + 1, 1, none⟩ = some (.int .i64 0) := hr.cell (k := 1) (by simp)
  have fr2 : w8.cell? ⟨w.heap.size + 1 + 1 + 1, 2, none⟩ = some (.int .i64 0) := hr.cell (k := 2) (by simp)
  have fr3 : w8.cell? ⟨w.heap.size + 1 + 1 + 1, 3, none⟩ = some (.int .i64 0) := hr.cell (k := 3) (by simp)
  have fr4 : w8.cell? ⟨w.heap.size + 1 + 1 + 1, 4, none⟩ = some (.int .i64 0) := hr.cell (k := 4) (by simp)
  have fr5 : w8.cell? ⟨w.heap.size + 1 + 1 + 1, 5, none⟩ = some (.int .i64 0) := hr.cell (k := 5) (by simp)
  have fr6 : w8.cell? ⟨w.heap.size + 1 + 1 + 1, 6, none⟩ = some (.int .i64 0) := hr.cell (k := 6) (by simp)
  have fr7 : w8.cell? ⟨w.heap.size + 1 + 1 + 1, 7, none⟩ = some (.int .i64 0) := hr.cell (k := 7) (by simp)
  have ffr : ∀ j, w8.frozen? ⟨w.heap.size + 1 + 1 + 1, j, none⟩ = false := hr.free
  have zr := hr.lt
  go_wp2_with fail
  (try simp only [Exit.inBlock, Exit.then]); refine bodyPost_ret (by simp [results, Try.results36, go_sem, fr0, fr1, fr2, fr3, fr4, fr5, fr6, fr7]; try rfl) rfl ?_
  exact ⟨rfl, by (repeat (first | (with_reducible assumption) | (with_reducible exact Below.refl _ _) | (with_reducible refine below_drewN' ?_ _) | (with_reducible refine Below.drew ?_) | ((with_reducible refine Below.alloc ?_ ?_ _); rotate_left; focus (first | (simp; done) | (simp; omega) | omega)) | ((with_reducible refine Below.setCell ?_ ?_ _); rotate_left; focus (first | (simp; done) | (simp; omega) | omega))))⟩
set_option maxHeartbeats 2000000 in
theorem sCornersOf_ok (ax ay bx bY cx cy n : Int) (w : World) (h1 : spotB ax ay = true) (h2 : spotB bx bY = true) (h3 : spotB cx cy = true) (hs : sizeB n = true) (hn1 : 17 ≤ n) (hn2 : n ≤ 41) (Ax Ay Bx By Dx Dy : Int) (hA : Ax = cnA ax (bx - ax) (cx - ax) n) (hAy : Ay = cnA ay (bY - ay) (cy - ay) n) (hB : Bx = cnB Ax (bx - ax) n) (hBy : By = cnB Ay (bY - ay) n) (hD : Dx = cnB Ax (cx - ax) n) (hDy : Dy = cnB Ay (cy - ay) n) (hq : quadB Ax Ay Bx By (Bx + Dx - Ax) (By + Dy - Ay) Dx Dy = true) :
    Calls Try.prog 36 #[.agg #[.int .i64 ax, .int .i64 ay], .agg #[.int .i64 bx, .int .i64 bY], .agg #[.int .i64 cx, .int .i64 cy], .int .i64 n] w fun e w' => e = .returned (.tuple #[.agg #[.int .i64 Ax, .int .i64 Ay, .int .i64 Bx, .int .i64 By, .int .i64 (Bx + Dx - Ax), .int .i64 (By + Dy - Ay), .int .i64 Dx, .int .i64 Dy], .int .i64 0]) ∧ Below w.heap.size w w' := by
  have I1 := Lib.hid (fun w => sIsSpot_any ax ay w)
  have I2 := Lib.hid (fun w => sIsSpot_any bx bY w)
  have I3 := Lib.hid (fun w => sIsSpot_any cx cy w)
  rw [h1] at I1
  rw [h2] at I2
  rw [h3] at I3
  have HZ := Lib.hid (fun w => l14Size_any n w)
  rw [hs] at HZ
  clear hs
  have HL := Lib.hid (fun w => l24Corners_any ax ay bx bY cx cy n w h1 h2 h3 hn1 hn2 Ax Ay Bx By Dx Dy hA hAy hB hBy hD hDy)
  have HQ := Lib.hid (fun w => sIsQuad_any Ax Ay Bx By (Bx + Dx - Ax) (By + Dy - Ay) Dx Dy w)
  rw [hq] at HQ
  clear hq hA hAy hB hBy hD hDy
  go_enter Try.func36, Try.ntmps36
  go_upto_region 6 with first | (go_at_call 67; with_reducible refine (I1.out _).mono ?_; rintro e1 w1 ⟨rfl, hb1⟩; obtain ⟨hc1, hf1⟩ := bcell hb1; have hB1 : Below w.heap.size w w1 := (below_then (by first | (go_grown; done) | (repeat (first | (with_reducible assumption) | (with_reducible exact Below.refl _ _) | (with_reducible refine below_drewN' ?_ _) | (with_reducible refine Below.drew ?_) | ((with_reducible refine Below.alloc ?_ ?_ _); rotate_left; focus (first | (simp; done) | (simp; omega) | omega)) | ((with_reducible refine Below.setCell ?_ ?_ _); rotate_left; focus (first | (simp; done) | (simp; omega) | omega))))) (by first | omega | (simp; done) | (simp; omega)) hb1); have hz1a : w.heap.size + 1 + 1 + 1 < w1.heap.size := (by have := hb1.size; first | omega | (simp at this; omega)); have hz1b : w.heap.size + 1 + 1 < w1.heap.size := (by have := hb1.size; first | omega | (simp at this; omega)); have hz1c : w.heap.size + 1 < w1.heap.size := (by have := hb1.size; first | omega | (simp at this; omega)); have hz1d : w.heap.size < w1.heap.size := (by have := hb1.size; first | omega | (simp at this; omega))) | (go_at_call 67; with_reducible refine (I2.out _).mono ?_; rintro e2 w2 ⟨rfl, hb2⟩; obtain ⟨hc2, hf2⟩ := bcell hb2; have hB2 : Below w.heap.size w w2 := (below_then (by first | (go_grown; done) | (repeat (first | (with_reducible assumption) | (with_reducible exact Below.refl _ _) | (with_reducible refine below_drewN' ?_ _) | (with_reducible refine Below.drew ?_) | ((with_reducible refine Below.alloc ?_ ?_ _); rotate_left; focus (first | (simp; done) | (simp; omega) | omega)) | ((with_reducible refine Below.setCell ?_ ?_ _); rotate_left; focus (first | (simp; done) | (simp; omega) | omega))))) (by first | omega | (simp; done) | (simp; omega)) hb2); have hz2a : w.heap.size + 1 + 1 + 1 < w2.heap.size := (by have := hb2.size; first | omega | (simp at this; omega)); have hz2b : w.heap.size + 1 + 1 < w2.heap.size := (by have := hb2.size; first | omega | (simp at this; omega)); have hz2c : w.heap.size + 1 < w2.heap.size := (by have := hb2.size; first | omega | (simp at this; omega)); have hz2d : w.heap.size < w2.heap.size := (by have := hb2.size; first | omega | (simp at this; omega))) | (go_at_call 67; with_reducible refine (I3.out _).mono ?_; rintro e3 w3 ⟨rfl, hb3⟩; obtain ⟨hc3, hf3⟩ := bcell hb3; have hB3 : Below w.heap.size w w3 := (below_then (by first | (go_grown; done) | (repeat (first | (with_reducible assumption) | (with_reducible exact Below.refl _ _) | (with_reducible refine below_drewN' ?_ _) | (with_reducible refine Below.drew ?_) | ((with_reducible refine Below.alloc ?_ ?_ _); rotate_left; focus (first | (simp; done) | (simp; omega) | omega)) | ((with_reducible refine Below.setCell ?_ ?_ _); rotate_left; focus (first | (simp; done) | (simp; omega) | omega))))) (by first | omega | (simp; done) | (simp; omega)) hb3); have hz3a : w.heap.size + 1 + 1 + 1 < w3.heap.size := (by have := hb3.size; first | omega | (simp at this; omega)); have hz3b : w.heap.size + 1 + 1 < w3.heap.size := (by have := hb3.size; first | omega | (simp at this; omega)); have hz3c : w.heap.size + 1 < w3.heap.size := (by have := hb3.size; first | omega | (simp at this; omega)); have hz3d : w.heap.size < w3.heap.size := (by have := hb3.size; first | omega | (simp at this; omega))) | (go_at_call 68; refine (HZ.out _).mono ?_; rintro e w' ⟨rfl, rfl⟩) | (go_at_call 69; with_reducible refine (HL.out _).mono ?_; rintro e4 w4 ⟨rfl, hb4⟩; obtain ⟨hc4, hf4⟩ := bcell hb4; have hB4 : Below w.heap.size w w4 := (below_then (by first | (go_grown; done) | (repeat (first | (with_reducible assumption) | (with_reducible exact Below.refl _ _) | (with_reducible refine below_drewN' ?_ _) | (with_reducible refine Below.drew ?_) | ((with_reducible refine Below.alloc ?_ ?_ _); rotate_left; focus (first | (simp; done) | (simp; omega) | omega)) | ((with_reducible refine Below.setCell ?_ ?_ _); rotate_left; focus (first | (simp; done) | (simp; omega) | omega))))) (by first | omega | (simp; done) | (simp; omega)) hb4); have hz4a : w.heap.size + 1 + 1 + 1 < w4.heap.size := (by have := hb4.size; first | omega | (simp at this; omega)))
  have hr := ((RowAt.made (xs := [0, 0, 0, 0, 0, 0, 0, 0]) rfl).below hb1 (by simp))
  simp only [World.size_alloc] at hr
  replace hr := hr.below hb2 hr.lt
  replace hr := hr.below hb3 hr.lt
  replace hr := hr.below hb4 hr.lt
  obtain ⟨gq, hgq⟩ : ∃ g, w4.heap.size = g := ⟨_, rfl⟩
  have zq : w.heap.size + 1 + 1 + 1 < gq := by have := hr.lt; omega
  have hrq : RowAt (w4.alloc (.cells #[.int .i64 (Ax), .int .i64 (Ay), .int .i64 (Bx), .int .i64 (By), .int .i64 (Bx + Dx - Ax), .int .i64 (By + Dy - Ay), .int .i64 (Dx), .int .i64 (Dy)] 48)) gq 48 [Ax, Ay, Bx, By, Bx + Dx - Ax, By + Dy - Ay, Dx, Dy] := by
    have h := RowAt.made (w := w4) (t := 48) (xs := [Ax, Ay, Bx, By, Bx + Dx - Ax, By + Dy - Ay, Dx, Dy]) rfl
    rw [hgq] at h
    exact h
  rw [hgq]
  refine gen_worldC (P := fun W' => Code.wp _ _ _ _ W') (Q := fun W' => Below w.heap.size w W' ∧ RowAt W' (w.heap.size + 1 + 1 + 1) 48 [0, 0, 0, 0, 0, 0, 0, 0] ∧ RowAt W' gq 48 [Ax, Ay, Bx, By, Bx + Dx - Ax, By + Dy - Ay, Dx, Dy]) (by exact ⟨hB4.alloc (by have := hB4.size; omega) _, hr.below (B := w4.heap.size) ((Below.refl _ _).alloc (Nat.le_refl _) _) hr.lt, hrq⟩) ?_
  clear hrq hr
  rintro W1 ⟨hBW, hr, hrq⟩
  have fq0 : W1.cell? ⟨gq, 0, none⟩ = some (.int .i64 (Ax)) := hrq.cell (k := 0) (by simp)
  have fq1 : W1.cell? ⟨gq, 1, none⟩ = some (.int .i64 (Ay)) := hrq.cell (k := 1) (by simp)
  have fq2 : W1.cell? ⟨gq, 2, none⟩ = some (.int .i64 (Bx)) := hrq.cell (k := 2) (by simp)
  have fq3 : W1.cell? ⟨gq, 3, none⟩ = some (.int .i64 (By)) := hrq.cell (k := 3) (by simp)
  have fq4 : W1.cell? ⟨gq, 4, none⟩ = some (.int .i64 (Bx + Dx - Ax)) := hrq.cell (k := 4) (by simp)
  have fq5 : W1.cell? ⟨gq, 5, none⟩ = some (.int .i64 (By + Dy - Ay)) := hrq.cell (k := 5) (by simp)
  have fq6 : W1.cell? ⟨gq, 6, none⟩ = some (.int .i64 (Dx)) := hrq.cell (k := 6) (by simp)
  have fq7 : W1.cell? ⟨gq, 7, none⟩ = some (.int .i64 (Dy)) := hrq.cell (k := 7) (by simp)
  have zW := hrq.lt
  go_upto_region 8 with (go_at_call 55; with_reducible refine (HQ.out _).mono ?_; rintro e8 w8 ⟨rfl, hb8⟩; obtain ⟨hc8, hf8⟩ := bcell hb8; have hB8 : Below w.heap.size w w8 := (below_then (by first | (go_grown; done) | (repeat (first | (with_reducible assumption) | (with_reducible exact Below.refl _ _) | (with_reducible refine below_drewN' ?_ _) | (with_reducible refine Below.drew ?_) | ((with_reducible refine Below.alloc ?_ ?_ _); rotate_left; focus (first | (simp; done) | (simp; omega) | omega)) | ((with_reducible refine Below.setCell ?_ ?_ _); rotate_left; focus (first | (simp; done) | (simp; omega) | omega))))) (by first | omega | (simp; done) | (simp; omega)) hb8); have hz8a : gq < w8.heap.size := (by have := hb8.size; first | omega | (simp at this; omega)))
  replace hr := hr.below hb8 hr.lt
  have fp0 := (hc8 gq 0 zW).trans fq0
  have fp1 := (hc8 gq 1 zW).trans fq1
  have fp2 := (hc8 gq 2 zW).trans fq2
  have fp3 := (hc8 gq 3 zW).trans fq3
  have fp4 := (hc8 gq 4 zW).trans fq4
  have fp5 := (hc8 gq 5 zW).trans fq5
  have fp6 := (hc8 gq 6 zW).trans fq6
  have fp7 := (hc8 gq 7 zW).trans fq7
  have fr0 : w8.cell? ⟨w.heap.size + 1 + 1 + 1, 0, none⟩ = some (.int .i64 0) := hr.cell (k := 0) (by simp)
  have fr1 : w8.cell? ⟨w.heap.size + 1 + 1 + 1, 1, none⟩ = some (.int .i64 0) := hr.cell (k := 1) (by simp)
  have fr2 : w8.cell? ⟨w.heap.size + 1 + 1 + 1, 2, none⟩ = some (.int .i64 0) := hr.cell (k := 2) (by simp)
  have fr3 : w8.cell? ⟨w.heap.size + 1 + 1 + 1, 3, none⟩ = some (.int .i64 0) := hr.cell (k := 3) (by simp)
  have fr4 : w8.cell? ⟨w.heap.size + 1 + 1 + 1, 4, none⟩ = some (.int .i64 0) := hr.cell (k := 4) (by simp)
  have fr5 : w8.cell? ⟨w.heap.size + 1 + 1 + 1, 5, none⟩ = some (.int .i64 0) := hr.cell (k := 5) (by simp)
  have fr6 : w8.cell? ⟨w.heap.size + 1 + 1 + 1, 6, none⟩ = some (.int .i64 0) := hr.cell (k := 6) (by simp)
  have fr7 : w8.cell? ⟨w.heap.size + 1 + 1 + 1, 7, none⟩ = some (.int .i64 0) := hr.cell (k := 7) (by simp)
  have ffr : ∀ j, w8.frozen? ⟨w.heap.size + 1 + 1 + 1, j, none⟩ = false := hr.free
  have zr := hr.lt
  go_wp2_with fail
  (try simp only [Exit.inBlock, Exit.then]); refine bodyPost_ret (by simp [results, Try.results36, go_sem, fr0, fr1, fr2, fr3, fr4, fr5, fr6, fr7]; try rfl) rfl ?_
  exact ⟨rfl, by (repeat (first | (with_reducible assumption) | (with_reducible exact Below.refl _ _) | (with_reducible refine below_drewN' ?_ _) | (with_reducible refine Below.drew ?_) | ((with_reducible refine Below.alloc ?_ ?_ _); rotate_left; focus (first | (simp; done) | (simp; omega) | omega)) | ((with_reducible refine Below.setCell ?_ ?_ _); rotate_left; focus (first | (simp; done) | (simp; omega) | omega))))⟩
end Go.Proofs.Ytnhhbpdjapccpaa
