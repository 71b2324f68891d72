/-
  Contracts of chapter 27: damages.
-/
import Derived.Test.YtffcjmnldmjocaaC01
namespace Go.Proofs.Ytffcjmnldmjocaa
open Go.RowKit

def blotB (r c t v : Int) : Bool := inR r 0 400 && inR c 0 400 && inR t 0 400 && (v == 0)
set_option maxHeartbeats 400000 in
theorem blot_fine_any (k r c t v g : Int) (w : World) :
    Calls Try.prog 94 #[.agg #[.int .i64 k, .int .i64 r, .int .i64 c, .int .i64 t, .int .i64 v, .int .i64 g]] w fun e w' => e = .returned (.bool (blotB r c t v)) ∧ Below w.heap.size w w' := by
  go_enter Try.func94, Try.ntmps94
  go_wp2_with (go_at_call 32; refine (inRange_any _ _ _ _).mono ?_; rintro e w' ⟨rfl, rfl⟩)
  all_goals (go_ret; exact ⟨ret_bool (by unfold blotB; simp [*]), by go_grown⟩)
def scratchB (r c t v : Int) : Bool := inR r 0 400 && inR c 0 400 && inR t 1 400 && inR v 1 400
set_option maxHeartbeats 400000 in
theorem scratch_fine_any (k r c t v g : Int) (w : World) :
    Calls Try.prog 98 #[.agg #[.int .i64 k, .int .i64 r, .int .i64 c, .int .i64 t, .int .i64 v, .int .i64 g]] w fun e w' => e = .returned (.bool (scratchB r c t v)) ∧ Below w.heap.size w w' := by
  go_enter Try.func98, Try.ntmps98
  go_wp2_with (go_at_call 32; refine (inRange_any _ _ _ _).mono ?_; rintro e w' ⟨rfl, rfl⟩)
  all_goals (go_ret; exact ⟨ret_bool (by unfold scratchB; simp [*]), by go_grown⟩)
def skewB (r c t v : Int) : Bool := (r == 0) && (c == 0) && inR t 1 400 && inR v (-400) 400
set_option maxHeartbeats 400000 in
theorem skew_fine_any (k r c t v g : Int) (w : World) :
    Calls Try.prog 102 #[.agg #[.int .i64 k, .int .i64 r, .int .i64 c, .int .i64 t, .int .i64 v, .int .i64 g]] w fun e w' => e = .returned (.bool (skewB r c t v)) ∧ Below w.heap.size w w' := by
  go_enter Try.func102, Try.ntmps102
  go_wp2_with (go_at_call 32; refine (inRange_any _ _ _ _).mono ?_; rintro e w' ⟨rfl, rfl⟩)
  all_goals (go_ret; exact ⟨ret_bool (by unfold skewB; simp [*]), by go_grown⟩)
def noiseB (r c t v : Int) : Bool := inR r 0 400 && inR t 0 400 && (c == 0) && (v == 0)
set_option maxHeartbeats 400000 in
theorem noise_fine_any (k r c t v g : Int) (w : World) :
    Calls Try.prog 106 #[.agg #[.int .i64 k, .int .i64 r, .int .i64 c, .int .i64 t, .int .i64 v, .int .i64 g]] w fun e w' => e = .returned (.bool (noiseB r c t v)) ∧ Below w.heap.size w w' := by
  go_enter Try.func106, Try.ntmps106
  go_wp2_with (go_at_call 32; refine (inRange_any _ _ _ _).mono ?_; rintro e w' ⟨rfl, rfl⟩)
  all_goals (go_ret; exact ⟨ret_bool (by unfold noiseB; simp [*]), by go_grown⟩)
def fadeB (r c t v : Int) : Bool := (r == 0) && (c == 0) && (v == 0) && inR t 0 256
set_option maxHeartbeats 400000 in
theorem fade_fine_any (k r c t v g : Int) (w : World) :
    Calls Try.prog 110 #[.agg #[.int .i64 k, .int .i64 r, .int .i64 c, .int .i64 t, .int .i64 v, .int .i64 g]] w fun e w' => e = .returned (.bool (fadeB r c t v)) ∧ Below w.heap.size w w' := by
  go_enter Try.func110, Try.ntmps110
  go_wp2_with (go_at_call 32; refine (inRange_any _ _ _ _).mono ?_; rintro e w' ⟨rfl, rfl⟩)
  all_goals (go_ret; exact ⟨ret_bool (by unfold fadeB; simp [*]), by go_grown⟩)
/-- A valid damage. -/
def isDamageB (k r c t v g : Int) : Bool :=
  inR k 1 5 && (if k = 1 then blotB r c t v else if k = 2 then scratchB r c t v else if k = 3 then skewB r c t v else if k = 4 then noiseB r c t v else fadeB r c t v) && inR g 0 255
set_option maxHeartbeats 1000000 in
theorem IsDamage_any (k r c t v g : Int) (w : World) :
    Calls Try.prog 9 #[.agg #[.int .i64 k, .int .i64 r, .int .i64 c, .int .i64 t, .int .i64 v, .int .i64 g]] w fun e w' => e = .returned (.bool (isDamageB k r c t v g)) ∧ Below w.heap.size w w' := by
  by_cases h1 : k = 1
  · subst h1
    have hm : ∀ w : World, (method (Try.prog.types.size + Made.depth) 88 (.agg #[.int .i64 1, .int .i64 r, .int .i64 c, .int .i64 t, .int .i64 v, .int .i64 g]) "loop.example/g00879/impl.fine").run Try.prog w = .ok (94, .agg #[.int .i64 1, .int .i64 r, .int .i64 c, .int .i64 t, .int .i64 v, .int .i64 g]) w := fun _ => by kernel_rfl
    go_enter Try.func9, Try.ntmps9
    go_wp2_with first | (go_at_call 32; refine (inRange_any _ _ _ _).mono ?_; rintro e w' ⟨rfl, rfl⟩) | (go_at_call 94; go_call (blot_fine_any _ _ _ _ _ _ _) as e1 w1 ⟨rfl, hb1⟩; obtain ⟨hc1, hf1⟩ := bcell hb1; have hB1 : Below w.heap.size w w1 := (below_then (by first | (go_grown; done) | (repeat (first | (with_reducible assumption) | (with_reducible exact Below.refl _ _) | (with_reducible refine below_drewN' ?_ _) | (with_reducible refine Below.drew ?_) | ((with_reducible refine Below.alloc ?_ ?_ _); rotate_left; focus (first | (simp; done) | (simp; omega) | omega)) | ((with_reducible refine Below.setCell ?_ ?_ _); rotate_left; focus (first | (simp; done) | (simp; omega) | omega))))) (by first | omega | (simp; done) | (simp; omega)) hb1); have hz1a : w.heap.size < w1.heap.size := (by have := hb1.size; first | omega | (simp at this; omega))) | go_in
    all_goals (go_ret; exact ⟨ret_bool (by unfold isDamageB; simp [*, inR]), by (repeat (first | (with_reducible assumption) | (with_reducible exact Below.refl _ _) | (with_reducible refine below_drewN' ?_ _) | (with_reducible refine Below.drew ?_) | ((with_reducible refine Below.alloc ?_ ?_ _); rotate_left; focus (first | (simp; done) | (simp; omega) | omega)) | ((with_reducible refine Below.setCell ?_ ?_ _); rotate_left; focus (first | (simp; done) | (simp; omega) | omega))))⟩)
  by_cases h2 : k = 2
  · subst h2
    have hm : ∀ w : World, (method (Try.prog.types.size + Made.depth) 89 (.agg #[.int .i64 2, .int .i64 r, .int .i64 c, .int .i64 t, .int .i64 v, .int .i64 g]) "loop.example/g00879/impl.fine").run Try.prog w = .ok (98, .agg #[.int .i64 2, .int .i64 r, .int .i64 c, .int .i64 t, .int .i64 v, .int .i64 g]) w := fun _ => by kernel_rfl
    go_enter Try.func9, Try.ntmps9
    go_wp2_with first | (go_at_call 32; refine (inRange_any _ _ _ _).mono ?_; rintro e w' ⟨rfl, rfl⟩) | (go_at_call 98; go_call (scratch_fine_any _ _ _ _ _ _ _) as e1 w1 ⟨rfl, hb1⟩; obtain ⟨hc1, hf1⟩ := bcell hb1; have hB1 : Below w.heap.size w w1 := (below_then (by first | (go_grown; done) | (repeat (first | (with_reducible assumption) | (with_reducible exact Below.refl _ _) | (with_reducible refine below_drewN' ?_ _) | (with_reducible refine Below.drew ?_) | ((with_reducible refine Below.alloc ?_ ?_ _); rotate_left; focus (first | (simp; done) | (simp; omega) | omega)) | ((with_reducible refine Below.setCell ?_ ?_ _); rotate_left; focus (first | (simp; done) | (simp; omega) | omega))))) (by first | omega | (simp; done) | (simp; omega)) hb1); have hz1a : w.heap.size < w1.heap.size := (by have := hb1.size; first | omega | (simp at this; omega))) | go_in
    all_goals (go_ret; exact ⟨ret_bool (by unfold isDamageB; simp [*, inR]), by (repeat (first | (with_reducible assumption) | (with_reducible exact Below.refl _ _) | (with_reducible refine below_drewN' ?_ _) | (with_reducible refine Below.drew ?_) | ((with_reducible refine Below.alloc ?_ ?_ _); rotate_left; focus (first | (simp; done) | (simp; omega) | omega)) | ((with_reducible refine Below.setCell ?_ ?_ _); rotate_left; focus (first | (simp; done) | (simp; omega) | omega))))⟩)
  by_cases h3 : k = 3
  · subst h3
    have hm : ∀ w : World, (method (Try.prog.types.size + Made.depth) 90 (.agg #[.int .i64 3, .int .i64 r, .int .i64 c, .int .i64 t, .int .i64 v, .int .i64 g]) "loop.example/g00879/impl.fine").run Try.prog w = .ok (102, .agg #[.int .i64 3, .int .i64 r, .int .i64 c, .int .i64 t, .int .i64 v, .int .i64 g]) w := fun _ => by kernel_rfl
    go_enter Try.func9, Try.ntmps9
    go_wp2_with first | (go_at_call 32; refine (inRange_any _ _ _ _).mono ?_; rintro e w' ⟨rfl, rfl⟩) | (go_at_call 102; go_call (skew_fine_any _ _ _ _ _ _ _) as e1 w1 ⟨rfl, hb1⟩; obtain ⟨hc1, hf1⟩ := bcell hb1; have hB1 : Below w.heap.size w w1 := (below_then (by first | (go_grown; done) | (repeat (first | (with_reducible assumption) | (with_reducible exact Below.refl _ _) | (with_reducible refine below_drewN' ?_ _) | (with_reducible refine Below.drew ?_) | ((with_reducible refine Below.alloc ?_ ?_ _); rotate_left; focus (first | (simp; done) | (simp; omega) | omega)) | ((with_reducible refine Below.setCell ?_ ?_ _); rotate_left; focus (first | (simp; done) | (simp; omega) | omega))))) (by first | omega | (simp; done) | (simp; omega)) hb1); have hz1a : w.heap.size < w1.heap.size := (by have := hb1.size; first | omega | (simp at this; omega))) | go_in
    all_goals (go_ret; exact ⟨ret_bool (by unfold isDamageB; simp [*, inR]), by (repeat (first | (with_reducible assumption) | (with_reducible exact Below.refl _ _) | (with_reducible refine below_drewN' ?_ _) | (with_reducible refine Below.drew ?_) | ((with_reducible refine Below.alloc ?_ ?_ _); rotate_left; focus (first | (simp; done) | (simp; omega) | omega)) | ((with_reducible refine Below.setCell ?_ ?_ _); rotate_left; focus (first | (simp; done) | (simp; omega) | omega))))⟩)
  by_cases h4 : k = 4
  · subst h4
    have hm : ∀ w : World, (method (Try.prog.types.size + Made.depth) 91 (.agg #[.int .i64 4, .int .i64 r, .int .i64 c, .int .i64 t, .int .i64 v, .int .i64 g]) "loop.example/g00879/impl.fine").run Try.prog w = .ok (106, .agg #[.int .i64 4, .int .i64 r, .int .i64 c, .int .i64 t, .int .i64 v, .int .i64 g]) w := fun _ => by kernel_rfl
    go_enter Try.func9, Try.ntmps9
    go_wp2_with first | (go_at_call 32; refine (inRange_any _ _ _ _).mono ?_; rintro e w' ⟨rfl, rfl⟩) | (go_at_call 106; go_call (noise_fine_any _ _ _ _ _ _ _) as e1 w1 ⟨rfl, hb1⟩; obtain ⟨hc1, hf1⟩ := bcell hb1; have hB1 : Below w.heap.size w w1 := (below_then (by first | (go_grown; done) | (repeat (first | (with_reducible assumption) | (with_reducible exact Below.refl _ _) | (with_reducible refine below_drewN' ?_ _) | (with_reducible refine Below.drew ?_) | ((with_reducible refine Below.alloc ?_ ?_ _); rotate_left; focus (first | (simp; done) | (simp; omega) | omega)) | ((with_reducible refine Below.setCell ?_ ?_ _); rotate_left; focus (first | (simp; done) | (simp; omega) | omega))))) (by first | omega | (simp; done) | (simp; omega)) hb1); have hz1a : w.heap.size < w1.heap.size := (by have := hb1.size; first | omega | (simp at this; omega))) | go_in
    all_goals (go_ret; exact ⟨ret_bool (by unfold isDamageB; simp [*, inR]), by (repeat (first | (with_reducible assumption) | (with_reducible exact Below.refl _ _) | (with_reducible refine below_drewN' ?_ _) | (with_reducible refine Below.drew ?_) | ((with_reducible refine Below.alloc ?_ ?_ _); rotate_left; focus (first | (simp; done) | (simp; omega) | omega)) | ((with_reducible refine Below.setCell ?_ ?_ _); rotate_left; focus (first | (simp; done) | (simp; omega) | omega))))⟩)
  by_cases h5 : k = 5
  · subst h5
    have hm : ∀ w : World, (method (Try.prog.types.size + Made.depth) 92 (.agg #[.int .i64 5, .int .i64 r, .int .i64 c, .int .i64 t, .int .i64 v, .int .i64 g]) "loop.example/g00879/impl.fine").run Try.prog w = .ok (110, .agg #[.int .i64 5, .int .i64 r, .int .i64 c, .int .i64 t, .int .i64 v, .int .i64 g]) w := fun _ => by kernel_rfl
    go_enter Try.func9, Try.ntmps9
    go_wp2_with first | (go_at_call 32; refine (inRange_any _ _ _ _).mono ?_; rintro e w' ⟨rfl, rfl⟩) | (go_at_call 110; go_call (fade_fine_any _ _ _ _ _ _ _) as e1 w1 ⟨rfl, hb1⟩; obtain ⟨hc1, hf1⟩ := bcell hb1; have hB1 : Below w.heap.size w w1 := (below_then (by first | (go_grown; done) | (repeat (first | (with_reducible assumption) | (with_reducible exact Below.refl _ _) | (with_reducible refine below_drewN' ?_ _) | (with_reducible refine Below.drew ?_) | ((with_reducible refine Below.alloc ?_ ?_ _); rotate_left; focus (first | (simp; done) | (simp; omega) | omega)) | ((with_reducible refine Below.setCell ?_ ?_ _); rotate_left; focus (first | (simp; done) | (simp; omega) | omega))))) (by first | omega | (simp; done) | (simp; omega)) hb1); have hz1a : w.heap.size < w1.heap.size := (by have := hb1.size; first | omega | (simp at this; omega))) | go_in
    all_goals (go_ret; exact ⟨ret_bool (by unfold isDamageB; simp [*, inR]), by (repeat (first | (with_reducible assumption) | (with_reducible exact Below.refl _ _) | (with_reducible refine below_drewN' ?_ _) | (with_reducible refine Below.drew ?_) | ((with_reducible refine Below.alloc ?_ ?_ _); rotate_left; focus (first | (simp; done) | (simp; omega) | omega)) | ((with_reducible refine Below.setCell ?_ ?_ _); rotate_left; focus (first | (simp; done) | (simp; omega) | omega))))⟩)
  · have hk : inR k 1 5 = false := by unfold inR; simp; omega
    go_enter Try.func9, Try.ntmps9
    go_wp2
    all_goals (go_ret; exact ⟨ret_bool (by unfold isDamageB; simp [hk]), by (repeat (first | (with_reducible assumption) | (with_reducible exact Below.refl _ _) | (with_reducible refine below_drewN' ?_ _) | (with_reducible refine Below.drew ?_) | ((with_reducible refine Below.alloc ?_ ?_ _); rotate_left; focus (first | (simp; done) | (simp; omega) | omega)) | ((with_reducible refine Below.setCell ?_ ?_ _); rotate_left; focus (first | (simp; done) | (simp; omega) | omega))))⟩)
end Go.Proofs.Ytffcjmnldmjocaa
