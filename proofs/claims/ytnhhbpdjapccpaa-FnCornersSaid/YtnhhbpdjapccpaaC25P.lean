/-
  Contracts of chapter 25: the code of a map and a point, its image, its spot.
-/
import Derived.Test.YtnhhbpdjapccpaaC25I
namespace Go.Proofs.Ytnhhbpdjapccpaa
open Go.RowKit

set_option maxRecDepth 100000 in
set_option maxHeartbeats 1000000 in
theorem pointCode_any (a b c d e f g h i u v n : Int) (w : World) :
    Calls Try.prog 49 #[.agg #[.int .i64 a, .int .i64 b, .int .i64 c, .int .i64 d, .int .i64 e, .int .i64 f, .int .i64 g, .int .i64 h, .int .i64 i], .int .i64 u, .int .i64 v, .int .i64 n] w fun e' w' =>
      e' = .returned (.int .i64 (codeB [a, b, c, d, e, f, g, h, i] u v n)) ∧ Below w.heap.size w w' := by
  cases hm : isMapB [a, b, c, d, e, f, g, h, i]
  · have hc := codeB_1 (u := u) (v := v) (n := n) hm
    rw [hc]
    clear hc
    go_enter Try.func49, Try.ntmps49
    go_wp2_with (go_at_call 17; go_call (IsMap_any _ _ _ _ _ _ _ _ _ _) as e1 w1 ⟨rfl, hb1⟩; obtain ⟨hc1, hf1⟩ := bcell hb1; have hB1 : Below w.heap.size w w1 := (below_then (by first | (go_grown; done) | (repeat (first | (with_reducible assumption) | (with_reducible exact Below.refl _ _) | (with_reducible refine below_drewN' ?_ _) | (with_reducible refine Below.drew ?_) | ((with_reducible refine Below.alloc ?_ ?_ _); rotate_left; focus (first | (simp; done) | (simp; omega) | omega)) | ((with_reducible refine Below.setCell ?_ ?_ _); rotate_left; focus (first | (simp; done) | (simp; omega) | omega))))) (by first | omega | (simp; done) | (simp; omega)) hb1); have hz1a : w.heap.size < w1.heap.size := (by have := hb1.size; first | omega | (simp at this; omega)))
    all_goals (go_ret; exact ⟨rfl, by go_grown⟩)
  · rcases inR_cases n 1 100000 with ⟨en, n1, n2⟩ | ⟨en, _⟩
    · rcases inR_cases u (-n) (2 * n) with ⟨eu, u1, u2⟩ | ⟨eu, _⟩
      · rcases inR_cases v (-n) (2 * n) with ⟨ev, v1, v2⟩ | ⟨ev, _⟩
        · have hc := codeB_3 (u := u) (v := v) (n := n) hm (by rw [en, eu, ev]; rfl)
          rw [hc]
          clear hc
          simp only [nth, List.getD_cons_succ, List.getD_cons_zero]
          skip
          rcases Int.lt_or_le 0 (imgI g h i u v n) with hw | hw
          · rw [if_neg (by omega)]
            go_enter Try.func49, Try.ntmps49
            go_wp2_with first | (go_at_call 42; refine (inRange_any _ _ _ _).mono ?_; rintro e w' ⟨rfl, rfl⟩) | (go_at_call 17; go_call (IsMap_any _ _ _ _ _ _ _ _ _ _) as e1 w1 ⟨rfl, hb1⟩; obtain ⟨hc1, hf1⟩ := bcell hb1; have hB1 : Below w.heap.size w w1 := (below_then (by first | (go_grown; done) | (repeat (first | (with_reducible assumption) | (with_reducible exact Below.refl _ _) | (with_reducible refine below_drewN' ?_ _) | (with_reducible refine Below.drew ?_) | ((with_reducible refine Below.alloc ?_ ?_ _); rotate_left; focus (first | (simp; done) | (simp; omega) | omega)) | ((with_reducible refine Below.setCell ?_ ?_ _); rotate_left; focus (first | (simp; done) | (simp; omega) | omega))))) (by first | omega | (simp; done) | (simp; omega)) hb1); have hz1a : w.heap.size < w1.heap.size := (by have := hb1.size; first | omega | (simp at this; omega))) | (go_at_call 50; go_call (image_any a b c d e f g h i u v n _ hm (by omega) (by omega) (by omega) (by omega) (by omega) (by omega)) as e2 w2 ⟨rfl, hb2⟩; obtain ⟨hc2, hf2⟩ := bcell hb2; have hB2 : Below w.heap.size w w2 := (below_then (by first | (go_grown; done) | (repeat (first | (with_reducible assumption) | (with_reducible exact Below.refl _ _) | (with_reducible refine below_drewN' ?_ _) | (with_reducible refine Below.drew ?_) | ((with_reducible refine Below.alloc ?_ ?_ _); rotate_left; focus (first | (simp; done) | (simp; omega) | omega)) | ((with_reducible refine Below.setCell ?_ ?_ _); rotate_left; focus (first | (simp; done) | (simp; omega) | omega))))) (by first | omega | (simp; done) | (simp; omega)) hb2); have hz2a : w.heap.size < w2.heap.size := (by have := hb2.size; first | omega | (simp at this; omega)))
            all_goals (go_ret; exact ⟨rfl, by go_grown⟩)
          · rw [if_pos hw]
            go_enter Try.func49, Try.ntmps49
            go_wp2_with first | (go_at_call 42; refine (inRange_any _ _ _ _).mono ?_; rintro e w' ⟨rfl, rfl⟩) | (go_at_call 17; go_call (IsMap_any _ _ _ _ _ _ _ _ _ _) as e1 w1 ⟨rfl, hb1⟩; obtain ⟨hc1, hf1⟩ := bcell hb1; have hB1 : Below w.heap.size w w1 := (below_then (by first | (go_grown; done) | (repeat (first | (with_reducible assumption) | (with_reducible exact Below.refl _ _) | (with_reducible refine below_drewN' ?_ _) | (with_reducible refine Below.drew ?_) | ((with_reducible refine Below.alloc ?_ ?_ _); rotate_left; focus (first | (simp; done) | (simp; omega) | omega)) | ((with_reducible refine Below.setCell ?_ ?_ _); rotate_left; focus (first | (simp; done) | (simp; omega) | omega))))) (by first | omega | (simp; done) | (simp; omega)) hb1); have hz1a : w.heap.size < w1.heap.size := (by have := hb1.size; first | omega | (simp at this; omega))) | (go_at_call 50; go_call (image_any a b c d e f g h i u v n _ hm (by omega) (by omega) (by omega) (by omega) (by omega) (by omega)) as e2 w2 ⟨rfl, hb2⟩; obtain ⟨hc2, hf2⟩ := bcell hb2; have hB2 : Below w.heap.size w w2 := (below_then (by first | (go_grown; done) | (repeat (first | (with_reducible assumption) | (with_reducible exact Below.refl _ _) | (with_reducible refine below_drewN' ?_ _) | (with_reducible refine Below.drew ?_) | ((with_reducible refine Below.alloc ?_ ?_ _); rotate_left; focus (first | (simp; done) | (simp; omega) | omega)) | ((with_reducible refine Below.setCell ?_ ?_ _); rotate_left; focus (first | (simp; done) | (simp; omega) | omega))))) (by first | omega | (simp; done) | (simp; omega)) hb2); have hz2a : w.heap.size < w2.heap.size := (by have := hb2.size; first | omega | (simp at this; omega)))
            all_goals (go_ret; exact ⟨rfl, by go_grown⟩)
        · have hc := codeB_2 (u := u) (v := v) (n := n) hm (by rw [en, eu, ev]; rfl)
          rw [hc]
          clear hc
          go_enter Try.func49, Try.ntmps49
          go_wp2_with first | (go_at_call 42; refine (inRange_any _ _ _ _).mono ?_; rintro e w' ⟨rfl, rfl⟩) | (go_at_call 17; go_call (IsMap_any _ _ _ _ _ _ _ _ _ _) as e1 w1 ⟨rfl, hb1⟩; obtain ⟨hc1, hf1⟩ := bcell hb1; have hB1 : Below w.heap.size w w1 := (below_then (by first | (go_grown; done) | (repeat (first | (with_reducible assumption) | (with_reducible exact Below.refl _ _) | (with_reducible refine below_drewN' ?_ _) | (with_reducible refine Below.drew ?_) | ((with_reducible refine Below.alloc ?_ ?_ _); rotate_left; focus (first | (simp; done) | (simp; omega) | omega)) | ((with_reducible refine Below.setCell ?_ ?_ _); rotate_left; focus (first | (simp; done) | (simp; omega) | omega))))) (by first | omega | (simp; done) | (simp; omega)) hb1); have hz1a : w.heap.size < w1.heap.size := (by have := hb1.size; first | omega | (simp at this; omega)))
          all_goals (go_ret; exact ⟨rfl, by go_grown⟩)
      · have hc := codeB_2 (u := u) (v := v) (n := n) hm (by rw [en, eu]; rfl)
        rw [hc]
        clear hc
        go_enter Try.func49, Try.ntmps49
        go_wp2_with first | (go_at_call 42; refine (inRange_any _ _ _ _).mono ?_; rintro e w' ⟨rfl, rfl⟩) | (go_at_call 17; go_call (IsMap_any _ _ _ _ _ _ _ _ _ _) as e1 w1 ⟨rfl, hb1⟩; obtain ⟨hc1, hf1⟩ := bcell hb1; have hB1 : Below w.heap.size w w1 := (below_then (by first | (go_grown; done) | (repeat (first | (with_reducible assumption) | (with_reducible exact Below.refl _ _) | (with_reducible refine below_drewN' ?_ _) | (with_reducible refine Below.drew ?_) | ((with_reducible refine Below.alloc ?_ ?_ _); rotate_left; focus (first | (simp; done) | (simp; omega) | omega)) | ((with_reducible refine Below.setCell ?_ ?_ _); rotate_left; focus (first | (simp; done) | (simp; omega) | omega))))) (by first | omega | (simp; done) | (simp; omega)) hb1); have hz1a : w.heap.size < w1.heap.size := (by have := hb1.size; first | omega | (simp at this; omega)))
        all_goals (go_ret; exact ⟨rfl, by go_grown⟩)
    · have hc := codeB_2 (u := u) (v := v) (n := n) hm (by rw [en]; rfl)
      rw [hc]
      clear hc
      go_enter Try.func49, Try.ntmps49
      go_wp2_with first | (go_at_call 42; refine (inRange_any _ _ _ _).mono ?_; rintro e w' ⟨rfl, rfl⟩) | (go_at_call 17; go_call (IsMap_any _ _ _ _ _ _ _ _ _ _) as e1 w1 ⟨rfl, hb1⟩; obtain ⟨hc1, hf1⟩ := bcell hb1; have hB1 : Below w.heap.size w w1 := (below_then (by first | (go_grown; done) | (repeat (first | (with_reducible assumption) | (with_reducible exact Below.refl _ _) | (with_reducible refine below_drewN' ?_ _) | (with_reducible refine Below.drew ?_) | ((with_reducible refine Below.alloc ?_ ?_ _); rotate_left; focus (first | (simp; done) | (simp; omega) | omega)) | ((with_reducible refine Below.setCell ?_ ?_ _); rotate_left; focus (first | (simp; done) | (simp; omega) | omega))))) (by first | omega | (simp; done) | (simp; omega)) hb1); have hz1a : w.heap.size < w1.heap.size := (by have := hb1.size; first | omega | (simp at this; omega)))
      all_goals (go_ret; exact ⟨rfl, by go_grown⟩)
theorem tdiv_pos' {w : Int} {n : Nat} (hw : 0 < w) (hn : 0 < n) (hd : (n : Int) ∣ w) : 0 < w.tdiv n := by
  obtain ⟨q, rfl⟩ := hd
  rw [Int.mul_tdiv_cancel_left _ (by omega)]
  rcases Int.lt_or_le 0 q with h | h
  · exact h
  · have := Int.mul_le_mul_of_nonneg_left h (show (0 : Int) ≤ n by omega)
    omega
theorem tdiv_nonpos' {w : Int} {n : Nat} (hw : w ≤ 0) : w.tdiv n ≤ 0 := by
  have h := Int.tdiv_nonneg (a := -w) (b := (n : Int)) (by omega) (by omega)
  rw [Int.neg_tdiv] at h
  omega
theorem gcd3_pos {x y w : Int} (hw : 0 < w) : 0 < gcdL [x, y, w] := gcdL_pos (x := w) (by simp) (by omega)
theorem gcd3_dvd {x y w : Int} : (gcdL [x, y, w] : Int) ∣ x ∧ (gcdL [x, y, w] : Int) ∣ y ∧ (gcdL [x, y, w] : Int) ∣ w :=
  ⟨gcdL_dvd x (by simp), gcdL_dvd y (by simp), gcdL_dvd w (by simp)⟩
set_option maxRecDepth 100000 in
set_option maxHeartbeats 1000000 in
theorem l25Code_any (a b c d e f g h i u v n : Int) (w : World) :
    Calls Try.prog 47 #[.agg #[.int .i64 a, .int .i64 b, .int .i64 c, .int .i64 d, .int .i64 e, .int .i64 f, .int .i64 g, .int .i64 h, .int .i64 i], .int .i64 u, .int .i64 v, .int .i64 n] w fun e' w' =>
      e' = .returned (.int .i64 (codeB [a, b, c, d, e, f, g, h, i] u v n)) ∧ Below w.heap.size w w' := by
  cases hm : isMapB [a, b, c, d, e, f, g, h, i]
  · have hc := codeB_1 (u := u) (v := v) (n := n) hm
    rw [hc]
    clear hc
    go_enter Try.func47, Try.ntmps47
    go_wp2_with (go_at_call 15; go_call (sIsMap_any _ _ _ _ _ _ _ _ _ _) as e1 w1 ⟨rfl, hb1⟩; obtain ⟨hc1, hf1⟩ := bcell hb1; have hB1 : Below w.heap.size w w1 := (below_then (by first | (go_grown; done) | (repeat (first | (with_reducible assumption) | (with_reducible exact Below.refl _ _) | (with_reducible refine below_drewN' ?_ _) | (with_reducible refine Below.drew ?_) | ((with_reducible refine Below.alloc ?_ ?_ _); rotate_left; focus (first | (simp; done) | (simp; omega) | omega)) | ((with_reducible refine Below.setCell ?_ ?_ _); rotate_left; focus (first | (simp; done) | (simp; omega) | omega))))) (by first | omega | (simp; done) | (simp; omega)) hb1); have hz1a : w.heap.size < w1.heap.size := (by have := hb1.size; first | omega | (simp at this; omega)))
    all_goals (go_ret; exact ⟨rfl, by go_grown⟩)
  · rcases inR_cases n 1 100000 with ⟨en, n1, n2⟩ | ⟨en, _⟩
    · rcases inR_cases u (-n) (2 * n) with ⟨eu, u1, u2⟩ | ⟨eu, _⟩
      · rcases inR_cases v (-n) (2 * n) with ⟨ev, v1, v2⟩ | ⟨ev, _⟩
        · have hc := codeB_3 (u := u) (v := v) (n := n) hm (by rw [en, eu, ev]; rfl)
          rw [hc]
          clear hc
          simp only [nth, List.getD_cons_succ, List.getD_cons_zero]
          skip
          rcases Int.lt_or_le 0 (imgI g h i u v n) with hw | hw
          · rw [if_neg (by omega)]
            have hq := tdiv_pos' hw (gcd3_pos hw) (gcd3_dvd (x := imgI a b c u v n) (y := imgI d e f u v n)).2.2
            go_enter Try.func47, Try.ntmps47
            go_wp2_with first | (go_at_call 41; refine (l01In_any _ _ _ _).mono ?_; rintro e w' ⟨rfl, rfl⟩) | (go_at_call 15; go_call (sIsMap_any _ _ _ _ _ _ _ _ _ _) as e1 w1 ⟨rfl, hb1⟩; obtain ⟨hc1, hf1⟩ := bcell hb1; have hB1 : Below w.heap.size w w1 := (below_then (by first | (go_grown; done) | (repeat (first | (with_reducible assumption) | (with_reducible exact Below.refl _ _) | (with_reducible refine below_drewN' ?_ _) | (with_reducible refine Below.drew ?_) | ((with_reducible refine Below.alloc ?_ ?_ _); rotate_left; focus (first | (simp; done) | (simp; omega) | omega)) | ((with_reducible refine Below.setCell ?_ ?_ _); rotate_left; focus (first | (simp; done) | (simp; omega) | omega))))) (by first | omega | (simp; done) | (simp; omega)) hb1); have hz1a : w.heap.size < w1.heap.size := (by have := hb1.size; first | omega | (simp at this; omega))) | (go_at_call 48; go_call (l25At_any a b c d e f g h i u v n _ hm (by omega) (by omega) (by omega) (by omega) (by omega) (by omega)) as e2 w2 ⟨rfl, hb2⟩; obtain ⟨hc2, hf2⟩ := bcell hb2; have hB2 : Below w.heap.size w w2 := (below_then (by first | (go_grown; done) | (repeat (first | (with_reducible assumption) | (with_reducible exact Below.refl _ _) | (with_reducible refine below_drewN' ?_ _) | (with_reducible refine Below.drew ?_) | ((with_reducible refine Below.alloc ?_ ?_ _); rotate_left; focus (first | (simp; done) | (simp; omega) | omega)) | ((with_reducible refine Below.setCell ?_ ?_ _); rotate_left; focus (first | (simp; done) | (simp; omega) | omega))))) (by first | omega | (simp; done) | (simp; omega)) hb2); have hz2a : w.heap.size < w2.heap.size := (by have := hb2.size; first | omega | (simp at this; omega)))
            all_goals (go_ret; exact ⟨rfl, by go_grown⟩)
          · rw [if_pos hw]
            have hq := tdiv_nonpos' (n := gcdL [imgI a b c u v n, imgI d e f u v n, imgI g h i u v n]) hw
            go_enter Try.func47, Try.ntmps47
            go_wp2_with first | (go_at_call 41; refine (l01In_any _ _ _ _).mono ?_; rintro e w' ⟨rfl, rfl⟩) | (go_at_call 15; go_call (sIsMap_any _ _ _ _ _ _ _ _ _ _) as e1 w1 ⟨rfl, hb1⟩; obtain ⟨hc1, hf1⟩ := bcell hb1; have hB1 : Below w.heap.size w w1 := (below_then (by first | (go_grown; done) | (repeat (first | (with_reducible assumption) | (with_reducible exact Below.refl _ _) | (with_reducible refine below_drewN' ?_ _) | (with_reducible refine Below.drew ?_) | ((with_reducible refine Below.alloc ?_ ?_ _); rotate_left; focus (first | (simp; done) | (simp; omega) | omega)) | ((with_reducible refine Below.setCell ?_ ?_ _); rotate_left; focus (first | (simp; done) | (simp; omega) | omega))))) (by first | omega | (simp; done) | (simp; omega)) hb1); have hz1a : w.heap.size < w1.heap.size := (by have := hb1.size; first | omega | (simp at this; omega))) | (go_at_call 48; go_call (l25At_any a b c d e f g h i u v n _ hm (by omega) (by omega) (by omega) (by omega) (by omega) (by omega)) as e2 w2 ⟨rfl, hb2⟩; obtain ⟨hc2, hf2⟩ := bcell hb2; have hB2 : Below w.heap.size w w2 := (below_then (by first | (go_grown; done) | (repeat (first | (with_reducible assumption) | (with_reducible exact Below.refl _ _) | (with_reducible refine below_drewN' ?_ _) | (with_reducible refine Below.drew ?_) | ((with_reducible refine Below.alloc ?_ ?_ _); rotate_left; focus (first | (simp; done) | (simp; omega) | omega)) | ((with_reducible refine Below.setCell ?_ ?_ _); rotate_left; focus (first | (simp; done) | (simp; omega) | omega))))) (by first | omega | (simp; done) | (simp; omega)) hb2); have hz2a : w.heap.size < w2.heap.size := (by have := hb2.size; first | omega | (simp at this; omega)))
            all_goals (go_ret; exact ⟨rfl, by go_grown⟩)
        · have hc := codeB_2 (u := u) (v := v) (n := n) hm (by rw [en, eu, ev]; rfl)
          rw [hc]
          clear hc
          go_enter Try.func47, Try.ntmps47
          go_wp2_with first | (go_at_call 41; refine (l01In_any _ _ _ _).mono ?_; rintro e w' ⟨rfl, rfl⟩) | (go_at_call 15; go_call (sIsMap_any _ _ _ _ _ _ _ _ _ _) as e1 w1 ⟨rfl, hb1⟩; obtain ⟨hc1, hf1⟩ := bcell hb1; have hB1 : Below w.heap.size w w1 := (below_then (by first | (go_grown; done) | (repeat (first | (with_reducible assumption) | (with_reducible exact Below.refl _ _) | (with_reducible refine below_drewN' ?_ _) | (with_reducible refine Below.drew ?_) | ((with_reducible refine Below.alloc ?_ ?_ _); rotate_left; focus (first | (simp; done) | (simp; omega) | omega)) | ((with_reducible refine Below.setCell ?_ ?_ _); rotate_left; focus (first | (simp; done) | (simp; omega) | omega))))) (by first | omega | (simp; done) | (simp; omega)) hb1); have hz1a : w.heap.size < w1.heap.size := (by have := hb1.size; first | omega | (simp at this; omega)))
          all_goals (go_ret; exact ⟨rfl, by go_grown⟩)
      · have hc := codeB_2 (u := u) (v := v) (n := n) hm (by rw [en, eu]; rfl)
        rw [hc]
        clear hc
        go_enter Try.func47, Try.ntmps47
        go_wp2_with first | (go_at_call 41; refine (l01In_any _ _ _ _).mono ?_; rintro e w' ⟨rfl, rfl⟩) | (go_at_call 15; go_call (sIsMap_any _ _ _ _ _ _ _ _ _ _) as e1 w1 ⟨rfl, hb1⟩; obtain ⟨hc1, hf1⟩ := bcell hb1; have hB1 : Below w.heap.size w w1 := (below_then (by first | (go_grown; done) | (repeat (first | (with_reducible assumption) | (with_reducible exact Below.refl _ _) | (with_reducible refine below_drewN' ?_ _) | (with_reducible refine Below.drew ?_) | ((with_reducible refine Below.alloc ?_ ?_ _); rotate_left; focus (first | (simp; done) | (simp; omega) | omega)) | ((with_reducible refine Below.setCell ?_ ?_ _); rotate_left; focus (first | (simp; done) | (simp; omega) | omega))))) (by first | omega | (simp; done) | (simp; omega)) hb1); have hz1a : w.heap.size < w1.heap.size := (by have := hb1.size; first | omega | (simp at this; omega)))
        all_goals (go_ret; exact ⟨rfl, by go_grown⟩)
    · have hc := codeB_2 (u := u) (v := v) (n := n) hm (by rw [en]; rfl)
      rw [hc]
      clear hc
      go_enter Try.func47, Try.ntmps47
      go_wp2_with first | (go_at_call 41; refine (l01In_any _ _ _ _).mono ?_; rintro e w' ⟨rfl, rfl⟩) | (go_at_call 15; go_call (sIsMap_any _ _ _ _ _ _ _ _ _ _) as e1 w1 ⟨rfl, hb1⟩; obtain ⟨hc1, hf1⟩ := bcell hb1; have hB1 : Below w.heap.size w w1 := (below_then (by first | (go_grown; done) | (repeat (first | (with_reducible assumption) | (with_reducible exact Below.refl _ _) | (with_reducible refine below_drewN' ?_ _) | (with_reducible refine Below.drew ?_) | ((with_reducible refine Below.alloc ?_ ?_ _); rotate_left; focus (first | (simp; done) | (simp; omega) | omega)) | ((with_reducible refine Below.setCell ?_ ?_ _); rotate_left; focus (first | (simp; done) | (simp; omega) | omega))))) (by first | omega | (simp; done) | (simp; omega)) hb1); have hz1a : w.heap.size < w1.heap.size := (by have := hb1.size; first | omega | (simp at this; omega)))
      all_goals (go_ret; exact ⟨rfl, by go_grown⟩)
/-- What the code says, where it is 0. -/
theorem codeB_0 {a b c d e f g h i u v n : Int} (h0 : codeB [a, b, c, d, e, f, g, h, i] u v n = 0) :
    isMapB [a, b, c, d, e, f, g, h, i] = true ∧ (-200000 ≤ u ∧ u ≤ 200000) ∧ (-200000 ≤ v ∧ v ≤ 200000) ∧ (1 ≤ n ∧ n ≤ 100000) ∧ 0 < imgI g h i u v n := by
  unfold codeB at h0
  split at h0
  · rename_i hm
    split at h0
    · rename_i hr
      rw [Bool.and_eq_true, Bool.and_eq_true] at hr
      have h1 := inR_true hr.1.1
      have h2 := inR_true hr.1.2
      have h3 := inR_true hr.2
      split at h0
      · omega
      · rename_i hw
        exact ⟨hm, by omega, by omega, by omega, by simpa [nth] using hw⟩
    · omega
  · omega
theorem codeB_bd (xs : List Int) (u v n : Int) : 0 ≤ codeB xs u v n ∧ codeB xs u v n ≤ 5 := by
  unfold codeB; repeat (first | split | omega)
/-- A numerator or the denominator of a point's image, without a common divisor; 0 where there is none. -/
def ptQ (c z x y w : Int) : Int := if c = 0 then z.tdiv (gcdL [x, y, w]) else 0
theorem ptQ_0 {c z x y w : Int} (h : c = 0) : ptQ c z x y w = z.tdiv (gcdL [x, y, w]) := by unfold ptQ; rw [if_pos h]
theorem ptQ_no {c z x y w : Int} (h : c ≠ 0) : ptQ c z x y w = 0 := by unfold ptQ; rw [if_neg h]
theorem redL_3 {x y w : Int} (hw : 0 < w) : redL [x, y, w] = [x.tdiv (gcdL [x, y, w]), y.tdiv (gcdL [x, y, w]), w.tdiv (gcdL [x, y, w])] := by
  rw [redL_map (gcd3_pos hw)]
  have h : sgL [x, y, w] = gcdL [x, y, w] := by
    unfold sgL
    rw [if_neg (by simp [nth]; omega)]
  rw [h]; rfl
set_option maxRecDepth 100000 in
set_option maxHeartbeats 1000000 in
theorem sMapPoint_any (a b c d e f g h i u v n : Int) (w : World) :
    Calls Try.prog 20 #[.agg #[.int .i64 a, .int .i64 b, .int .i64 c, .int .i64 d, .int .i64 e, .int .i64 f, .int .i64 g, .int .i64 h, .int .i64 i], .int .i64 u, .int .i64 v, .int .i64 n] w fun e' w' =>
      e' = .returned (.tuple #[.int .i64 (ptQ (codeB [a, b, c, d, e, f, g, h, i] u v n) (imgI a b c u v n) (imgI a b c u v n) (imgI d e f u v n) (imgI g h i u v n)), .int .i64 (ptQ (codeB [a, b, c, d, e, f, g, h, i] u v n) (imgI d e f u v n) (imgI a b c u v n) (imgI d e f u v n) (imgI g h i u v n)), .int .i64 (ptQ (codeB [a, b, c, d, e, f, g, h, i] u v n) (imgI g h i u v n) (imgI a b c u v n) (imgI d e f u v n) (imgI g h i u v n)), .int .i64 (codeB [a, b, c, d, e, f, g, h, i] u v n)]) ∧ Below w.heap.size w w' := by
  have hcb := codeB_bd [a, b, c, d, e, f, g, h, i] u v n
  by_cases h0 : codeB [a, b, c, d, e, f, g, h, i] u v n = 0
  · simp only [ptQ_0 h0]
    rw [h0]
    obtain ⟨hm, ⟨u1, u2⟩, ⟨v1, v2⟩, ⟨n1, n2⟩, hw⟩ := codeB_0 h0
    go_enter Try.func20, Try.ntmps20
    go_wp2_with first | (go_at_call 47; go_call (l25Code_any _ _ _ _ _ _ _ _ _ _ _ _ _) as e1 w1 ⟨rfl, hb1⟩; obtain ⟨hc1, hf1⟩ := bcell hb1; have hB1 : Below w.heap.size w w1 := (below_then (by first | (go_grown; done) | (repeat (first | (with_reducible assumption) | (with_reducible exact Below.refl _ _) | (with_reducible refine below_drewN' ?_ _) | (with_reducible refine Below.drew ?_) | ((with_reducible refine Below.alloc ?_ ?_ _); rotate_left; focus (first | (simp; done) | (simp; omega) | omega)) | ((with_reducible refine Below.setCell ?_ ?_ _); rotate_left; focus (first | (simp; done) | (simp; omega) | omega))))) (by first | omega | (simp; done) | (simp; omega)) hb1); have hz1a : w.heap.size < w1.heap.size := (by have := hb1.size; first | omega | (simp at this; omega))) | (go_at_call 48; go_call (l25At_any a b c d e f g h i u v n _ hm u1 u2 v1 v2 (by omega) n2) as e2 w2 ⟨rfl, hb2⟩; obtain ⟨hc2, hf2⟩ := bcell hb2; have hB2 : Below w.heap.size w w2 := (below_then (by first | (go_grown; done) | (repeat (first | (with_reducible assumption) | (with_reducible exact Below.refl _ _) | (with_reducible refine below_drewN' ?_ _) | (with_reducible refine Below.drew ?_) | ((with_reducible refine Below.alloc ?_ ?_ _); rotate_left; focus (first | (simp; done) | (simp; omega) | omega)) | ((with_reducible refine Below.setCell ?_ ?_ _); rotate_left; focus (first | (simp; done) | (simp; omega) | omega))))) (by first | omega | (simp; done) | (simp; omega)) hb2); have hz2a : w.heap.size < w2.heap.size := (by have := hb2.size; first | omega | (simp at this; omega)))
    all_goals (go_returns; exact ⟨rfl, by go_grown⟩)
  · simp only [ptQ_no h0]
    obtain ⟨C, hC⟩ : ∃ C, C = codeB [a, b, c, d, e, f, g, h, i] u v n := ⟨_, rfl⟩
    rw [← hC] at h0 hcb
    rw [← hC]
    have HC := Lib.hid hC
    clear hC
    go_enter Try.func20, Try.ntmps20
    go_wp2_with ((go_at_call 47; go_call ((show ∀ w, Calls Try.prog 47 #[.agg #[.int .i64 a, .int .i64 b, .int .i64 c, .int .i64 d, .int .i64 e, .int .i64 f, .int .i64 g, .int .i64 h, .int .i64 i], .int .i64 u, .int .i64 v, .int .i64 n] w fun e' w' => e' = .returned (.int .i64 C) ∧ Below w.heap.size w w' from fun w => by rw [HC.out]; exact l25Code_any _ _ _ _ _ _ _ _ _ _ _ _ w) _) as e1 w1 ⟨rfl, hb1⟩; obtain ⟨hc1, hf1⟩ := bcell hb1; have hB1 : Below w.heap.size w w1 := (below_then (by first | (go_grown; done) | (repeat (first | (with_reducible assumption) | (with_reducible exact Below.refl _ _) | (with_reducible refine below_drewN' ?_ _) | (with_reducible refine Below.drew ?_) | ((with_reducible refine Below.alloc ?_ ?_ _); rotate_left; focus (first | (simp; done) | (simp; omega) | omega)) | ((with_reducible refine Below.setCell ?_ ?_ _); rotate_left; focus (first | (simp; done) | (simp; omega) | omega))))) (by first | omega | (simp; done) | (simp; omega)) hb1); have hz1a : w.heap.size < w1.heap.size := (by have := hb1.size; first | omega | (simp at this; omega))))
    all_goals (go_returns; exact ⟨rfl, by go_grown⟩)
set_option maxRecDepth 100000 in
set_option maxHeartbeats 1000000 in
theorem MapPoint_any (a b c d e f g h i u v n : Int) (w : World) :
    Calls Try.prog 21 #[.agg #[.int .i64 a, .int .i64 b, .int .i64 c, .int .i64 d, .int .i64 e, .int .i64 f, .int .i64 g, .int .i64 h, .int .i64 i], .int .i64 u, .int .i64 v, .int .i64 n] w fun e' w' =>
      e' = .returned (.tuple #[.int .i64 (ptQ (codeB [a, b, c, d, e, f, g, h, i] u v n) (imgI a b c u v n) (imgI a b c u v n) (imgI d e f u v n) (imgI g h i u v n)), .int .i64 (ptQ (codeB [a, b, c, d, e, f, g, h, i] u v n) (imgI d e f u v n) (imgI a b c u v n) (imgI d e f u v n) (imgI g h i u v n)), .int .i64 (ptQ (codeB [a, b, c, d, e, f, g, h, i] u v n) (imgI g h i u v n) (imgI a b c u v n) (imgI d e f u v n) (imgI g h i u v n)), .int .i64 (codeB [a, b, c, d, e, f, g, h, i] u v n)]) ∧ Below w.heap.size w w' := by
  have hcb := codeB_bd [a, b, c, d, e, f, g, h, i] u v n
  by_cases h0 : codeB [a, b, c, d, e, f, g, h, i] u v n = 0
  · simp only [ptQ_0 h0]
    rw [h0]
    obtain ⟨hm, ⟨u1, u2⟩, ⟨v1, v2⟩, ⟨n1, n2⟩, hw⟩ := codeB_0 h0
    obtain ⟨⟨a1, a2⟩, ⟨b1, b2⟩, ⟨c1, c2⟩, ⟨d1, d2⟩, ⟨e1, e2⟩, ⟨f1, f2⟩, ⟨g1, g2⟩, ⟨h1, h2⟩, i1, i2⟩ := map_rg hm
    have X := imgI_rg a1 a2 b1 b2 c1 c2 u1 u2 v1 v2 (by omega) n2
    have Y := imgI_rg d1 d2 e1 e2 f1 f2 u1 u2 v1 v2 (by omega) n2
    have Z := imgI_rg g1 g2 h1 h2 (by omega) i2 u1 u2 v1 v2 (by omega) n2
    obtain ⟨xs, hxs⟩ : ∃ xs, xs = [imgI a b c u v n, imgI d e f u v n, imgI g h i u v n] := ⟨_, rfl⟩
    have hxl : xs.length = 3 := by rw [hxs]; rfl
    have hred := (congrArg redL hxs).trans (redL_3 hw)
    have hbd : ∀ x ∈ xs, x.natAbs ≤ 9223372036854775807 := by
      intro x hx; rw [hxs] at hx; simp [imgI] at hx; rcases hx with rfl | rfl | rfl <;> omega
    clear X Y Z a1 a2 b1 b2 c1 c2 d1 d2 e1 e2 f1 f2 g1 g2 h1 h2 i1 i2
    have HXS := Lib.hid hxs
    have HB := Lib.hid hbd
    have HL := Lib.hid hxl
    have HR := Lib.hid hred
    clear hxs hxl hbd hred
    go_enter Try.func21, Try.ntmps21
    go_wp2_with first | (go_at_call 49; go_call (pointCode_any _ _ _ _ _ _ _ _ _ _ _ _ _) as e1 w1 ⟨rfl, hb1⟩; obtain ⟨hc1, hf1⟩ := bcell hb1; have hB1 : Below w.heap.size w w1 := (below_then (by first | (go_grown; done) | (repeat (first | (with_reducible assumption) | (with_reducible exact Below.refl _ _) | (with_reducible refine below_drewN' ?_ _) | (with_reducible refine Below.drew ?_) | ((with_reducible refine Below.alloc ?_ ?_ _); rotate_left; focus (first | (simp; done) | (simp; omega) | omega)) | ((with_reducible refine Below.setCell ?_ ?_ _); rotate_left; focus (first | (simp; done) | (simp; omega) | omega))))) (by first | omega | (simp; done) | (simp; omega)) hb1); have hz1a : w.heap.size < w1.heap.size := (by have := hb1.size; first | omega | (simp at this; omega))) | (go_at_call 50; go_call (image_any a b c d e f g h i u v n _ hm u1 u2 v1 v2 (by omega) n2) as e2 w2 ⟨rfl, hb2⟩; obtain ⟨hc2, hf2⟩ := bcell hb2; have hB2 : Below w.heap.size w w2 := (below_then (by first | (go_grown; done) | (repeat (first | (with_reducible assumption) | (with_reducible exact Below.refl _ _) | (with_reducible refine below_drewN' ?_ _) | (with_reducible refine Below.drew ?_) | ((with_reducible refine Below.alloc ?_ ?_ _); rotate_left; focus (first | (simp; done) | (simp; omega) | omega)) | ((with_reducible refine Below.setCell ?_ ?_ _); rotate_left; focus (first | (simp; done) | (simp; omega) | omega))))) (by first | omega | (simp; done) | (simp; omega)) hb2); have hz2a : w.heap.size < w2.heap.size := (by have := hb2.size; first | omega | (simp at this; omega))) | (go_at_call 51; go_call (reduce_any _ 3 3 2 xs _ (RowAt.made (by rw [HXS.out]; rfl)) HL.out (by omega) (by omega) HB.out) as e3 w3 ⟨rfl, hr3, hg3⟩; rw [HR.out] at hr3; have hk0 := hr3.cell (k := 0) (by simp); have hk1 := hr3.cell (k := 1) (by simp); have hk2 := hr3.cell (k := 2) (by simp); simp only [nth, List.getD_cons_succ, List.getD_cons_zero] at hk0 hk1 hk2)
    go_quiet (fail)
    go_wp2
    go_returns
    exact ⟨rfl, below_drewN' (below_grown (by (repeat (first | (with_reducible assumption) | (with_reducible exact Below.refl _ _) | (with_reducible refine below_drewN' ?_ _) | (with_reducible refine Below.drew ?_) | ((with_reducible refine Below.alloc ?_ ?_ _); rotate_left; focus (first | (simp; done) | (simp; omega) | omega)) | ((with_reducible refine Below.setCell ?_ ?_ _); rotate_left; focus (first | (simp; done) | (simp; omega) | omega))))) hg3 (by have := hB2.size; simp; omega) (by have := hB2.size; omega)) _⟩
  · simp only [ptQ_no h0]
    obtain ⟨C, hC⟩ : ∃ C, C = codeB [a, b, c, d, e, f, g, h, i] u v n := ⟨_, rfl⟩
    rw [← hC] at h0 hcb
    rw [← hC]
    have HC := Lib.hid hC
    clear hC
    go_enter Try.func21, Try.ntmps21
    go_wp2_with ((go_at_call 49; go_call ((show ∀ w, Calls Try.prog 49 #[.agg #[.int .i64 a, .int .i64 b, .int .i64 c, .int .i64 d, .int .i64 e, .int .i64 f, .int .i64 g, .int .i64 h, .int .i64 i], .int .i64 u, .int .i64 v, .int .i64 n] w fun e' w' => e' = .returned (.int .i64 C) ∧ Below w.heap.size w w' from fun w => by rw [HC.out]; exact pointCode_any _ _ _ _ _ _ _ _ _ _ _ _ w) _) as e1 w1 ⟨rfl, hb1⟩; obtain ⟨hc1, hf1⟩ := bcell hb1; have hB1 : Below w.heap.size w w1 := (below_then (by first | (go_grown; done) | (repeat (first | (with_reducible assumption) | (with_reducible exact Below.refl _ _) | (with_reducible refine below_drewN' ?_ _) | (with_reducible refine Below.drew ?_) | ((with_reducible refine Below.alloc ?_ ?_ _); rotate_left; focus (first | (simp; done) | (simp; omega) | omega)) | ((with_reducible refine Below.setCell ?_ ?_ _); rotate_left; focus (first | (simp; done) | (simp; omega) | omega))))) (by first | omega | (simp; done) | (simp; omega)) hb1); have hz1a : w.heap.size < w1.heap.size := (by have := hb1.size; first | omega | (simp at this; omega))))
    all_goals (go_returns; exact ⟨rfl, by go_grown⟩)
end Go.Proofs.Ytnhhbpdjapccpaa
