/-
  Contracts of chapter 14: the reference's fixed cell, and its grid.
-/
import Derived.Test.YtkipaefhnmfebaaC14H
import Derived.Test.YtkipaefhnmfebaaSlice
namespace Go.Proofs.Ytkipaefhnmfebaa
set_option linter.unusedSimpArgs false
open Go.RowKit

theorem lineV_eq (n r c : Int) : lineV n r c = if linB1 n r c then 1 - c.tmod 2 else if linB2 n r c then 1 - r.tmod 2 else if linB3 n r c then 1 else -1 := by
  unfold lineV linB1 linB2 linB3 inR
  simp [and_assoc]
set_option maxHeartbeats 2000000 in
theorem l14Fixed_any (n r c : Int) (w : World) (hn : 17 ≤ n ∧ n ≤ 41) (hr : 0 ≤ r ∧ r ≤ 41) (hc : 0 ≤ c ∧ c ≤ 41) :
    Calls Try.prog 109 #[.int .i64 n, .int .i64 r, .int .i64 c] w fun e w' => e = .returned (.int .i64 (fixV n r c)) ∧ Below w.heap.size w w' := by
  have H1 := Lib.hid (fun w => l14Finder_any r c w (by omega) (by omega))
  have H2 := Lib.hid (fun w => l14Finder_any r (c - (n - 7)) w (by omega) (by omega))
  have H3 := Lib.hid (fun w => l14Finder_any (r - (n - 7)) c w (by omega) (by omega))
  have q1 : IntKind.i64.wrap (r - (n - 7)) = r - (n - 7) := i64_in (by omega)
  have q2 : IntKind.i64.wrap (c - (n - 7)) = c - (n - 7) := i64_in (by omega)
  have q3 : IntKind.i64.wrap r = r := i64_in (by omega)
  have q4 : IntKind.i64.wrap c = c := i64_in (by omega)
  have hL := lineV_eq n r c
  rw [Int.tmod_eq_emod_of_nonneg (show 0 ≤ c by omega), Int.tmod_eq_emod_of_nonneg (show 0 ≤ r by omega)] at hL
  unfold fixV
  rw [hL]
  clear hL
  generalize findV r c = x1 at *
  generalize findV r (c - (n - 7)) = x2 at *
  generalize findV (r - (n - 7)) c = x3 at *
  by_cases h1 : 0 ≤ x1
  · rw [if_pos h1]
    go_enter Try.func109, Try.ntmps109
    go_wp2_with fail
    refine wp_loop_rounds 1 ?_
    rw [rounds_succ]
    go_wp2_with fail
    refine wp_region_qat [] 18 [] (by kernel_rfl) (by kernel_rfl) ?_
    intro hbc
    simp only [List.take_succ_cons, List.take_zero, List.drop_succ_cons, List.drop_zero]
    repeat (first
      | refine wpQ_pass rfl ?_
      | (refine wpQ_step rfl (fun K hK => ?_)
         go_simp
         first
           | (refine hK _ ?_; clear hK K)
           | (apply Exists.intro
              refine ⟨fun z => ?_, ?_⟩
              focus (first | (go_at_call 114; exact same_below (H1.out _)))
              refine hK _ ?_
              clear hK K)))
    refine wpQ_nil ⟨?_, ?_⟩
    · exact rfl
    intro  w2 hb2 hF2
    clear hbc
    obtain ⟨hc2, hf2⟩ := bcell hb2
    have hB2 : Below w.heap.size w w2 := below_then (by first | (go_grown; done) | (repeat (first | (with_reducible assumption) | (with_reducible exact Below.refl _ _) | (with_reducible refine below_drewN' ?_ _) | (with_reducible refine Below.drew ?_) | ((with_reducible refine Below.alloc ?_ ?_ _); rotate_left; focus (first | (simp; done) | (simp; omega) | omega)) | ((with_reducible refine Below.setCell ?_ ?_ _); rotate_left; focus (first | (simp; done) | (simp; omega) | omega))))) (by first | (simp; done) | (simp; omega) | omega) hb2
    have hz2a : w.heap.size < w2.heap.size := (by have := hb2.size; first | omega | (simp at this; omega))
    have hz2b : w.heap.size + 1 < w2.heap.size := (by have := hb2.size; first | omega | (simp at this; omega))
    have hz2c : w.heap.size + 1 + 1 < w2.heap.size := (by have := hb2.size; first | omega | (simp at this; omega))
    have hz2d : w.heap.size + 1 + 1 + 1 < w2.heap.size := (by have := hb2.size; first | omega | (simp at this; omega))
    clear hF2
    try simp only [Act.put, List.setIfInBounds_toArray, List.set_cons_succ, List.set_cons_zero]
    go_wp2_with fail
    go_ret
    exact ⟨rfl, by (repeat (first | (with_reducible assumption) | (with_reducible exact Below.refl _ _) | (with_reducible refine below_drewN' ?_ _) | (with_reducible refine Below.drew ?_) | ((with_reducible refine Below.alloc ?_ ?_ _); rotate_left; focus (first | (simp; done) | (simp; omega) | omega)) | ((with_reducible refine Below.setCell ?_ ?_ _); rotate_left; focus (first | (simp; done) | (simp; omega) | omega))))⟩
  rw [if_neg h1]
  have d1 : decide (0 ≤ x1) = false := decide_eq_false h1
  by_cases h2 : 0 ≤ x2
  · rw [if_pos h2]
    go_enter Try.func109, Try.ntmps109
    go_wp2_with fail
    refine wp_loop_rounds 2 ?_
    rw [rounds_succ]
    go_wp2_with fail
    refine wp_region_qat [] 18 [] (by kernel_rfl) (by kernel_rfl) ?_
    intro hbc
    simp only [List.take_succ_cons, List.take_zero, List.drop_succ_cons, List.drop_zero]
    repeat (first
      | refine wpQ_pass rfl ?_
      | (refine wpQ_step rfl (fun K hK => ?_)
         go_simp
         first
           | (refine hK _ ?_; clear hK K)
           | (apply Exists.intro
              refine ⟨fun z => ?_, ?_⟩
              focus (first | (go_at_call 114; exact same_below (H1.out _)))
              refine hK _ ?_
              clear hK K)))
    refine wpQ_nil ⟨?_, ?_⟩
    · exact rfl
    intro  w2 hb2 hF2
    clear hbc
    obtain ⟨hc2, hf2⟩ := bcell hb2
    have hB2 : Below w.heap.size w w2 := below_then (by first | (go_grown; done) | (repeat (first | (with_reducible assumption) | (with_reducible exact Below.refl _ _) | (with_reducible refine below_drewN' ?_ _) | (with_reducible refine Below.drew ?_) | ((with_reducible refine Below.alloc ?_ ?_ _); rotate_left; focus (first | (simp; done) | (simp; omega) | omega)) | ((with_reducible refine Below.setCell ?_ ?_ _); rotate_left; focus (first | (simp; done) | (simp; omega) | omega))))) (by first | (simp; done) | (simp; omega) | omega) hb2
    have hz2a : w.heap.size < w2.heap.size := (by have := hb2.size; first | omega | (simp at this; omega))
    have hz2b : w.heap.size + 1 < w2.heap.size := (by have := hb2.size; first | omega | (simp at this; omega))
    have hz2c : w.heap.size + 1 + 1 < w2.heap.size := (by have := hb2.size; first | omega | (simp at this; omega))
    have hz2d : w.heap.size + 1 + 1 + 1 < w2.heap.size := (by have := hb2.size; first | omega | (simp at this; omega))
    clear hF2
    try simp only [Act.put, List.setIfInBounds_toArray, List.set_cons_succ, List.set_cons_zero]
    go_wp2_with fail
    rw [rounds_succ]
    go_wp2_with fail
    refine wp_region_qat [] 18 [] (by kernel_rfl) (by kernel_rfl) ?_
    intro hbc
    simp only [List.take_succ_cons, List.take_zero, List.drop_succ_cons, List.drop_zero]
    repeat (first
      | refine wpQ_pass rfl ?_
      | (refine wpQ_step rfl (fun K hK => ?_)
         go_simp
         first
           | (refine hK _ ?_; clear hK K)
           | (apply Exists.intro
              refine ⟨fun z => ?_, ?_⟩
              focus (first | (go_at_call 114; exact same_below (H2.out _)))
              refine hK _ ?_
              clear hK K)))
    refine wpQ_nil ⟨?_, ?_⟩
    · exact rfl
    intro  w3 hb3 hF3
    clear hbc
    obtain ⟨hc3, hf3⟩ := bcell hb3
    have hB3 : Below w.heap.size w w3 := below_then (by first | (go_grown; done) | (repeat (first | (with_reducible assumption) | (with_reducible exact Below.refl _ _) | (with_reducible refine below_drewN' ?_ _) | (with_reducible refine Below.drew ?_) | ((with_reducible refine Below.alloc ?_ ?_ _); rotate_left; focus (first | (simp; done) | (simp; omega) | omega)) | ((with_reducible refine Below.setCell ?_ ?_ _); rotate_left; focus (first | (simp; done) | (simp; omega) | omega))))) (by first | (simp; done) | (simp; omega) | omega) hb3
    have hz3a : w.heap.size < w3.heap.size := (by have := hb3.size; first | omega | (simp at this; omega))
    have hz3b : w.heap.size + 1 < w3.heap.size := (by have := hb3.size; first | omega | (simp at this; omega))
    have hz3c : w.heap.size + 1 + 1 < w3.heap.size := (by have := hb3.size; first | omega | (simp at this; omega))
    have hz3d : w.heap.size + 1 + 1 + 1 < w3.heap.size := (by have := hb3.size; first | omega | (simp at this; omega))
    clear hF3
    try simp only [Act.put, List.setIfInBounds_toArray, List.set_cons_succ, List.set_cons_zero]
    go_wp2_with fail
    go_ret
    exact ⟨rfl, by (repeat (first | (with_reducible assumption) | (with_reducible exact Below.refl _ _) | (with_reducible refine below_drewN' ?_ _) | (with_reducible refine Below.drew ?_) | ((with_reducible refine Below.alloc ?_ ?_ _); rotate_left; focus (first | (simp; done) | (simp; omega) | omega)) | ((with_reducible refine Below.setCell ?_ ?_ _); rotate_left; focus (first | (simp; done) | (simp; omega) | omega))))⟩
  rw [if_neg h2]
  have d2 : decide (0 ≤ x2) = false := decide_eq_false h2
  by_cases h3 : 0 ≤ x3
  · rw [if_pos h3]
    go_enter Try.func109, Try.ntmps109
    go_wp2_with fail
    refine wp_loop_rounds 3 ?_
    rw [rounds_succ]
    go_wp2_with fail
    refine wp_region_qat [] 18 [] (by kernel_rfl) (by kernel_rfl) ?_
    intro hbc
    simp only [List.take_succ_cons, List.take_zero, List.drop_succ_cons, List.drop_zero]
    repeat (first
      | refine wpQ_pass rfl ?_
      | (refine wpQ_step rfl (fun K hK => ?_)
         go_simp
         first
           | (refine hK _ ?_; clear hK K)
           | (apply Exists.intro
              refine ⟨fun z => ?_, ?_⟩
              focus (first | (go_at_call 114; exact same_below (H1.out _)))
              refine hK _ ?_
              clear hK K)))
    refine wpQ_nil ⟨?_, ?_⟩
    · exact rfl
    intro  w2 hb2 hF2
    clear hbc
    obtain ⟨hc2, hf2⟩ := bcell hb2
    have hB2 : Below w.heap.size w w2 := below_then (by first | (go_grown; done) | (repeat (first | (with_reducible assumption) | (with_reducible exact Below.refl _ _) | (with_reducible refine below_drewN' ?_ _) | (with_reducible refine Below.drew ?_) | ((with_reducible refine Below.alloc ?_ ?_ _); rotate_left; focus (first | (simp; done) | (simp; omega) | omega)) | ((with_reducible refine Below.setCell ?_ ?_ _); rotate_left; focus (first | (simp; done) | (simp; omega) | omega))))) (by first | (simp; done) | (simp; omega) | omega) hb2
    have hz2a : w.heap.size < w2.heap.size := (by have := hb2.size; first | omega | (simp at this; omega))
    have hz2b : w.heap.size + 1 < w2.heap.size := (by have := hb2.size; first | omega | (simp at this; omega))
    have hz2c : w.heap.size + 1 + 1 < w2.heap.size := (by have := hb2.size; first | omega | (simp at this; omega))
    have hz2d : w.heap.size + 1 + 1 + 1 < w2.heap.size := (by have := hb2.size; first | omega | (simp at this; omega))
    clear hF2
    try simp only [Act.put, List.setIfInBounds_toArray, List.set_cons_succ, List.set_cons_zero]
    go_wp2_with fail
    rw [rounds_succ]
    go_wp2_with fail
    refine wp_region_qat [] 18 [] (by kernel_rfl) (by kernel_rfl) ?_
    intro hbc
    simp only [List.take_succ_cons, List.take_zero, List.drop_succ_cons, List.drop_zero]
    repeat (first
      | refine wpQ_pass rfl ?_
      | (refine wpQ_step rfl (fun K hK => ?_)
         go_simp
         first
           | (refine hK _ ?_; clear hK K)
           | (apply Exists.intro
              refine ⟨fun z => ?_, ?_⟩
              focus (first | (go_at_call 114; exact same_below (H2.out _)))
              refine hK _ ?_
              clear hK K)))
    refine wpQ_nil ⟨?_, ?_⟩
    · exact rfl
    intro  w3 hb3 hF3
    clear hbc
    obtain ⟨hc3, hf3⟩ := bcell hb3
    have hB3 : Below w.heap.size w w3 := below_then (by first | (go_grown; done) | (repeat (first | (with_reducible assumption) | (with_reducible exact Below.refl _ _) | (with_reducible refine below_drewN' ?_ _) | (with_reducible refine Below.drew ?_) | ((with_reducible refine Below.alloc ?_ ?_ _); rotate_left; focus (first | (simp; done) | (simp; omega) | omega)) | ((with_reducible refine Below.setCell ?_ ?_ _); rotate_left; focus (first | (simp; done) | (simp; omega) | omega))))) (by first | (simp; done) | (simp; omega) | omega) hb3
    have hz3a : w.heap.size < w3.heap.size := (by have := hb3.size; first | omega | (simp at this; omega))
    have hz3b : w.heap.size + 1 < w3.heap.size := (by have := hb3.size; first | omega | (simp at this; omega))
    have hz3c : w.heap.size + 1 + 1 < w3.heap.size := (by have := hb3.size; first | omega | (simp at this; omega))
    have hz3d : w.heap.size + 1 + 1 + 1 < w3.heap.size := (by have := hb3.size; first | omega | (simp at this; omega))
    clear hF3
    try simp only [Act.put, List.setIfInBounds_toArray, List.set_cons_succ, List.set_cons_zero]
    go_wp2_with fail
    rw [rounds_succ]
    go_wp2_with fail
    refine wp_region_qat [] 18 [] (by kernel_rfl) (by kernel_rfl) ?_
    intro hbc
    simp only [List.take_succ_cons, List.take_zero, List.drop_succ_cons, List.drop_zero]
    repeat (first
      | refine wpQ_pass rfl ?_
      | (refine wpQ_step rfl (fun K hK => ?_)
         go_simp
         first
           | (refine hK _ ?_; clear hK K)
           | (apply Exists.intro
              refine ⟨fun z => ?_, ?_⟩
              focus (first | (go_at_call 114; exact same_below (H3.out _)))
              refine hK _ ?_
              clear hK K)))
    refine wpQ_nil ⟨?_, ?_⟩
    · exact rfl
    intro  w4 hb4 hF4
    clear hbc
    obtain ⟨hc4, hf4⟩ := bcell hb4
    have hB4 : Below w.heap.size w w4 := below_then (by first | (go_grown; done) | (repeat (first | (with_reducible assumption) | (with_reducible exact Below.refl _ _) | (with_reducible refine below_drewN' ?_ _) | (with_reducible refine Below.drew ?_) | ((with_reducible refine Below.alloc ?_ ?_ _); rotate_left; focus (first | (simp; done) | (simp; omega) | omega)) | ((with_reducible refine Below.setCell ?_ ?_ _); rotate_left; focus (first | (simp; done) | (simp; omega) | omega))))) (by first | (simp; done) | (simp; omega) | omega) hb4
    have hz4a : w.heap.size < w4.heap.size := (by have := hb4.size; first | omega | (simp at this; omega))
    have hz4b : w.heap.size + 1 < w4.heap.size := (by have := hb4.size; first | omega | (simp at this; omega))
    have hz4c : w.heap.size + 1 + 1 < w4.heap.size := (by have := hb4.size; first | omega | (simp at this; omega))
    have hz4d : w.heap.size + 1 + 1 + 1 < w4.heap.size := (by have := hb4.size; first | omega | (simp at this; omega))
    clear hF4
    try simp only [Act.put, List.setIfInBounds_toArray, List.set_cons_succ, List.set_cons_zero]
    go_wp2_with fail
    go_ret
    exact ⟨rfl, by (repeat (first | (with_reducible assumption) | (with_reducible exact Below.refl _ _) | (with_reducible refine below_drewN' ?_ _) | (with_reducible refine Below.drew ?_) | ((with_reducible refine Below.alloc ?_ ?_ _); rotate_left; focus (first | (simp; done) | (simp; omega) | omega)) | ((with_reducible refine Below.setCell ?_ ?_ _); rotate_left; focus (first | (simp; done) | (simp; omega) | omega))))⟩
  rw [if_neg h3]
  have d3 : decide (0 ≤ x3) = false := decide_eq_false h3
  go_enter Try.func109, Try.ntmps109
  go_wp2_with fail
  refine wp_loop_rounds 4 ?_
  rw [rounds_succ]
  go_wp2_with fail
  refine wp_region_qat [] 18 [] (by kernel_rfl) (by kernel_rfl) ?_
  intro hbc
  simp only [List.take_succ_cons, List.take_zero, List.drop_succ_cons, List.drop_zero]
  repeat (first
    | refine wpQ_pass rfl ?_
    | (refine wpQ_step rfl (fun K hK => ?_)
       go_simp
       first
         | (refine hK _ ?_; clear hK K)
         | (apply Exists.intro
            refine ⟨fun z => ?_, ?_⟩
            focus (first | (go_at_call 114; exact same_below (H1.out _)))
            refine hK _ ?_
            clear hK K)))
  refine wpQ_nil ⟨?_, ?_⟩
  · exact rfl
  intro  w2 hb2 hF2
  clear hbc
  obtain ⟨hc2, hf2⟩ := bcell hb2
  have hB2 : Below w.heap.size w w2 := below_then (by first | (go_grown; done) | (repeat (first | (with_reducible assumption) | (with_reducible exact Below.refl _ _) | (with_reducible refine below_drewN' ?_ _) | (with_reducible refine Below.drew ?_) | ((with_reducible refine Below.alloc ?_ ?_ _); rotate_left; focus (first | (simp; done) | (simp; omega) | omega)) | ((with_reducible refine Below.setCell ?_ ?_ _); rotate_left; focus (first | (simp; done) | (simp; omega) | omega))))) (by first | (simp; done) | (simp; omega) | omega) hb2
  have hz2a : w.heap.size < w2.heap.size := (by have := hb2.size; first | omega | (simp at this; omega))
  have hz2b : w.heap.size + 1 < w2.heap.size := (by have := hb2.size; first | omega | (simp at this; omega))
  have hz2c : w.heap.size + 1 + 1 < w2.heap.size := (by have := hb2.size; first | omega | (simp at this; omega))
  have hz2d : w.heap.size + 1 + 1 + 1 < w2.heap.size := (by have := hb2.size; first | omega | (simp at this; omega))
  clear hF2
  try simp only [Act.put, List.setIfInBounds_toArray, List.set_cons_succ, List.set_cons_zero]
  go_wp2_with fail
  rw [rounds_succ]
  go_wp2_with fail
  refine wp_region_qat [] 18 [] (by kernel_rfl) (by kernel_rfl) ?_
  intro hbc
  simp only [List.take_succ_cons, List.take_zero, List.drop_succ_cons, List.drop_zero]
  repeat (first
    | refine wpQ_pass rfl ?_
    | (refine wpQ_step rfl (fun K hK => ?_)
       go_simp
       first
         | (refine hK _ ?_; clear hK K)
         | (apply Exists.intro
            refine ⟨fun z => ?_, ?_⟩
            focus (first | (go_at_call 114; exact same_below (H2.out _)))
            refine hK _ ?_
            clear hK K)))
  refine wpQ_nil ⟨?_, ?_⟩
  · exact rfl
  intro  w3 hb3 hF3
  clear hbc
  obtain ⟨hc3, hf3⟩ := bcell hb3
  have hB3 : Below w.heap.size w w3 := below_then (by first | (go_grown; done) | (repeat (first | (with_reducible assumption) | (with_reducible exact Below.refl _ _) | (with_reducible refine below_drewN' ?_ _) | (with_reducible refine Below.drew ?_) | ((with_reducible refine Below.alloc ?_ ?_ _); rotate_left; focus (first | (simp; done) | (simp; omega) | omega)) | ((with_reducible refine Below.setCell ?_ ?_ _); rotate_left; focus (first | (simp; done) | (simp; omega) | omega))))) (by first | (simp; done) | (simp; omega) | omega) hb3
  have hz3a : w.heap.size < w3.heap.size := (by have := hb3.size; first | omega | (simp at this; omega))
  have hz3b : w.heap.size + 1 < w3.heap.size := (by have := hb3.size; first | omega | (simp at this; omega))
  have hz3c : w.heap.size + 1 + 1 < w3.heap.size := (by have := hb3.size; first | omega | (simp at this; omega))
  have hz3d : w.heap.size + 1 + 1 + 1 < w3.heap.size := (by have := hb3.size; first | omega | (simp at this; omega))
  clear hF3
  try simp only [Act.put, List.setIfInBounds_toArray, List.set_cons_succ, List.set_cons_zero]
  go_wp2_with fail
  rw [rounds_succ]
  go_wp2_with fail
  refine wp_region_qat [] 18 [] (by kernel_rfl) (by kernel_rfl) ?_
  intro hbc
  simp only [List.take_succ_cons, List.take_zero, List.drop_succ_cons, List.drop_zero]
  repeat (first
    | refine wpQ_pass rfl ?_
    | (refine wpQ_step rfl (fun K hK => ?_)
       go_simp
       first
         | (refine hK _ ?_; clear hK K)
         | (apply Exists.intro
            refine ⟨fun z => ?_, ?_⟩
            focus (first | (go_at_call 114; exact same_below (H3.out _)))
            refine hK _ ?_
            clear hK K)))
  refine wpQ_nil ⟨?_, ?_⟩
  · exact rfl
  intro  w4 hb4 hF4
  clear hbc
  obtain ⟨hc4, hf4⟩ := bcell hb4
  have hB4 : Below w.heap.size w w4 := below_then (by first | (go_grown; done) | (repeat (first | (with_reducible assumption) | (with_reducible exact Below.refl _ _) | (with_reducible refine below_drewN' ?_ _) | (with_reducible refine Below.drew ?_) | ((with_reducible refine Below.alloc ?_ ?_ _); rotate_left; focus (first | (simp; done) | (simp; omega) | omega)) | ((with_reducible refine Below.setCell ?_ ?_ _); rotate_left; focus (first | (simp; done) | (simp; omega) | omega))))) (by first | (simp; done) | (simp; omega) | omega) hb4
  have hz4a : w.heap.size < w4.heap.size := (by have := hb4.size; first | omega | (simp at this; omega))
  have hz4b : w.heap.size + 1 < w4.heap.size := (by have := hb4.size; first | omega | (simp at this; omega))
  have hz4c : w.heap.size + 1 + 1 < w4.heap.size := (by have := hb4.size; first | omega | (simp at this; omega))
  have hz4d : w.heap.size + 1 + 1 + 1 < w4.heap.size := (by have := hb4.size; first | omega | (simp at this; omega))
  clear hF4
  try simp only [Act.put, List.setIfInBounds_toArray, List.set_cons_succ, List.set_cons_zero]
  go_wp2_with fail
  rw [rounds_succ]
  clear H1 H2 H3 q1 q2 q3 q4 h1 h2 h3 d1 d2 d3 hc2 hf2 hb2 hB2 hc3 hf3 hb3 hB3 hc4 hf4 hb4
  have HB := Lib.hid hB4
  clear hB4
  go_wp2_with (go_at_call 70; refine (l01In_any _ _ _ _).mono ?_; rintro e w' ⟨rfl, rfl⟩)
  all_goals go_ret
  all_goals refine ⟨ret_int ?_, by with_reducible exact HB.out⟩
  all_goals first | (simp [linB1, linB2, linB3, *]; done) | (simp_all [linB1, linB2, linB3]; done)
end Go.Proofs.Ytkipaefhnmfebaa
