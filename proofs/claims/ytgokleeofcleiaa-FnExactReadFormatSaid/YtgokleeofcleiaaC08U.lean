/-
  Contracts of chapter 8, the program: FormatShare.
-/
import Derived.Test.YtgokleeofcleiaaC08T
namespace Go.Proofs.Ytgokleeofcleiaa
open Go.RowKit

theorem fs_pick (a b c d x y : Nat) : ((if decide (2 * (c : Int) + d < 2 * (a : Int) + b) = true then (y : Int) else x) : Int) = pick2 true true x y (2 * a + b) (2 * c + d) := by
  unfold pick2
  by_cases h : 2 * c + d < 2 * a + b
  · have h' : 2 * (c : Int) + d < 2 * (a : Int) + b := by omega
    simp [h, h']
  · have h' : ¬ 2 * (c : Int) + d < 2 * (a : Int) + b := by omega
    simp [h, h']
set_option maxRecDepth 100000 in
set_option maxHeartbeats 4000000 in
theorem fs_2_2 (d l p : Int) (A A' : Option Addr) (n c n' c' vx lx ux vy ly uy : Nat) (w : World) (B : Nat) (hB : B ≤ w.heap.size) (hl : -9223372036854775808 ≤ l ∧ l ≤ 9223372036854775807) (hc : fcodeB d l p = true)
    (HN : Hid (∀ w', Below B w w' → Calls Try.prog 97 #[.agg #[.int .i64 d, .int .i64 l, .int .i64 p], .slice A n c] w' fun e w'' => e = .returned (.agg #[.int .i64 vx, .int .i64 lx, .int .i64 ux, .int .i64 2]) ∧ Below w'.heap.size w' w''))
    (HN' : Hid (∀ w', Below B w w' → Calls Try.prog 97 #[.agg #[.int .i64 d, .int .i64 l, .int .i64 p], .slice A' n' c'] w' fun e w'' => e = .returned (.agg #[.int .i64 vy, .int .i64 ly, .int .i64 uy, .int .i64 2]) ∧ Below w'.heap.size w' w'')) :
    Calls Try.prog 75 #[.agg #[.int .i64 d, .int .i64 l, .int .i64 p], .slice A n c, .slice A' n' c'] w fun e w' =>
      e = .returned (.tuple #[.int .i64 (0), .int .i64 2]) ∧ Below w.heap.size w w' := by
  go_enter Try.func75, Try.ntmps75
  go_wp2_with fail
  (go_at_call 96; go_call (IsFormatCode_any _ _ _ _ hl) as e1 w1 ⟨rfl, hb1⟩; obtain ⟨hc1, hf1⟩ := bcell hb1; have hB1 : Below w.heap.size w w1 := (below_then (by first | (go_grown; done) | (repeat (first | (with_reducible assumption) | (with_reducible exact Below.refl _ _) | (with_reducible refine below_drewN' ?_ _) | (with_reducible refine Below.drew ?_) | ((with_reducible refine Below.alloc ?_ ?_ _); rotate_left; focus (first | (simp; done) | (simp; omega) | omega)) | ((with_reducible refine Below.setCell ?_ ?_ _); rotate_left; focus (first | (simp; done) | (simp; omega) | omega))))) (by first | omega | (simp; done) | (simp; omega)) hb1); have hz1a : w.heap.size < w1.heap.size := (by have := hb1.size; first | omega | (simp at this; omega)))
  go_wp2_with fail
  have HW1 := Lib.hid (hB1.mono hB)
  have hBs : B ≤ w1.heap.size := Nat.le_trans hB hB1.size
  refine wp_region_qat [] 8 [Mkr.blk (fun g => .pointer (some ⟨g, 0, none⟩)) (.cells #[.int .i64 0, .int .i64 0, .int .i64 0, .int .i64 0] 105), Mkr.blk (fun g => .pointer (some ⟨g, 0, none⟩)) (.cells #[.int .i64 0, .int .i64 0, .int .i64 0, .int .i64 0] 105)] (by kernel_rfl) (by kernel_rfl) ?_
  intro hbc
  simp only [List.take_succ_cons, List.take_zero, List.drop_succ_cons, List.drop_zero]
  repeat (first
    | refine wpQ_pass rfl ?_
    | (refine wpQ_step rfl (fun K hK => ?_)
       go_simp
       first
         | (refine hK _ ?_; clear hK K)
         | (apply Exists.intro
            refine ⟨fun z => ?_, ?_⟩
            focus (first | (go_at_call 97; with_reducible exact HN.out _ (below_blur HW1.out hBs _)) | (go_at_call 97; with_reducible exact HN'.out _ (below_blur HW1.out hBs _)))
            refine hK _ ?_
            clear hK K)))
  refine wpQ_nil ⟨?_, ?_⟩
  · refine ⟨fun z => ?_, fun z => ?_, rfl⟩
    · set_option maxRecDepth 100000 in refine makes_blk ?_
      go_simp
    · set_option maxRecDepth 100000 in refine makes_blk ?_
      go_simp
  intro u2a g2a hi2a hg2a hl2a n2a u2b g2b hi2b hg2b hl2b n2b w2 hb2 hF2
  clear hbc
  obtain ⟨hc2, hf2⟩ := bcell hb2
  obtain ⟨⟨_, hs2a, ⟨rfl, rfl, hF2a⟩⟩, hs2b, ⟨rfl, rfl, hF2b⟩⟩ := hF2
  have hB2 : Below w.heap.size w w2 := below_then (by first | (go_grown; done) | (repeat (first | (with_reducible assumption) | (with_reducible exact Below.refl _ _) | (with_reducible refine below_drewN' ?_ _) | (with_reducible refine Below.drew ?_) | ((with_reducible refine Below.alloc ?_ ?_ _); rotate_left; focus (first | (simp; done) | (simp; omega) | omega)) | ((with_reducible refine Below.setCell ?_ ?_ _); rotate_left; focus (first | (simp; done) | (simp; omega) | omega))))) (by first | (simp; done) | (simp; omega) | omega) hb2
  have hz2a : w.heap.size < w2.heap.size := (by have := hb2.size; first | omega | (simp at this; omega))
  have hz2b : w1.heap.size < w2.heap.size := (by have := hb2.size; first | omega | (simp at this; omega))
  have ne2b2a : g2b ≠ g2a := by intro h; have := n2b (g2a, g2a + 1) (by simp); simp at this; omega
  have hcg2a := blk_cell hF2a
  have hfg2a := blk_frozen hF2a
  try simp only [World.size_alloc] at hg2a
  have hcg2b := blk_cell hF2b
  have hfg2b := blk_frozen hF2b
  try simp only [World.size_alloc] at hg2b
  clear n2a n2b
  try simp only [Act.put, List.setIfInBounds_toArray, List.set_cons_succ, List.set_cons_zero]
  have hsa : g2a < w2.heap.size := by omega
  have hsb : g2b < w2.heap.size := by omega
  have hsw : w.heap.size ≤ g2a := by have := hB1.size; omega
  have hsv : w.heap.size ≤ g2b := by have := hB1.size; omega
  have hsy : g2a ≠ g2b := Ne.symm ne2b2a
  clear hb1 hc1 hf1 hb2
  go_wp2_with fail
  go_returns
  exact ⟨rfl, by (repeat (first | (with_reducible assumption) | (with_reducible exact Below.refl _ _) | (with_reducible refine below_drewN' ?_ _) | (with_reducible refine Below.drew ?_) | ((with_reducible refine Below.alloc ?_ ?_ _); rotate_left; focus (first | (simp; done) | (simp; omega) | omega)) | ((with_reducible refine Below.setCell ?_ ?_ _); rotate_left; focus (first | (simp; done) | (simp; omega) | omega))))⟩
set_option maxRecDepth 100000 in
set_option maxHeartbeats 4000000 in
theorem fs_2_7 (d l p : Int) (A A' : Option Addr) (n c n' c' vx lx ux vy ly uy : Nat) (w : World) (B : Nat) (hB : B ≤ w.heap.size) (hl : -9223372036854775808 ≤ l ∧ l ≤ 9223372036854775807) (hc : fcodeB d l p = true)
    (HN : Hid (∀ w', Below B w w' → Calls Try.prog 97 #[.agg #[.int .i64 d, .int .i64 l, .int .i64 p], .slice A n c] w' fun e w'' => e = .returned (.agg #[.int .i64 vx, .int .i64 lx, .int .i64 ux, .int .i64 2]) ∧ Below w'.heap.size w' w''))
    (HN' : Hid (∀ w', Below B w w' → Calls Try.prog 97 #[.agg #[.int .i64 d, .int .i64 l, .int .i64 p], .slice A' n' c'] w' fun e w'' => e = .returned (.agg #[.int .i64 vy, .int .i64 ly, .int .i64 uy, .int .i64 7]) ∧ Below w'.heap.size w' w'')) :
    Calls Try.prog 75 #[.agg #[.int .i64 d, .int .i64 l, .int .i64 p], .slice A n c, .slice A' n' c'] w fun e w' =>
      e = .returned (.tuple #[.int .i64 (0), .int .i64 2]) ∧ Below w.heap.size w w' := by
  go_enter Try.func75, Try.ntmps75
  go_wp2_with fail
  (go_at_call 96; go_call (IsFormatCode_any _ _ _ _ hl) as e1 w1 ⟨rfl, hb1⟩; obtain ⟨hc1, hf1⟩ := bcell hb1; have hB1 : Below w.heap.size w w1 := (below_then (by first | (go_grown; done) | (repeat (first | (with_reducible assumption) | (with_reducible exact Below.refl _ _) | (with_reducible refine below_drewN' ?_ _) | (with_reducible refine Below.drew ?_) | ((with_reducible refine Below.alloc ?_ ?_ _); rotate_left; focus (first | (simp; done) | (simp; omega) | omega)) | ((with_reducible refine Below.setCell ?_ ?_ _); rotate_left; focus (first | (simp; done) | (simp; omega) | omega))))) (by first | omega | (simp; done) | (simp; omega)) hb1); have hz1a : w.heap.size < w1.heap.size := (by have := hb1.size; first | omega | (simp at this; omega)))
  go_wp2_with fail
  have HW1 := Lib.hid (hB1.mono hB)
  have hBs : B ≤ w1.heap.size := Nat.le_trans hB hB1.size
  refine wp_region_qat [] 8 [Mkr.blk (fun g => .pointer (some ⟨g, 0, none⟩)) (.cells #[.int .i64 0, .int .i64 0, .int .i64 0, .int .i64 0] 105), Mkr.blk (fun g => .pointer (some ⟨g, 0, none⟩)) (.cells #[.int .i64 0, .int .i64 0, .int .i64 0, .int .i64 0] 105)] (by kernel_rfl) (by kernel_rfl) ?_
  intro hbc
  simp only [List.take_succ_cons, List.take_zero, List.drop_succ_cons, List.drop_zero]
  repeat (first
    | refine wpQ_pass rfl ?_
    | (refine wpQ_step rfl (fun K hK => ?_)
       go_simp
       first
         | (refine hK _ ?_; clear hK K)
         | (apply Exists.intro
            refine ⟨fun z => ?_, ?_⟩
            focus (first | (go_at_call 97; with_reducible exact HN.out _ (below_blur HW1.out hBs _)) | (go_at_call 97; with_reducible exact HN'.out _ (below_blur HW1.out hBs _)))
            refine hK _ ?_
            clear hK K)))
  refine wpQ_nil ⟨?_, ?_⟩
  · refine ⟨fun z => ?_, fun z => ?_, rfl⟩
    · set_option maxRecDepth 100000 in refine makes_blk ?_
      go_simp
    · set_option maxRecDepth 100000 in refine makes_blk ?_
      go_simp
  intro u2a g2a hi2a hg2a hl2a n2a u2b g2b hi2b hg2b hl2b n2b w2 hb2 hF2
  clear hbc
  obtain ⟨hc2, hf2⟩ := bcell hb2
  obtain ⟨⟨_, hs2a, ⟨rfl, rfl, hF2a⟩⟩, hs2b, ⟨rfl, rfl, hF2b⟩⟩ := hF2
  have hB2 : Below w.heap.size w w2 := below_then (by first | (go_grown; done) | (repeat (first | (with_reducible assumption) | (with_reducible exact Below.refl _ _) | (with_reducible refine below_drewN' ?_ _) | (with_reducible refine Below.drew ?_) | ((with_reducible refine Below.alloc ?_ ?_ _); rotate_left; focus (first | (simp; done) | (simp; omega) | omega)) | ((with_reducible refine Below.setCell ?_ ?_ _); rotate_left; focus (first | (simp; done) | (simp; omega) | omega))))) (by first | (simp; done) | (simp; omega) | omega) hb2
  have hz2a : w.heap.size < w2.heap.size := (by have := hb2.size; first | omega | (simp at this; omega))
  have hz2b : w1.heap.size < w2.heap.size := (by have := hb2.size; first | omega | (simp at this; omega))
  have ne2b2a : g2b ≠ g2a := by intro h; have := n2b (g2a, g2a + 1) (by simp); simp at this; omega
  have hcg2a := blk_cell hF2a
  have hfg2a := blk_frozen hF2a
  try simp only [World.size_alloc] at hg2a
  have hcg2b := blk_cell hF2b
  have hfg2b := blk_frozen hF2b
  try simp only [World.size_alloc] at hg2b
  clear n2a n2b
  try simp only [Act.put, List.setIfInBounds_toArray, List.set_cons_succ, List.set_cons_zero]
  have hsa : g2a < w2.heap.size := by omega
  have hsb : g2b < w2.heap.size := by omega
  have hsw : w.heap.size ≤ g2a := by have := hB1.size; omega
  have hsv : w.heap.size ≤ g2b := by have := hB1.size; omega
  have hsy : g2a ≠ g2b := Ne.symm ne2b2a
  clear hb1 hc1 hf1 hb2
  go_wp2_with fail
  go_returns
  exact ⟨rfl, by (repeat (first | (with_reducible assumption) | (with_reducible exact Below.refl _ _) | (with_reducible refine below_drewN' ?_ _) | (with_reducible refine Below.drew ?_) | ((with_reducible refine Below.alloc ?_ ?_ _); rotate_left; focus (first | (simp; done) | (simp; omega) | omega)) | ((with_reducible refine Below.setCell ?_ ?_ _); rotate_left; focus (first | (simp; done) | (simp; omega) | omega))))⟩
set_option maxRecDepth 100000 in
set_option maxHeartbeats 4000000 in
theorem fs_2_0 (d l p : Int) (A A' : Option Addr) (n c n' c' vx lx ux vy ly uy : Nat) (w : World) (B : Nat) (hB : B ≤ w.heap.size) (hl : -9223372036854775808 ≤ l ∧ l ≤ 9223372036854775807) (hc : fcodeB d l p = true)
    (HN : Hid (∀ w', Below B w w' → Calls Try.prog 97 #[.agg #[.int .i64 d, .int .i64 l, .int .i64 p], .slice A n c] w' fun e w'' => e = .returned (.agg #[.int .i64 vx, .int .i64 lx, .int .i64 ux, .int .i64 2]) ∧ Below w'.heap.size w' w''))
    (HN' : Hid (∀ w', Below B w w' → Calls Try.prog 97 #[.agg #[.int .i64 d, .int .i64 l, .int .i64 p], .slice A' n' c'] w' fun e w'' => e = .returned (.agg #[.int .i64 vy, .int .i64 ly, .int .i64 uy, .int .i64 0]) ∧ Below w'.heap.size w' w'')) :
    Calls Try.prog 75 #[.agg #[.int .i64 d, .int .i64 l, .int .i64 p], .slice A n c, .slice A' n' c'] w fun e w' =>
      e = .returned (.tuple #[.int .i64 (0), .int .i64 2]) ∧ Below w.heap.size w w' := by
  go_enter Try.func75, Try.ntmps75
  go_wp2_with fail
  (go_at_call 96; go_call (IsFormatCode_any _ _ _ _ hl) as e1 w1 ⟨rfl, hb1⟩; obtain ⟨hc1, hf1⟩ := bcell hb1; have hB1 : Below w.heap.size w w1 := (below_then (by first | (go_grown; done) | (repeat (first | (with_reducible assumption) | (with_reducible exact Below.refl _ _) | (with_reducible refine below_drewN' ?_ _) | (with_reducible refine Below.drew ?_) | ((with_reducible refine Below.alloc ?_ ?_ _); rotate_left; focus (first | (simp; done) | (simp; omega) | omega)) | ((with_reducible refine Below.setCell ?_ ?_ _); rotate_left; focus (first | (simp; done) | (simp; omega) | omega))))) (by first | omega | (simp; done) | (simp; omega)) hb1); have hz1a : w.heap.size < w1.heap.size := (by have := hb1.size; first | omega | (simp at this; omega)))
  go_wp2_with fail
  have HW1 := Lib.hid (hB1.mono hB)
  have hBs : B ≤ w1.heap.size := Nat.le_trans hB hB1.size
  refine wp_region_qat [] 8 [Mkr.blk (fun g => .pointer (some ⟨g, 0, none⟩)) (.cells #[.int .i64 0, .int .i64 0, .int .i64 0, .int .i64 0] 105), Mkr.blk (fun g => .pointer (some ⟨g, 0, none⟩)) (.cells #[.int .i64 0, .int .i64 0, .int .i64 0, .int .i64 0] 105)] (by kernel_rfl) (by kernel_rfl) ?_
  intro hbc
  simp only [List.take_succ_cons, List.take_zero, List.drop_succ_cons, List.drop_zero]
  repeat (first
    | refine wpQ_pass rfl ?_
    | (refine wpQ_step rfl (fun K hK => ?_)
       go_simp
       first
         | (refine hK _ ?_; clear hK K)
         | (apply Exists.intro
            refine ⟨fun z => ?_, ?_⟩
            focus (first | (go_at_call 97; with_reducible exact HN.out _ (below_blur HW1.out hBs _)) | (go_at_call 97; with_reducible exact HN'.out _ (below_blur HW1.out hBs _)))
            refine hK _ ?_
            clear hK K)))
  refine wpQ_nil ⟨?_, ?_⟩
  · refine ⟨fun z => ?_, fun z => ?_, rfl⟩
    · set_option maxRecDepth 100000 in refine makes_blk ?_
      go_simp
    · set_option maxRecDepth 100000 in refine makes_blk ?_
      go_simp
  intro u2a g2a hi2a hg2a hl2a n2a u2b g2b hi2b hg2b hl2b n2b w2 hb2 hF2
  clear hbc
  obtain ⟨hc2, hf2⟩ := bcell hb2
  obtain ⟨⟨_, hs2a, ⟨rfl, rfl, hF2a⟩⟩, hs2b, ⟨rfl, rfl, hF2b⟩⟩ := hF2
  have hB2 : Below w.heap.size w w2 := below_then (by first | (go_grown; done) | (repeat (first | (with_reducible assumption) | (with_reducible exact Below.refl _ _) | (with_reducible refine below_drewN' ?_ _) | (with_reducible refine Below.drew ?_) | ((with_reducible refine Below.alloc ?_ ?_ _); rotate_left; focus (first | (simp; done) | (simp; omega) | omega)) | ((with_reducible refine Below.setCell ?_ ?_ _); rotate_left; focus (first | (simp; done) | (simp; omega) | omega))))) (by first | (simp; done) | (simp; omega) | omega) hb2
  have hz2a : w.heap.size < w2.heap.size := (by have := hb2.size; first | omega | (simp at this; omega))
  have hz2b : w1.heap.size < w2.heap.size := (by have := hb2.size; first | omega | (simp at this; omega))
  have ne2b2a : g2b ≠ g2a := by intro h; have := n2b (g2a, g2a + 1) (by simp); simp at this; omega
  have hcg2a := blk_cell hF2a
  have hfg2a := blk_frozen hF2a
  try simp only [World.size_alloc] at hg2a
  have hcg2b := blk_cell hF2b
  have hfg2b := blk_frozen hF2b
  try simp only [World.size_alloc] at hg2b
  clear n2a n2b
  try simp only [Act.put, List.setIfInBounds_toArray, List.set_cons_succ, List.set_cons_zero]
  have hsa : g2a < w2.heap.size := by omega
  have hsb : g2b < w2.heap.size := by omega
  have hsw : w.heap.size ≤ g2a := by have := hB1.size; omega
  have hsv : w.heap.size ≤ g2b := by have := hB1.size; omega
  have hsy : g2a ≠ g2b := Ne.symm ne2b2a
  clear hb1 hc1 hf1 hb2
  go_wp2_with fail
  go_returns
  exact ⟨rfl, by (repeat (first | (with_reducible assumption) | (with_reducible exact Below.refl _ _) | (with_reducible refine below_drewN' ?_ _) | (with_reducible refine Below.drew ?_) | ((with_reducible refine Below.alloc ?_ ?_ _); rotate_left; focus (first | (simp; done) | (simp; omega) | omega)) | ((with_reducible refine Below.setCell ?_ ?_ _); rotate_left; focus (first | (simp; done) | (simp; omega) | omega))))⟩
set_option maxRecDepth 100000 in
set_option maxHeartbeats 4000000 in
theorem fs_7_2 (d l p : Int) (A A' : Option Addr) (n c n' c' vx lx ux vy ly uy : Nat) (w : World) (B : Nat) (hB : B ≤ w.heap.size) (hl : -9223372036854775808 ≤ l ∧ l ≤ 9223372036854775807) (hc : fcodeB d l p = true)
    (HN : Hid (∀ w', Below B w w' → Calls Try.prog 97 #[.agg #[.int .i64 d, .int .i64 l, .int .i64 p], .slice A n c] w' fun e w'' => e = .returned (.agg #[.int .i64 vx, .int .i64 lx, .int .i64 ux, .int .i64 7]) ∧ Below w'.heap.size w' w''))
    (HN' : Hid (∀ w', Below B w w' → Calls Try.prog 97 #[.agg #[.int .i64 d, .int .i64 l, .int .i64 p], .slice A' n' c'] w' fun e w'' => e = .returned (.agg #[.int .i64 vy, .int .i64 ly, .int .i64 uy, .int .i64 2]) ∧ Below w'.heap.size w' w'')) :
    Calls Try.prog 75 #[.agg #[.int .i64 d, .int .i64 l, .int .i64 p], .slice A n c, .slice A' n' c'] w fun e w' =>
      e = .returned (.tuple #[.int .i64 (0), .int .i64 2]) ∧ Below w.heap.size w w' := by
  go_enter Try.func75, Try.ntmps75
  go_wp2_with fail
  (go_at_call 96; go_call (IsFormatCode_any _ _ _ _ hl) as e1 w1 ⟨rfl, hb1⟩; obtain ⟨hc1, hf1⟩ := bcell hb1; have hB1 : Below w.heap.size w w1 := (below_then (by first | (go_grown; done) | (repeat (first | (with_reducible assumption) | (with_reducible exact Below.refl _ _) | (with_reducible refine below_drewN' ?_ _) | (with_reducible refine Below.drew ?_) | ((with_reducible refine Below.alloc ?_ ?_ _); rotate_left; focus (first | (simp; done) | (simp; omega) | omega)) | ((with_reducible refine Below.setCell ?_ ?_ _); rotate_left; focus (first | (simp; done) | (simp; omega) | omega))))) (by first | omega | (simp; done) | (simp; omega)) hb1); have hz1a : w.heap.size < w1.heap.size := (by have := hb1.size; first | omega | (simp at this; omega)))
  go_wp2_with fail
  have HW1 := Lib.hid (hB1.mono hB)
  have hBs : B ≤ w1.heap.size := Nat.le_trans hB hB1.size
  refine wp_region_qat [] 8 [Mkr.blk (fun g => .pointer (some ⟨g, 0, none⟩)) (.cells #[.int .i64 0, .int .i64 0, .int .i64 0, .int .i64 0] 105), Mkr.blk (fun g => .pointer (some ⟨g, 0, none⟩)) (.cells #[.int .i64 0, .int .i64 0, .int .i64 0, .int .i64 0] 105)] (by kernel_rfl) (by kernel_rfl) ?_
  intro hbc
  simp only [List.take_succ_cons, List.take_zero, List.drop_succ_cons, List.drop_zero]
  repeat (first
    | refine wpQ_pass rfl ?_
    | (refine wpQ_step rfl (fun K hK => ?_)
       go_simp
       first
         | (refine hK _ ?_; clear hK K)
         | (apply Exists.intro
            refine ⟨fun z => ?_, ?_⟩
            focus (first | (go_at_call 97; with_reducible exact HN.out _ (below_blur HW1.out hBs _)) | (go_at_call 97; with_reducible exact HN'.out _ (below_blur HW1.out hBs _)))
            refine hK _ ?_
            clear hK K)))
  refine wpQ_nil ⟨?_, ?_⟩
  · refine ⟨fun z => ?_, fun z => ?_, rfl⟩
    · set_option maxRecDepth 100000 in refine makes_blk ?_
      go_simp
    · set_option maxRecDepth 100000 in refine makes_blk ?_
      go_simp
  intro u2a g2a hi2a hg2a hl2a n2a u2b g2b hi2b hg2b hl2b n2b w2 hb2 hF2
  clear hbc
  obtain ⟨hc2, hf2⟩ := bcell hb2
  obtain ⟨⟨_, hs2a, ⟨rfl, rfl, hF2a⟩⟩, hs2b, ⟨rfl, rfl, hF2b⟩⟩ := hF2
  have hB2 : Below w.heap.size w w2 := below_then (by first | (go_grown; done) | (repeat (first | (with_reducible assumption) | (with_reducible exact Below.refl _ _) | (with_reducible refine below_drewN' ?_ _) | (with_reducible refine Below.drew ?_) | ((with_reducible refine Below.alloc ?_ ?_ _); rotate_left; focus (first | (simp; done) | (simp; omega) | omega)) | ((with_reducible refine Below.setCell ?_ ?_ _); rotate_left; focus (first | (simp; done) | (simp; omega) | omega))))) (by first | (simp; done) | (simp; omega) | omega) hb2
  have hz2a : w.heap.size < w2.heap.size := (by have := hb2.size; first | omega | (simp at this; omega))
  have hz2b : w1.heap.size < w2.heap.size := (by have := hb2.size; first | omega | (simp at this; omega))
  have ne2b2a : g2b ≠ g2a := by intro h; have := n2b (g2a, g2a + 1) (by simp); simp at this; omega
  have hcg2a := blk_cell hF2a
  have hfg2a := blk_frozen hF2a
  try simp only [World.size_alloc] at hg2a
  have hcg2b := blk_cell hF2b
  have hfg2b := blk_frozen hF2b
  try simp only [World.size_alloc] at hg2b
  clear n2a n2b
  try simp only [Act.put, List.setIfInBounds_toArray, List.set_cons_succ, List.set_cons_zero]
  have hsa : g2a < w2.heap.size := by omega
  have hsb : g2b < w2.heap.size := by omega
  have hsw : w.heap.size ≤ g2a := by have := hB1.size; omega
  have hsv : w.heap.size ≤ g2b := by have := hB1.size; omega
  have hsy : g2a ≠ g2b := Ne.symm ne2b2a
  clear hb1 hc1 hf1 hb2
  go_wp2_with fail
  go_returns
  exact ⟨rfl, by (repeat (first | (with_reducible assumption) | (with_reducible exact Below.refl _ _) | (with_reducible refine below_drewN' ?_ _) | (with_reducible refine Below.drew ?_) | ((with_reducible refine Below.alloc ?_ ?_ _); rotate_left; focus (first | (simp; done) | (simp; omega) | omega)) | ((with_reducible refine Below.setCell ?_ ?_ _); rotate_left; focus (first | (simp; done) | (simp; omega) | omega))))⟩
set_option maxRecDepth 100000 in
set_option maxHeartbeats 4000000 in
theorem fs_7_7 (d l p : Int) (A A' : Option Addr) (n c n' c' vx lx ux vy ly uy : Nat) (w : World) (B : Nat) (hB : B ≤ w.heap.size) (hl : -9223372036854775808 ≤ l ∧ l ≤ 9223372036854775807) (hc : fcodeB d l p = true)
    (HN : Hid (∀ w', Below B w w' → Calls Try.prog 97 #[.agg #[.int .i64 d, .int .i64 l, .int .i64 p], .slice A n c] w' fun e w'' => e = .returned (.agg #[.int .i64 vx, .int .i64 lx, .int .i64 ux, .int .i64 7]) ∧ Below w'.heap.size w' w''))
    (HN' : Hid (∀ w', Below B w w' → Calls Try.prog 97 #[.agg #[.int .i64 d, .int .i64 l, .int .i64 p], .slice A' n' c'] w' fun e w'' => e = .returned (.agg #[.int .i64 vy, .int .i64 ly, .int .i64 uy, .int .i64 7]) ∧ Below w'.heap.size w' w'')) :
    Calls Try.prog 75 #[.agg #[.int .i64 d, .int .i64 l, .int .i64 p], .slice A n c, .slice A' n' c'] w fun e w' =>
      e = .returned (.tuple #[.int .i64 (0), .int .i64 7]) ∧ Below w.heap.size w w' := by
  go_enter Try.func75, Try.ntmps75
  go_wp2_with fail
  (go_at_call 96; go_call (IsFormatCode_any _ _ _ _ hl) as e1 w1 ⟨rfl, hb1⟩; obtain ⟨hc1, hf1⟩ := bcell hb1; have hB1 : Below w.heap.size w w1 := (below_then (by first | (go_grown; done) | (repeat (first | (with_reducible assumption) | (with_reducible exact Below.refl _ _) | (with_reducible refine below_drewN' ?_ _) | (with_reducible refine Below.drew ?_) | ((with_reducible refine Below.alloc ?_ ?_ _); rotate_left; focus (first | (simp; done) | (simp; omega) | omega)) | ((with_reducible refine Below.setCell ?_ ?_ _); rotate_left; focus (first | (simp; done) | (simp; omega) | omega))))) (by first | omega | (simp; done) | (simp; omega)) hb1); have hz1a : w.heap.size < w1.heap.size := (by have := hb1.size; first | omega | (simp at this; omega)))
  go_wp2_with fail
  have HW1 := Lib.hid (hB1.mono hB)
  have hBs : B ≤ w1.heap.size := Nat.le_trans hB hB1.size
  refine wp_region_qat [] 8 [Mkr.blk (fun g => .pointer (some ⟨g, 0, none⟩)) (.cells #[.int .i64 0, .int .i64 0, .int .i64 0, .int .i64 0] 105), Mkr.blk (fun g => .pointer (some ⟨g, 0, none⟩)) (.cells #[.int .i64 0, .int .i64 0, .int .i64 0, .int .i64 0] 105)] (by kernel_rfl) (by kernel_rfl) ?_
  intro hbc
  simp only [List.take_succ_cons, List.take_zero, List.drop_succ_cons, List.drop_zero]
  repeat (first
    | refine wpQ_pass rfl ?_
    | (refine wpQ_step rfl (fun K hK => ?_)
       go_simp
       first
         | (refine hK _ ?_; clear hK K)
         | (apply Exists.intro
            refine ⟨fun z => ?_, ?_⟩
            focus (first | (go_at_call 97; with_reducible exact HN.out _ (below_blur HW1.out hBs _)) | (go_at_call 97; with_reducible exact HN'.out _ (below_blur HW1.out hBs _)))
            refine hK _ ?_
            clear hK K)))
  refine wpQ_nil ⟨?_, ?_⟩
  · refine ⟨fun z => ?_, fun z => ?_, rfl⟩
    · set_option maxRecDepth 100000 in refine makes_blk ?_
      go_simp
    · set_option maxRecDepth 100000 in refine makes_blk ?_
      go_simp
  intro u2a g2a hi2a hg2a hl2a n2a u2b g2b hi2b hg2b hl2b n2b w2 hb2 hF2
  clear hbc
  obtain ⟨hc2, hf2⟩ := bcell hb2
  obtain ⟨⟨_, hs2a, ⟨rfl, rfl, hF2a⟩⟩, hs2b, ⟨rfl, rfl, hF2b⟩⟩ := hF2
  have hB2 : Below w.heap.size w w2 := below_then (by first | (go_grown; done) | (repeat (first | (with_reducible assumption) | (with_reducible exact Below.refl _ _) | (with_reducible refine below_drewN' ?_ _) | (with_reducible refine Below.drew ?_) | ((with_reducible refine Below.alloc ?_ ?_ _); rotate_left; focus (first | (simp; done) | (simp; omega) | omega)) | ((with_reducible refine Below.setCell ?_ ?_ _); rotate_left; focus (first | (simp; done) | (simp; omega) | omega))))) (by first | (simp; done) | (simp; omega) | omega) hb2
  have hz2a : w.heap.size < w2.heap.size := (by have := hb2.size; first | omega | (simp at this; omega))
  have hz2b : w1.heap.size < w2.heap.size := (by have := hb2.size; first | omega | (simp at this; omega))
  have ne2b2a : g2b ≠ g2a := by intro h; have := n2b (g2a, g2a + 1) (by simp); simp at this; omega
  have hcg2a := blk_cell hF2a
  have hfg2a := blk_frozen hF2a
  try simp only [World.size_alloc] at hg2a
  have hcg2b := blk_cell hF2b
  have hfg2b := blk_frozen hF2b
  try simp only [World.size_alloc] at hg2b
  clear n2a n2b
  try simp only [Act.put, List.setIfInBounds_toArray, List.set_cons_succ, List.set_cons_zero]
  have hsa : g2a < w2.heap.size := by omega
  have hsb : g2b < w2.heap.size := by omega
  have hsw : w.heap.size ≤ g2a := by have := hB1.size; omega
  have hsv : w.heap.size ≤ g2b := by have := hB1.size; omega
  have hsy : g2a ≠ g2b := Ne.symm ne2b2a
  clear hb1 hc1 hf1 hb2
  go_wp2_with fail
  go_returns
  exact ⟨rfl, by (repeat (first | (with_reducible assumption) | (with_reducible exact Below.refl _ _) | (with_reducible refine below_drewN' ?_ _) | (with_reducible refine Below.drew ?_) | ((with_reducible refine Below.alloc ?_ ?_ _); rotate_left; focus (first | (simp; done) | (simp; omega) | omega)) | ((with_reducible refine Below.setCell ?_ ?_ _); rotate_left; focus (first | (simp; done) | (simp; omega) | omega))))⟩
set_option maxRecDepth 100000 in
set_option maxHeartbeats 4000000 in
theorem fs_7_0 (d l p : Int) (A A' : Option Addr) (n c n' c' vx lx ux vy ly uy : Nat) (w : World) (B : Nat) (hB : B ≤ w.heap.size) (hl : -9223372036854775808 ≤ l ∧ l ≤ 9223372036854775807) (hc : fcodeB d l p = true)
    (HN : Hid (∀ w', Below B w w' → Calls Try.prog 97 #[.agg #[.int .i64 d, .int .i64 l, .int .i64 p], .slice A n c] w' fun e w'' => e = .returned (.agg #[.int .i64 vx, .int .i64 lx, .int .i64 ux, .int .i64 7]) ∧ Below w'.heap.size w' w''))
    (HN' : Hid (∀ w', Below B w w' → Calls Try.prog 97 #[.agg #[.int .i64 d, .int .i64 l, .int .i64 p], .slice A' n' c'] w' fun e w'' => e = .returned (.agg #[.int .i64 vy, .int .i64 ly, .int .i64 uy, .int .i64 0]) ∧ Below w'.heap.size w' w'')) :
    Calls Try.prog 75 #[.agg #[.int .i64 d, .int .i64 l, .int .i64 p], .slice A n c, .slice A' n' c'] w fun e w' =>
      e = .returned (.tuple #[.int .i64 (vy), .int .i64 0]) ∧ Below w.heap.size w w' := by
  go_enter Try.func75, Try.ntmps75
  go_wp2_with fail
  (go_at_call 96; go_call (IsFormatCode_any _ _ _ _ hl) as e1 w1 ⟨rfl, hb1⟩; obtain ⟨hc1, hf1⟩ := bcell hb1; have hB1 : Below w.heap.size w w1 := (below_then (by first | (go_grown; done) | (repeat (first | (with_reducible assumption) | (with_reducible exact Below.refl _ _) | (with_reducible refine below_drewN' ?_ _) | (with_reducible refine Below.drew ?_) | ((with_reducible refine Below.alloc ?_ ?_ _); rotate_left; focus (first | (simp; done) | (simp; omega) | omega)) | ((with_reducible refine Below.setCell ?_ ?_ _); rotate_left; focus (first | (simp; done) | (simp; omega) | omega))))) (by first | omega | (simp; done) | (simp; omega)) hb1); have hz1a : w.heap.size < w1.heap.size := (by have := hb1.size; first | omega | (simp at this; omega)))
  go_wp2_with fail
  have HW1 := Lib.hid (hB1.mono hB)
  have hBs : B ≤ w1.heap.size := Nat.le_trans hB hB1.size
  refine wp_region_qat [] 8 [Mkr.blk (fun g => .pointer (some ⟨g, 0, none⟩)) (.cells #[.int .i64 0, .int .i64 0, .int .i64 0, .int .i64 0] 105), Mkr.blk (fun g => .pointer (some ⟨g, 0, none⟩)) (.cells #[.int .i64 0, .int .i64 0, .int .i64 0, .int .i64 0] 105)] (by kernel_rfl) (by kernel_rfl) ?_
  intro hbc
  simp only [List.take_succ_cons, List.take_zero, List.drop_succ_cons, List.drop_zero]
  repeat (first
    | refine wpQ_pass rfl ?_
    | (refine wpQ_step rfl (fun K hK => ?_)
       go_simp
       first
         | (refine hK _ ?_; clear hK K)
         | (apply Exists.intro
            refine ⟨fun z => ?_, ?_⟩
            focus (first | (go_at_call 97; with_reducible exact HN.out _ (below_blur HW1.out hBs _)) | (go_at_call 97; with_reducible exact HN'.out _ (below_blur HW1.out hBs _)))
            refine hK _ ?_
            clear hK K)))
  refine wpQ_nil ⟨?_, ?_⟩
  · refine ⟨fun z => ?_, fun z => ?_, rfl⟩
    · set_option maxRecDepth 100000 in refine makes_blk ?_
      go_simp
    · set_option maxRecDepth 100000 in refine makes_blk ?_
      go_simp
  intro u2a g2a hi2a hg2a hl2a n2a u2b g2b hi2b hg2b hl2b n2b w2 hb2 hF2
  clear hbc
  obtain ⟨hc2, hf2⟩ := bcell hb2
  obtain ⟨⟨_, hs2a, ⟨rfl, rfl, hF2a⟩⟩, hs2b, ⟨rfl, rfl, hF2b⟩⟩ := hF2
  have hB2 : Below w.heap.size w w2 := below_then (by first | (go_grown; done) | (repeat (first | (with_reducible assumption) | (with_reducible exact Below.refl _ _) | (with_reducible refine below_drewN' ?_ _) | (with_reducible refine Below.drew ?_) | ((with_reducible refine Below.alloc ?_ ?_ _); rotate_left; focus (first | (simp; done) | (simp; omega) | omega)) | ((with_reducible refine Below.setCell ?_ ?_ _); rotate_left; focus (first | (simp; done) | (simp; omega) | omega))))) (by first | (simp; done) | (simp; omega) | omega) hb2
  have hz2a : w.heap.size < w2.heap.size := (by have := hb2.size; first | omega | (simp at this; omega))
  have hz2b : w1.heap.size < w2.heap.size := (by have := hb2.size; first | omega | (simp at this; omega))
  have ne2b2a : g2b ≠ g2a := by intro h; have := n2b (g2a, g2a + 1) (by simp); simp at this; omega
  have hcg2a := blk_cell hF2a
  have hfg2a := blk_frozen hF2a
  try simp only [World.size_alloc] at hg2a
  have hcg2b := blk_cell hF2b
  have hfg2b := blk_frozen hF2b
  try simp only [World.size_alloc] at hg2b
  clear n2a n2b
  try simp only [Act.put, List.setIfInBounds_toArray, List.set_cons_succ, List.set_cons_zero]
  have hsa : g2a < w2.heap.size := by omega
  have hsb : g2b < w2.heap.size := by omega
  have hsw : w.heap.size ≤ g2a := by have := hB1.size; omega
  have hsv : w.heap.size ≤ g2b := by have := hB1.size; omega
  have hsy : g2a ≠ g2b := Ne.symm ne2b2a
  clear hb1 hc1 hf1 hb2
  go_wp2_with fail
  generalize hWX : (((((((w2.setCell ⟨g2a, 0, none⟩ (.int .i64 vx)).setCell ⟨g2a, 1, none⟩ (.int .i64 lx)).setCell ⟨g2a, 2, none⟩ (.int .i64 ux)).setCell ⟨g2a, 3, none⟩ (.int .i64 7)).setCell ⟨g2b, 0, none⟩ (.int .i64 vy)).setCell ⟨g2b, 1, none⟩ (.int .i64 ly)).setCell ⟨g2b, 2, none⟩ (.int .i64 uy)).setCell ⟨g2b, 3, none⟩ (.int .i64 0) = wX
  have HWX := Lib.hid hWX
  clear hWX
  have hBX : Below w.heap.size w wX := by rw [← HWX.out]; (repeat (first | (with_reducible assumption) | (with_reducible exact Below.refl _ _) | (with_reducible refine below_drewN' ?_ _) | (with_reducible refine Below.drew ?_) | ((with_reducible refine Below.alloc ?_ ?_ _); rotate_left; focus (first | (simp; done) | (simp; omega) | omega)) | ((with_reducible refine Below.setCell ?_ ?_ _); rotate_left; focus (first | (simp; done) | (simp; omega) | omega))))
  have hsX : wX.heap.size = w2.heap.size := by rw [← HWX.out]; simp
  have a0 : wX.cell? ⟨g2a, 0, none⟩ = some (.int .i64 vx) := by rw [← HWX.out]; go_simp
  have a1 : wX.cell? ⟨g2a, 1, none⟩ = some (.int .i64 lx) := by rw [← HWX.out]; go_simp
  have a2 : wX.cell? ⟨g2a, 2, none⟩ = some (.int .i64 ux) := by rw [← HWX.out]; go_simp
  have a3 : wX.cell? ⟨g2a, 3, none⟩ = some (.int .i64 7) := by rw [← HWX.out]; go_simp
  have b0 : wX.cell? ⟨g2b, 0, none⟩ = some (.int .i64 vy) := by rw [← HWX.out]; go_simp
  have b1 : wX.cell? ⟨g2b, 1, none⟩ = some (.int .i64 ly) := by rw [← HWX.out]; go_simp
  have b2 : wX.cell? ⟨g2b, 2, none⟩ = some (.int .i64 uy) := by rw [← HWX.out]; go_simp
  have b3 : wX.cell? ⟨g2b, 3, none⟩ = some (.int .i64 0) := by rw [← HWX.out]; go_simp
  have hta : g2a < wX.heap.size := by omega
  have htb : g2b < wX.heap.size := by omega
  have htw : w.heap.size ≤ wX.heap.size := hBX.size
  clear HWX hsX hsa hsb hc2 hf2 hB2 hz2a hz2b hB1 hz1a HN HN' HW1
  go_quiet (fail)
  go_wp2_with fail
  all_goals
    go_returns
    exact ⟨ret_int2 (by first | rfl | (unfold pick2; simp; omega)) rfl, by first | exact hB3 | (repeat (first | (with_reducible assumption) | (with_reducible exact Below.refl _ _) | (with_reducible refine below_drewN' ?_ _) | (with_reducible refine Below.drew ?_) | ((with_reducible refine Below.alloc ?_ ?_ _); rotate_left; focus (first | (simp; done) | (simp; omega) | omega)) | ((with_reducible refine Below.setCell ?_ ?_ _); rotate_left; focus (first | (simp; done) | (simp; omega) | omega))))⟩
set_option maxRecDepth 100000 in
set_option maxHeartbeats 4000000 in
theorem fs_0_2 (d l p : Int) (A A' : Option Addr) (n c n' c' vx lx ux vy ly uy : Nat) (w : World) (B : Nat) (hB : B ≤ w.heap.size) (hl : -9223372036854775808 ≤ l ∧ l ≤ 9223372036854775807) (hc : fcodeB d l p = true)
    (HN : Hid (∀ w', Below B w w' → Calls Try.prog 97 #[.agg #[.int .i64 d, .int .i64 l, .int .i64 p], .slice A n c] w' fun e w'' => e = .returned (.agg #[.int .i64 vx, .int .i64 lx, .int .i64 ux, .int .i64 0]) ∧ Below w'.heap.size w' w''))
    (HN' : Hid (∀ w', Below B w w' → Calls Try.prog 97 #[.agg #[.int .i64 d, .int .i64 l, .int .i64 p], .slice A' n' c'] w' fun e w'' => e = .returned (.agg #[.int .i64 vy, .int .i64 ly, .int .i64 uy, .int .i64 2]) ∧ Below w'.heap.size w' w'')) :
    Calls Try.prog 75 #[.agg #[.int .i64 d, .int .i64 l, .int .i64 p], .slice A n c, .slice A' n' c'] w fun e w' =>
      e = .returned (.tuple #[.int .i64 (0), .int .i64 2]) ∧ Below w.heap.size w w' := by
  go_enter Try.func75, Try.ntmps75
  go_wp2_with fail
  (go_at_call 96; go_call (IsFormatCode_any _ _ _ _ hl) as e1 w1 ⟨rfl, hb1⟩; obtain ⟨hc1, hf1⟩ := bcell hb1; have hB1 : Below w.heap.size w w1 := (below_then (by first | (go_grown; done) | (repeat (first | (with_reducible assumption) | (with_reducible exact Below.refl _ _) | (with_reducible refine below_drewN' ?_ _) | (with_reducible refine Below.drew ?_) | ((with_reducible refine Below.alloc ?_ ?_ _); rotate_left; focus (first | (simp; done) | (simp; omega) | omega)) | ((with_reducible refine Below.setCell ?_ ?_ _); rotate_left; focus (first | (simp; done) | (simp; omega) | omega))))) (by first | omega | (simp; done) | (simp; omega)) hb1); have hz1a : w.heap.size < w1.heap.size := (by have := hb1.size; first | omega | (simp at this; omega)))
  go_wp2_with fail
  have HW1 := Lib.hid (hB1.mono hB)
  have hBs : B ≤ w1.heap.size := Nat.le_trans hB hB1.size
  refine wp_region_qat [] 8 [Mkr.blk (fun g => .pointer (some ⟨g, 0, none⟩)) (.cells #[.int .i64 0, .int .i64 0, .int .i64 0, .int .i64 0] 105), Mkr.blk (fun g => .pointer (some ⟨g, 0, none⟩)) (.cells #[.int .i64 0, .int .i64 0, .int .i64 0, .int .i64 0] 105)] (by kernel_rfl) (by kernel_rfl) ?_
  intro hbc
  simp only [List.take_succ_cons, List.take_zero, List.drop_succ_cons, List.drop_zero]
  repeat (first
    | refine wpQ_pass rfl ?_
    | (refine wpQ_step rfl (fun K hK => ?_)
       go_simp
       first
         | (refine hK _ ?_; clear hK K)
         | (apply Exists.intro
            refine ⟨fun z => ?_, ?_⟩
            focus (first | (go_at_call 97; with_reducible exact HN.out _ (below_blur HW1.out hBs _)) | (go_at_call 97; with_reducible exact HN'.out _ (below_blur HW1.out hBs _)))
            refine hK _ ?_
            clear hK K)))
  refine wpQ_nil ⟨?_, ?_⟩
  · refine ⟨fun z => ?_, fun z => ?_, rfl⟩
    · set_option maxRecDepth 100000 in refine makes_blk ?_
      go_simp
    · set_option maxRecDepth 100000 in refine makes_blk ?_
      go_simp
  intro u2a g2a hi2a hg2a hl2a n2a u2b g2b hi2b hg2b hl2b n2b w2 hb2 hF2
  clear hbc
  obtain ⟨hc2, hf2⟩ := bcell hb2
  obtain ⟨⟨_, hs2a, ⟨rfl, rfl, hF2a⟩⟩, hs2b, ⟨rfl, rfl, hF2b⟩⟩ := hF2
  have hB2 : Below w.heap.size w w2 := below_then (by first | (go_grown; done) | (repeat (first | (with_reducible assumption) | (with_reducible exact Below.refl _ _) | (with_reducible refine below_drewN' ?_ _) | (with_reducible refine Below.drew ?_) | ((with_reducible refine Below.alloc ?_ ?_ _); rotate_left; focus (first | (simp; done) | (simp; omega) | omega)) | ((with_reducible refine Below.setCell ?_ ?_ _); rotate_left; focus (first | (simp; done) | (simp; omega) | omega))))) (by first | (simp; done) | (simp; omega) | omega) hb2
  have hz2a : w.heap.size < w2.heap.size := (by have := hb2.size; first | omega | (simp at this; omega))
  have hz2b : w1.heap.size < w2.heap.size := (by have := hb2.size; first | omega | (simp at this; omega))
  have ne2b2a : g2b ≠ g2a := by intro h; have := n2b (g2a, g2a + 1) (by simp); simp at this; omega
  have hcg2a := blk_cell hF2a
  have hfg2a := blk_frozen hF2a
  try simp only [World.size_alloc] at hg2a
  have hcg2b := blk_cell hF2b
  have hfg2b := blk_frozen hF2b
  try simp only [World.size_alloc] at hg2b
  clear n2a n2b
  try simp only [Act.put, List.setIfInBounds_toArray, List.set_cons_succ, List.set_cons_zero]
  have hsa : g2a < w2.heap.size := by omega
  have hsb : g2b < w2.heap.size := by omega
  have hsw : w.heap.size ≤ g2a := by have := hB1.size; omega
  have hsv : w.heap.size ≤ g2b := by have := hB1.size; omega
  have hsy : g2a ≠ g2b := Ne.symm ne2b2a
  clear hb1 hc1 hf1 hb2
  go_wp2_with fail
  go_returns
  exact ⟨rfl, by (repeat (first | (with_reducible assumption) | (with_reducible exact Below.refl _ _) | (with_reducible refine below_drewN' ?_ _) | (with_reducible refine Below.drew ?_) | ((with_reducible refine Below.alloc ?_ ?_ _); rotate_left; focus (first | (simp; done) | (simp; omega) | omega)) | ((with_reducible refine Below.setCell ?_ ?_ _); rotate_left; focus (first | (simp; done) | (simp; omega) | omega))))⟩
set_option maxRecDepth 100000 in
set_option maxHeartbeats 4000000 in
theorem fs_0_7 (d l p : Int) (A A' : Option Addr) (n c n' c' vx lx ux vy ly uy : Nat) (w : World) (B : Nat) (hB : B ≤ w.heap.size) (hl : -9223372036854775808 ≤ l ∧ l ≤ 9223372036854775807) (hc : fcodeB d l p = true)
    (HN : Hid (∀ w', Below B w w' → Calls Try.prog 97 #[.agg #[.int .i64 d, .int .i64 l, .int .i64 p], .slice A n c] w' fun e w'' => e = .returned (.agg #[.int .i64 vx, .int .i64 lx, .int .i64 ux, .int .i64 0]) ∧ Below w'.heap.size w' w''))
    (HN' : Hid (∀ w', Below B w w' → Calls Try.prog 97 #[.agg #[.int .i64 d, .int .i64 l, .int .i64 p], .slice A' n' c'] w' fun e w'' => e = .returned (.agg #[.int .i64 vy, .int .i64 ly, .int .i64 uy, .int .i64 7]) ∧ Below w'.heap.size w' w'')) :
    Calls Try.prog 75 #[.agg #[.int .i64 d, .int .i64 l, .int .i64 p], .slice A n c, .slice A' n' c'] w fun e w' =>
      e = .returned (.tuple #[.int .i64 (vx), .int .i64 0]) ∧ Below w.heap.size w w' := by
  go_enter Try.func75, Try.ntmps75
  go_wp2_with fail
  (go_at_call 96; go_call (IsFormatCode_any _ _ _ _ hl) as e1 w1 ⟨rfl, hb1⟩; obtain ⟨hc1, hf1⟩ := bcell hb1; have hB1 : Below w.heap.size w w1 := (below_then (by first | (go_grown; done) | (repeat (first | (with_reducible assumption) | (with_reducible exact Below.refl _ _) | (with_reducible refine below_drewN' ?_ _) | (with_reducible refine Below.drew ?_) | ((with_reducible refine Below.alloc ?_ ?_ _); rotate_left; focus (first | (simp; done) | (simp; omega) | omega)) | ((with_reducible refine Below.setCell ?_ ?_ _); rotate_left; focus (first | (simp; done) | (simp; omega) | omega))))) (by first | omega | (simp; done) | (simp; omega)) hb1); have hz1a : w.heap.size < w1.heap.size := (by have := hb1.size; first | omega | (simp at this; omega)))
  go_wp2_with fail
  have HW1 := Lib.hid (hB1.mono hB)
  have hBs : B ≤ w1.heap.size := Nat.le_trans hB hB1.size
  refine wp_region_qat [] 8 [Mkr.blk (fun g => .pointer (some ⟨g, 0, none⟩)) (.cells #[.int .i64 0, .int .i64 0, .int .i64 0, .int .i64 0] 105), Mkr.blk (fun g => .pointer (some ⟨g, 0, none⟩)) (.cells #[.int .i64 0, .int .i64 0, .int .i64 0, .int .i64 0] 105)] (by kernel_rfl) (by kernel_rfl) ?_
  intro hbc
  simp only [List.take_succ_cons, List.take_zero, List.drop_succ_cons, List.drop_zero]
  repeat (first
    | refine wpQ_pass rfl ?_
    | (refine wpQ_step rfl (fun K hK => ?_)
       go_simp
       first
         | (refine hK _ ?_; clear hK K)
         | (apply Exists.intro
            refine ⟨fun z => ?_, ?_⟩
            focus (first | (go_at_call 97; with_reducible exact HN.out _ (below_blur HW1.out hBs _)) | (go_at_call 97; with_reducible exact HN'.out _ (below_blur HW1.out hBs _)))
            refine hK _ ?_
            clear hK K)))
  refine wpQ_nil ⟨?_, ?_⟩
  · refine ⟨fun z => ?_, fun z => ?_, rfl⟩
    · set_option maxRecDepth 100000 in refine makes_blk ?_
      go_simp
    · set_option maxRecDepth 100000 in refine makes_blk ?_
      go_simp
  intro u2a g2a hi2a hg2a hl2a n2a u2b g2b hi2b hg2b hl2b n2b w2 hb2 hF2
  clear hbc
  obtain ⟨hc2, hf2⟩ := bcell hb2
  obtain ⟨⟨_, hs2a, ⟨rfl, rfl, hF2a⟩⟩, hs2b, ⟨rfl, rfl, hF2b⟩⟩ := hF2
  have hB2 : Below w.heap.size w w2 := below_then (by first | (go_grown; done) | (repeat (first | (with_reducible assumption) | (with_reducible exact Below.refl _ _) | (with_reducible refine below_drewN' ?_ _) | (with_reducible refine Below.drew ?_) | ((with_reducible refine Below.alloc ?_ ?_ _); rotate_left; focus (first | (simp; done) | (simp; omega) | omega)) | ((with_reducible refine Below.setCell ?_ ?_ _); rotate_left; focus (first | (simp; done) | (simp; omega) | omega))))) (by first | (simp; done) | (simp; omega) | omega) hb2
  have hz2a : w.heap.size < w2.heap.size := (by have := hb2.size; first | omega | (simp at this; omega))
  have hz2b : w1.heap.size < w2.heap.size := (by have := hb2.size; first | omega | (simp at this; omega))
  have ne2b2a : g2b ≠ g2a := by intro h; have := n2b (g2a, g2a + 1) (by simp); simp at this; omega
  have hcg2a := blk_cell hF2a
  have hfg2a := blk_frozen hF2a
  try simp only [World.size_alloc] at hg2a
  have hcg2b := blk_cell hF2b
  have hfg2b := blk_frozen hF2b
  try simp only [World.size_alloc] at hg2b
  clear n2a n2b
  try simp only [Act.put, List.setIfInBounds_toArray, List.set_cons_succ, List.set_cons_zero]
  have hsa : g2a < w2.heap.size := by omega
  have hsb : g2b < w2.heap.size := by omega
  have hsw : w.heap.size ≤ g2a := by have := hB1.size; omega
  have hsv : w.heap.size ≤ g2b := by have := hB1.size; omega
  have hsy : g2a ≠ g2b := Ne.symm ne2b2a
  clear hb1 hc1 hf1 hb2
  go_wp2_with fail
  generalize hWX : (((((((w2.setCell ⟨g2a, 0, none⟩ (.int .i64 vx)).setCell ⟨g2a, 1, none⟩ (.int .i64 lx)).setCell ⟨g2a, 2, none⟩ (.int .i64 ux)).setCell ⟨g2a, 3, none⟩ (.int .i64 0)).setCell ⟨g2b, 0, none⟩ (.int .i64 vy)).setCell ⟨g2b, 1, none⟩ (.int .i64 ly)).setCell ⟨g2b, 2, none⟩ (.int .i64 uy)).setCell ⟨g2b, 3, none⟩ (.int .i64 7) = wX
  have HWX := Lib.hid hWX
  clear hWX
  have hBX : Below w.heap.size w wX := by rw [← HWX.out]; (repeat (first | (with_reducible assumption) | (with_reducible exact Below.refl _ _) | (with_reducible refine below_drewN' ?_ _) | (with_reducible refine Below.drew ?_) | ((with_reducible refine Below.alloc ?_ ?_ _); rotate_left; focus (first | (simp; done) | (simp; omega) | omega)) | ((with_reducible refine Below.setCell ?_ ?_ _); rotate_left; focus (first | (simp; done) | (simp; omega) | omega))))
  have hsX : wX.heap.size = w2.heap.size := by rw [← HWX.out]; simp
  have a0 : wX.cell? ⟨g2a, 0, none⟩ = some (.int .i64 vx) := by rw [← HWX.out]; go_simp
  have a1 : wX.cell? ⟨g2a, 1, none⟩ = some (.int .i64 lx) := by rw [← HWX.out]; go_simp
  have a2 : wX.cell? ⟨g2a, 2, none⟩ = some (.int .i64 ux) := by rw [← HWX.out]; go_simp
  have a3 : wX.cell? ⟨g2a, 3, none⟩ = some (.int .i64 0) := by rw [← HWX.out]; go_simp
  have b0 : wX.cell? ⟨g2b, 0, none⟩ = some (.int .i64 vy) := by rw [← HWX.out]; go_simp
  have b1 : wX.cell? ⟨g2b, 1, none⟩ = some (.int .i64 ly) := by rw [← HWX.out]; go_simp
  have b2 : wX.cell? ⟨g2b, 2, none⟩ = some (.int .i64 uy) := by rw [← HWX.out]; go_simp
  have b3 : wX.cell? ⟨g2b, 3, none⟩ = some (.int .i64 7) := by rw [← HWX.out]; go_simp
  have hta : g2a < wX.heap.size := by omega
  have htb : g2b < wX.heap.size := by omega
  have htw : w.heap.size ≤ wX.heap.size := hBX.size
  clear HWX hsX hsa hsb hc2 hf2 hB2 hz2a hz2b hB1 hz1a HN HN' HW1
  go_quiet (fail)
  go_wp2_with fail
  all_goals
    go_returns
    exact ⟨ret_int2 (by first | rfl | (unfold pick2; simp; omega)) rfl, by first | exact hB3 | (repeat (first | (with_reducible assumption) | (with_reducible exact Below.refl _ _) | (with_reducible refine below_drewN' ?_ _) | (with_reducible refine Below.drew ?_) | ((with_reducible refine Below.alloc ?_ ?_ _); rotate_left; focus (first | (simp; done) | (simp; omega) | omega)) | ((with_reducible refine Below.setCell ?_ ?_ _); rotate_left; focus (first | (simp; done) | (simp; omega) | omega))))⟩
set_option maxRecDepth 100000 in
set_option maxHeartbeats 4000000 in
theorem fs_0_0 (d l p : Int) (A A' : Option Addr) (n c n' c' vx lx ux vy ly uy : Nat) (w : World) (B : Nat) (hB : B ≤ w.heap.size) (hl : -9223372036854775808 ≤ l ∧ l ≤ 9223372036854775807) (hc : fcodeB d l p = true)
    (h1 : lx ≤ 25) (h2 : ux ≤ 24) (h3 : ly ≤ 25) (h4 : uy ≤ 24)
    (HN : Hid (∀ w', Below B w w' → Calls Try.prog 97 #[.agg #[.int .i64 d, .int .i64 l, .int .i64 p], .slice A n c] w' fun e w'' => e = .returned (.agg #[.int .i64 vx, .int .i64 lx, .int .i64 ux, .int .i64 0]) ∧ Below w'.heap.size w' w''))
    (HN' : Hid (∀ w', Below B w w' → Calls Try.prog 97 #[.agg #[.int .i64 d, .int .i64 l, .int .i64 p], .slice A' n' c'] w' fun e w'' => e = .returned (.agg #[.int .i64 vy, .int .i64 ly, .int .i64 uy, .int .i64 0]) ∧ Below w'.heap.size w' w'')) :
    Calls Try.prog 75 #[.agg #[.int .i64 d, .int .i64 l, .int .i64 p], .slice A n c, .slice A' n' c'] w fun e w' =>
      e = .returned (.tuple #[.int .i64 (pick2 true true vx vy (2 * lx + ux) (2 * ly + uy)), .int .i64 0]) ∧ Below w.heap.size w w' := by
  go_enter Try.func75, Try.ntmps75
  go_wp2_with fail
  (go_at_call 96; go_call (IsFormatCode_any _ _ _ _ hl) as e1 w1 ⟨rfl, hb1⟩; obtain ⟨hc1, hf1⟩ := bcell hb1; have hB1 : Below w.heap.size w w1 := (below_then (by first | (go_grown; done) | (repeat (first | (with_reducible assumption) | (with_reducible exact Below.refl _ _) | (with_reducible refine below_drewN' ?_ _) | (with_reducible refine Below.drew ?_) | ((with_reducible refine Below.alloc ?_ ?_ _); rotate_left; focus (first | (simp; done) | (simp; omega) | omega)) | ((with_reducible refine Below.setCell ?_ ?_ _); rotate_left; focus (first | (simp; done) | (simp; omega) | omega))))) (by first | omega | (simp; done) | (simp; omega)) hb1); have hz1a : w.heap.size < w1.heap.size := (by have := hb1.size; first | omega | (simp at this; omega)))
  go_wp2_with fail
  have HW1 := Lib.hid (hB1.mono hB)
  have hBs : B ≤ w1.heap.size := Nat.le_trans hB hB1.size
  refine wp_region_qat [] 8 [Mkr.blk (fun g => .pointer (some ⟨g, 0, none⟩)) (.cells #[.int .i64 0, .int .i64 0, .int .i64 0, .int .i64 0] 105), Mkr.blk (fun g => .pointer (some ⟨g, 0, none⟩)) (.cells #[.int .i64 0, .int .i64 0, .int .i64 0, .int .i64 0] 105)] (by kernel_rfl) (by kernel_rfl) ?_
  intro hbc
  simp only [List.take_succ_cons, List.take_zero, List.drop_succ_cons, List.drop_zero]
  repeat (first
    | refine wpQ_pass rfl ?_
    | (refine wpQ_step rfl (fun K hK => ?_)
       go_simp
       first
         | (refine hK _ ?_; clear hK K)
         | (apply Exists.intro
            refine ⟨fun z => ?_, ?_⟩
            focus (first | (go_at_call 97; with_reducible exact HN.out _ (below_blur HW1.out hBs _)) | (go_at_call 97; with_reducible exact HN'.out _ (below_blur HW1.out hBs _)))
            refine hK _ ?_
            clear hK K)))
  refine wpQ_nil ⟨?_, ?_⟩
  · refine ⟨fun z => ?_, fun z => ?_, rfl⟩
    · set_option maxRecDepth 100000 in refine makes_blk ?_
      go_simp
    · set_option maxRecDepth 100000 in refine makes_blk ?_
      go_simp
  intro u2a g2a hi2a hg2a hl2a n2a u2b g2b hi2b hg2b hl2b n2b w2 hb2 hF2
  clear hbc
  obtain ⟨hc2, hf2⟩ := bcell hb2
  obtain ⟨⟨_, hs2a, ⟨rfl, rfl, hF2a⟩⟩, hs2b, ⟨rfl, rfl, hF2b⟩⟩ := hF2
  have hB2 : Below w.heap.size w w2 := below_then (by first | (go_grown; done) | (repeat (first | (with_reducible assumption) | (with_reducible exact Below.refl _ _) | (with_reducible refine below_drewN' ?_ _) | (with_reducible refine Below.drew ?_) | ((with_reducible refine Below.alloc ?_ ?_ _); rotate_left; focus (first | (simp; done) | (simp; omega) | omega)) | ((with_reducible refine Below.setCell ?_ ?_ _); rotate_left; focus (first | (simp; done) | (simp; omega) | omega))))) (by first | (simp; done) | (simp; omega) | omega) hb2
  have hz2a : w.heap.size < w2.heap.size := (by have := hb2.size; first | omega | (simp at this; omega))
  have hz2b : w1.heap.size < w2.heap.size := (by have := hb2.size; first | omega | (simp at this; omega))
  have ne2b2a : g2b ≠ g2a := by intro h; have := n2b (g2a, g2a + 1) (by simp); simp at this; omega
  have hcg2a := blk_cell hF2a
  have hfg2a := blk_frozen hF2a
  try simp only [World.size_alloc] at hg2a
  have hcg2b := blk_cell hF2b
  have hfg2b := blk_frozen hF2b
  try simp only [World.size_alloc] at hg2b
  clear n2a n2b
  try simp only [Act.put, List.setIfInBounds_toArray, List.set_cons_succ, List.set_cons_zero]
  have hsa : g2a < w2.heap.size := by omega
  have hsb : g2b < w2.heap.size := by omega
  have hsw : w.heap.size ≤ g2a := by have := hB1.size; omega
  have hsv : w.heap.size ≤ g2b := by have := hB1.size; omega
  have hsy : g2a ≠ g2b := Ne.symm ne2b2a
  clear hb1 hc1 hf1 hb2
  go_wp2_with fail
  generalize hWX : (((((((w2.setCell ⟨g2a, 0, none⟩ (.int .i64 vx)).setCell ⟨g2a, 1, none⟩ (.int .i64 lx)).setCell ⟨g2a, 2, none⟩ (.int .i64 ux)).setCell ⟨g2a, 3, none⟩ (.int .i64 0)).setCell ⟨g2b, 0, none⟩ (.int .i64 vy)).setCell ⟨g2b, 1, none⟩ (.int .i64 ly)).setCell ⟨g2b, 2, none⟩ (.int .i64 uy)).setCell ⟨g2b, 3, none⟩ (.int .i64 0) = wX
  have HWX := Lib.hid hWX
  clear hWX
  have hBX : Below w.heap.size w wX := by rw [← HWX.out]; (repeat (first | (with_reducible assumption) | (with_reducible exact Below.refl _ _) | (with_reducible refine below_drewN' ?_ _) | (with_reducible refine Below.drew ?_) | ((with_reducible refine Below.alloc ?_ ?_ _); rotate_left; focus (first | (simp; done) | (simp; omega) | omega)) | ((with_reducible refine Below.setCell ?_ ?_ _); rotate_left; focus (first | (simp; done) | (simp; omega) | omega))))
  have hsX : wX.heap.size = w2.heap.size := by rw [← HWX.out]; simp
  have a0 : wX.cell? ⟨g2a, 0, none⟩ = some (.int .i64 vx) := by rw [← HWX.out]; go_simp
  have a1 : wX.cell? ⟨g2a, 1, none⟩ = some (.int .i64 lx) := by rw [← HWX.out]; go_simp
  have a2 : wX.cell? ⟨g2a, 2, none⟩ = some (.int .i64 ux) := by rw [← HWX.out]; go_simp
  have a3 : wX.cell? ⟨g2a, 3, none⟩ = some (.int .i64 0) := by rw [← HWX.out]; go_simp
  have b0 : wX.cell? ⟨g2b, 0, none⟩ = some (.int .i64 vy) := by rw [← HWX.out]; go_simp
  have b1 : wX.cell? ⟨g2b, 1, none⟩ = some (.int .i64 ly) := by rw [← HWX.out]; go_simp
  have b2 : wX.cell? ⟨g2b, 2, none⟩ = some (.int .i64 uy) := by rw [← HWX.out]; go_simp
  have b3 : wX.cell? ⟨g2b, 3, none⟩ = some (.int .i64 0) := by rw [← HWX.out]; go_simp
  have hta : g2a < wX.heap.size := by omega
  have htb : g2b < wX.heap.size := by omega
  have htw : w.heap.size ≤ wX.heap.size := hBX.size
  clear HWX hsX hsa hsb hc2 hf2 hB2 hz2a hz2b hB1 hz1a HN HN' HW1
  refine wp_region_qat [] 15 [] (by kernel_rfl) (by kernel_rfl) ?_
  intro hbc
  simp only [List.take_succ_cons, List.take_zero, List.drop_succ_cons, List.drop_zero]
  repeat (first
    | refine wpQ_pass rfl ?_
    | (refine wpQ_step rfl (fun K hK => ?_)
       go_simp
       first
         | (refine hK _ ?_; clear hK K)
         | (apply Exists.intro
            refine ⟨fun z => ?_, ?_⟩
            focus (first | (go_at_call 98; exact cost_any _ _ _ _ _ (by omega) (by omega)))
            refine hK _ ?_
            clear hK K)))
  refine wpQ_nil ⟨?_, ?_⟩
  · exact rfl
  intro  w3 hb3 hF3
  clear hbc
  obtain ⟨hc3, hf3⟩ := bcell hb3
  have hB3 : Below w.heap.size w w3 := below_then (by first | (go_grown; done) | (repeat (first | (with_reducible assumption) | (with_reducible exact Below.refl _ _) | (with_reducible refine below_drewN' ?_ _) | (with_reducible refine Below.drew ?_) | ((with_reducible refine Below.alloc ?_ ?_ _); rotate_left; focus (first | (simp; done) | (simp; omega) | omega)) | ((with_reducible refine Below.setCell ?_ ?_ _); rotate_left; focus (first | (simp; done) | (simp; omega) | omega))))) (by first | (simp; done) | (simp; omega) | omega) hb3
  clear hF3
  try simp only [Act.put, List.setIfInBounds_toArray, List.set_cons_succ, List.set_cons_zero]
  go_wp2_with fail
  all_goals
    go_returns
    exact ⟨ret_int2 (by first | rfl | (unfold pick2; simp; omega)) rfl, by first | exact hB3 | (repeat (first | (with_reducible assumption) | (with_reducible exact Below.refl _ _) | (with_reducible refine below_drewN' ?_ _) | (with_reducible refine Below.drew ?_) | ((with_reducible refine Below.alloc ?_ ?_ _); rotate_left; focus (first | (simp; done) | (simp; omega) | omega)) | ((with_reducible refine Below.setCell ?_ ?_ _); rotate_left; focus (first | (simp; done) | (simp; omega) | omega))))⟩
end Go.Proofs.Ytgokleeofcleiaa
