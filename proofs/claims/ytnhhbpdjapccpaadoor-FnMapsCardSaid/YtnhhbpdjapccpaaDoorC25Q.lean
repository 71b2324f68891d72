/-
  The map of a quad: the walks.
-/
import Derived.Test.YtnhhbpdjapccpaaDoorQuadM
import Derived.Test.YtnhhbpdjapccpaaDoorC25I
namespace Go.Proofs.YtnhhbpdjapccpaaDoor
open Go.RowKit

set_option maxHeartbeats 400000 in
theorem mapOf_any (a b c d e f g h i : Int) (w : World) :
    Calls Tryd.prog 42 #[.agg #[.int .i64 a, .int .i64 b, .int .i64 c, .int .i64 d, .int .i64 e, .int .i64 f, .int .i64 g, .int .i64 h, .int .i64 i]] w fun e' w' => e' = .returned (.agg #[.int .i64 a, .int .i64 b, .int .i64 c, .int .i64 d, .int .i64 e, .int .i64 f, .int .i64 g, .int .i64 h, .int .i64 i]) ∧ Below w.heap.size w w' := by
  go_enter Tryd.func42, Tryd.ntmps42
  go_wp2
  go_returns
  exact ⟨rfl, by go_grown⟩
set_option maxRecDepth 100000 in
set_option maxHeartbeats 4000000 in
theorem mapOfQuad_any (ax ay bx bY cx cy dx dy : Int) (w : World) (ra : spotB ax ay = true) (rb : spotB bx bY = true) (rc : spotB cx cy = true) (rd : spotB dx dy = true) :
    Calls Tryd.prog 23 #[.agg #[.int .i64 ax, .int .i64 ay, .int .i64 bx, .int .i64 bY, .int .i64 cx, .int .i64 cy, .int .i64 dx, .int .i64 dy]] w fun e w' => e = .returned (.agg #[.int .i64 (nth (redL (quadE ax ay bx bY dx dy (ax - bx + cx - dx) (ay - bY + cy - dy) (bx - cx) (bY - cy) (dx - cx) (dy - cy))) 0), .int .i64 (nth (redL (quadE ax ay bx bY dx dy (ax - bx + cx - dx) (ay - bY + cy - dy) (bx - cx) (bY - cy) (dx - cx) (dy - cy))) 1), .int .i64 (nth (redL (quadE ax ay bx bY dx dy (ax - bx + cx - dx) (ay - bY + cy - dy) (bx - cx) (bY - cy) (dx - cx) (dy - cy))) 2), .int .i64 (nth (redL (quadE ax ay bx bY dx dy (ax - bx + cx - dx) (ay - bY + cy - dy) (bx - cx) (bY - cy) (dx - cx) (dy - cy))) 3), .int .i64 (nth (redL (quadE ax ay bx bY dx dy (ax - bx + cx - dx) (ay - bY + cy - dy) (bx - cx) (bY - cy) (dx - cx) (dy - cy))) 4), .int .i64 (nth (redL (quadE ax ay bx bY dx dy (ax - bx + cx - dx) (ay - bY + cy - dy) (bx - cx) (bY - cy) (dx - cx) (dy - cy))) 5), .int .i64 (nth (redL (quadE ax ay bx bY dx dy (ax - bx + cx - dx) (ay - bY + cy - dy) (bx - cx) (bY - cy) (dx - cx) (dy - cy))) 6), .int .i64 (nth (redL (quadE ax ay bx bY dx dy (ax - bx + cx - dx) (ay - bY + cy - dy) (bx - cx) (bY - cy) (dx - cx) (dy - cy))) 7), .int .i64 (nth (redL (quadE ax ay bx bY dx dy (ax - bx + cx - dx) (ay - bY + cy - dy) (bx - cx) (bY - cy) (dx - cx) (dy - cy))) 8)]) ∧ Below w.heap.size w w' := by
  have r1 := spotB_true ra
  have r2 := spotB_true rb
  have r3 := spotB_true rc
  have r4 := spotB_true rd
  obtain ⟨sx, hsx⟩ : ∃ x, ax - bx + cx - dx = x := ⟨_, rfl⟩
  obtain ⟨sy, hsy⟩ : ∃ x, ay - bY + cy - dy = x := ⟨_, rfl⟩
  obtain ⟨ox, hox⟩ : ∃ x, bx - cx = x := ⟨_, rfl⟩
  obtain ⟨oy, hoy⟩ : ∃ x, bY - cy = x := ⟨_, rfl⟩
  obtain ⟨tx, htx⟩ : ∃ x, dx - cx = x := ⟨_, rfl⟩
  obtain ⟨ty, hty⟩ : ∃ x, dy - cy = x := ⟨_, rfl⟩
  obtain ⟨⟨p1, p2⟩, ⟨p3, p4⟩, ⟨p5, p6⟩, ⟨p7, p8⟩, ⟨p9, p10⟩, p11, p12⟩ := quad_pr (sx := sx) (sy := sy) (ox := ox) (oy := oy) (tx := tx) (ty := ty) (by omega) (by omega) (by omega) (by omega) (by omega) (by omega)
  have q1 := big_pr (x := bx - ax) (d := ox * ty - tx * oy) (by omega) (by omega)
  have q2 := big_pr (x := dx - ax) (d := ox * ty - tx * oy) (by omega) (by omega)
  have q3 := big_pr (x := ax) (d := ox * ty - tx * oy) (by omega) (by omega)
  have q4 := big_pr (x := bY - ay) (d := ox * ty - tx * oy) (by omega) (by omega)
  have q5 := big_pr (x := dy - ay) (d := ox * ty - tx * oy) (by omega) (by omega)
  have q6 := big_pr (x := ay) (d := ox * ty - tx * oy) (by omega) (by omega)
  have q7 := big_pr' (x := bx) (d := sx * ty - tx * sy) (by omega) (by omega)
  have q8 := big_pr' (x := dx) (d := ox * sy - sx * oy) (by omega) (by omega)
  have q9 := big_pr' (x := bY) (d := sx * ty - tx * sy) (by omega) (by omega)
  have q10 := big_pr' (x := dy) (d := ox * sy - sx * oy) (by omega) (by omega)
  obtain ⟨q1a, q1b⟩ := q1
  obtain ⟨q2a, q2b⟩ := q2
  obtain ⟨q3a, q3b⟩ := q3
  obtain ⟨q4a, q4b⟩ := q4
  obtain ⟨q5a, q5b⟩ := q5
  obtain ⟨q6a, q6b⟩ := q6
  obtain ⟨q7a, q7b⟩ := q7
  obtain ⟨q8a, q8b⟩ := q8
  obtain ⟨q9a, q9b⟩ := q9
  obtain ⟨q10a, q10b⟩ := q10
  have hq : quadE ax ay bx bY dx dy (ax - bx + cx - dx) (ay - bY + cy - dy) (bx - cx) (bY - cy) (dx - cx) (dy - cy) = quadE ax ay bx bY dx dy sx sy ox oy tx ty := by rw [hsx, hsy, hox, hoy, htx, hty]
  rw [hq]
  clear hq
  obtain ⟨xs, hxs⟩ : ∃ xs, xs = quadE ax ay bx bY dx dy sx sy ox oy tx ty := ⟨_, rfl⟩
  have hbd : ∀ x ∈ xs, x.natAbs ≤ 9223372036854775807 := by
    intro x hx; rw [hxs] at hx; simp [quadE] at hx; rcases hx with rfl | rfl | rfl | rfl | rfl | rfl | rfl | rfl | rfl <;> omega
  have hxl : xs.length = 9 := by rw [hxs]; rfl
  rw [← hxs]
  have HXS := Lib.hid hxs
  have HB := Lib.hid hbd
  have HL := Lib.hid hxl
  clear hxs hbd hxl
  have M1 := Lib.hid (fun w => minus_any ax ay bx bY w (by omega) (by omega) (by omega) (by omega) (by omega) (by omega) (by omega) (by omega))
  have M2 := Lib.hid (fun w => plus_any (ax - bx) (ay - bY) cx cy w (by omega) (by omega) (by omega) (by omega) (by omega) (by omega) (by omega) (by omega))
  have m3 := fun w => minus_any (ax - bx + cx) (ay - bY + cy) dx dy w (by omega) (by omega) (by omega) (by omega) (by omega) (by omega) (by omega) (by omega)
  have m4 := fun w => minus_any bx bY cx cy w (by omega) (by omega) (by omega) (by omega) (by omega) (by omega) (by omega) (by omega)
  have m5 := fun w => minus_any dx dy cx cy w (by omega) (by omega) (by omega) (by omega) (by omega) (by omega) (by omega) (by omega)
  rw [hsx, hsy] at m3
  rw [hox, hoy] at m4
  rw [htx, hty] at m5
  have M3 := Lib.hid m3
  have M4 := Lib.hid m4
  have M5 := Lib.hid m5
  clear m3 m4 m5 hsx hsy hox hoy htx hty
  go_enter Tryd.func23, Tryd.ntmps23
  go_wp2_with fail
  refine wp_region_qat [] 12 [Mkr.blk (fun g => .pointer (some ⟨g, 0, none⟩)) (.cells #[.int .i64 0, .int .i64 0] 31)] (by kernel_rfl) (by kernel_rfl) ?_
  intro hbc
  simp only [List.take_succ_cons, List.take_zero, List.drop_succ_cons, List.drop_zero]
  repeat (first
    | refine wpQ_pass rfl ?_
    | (refine wpQ_step rfl (fun K hK => ?_)
       go_simp
       first
         | (refine hK _ ?_; clear hK K)
         | (apply Exists.intro
            refine ⟨fun z => ?_, ?_⟩
            focus (first | (go_at_call 39; with_reducible exact M1.out _) | (go_at_call 40; with_reducible exact M2.out _) | (go_at_call 39; with_reducible exact M3.out _))
            refine hK _ ?_
            clear hK K)))
  refine wpQ_nil ⟨?_, ?_⟩
  · refine ⟨fun z => ?_, rfl⟩
    · set_option maxRecDepth 100000 in refine makes_blk ?_
      go_simp
  intro u1a g1a hi1a hg1a hl1a n1a w1 hb1 hF1
  clear hbc
  obtain ⟨hc1, hf1⟩ := bcell hb1
  obtain ⟨_, hs1a, ⟨rfl, rfl, hF1a⟩⟩ := hF1
  have hB1 : Below w.heap.size w w1 := below_then (by first | (go_grown; done) | (repeat (first | (with_reducible assumption) | (with_reducible exact Below.refl _ _) | (with_reducible refine below_drewN' ?_ _) | (with_reducible refine Below.drew ?_) | ((with_reducible refine Below.alloc ?_ ?_ _); rotate_left; focus (first | (simp; done) | (simp; omega) | omega)) | ((with_reducible refine Below.setCell ?_ ?_ _); rotate_left; focus (first | (simp; done) | (simp; omega) | omega))))) (by first | (simp; done) | (simp; omega) | omega) hb1
  have hz1a : w.heap.size < w1.heap.size := (by have := hb1.size; first | omega | (simp at this; omega))
  have hz1b : w.heap.size + 1 < w1.heap.size := (by have := hb1.size; first | omega | (simp at this; omega))
  have hcg1a := blk_cell hF1a
  have hfg1a := blk_frozen hF1a
  try simp only [World.size_alloc] at hg1a
  clear n1a
  try simp only [Act.put, List.setIfInBounds_toArray, List.set_cons_succ, List.set_cons_zero]
  go_wp2_with fail
  refine wp_region_qat [] 12 [Mkr.blk (fun g => .pointer (some ⟨g, 0, none⟩)) (.cells #[.int .i64 0, .int .i64 0] 31), Mkr.blk (fun g => .pointer (some ⟨g, 0, none⟩)) (.cells #[.int .i64 0, .int .i64 0] 31)] (by kernel_rfl) (by kernel_rfl) ?_
  intro hbc
  simp only [List.take_succ_cons, List.take_zero, List.drop_succ_cons, List.drop_zero]
  repeat (first
    | refine wpQ_pass rfl ?_
    | (refine wpQ_step rfl (fun K hK => ?_)
       go_simp
       first
         | (refine hK _ ?_; clear hK K)
         | (apply Exists.intro
            refine ⟨fun z => ?_, ?_⟩
            focus (first | (go_at_call 39; with_reducible exact M4.out _) | (go_at_call 39; with_reducible exact M5.out _))
            refine hK _ ?_
            clear hK K)))
  refine wpQ_nil ⟨?_, ?_⟩
  · refine ⟨fun z => ?_, fun z => ?_, rfl⟩
    · set_option maxRecDepth 100000 in refine makes_blk ?_
      go_simp
    · set_option maxRecDepth 100000 in refine makes_blk ?_
      go_simp
  intro u2a g2a hi2a hg2a hl2a n2a u2b g2b hi2b hg2b hl2b n2b w2 hb2 hF2
  clear hbc
  obtain ⟨hc2, hf2⟩ := bcell hb2
  obtain ⟨⟨_, hs2a, ⟨rfl, rfl, hF2a⟩⟩, hs2b, ⟨rfl, rfl, hF2b⟩⟩ := hF2
  have hB2 : Below w.heap.size w w2 := below_then (by first | (go_grown; done) | (repeat (first | (with_reducible assumption) | (with_reducible exact Below.refl _ _) | (with_reducible refine below_drewN' ?_ _) | (with_reducible refine Below.drew ?_) | ((with_reducible refine Below.alloc ?_ ?_ _); rotate_left; focus (first | (simp; done) | (simp; omega) | omega)) | ((with_reducible refine Below.setCell ?_ ?_ _); rotate_left; focus (first | (simp; done) | (simp; omega) | omega))))) (by first | (simp; done) | (simp; omega) | omega) hb2
  have hz2a : w.heap.size < w2.heap.size := (by have := hb2.size; first | omega | (simp at this; omega))
  have hz2b : w.heap.size + 1 < w2.heap.size := (by have := hb2.size; first | omega | (simp at this; omega))
  have hz2c : g1a < w2.heap.size := (by have := hb2.size; first | omega | (simp at this; omega))
  have ne2b2a : g2b ≠ g2a := by intro h; have := n2b (g2a, g2a + 1) (by simp); simp at this; omega
  have hcg2a := blk_cell hF2a
  have hfg2a := blk_frozen hF2a
  try simp only [World.size_alloc] at hg2a
  have hcg2b := blk_cell hF2b
  have hfg2b := blk_frozen hF2b
  try simp only [World.size_alloc] at hg2b
  clear n2a n2b
  try simp only [Act.put, List.setIfInBounds_toArray, List.set_cons_succ, List.set_cons_zero]
  have hk2a : w2.cell? ⟨g1a, 0, none⟩ = some (.int .i64 sx) := (hc2 _ _ (by simp; omega)).trans (by go_simp)
  have hk2b : w2.cell? ⟨g1a, 1, none⟩ = some (.int .i64 sy) := (hc2 _ _ (by simp; omega)).trans (by go_simp)
  have hr2a : w2.cell? ⟨w.heap.size + 1, 0, none⟩ = some (.int .i64 0) := (hc2 _ _ (by simp; omega)).trans (by have := (hc1 (w.heap.size + 1) 0 (by first | (simp; done) | (simp; omega))); go_simp)
  have hr2b : w2.cell? ⟨w.heap.size + 1, 1, none⟩ = some (.int .i64 0) := (hc2 _ _ (by simp; omega)).trans (by have := (hc1 (w.heap.size + 1) 1 (by first | (simp; done) | (simp; omega))); go_simp)
  have hr2c : w2.cell? ⟨w.heap.size + 1, 2, none⟩ = some (.int .i64 0) := (hc2 _ _ (by simp; omega)).trans (by have := (hc1 (w.heap.size + 1) 2 (by first | (simp; done) | (simp; omega))); go_simp)
  have hr2d : w2.cell? ⟨w.heap.size + 1, 3, none⟩ = some (.int .i64 0) := (hc2 _ _ (by simp; omega)).trans (by have := (hc1 (w.heap.size + 1) 3 (by first | (simp; done) | (simp; omega))); go_simp)
  have hr2e : w2.cell? ⟨w.heap.size + 1, 4, none⟩ = some (.int .i64 0) := (hc2 _ _ (by simp; omega)).trans (by have := (hc1 (w.heap.size + 1) 4 (by first | (simp; done) | (simp; omega))); go_simp)
  have hr2f : w2.cell? ⟨w.heap.size + 1, 5, none⟩ = some (.int .i64 0) := (hc2 _ _ (by simp; omega)).trans (by have := (hc1 (w.heap.size + 1) 5 (by first | (simp; done) | (simp; omega))); go_simp)
  have hr2g : w2.cell? ⟨w.heap.size + 1, 6, none⟩ = some (.int .i64 0) := (hc2 _ _ (by simp; omega)).trans (by have := (hc1 (w.heap.size + 1) 6 (by first | (simp; done) | (simp; omega))); go_simp)
  have hr2h : w2.cell? ⟨w.heap.size + 1, 7, none⟩ = some (.int .i64 0) := (hc2 _ _ (by simp; omega)).trans (by have := (hc1 (w.heap.size + 1) 7 (by first | (simp; done) | (simp; omega))); go_simp)
  have hr2i : w2.cell? ⟨w.heap.size + 1, 8, none⟩ = some (.int .i64 0) := (hc2 _ _ (by simp; omega)).trans (by have := (hc1 (w.heap.size + 1) 8 (by first | (simp; done) | (simp; omega))); go_simp)
  have hne1 : g1a ≠ g2a := by simp at hg2a; omega
  have hne2 : g1a ≠ g2b := by simp at hg2b; omega
  have hne3 : w.heap.size + 1 ≠ g1a := by omega
  have hne4 : w.heap.size + 1 ≠ g2a := by simp at hg2a; omega
  have hne5 : w.heap.size + 1 ≠ g2b := by simp at hg2b; omega
  have hne6 : w.heap.size ≠ g2a := by simp at hg2a; omega
  have hne7 : w.heap.size ≠ g2b := by simp at hg2b; omega
  have hne8 : w.heap.size ≠ g1a := by omega
  have hsz2 : g1a < w2.heap.size ∧ g2a < w2.heap.size ∧ g2b < w2.heap.size := by omega
  have hb2a : w2.cell? ⟨w.heap.size, 0, none⟩ = some (.int .i64 ax) := (hc2 _ _ (by simp; omega)).trans (by have := (hc1 (w.heap.size) 0 (by first | (simp; done) | (simp; omega))); go_simp)
  have hb2b : w2.cell? ⟨w.heap.size, 1, none⟩ = some (.int .i64 ay) := (hc2 _ _ (by simp; omega)).trans (by have := (hc1 (w.heap.size) 1 (by first | (simp; done) | (simp; omega))); go_simp)
  have hb2c : w2.cell? ⟨w.heap.size, 2, none⟩ = some (.int .i64 bx) := (hc2 _ _ (by simp; omega)).trans (by have := (hc1 (w.heap.size) 2 (by first | (simp; done) | (simp; omega))); go_simp)
  have hb2d : w2.cell? ⟨w.heap.size, 3, none⟩ = some (.int .i64 bY) := (hc2 _ _ (by simp; omega)).trans (by have := (hc1 (w.heap.size) 3 (by first | (simp; done) | (simp; omega))); go_simp)
  have hb2e : w2.cell? ⟨w.heap.size, 4, none⟩ = some (.int .i64 cx) := (hc2 _ _ (by simp; omega)).trans (by have := (hc1 (w.heap.size) 4 (by first | (simp; done) | (simp; omega))); go_simp)
  have hb2f : w2.cell? ⟨w.heap.size, 5, none⟩ = some (.int .i64 cy) := (hc2 _ _ (by simp; omega)).trans (by have := (hc1 (w.heap.size) 5 (by first | (simp; done) | (simp; omega))); go_simp)
  have hb2g : w2.cell? ⟨w.heap.size, 6, none⟩ = some (.int .i64 dx) := (hc2 _ _ (by simp; omega)).trans (by have := (hc1 (w.heap.size) 6 (by first | (simp; done) | (simp; omega))); go_simp)
  have hb2h : w2.cell? ⟨w.heap.size, 7, none⟩ = some (.int .i64 dy) := (hc2 _ _ (by simp; omega)).trans (by have := (hc1 (w.heap.size) 7 (by first | (simp; done) | (simp; omega))); go_simp)
  have hfz1 : ∀ k, w1.frozen? ⟨w.heap.size + 1, k, none⟩ = false := fun k => (hf1 (w.heap.size + 1) k (by simp)).trans (by go_simp)
  have hfz2 : ∀ k, w2.frozen? ⟨w.heap.size + 1, k, none⟩ = false := fun k => (hf2 (w.heap.size + 1) k (by simp; omega)).trans (by go_simp)
  have hge1 : w.heap.size < g2a := by simp at hg2a; omega
  have hge2 : w.heap.size < g2b := by simp at hg2b; omega
  go_upto_region 3 with fail
  generalize hWX : (((w2.setCell ⟨g2a, 0, none⟩ (.int .i64 ox)).setCell ⟨g2a, 1, none⟩ (.int .i64 oy)).setCell ⟨g2b, 0, none⟩ (.int .i64 tx)).setCell ⟨g2b, 1, none⟩ (.int .i64 ty) = wX
  have HWX := Lib.hid hWX
  clear hWX
  have f1 : wX.cell? ⟨g2a, 0, none⟩ = some (.int .i64 ox) := by rw [← HWX.out]; go_simp
  have f2 : wX.cell? ⟨g2a, 1, none⟩ = some (.int .i64 oy) := by rw [← HWX.out]; go_simp
  have f3 : wX.cell? ⟨g2b, 0, none⟩ = some (.int .i64 tx) := by rw [← HWX.out]; go_simp
  have f4 : wX.cell? ⟨g2b, 1, none⟩ = some (.int .i64 ty) := by rw [← HWX.out]; go_simp
  have f5 : wX.cell? ⟨g1a, 0, none⟩ = some (.int .i64 sx) := by rw [← HWX.out]; go_simp
  have f6 : wX.cell? ⟨g1a, 1, none⟩ = some (.int .i64 sy) := by rw [← HWX.out]; go_simp
  have fba : wX.cell? ⟨w.heap.size, 0, none⟩ = some (.int .i64 ax) := by rw [← HWX.out]; go_simp
  have fbb : wX.cell? ⟨w.heap.size, 1, none⟩ = some (.int .i64 ay) := by rw [← HWX.out]; go_simp
  have fbc : wX.cell? ⟨w.heap.size, 2, none⟩ = some (.int .i64 bx) := by rw [← HWX.out]; go_simp
  have fbd : wX.cell? ⟨w.heap.size, 3, none⟩ = some (.int .i64 bY) := by rw [← HWX.out]; go_simp
  have fbe : wX.cell? ⟨w.heap.size, 4, none⟩ = some (.int .i64 cx) := by rw [← HWX.out]; go_simp
  have fbf : wX.cell? ⟨w.heap.size, 5, none⟩ = some (.int .i64 cy) := by rw [← HWX.out]; go_simp
  have fbg : wX.cell? ⟨w.heap.size, 6, none⟩ = some (.int .i64 dx) := by rw [← HWX.out]; go_simp
  have fbh : wX.cell? ⟨w.heap.size, 7, none⟩ = some (.int .i64 dy) := by rw [← HWX.out]; go_simp
  have fra : wX.cell? ⟨w.heap.size + 1, 0, none⟩ = some (.int .i64 0) := by rw [← HWX.out]; go_simp
  have frb : wX.cell? ⟨w.heap.size + 1, 1, none⟩ = some (.int .i64 0) := by rw [← HWX.out]; go_simp
  have frc : wX.cell? ⟨w.heap.size + 1, 2, none⟩ = some (.int .i64 0) := by rw [← HWX.out]; go_simp
  have frd : wX.cell? ⟨w.heap.size + 1, 3, none⟩ = some (.int .i64 0) := by rw [← HWX.out]; go_simp
  have fre : wX.cell? ⟨w.heap.size + 1, 4, none⟩ = some (.int .i64 0) := by rw [← HWX.out]; go_simp
  have frf : wX.cell? ⟨w.heap.size + 1, 5, none⟩ = some (.int .i64 0) := by rw [← HWX.out]; go_simp
  have frg : wX.cell? ⟨w.heap.size + 1, 6, none⟩ = some (.int .i64 0) := by rw [← HWX.out]; go_simp
  have frh : wX.cell? ⟨w.heap.size + 1, 7, none⟩ = some (.int .i64 0) := by rw [← HWX.out]; go_simp
  have fri : wX.cell? ⟨w.heap.size + 1, 8, none⟩ = some (.int .i64 0) := by rw [← HWX.out]; go_simp
  have hfX : ∀ k, wX.frozen? ⟨w.heap.size + 1, k, none⟩ = false := fun k => by rw [← HWX.out]; go_simp
  have hsX : wX.heap.size = w2.heap.size := by rw [← HWX.out]; simp
  have hBX : Below w.heap.size w wX := by rw [← HWX.out]; exact (((hB2.setCell (p := ⟨g2a, 0, none⟩) (Nat.le_of_lt hge1) _).setCell (p := ⟨g2a, 1, none⟩) (Nat.le_of_lt hge1) _).setCell (p := ⟨g2b, 0, none⟩) (Nat.le_of_lt hge2) _).setCell (p := ⟨g2b, 1, none⟩) (Nat.le_of_lt hge2) _
  have hzX : w.heap.size + 1 < wX.heap.size := by omega
  clear HWX hsX hfz1 hfz2
  clear hb1 hc1 hf1 hF1a hl1a hs1a hB1 hz1a hz1b hcg1a hfg1a hg1a hb2 hc2 hf2 hF2a hl2a hs2a hB2 hz2a hz2b hz2c hcg2a hfg2a hg2a hF2b hl2b hs2b hcg2b hfg2b hg2b
  clear hk2a hk2b hr2a hr2b hr2c hr2d hr2e hr2f hr2g hr2h hr2i hb2a hb2b hb2c hb2d hb2e hb2f hb2g hb2h hsz2 hne1 hne2 hne3 hne4 hne5 hne6 hne7 hne8 hge1 hge2 M1 M2 M3 M4 M5
  go_wp2_with first | (go_at_call 41; go_call (reduce_any _ 9 9 44 xs _ (RowAt.made (by rw [HXS.out]; rfl)) HL.out (by omega) (by omega) HB.out) as e3 w3 ⟨rfl, hr3, hg3⟩; have hB3 : Below w.heap.size w w3 := below_grown (hBX.alloc (by omega) _) hg3 (by simp; omega) (by omega); have hz3 : w.heap.size + 1 < w3.heap.size := (by have := hg3.size; simp at this; omega); have hf3 : ∀ k, w3.frozen? ⟨w.heap.size + 1, k, none⟩ = false := (fun k => (World.frozen?_of_block (hg3.block (w.heap.size + 1) (by simp; omega) (by simp; omega))).trans (by go_simp)); have hx3a := hr3.cell (k := 0) (by rw [redL_len, HL.out]; omega); have hr3a : w3.cell? ⟨w.heap.size + 1, 0, none⟩ = some (.int .i64 0) := hg3.cell (a := ⟨w.heap.size + 1, 0, none⟩) (by go_simp) (by simp; omega); have hx3b := hr3.cell (k := 1) (by rw [redL_len, HL.out]; omega); have hr3b : w3.cell? ⟨w.heap.size + 1, 1, none⟩ = some (.int .i64 0) := hg3.cell (a := ⟨w.heap.size + 1, 1, none⟩) (by go_simp) (by simp; omega); have hx3c := hr3.cell (k := 2) (by rw [redL_len, HL.out]; omega); have hr3c : w3.cell? ⟨w.heap.size + 1, 2, none⟩ = some (.int .i64 0) := hg3.cell (a := ⟨w.heap.size + 1, 2, none⟩) (by go_simp) (by simp; omega); have hx3d := hr3.cell (k := 3) (by rw [redL_len, HL.out]; omega); have hr3d : w3.cell? ⟨w.heap.size + 1, 3, none⟩ = some (.int .i64 0) := hg3.cell (a := ⟨w.heap.size + 1, 3, none⟩) (by go_simp) (by simp; omega); have hx3e := hr3.cell (k := 4) (by rw [redL_len, HL.out]; omega); have hr3e : w3.cell? ⟨w.heap.size + 1, 4, none⟩ = some (.int .i64 0) := hg3.cell (a := ⟨w.heap.size + 1, 4, none⟩) (by go_simp) (by simp; omega); have hx3f := hr3.cell (k := 5) (by rw [redL_len, HL.out]; omega); have hr3f : w3.cell? ⟨w.heap.size + 1, 5, none⟩ = some (.int .i64 0) := hg3.cell (a := ⟨w.heap.size + 1, 5, none⟩) (by go_simp) (by simp; omega); have hx3g := hr3.cell (k := 6) (by rw [redL_len, HL.out]; omega); have hr3g : w3.cell? ⟨w.heap.size + 1, 6, none⟩ = some (.int .i64 0) := hg3.cell (a := ⟨w.heap.size + 1, 6, none⟩) (by go_simp) (by simp; omega); have hx3h := hr3.cell (k := 7) (by rw [redL_len, HL.out]; omega); have hr3h : w3.cell? ⟨w.heap.size + 1, 7, none⟩ = some (.int .i64 0) := hg3.cell (a := ⟨w.heap.size + 1, 7, none⟩) (by go_simp) (by simp; omega); have hx3i := hr3.cell (k := 8) (by rw [redL_len, HL.out]; omega); have hr3i : w3.cell? ⟨w.heap.size + 1, 8, none⟩ = some (.int .i64 0) := hg3.cell (a := ⟨w.heap.size + 1, 8, none⟩) (by go_simp) (by simp; omega)) | ((go_at_call 42; go_call (mapOf_any _ _ _ _ _ _ _ _ _ _) as e4 w4 ⟨rfl, hb4⟩; obtain ⟨hc4, hf4⟩ := bcell hb4; have hB4 : Below w.heap.size w w4 := (below_then (by first | (go_grown; done) | (repeat (first | (with_reducible assumption) | (with_reducible exact Below.refl _ _) | (with_reducible refine below_drewN' ?_ _) | (with_reducible refine Below.drew ?_) | ((with_reducible refine Below.alloc ?_ ?_ _); rotate_left; focus (first | (simp; done) | (simp; omega) | omega)) | ((with_reducible refine Below.setCell ?_ ?_ _); rotate_left; focus (first | (simp; done) | (simp; omega) | omega))))) (by first | omega | (simp; done) | (simp; omega)) hb4); have hz4a : w.heap.size + 1 < w4.heap.size := (by have := hb4.size; first | omega | (simp at this; omega))); have hf4k : ∀ k, w4.frozen? ⟨w.heap.size + 1, k, none⟩ = false := (fun k => (hf4 _ k (by omega)).trans (hf3 k)); have hr4a : w4.cell? ⟨w.heap.size + 1, 0, none⟩ = some (.int .i64 0) := (hc4 _ _ (by omega)).trans hr3a; have hr4b : w4.cell? ⟨w.heap.size + 1, 1, none⟩ = some (.int .i64 0) := (hc4 _ _ (by omega)).trans hr3b; have hr4c : w4.cell? ⟨w.heap.size + 1, 2, none⟩ = some (.int .i64 0) := (hc4 _ _ (by omega)).trans hr3c; have hr4d : w4.cell? ⟨w.heap.size + 1, 3, none⟩ = some (.int .i64 0) := (hc4 _ _ (by omega)).trans hr3d; have hr4e : w4.cell? ⟨w.heap.size + 1, 4, none⟩ = some (.int .i64 0) := (hc4 _ _ (by omega)).trans hr3e; have hr4f : w4.cell? ⟨w.heap.size + 1, 5, none⟩ = some (.int .i64 0) := (hc4 _ _ (by omega)).trans hr3f; have hr4g : w4.cell? ⟨w.heap.size + 1, 6, none⟩ = some (.int .i64 0) := (hc4 _ _ (by omega)).trans hr3g; have hr4h : w4.cell? ⟨w.heap.size + 1, 7, none⟩ = some (.int .i64 0) := (hc4 _ _ (by omega)).trans hr3h; have hr4i : w4.cell? ⟨w.heap.size + 1, 8, none⟩ = some (.int .i64 0) := (hc4 _ _ (by omega)).trans hr3i)
  (try simp only [Exit.inBlock, Exit.then]); refine bodyPost_ret (by simp [results, Tryd.results23, go_sem, hr4a, hr4b, hr4c, hr4d, hr4e, hr4f, hr4g, hr4h, hr4i]; try rfl) rfl ?_
  exact ⟨rfl, (((((((((hB4.setCell (Nat.le_succ _) _).setCell (Nat.le_succ _) _).setCell (Nat.le_succ _) _).setCell (Nat.le_succ _) _).setCell (Nat.le_succ _) _).setCell (Nat.le_succ _) _).setCell (Nat.le_succ _) _).setCell (Nat.le_succ _) _).setCell (Nat.le_succ _) _)⟩
end Go.Proofs.YtnhhbpdjapccpaaDoor
