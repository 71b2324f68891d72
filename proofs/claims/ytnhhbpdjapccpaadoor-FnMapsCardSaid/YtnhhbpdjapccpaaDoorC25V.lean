/-
  The map of a quad, as the reference reckons it: the walk.
-/
import Derived.Test.YtnhhbpdjapccpaaDoorC25Q
namespace Go.Proofs.YtnhhbpdjapccpaaDoor
open Go.RowKit

theorem redL_neg {xs : List Int} {g : Int} (hg : g = (gcdL xs : Int)) (hg0 : 0 < gcdL xs) (hl : nth xs (xs.length - 1) < 0) {k : Nat} (hk : k < xs.length) : nth (redL xs) k = -(nth xs k).tdiv g := by
  rw [redL_nth hg0 hk]
  unfold sgL
  rw [if_pos hl, hg, Int.tdiv_neg]
set_option maxRecDepth 100000 in
set_option maxHeartbeats 4000000 in
theorem l25Quad_any (ax ay bx bY cx cy dx dy : Int) (w : World) (ra : spotB ax ay = true) (rb : spotB bx bY = true) (rc : spotB cx cy = true) (rd : spotB dx dy = true) (hdet : (bx - cx) * (dy - cy) - (dx - cx) * (bY - cy) < 0) :
    Calls Tryd.prog 25 #[.agg #[.int .i64 ax, .int .i64 ay, .int .i64 bx, .int .i64 bY, .int .i64 cx, .int .i64 cy, .int .i64 dx, .int .i64 dy]] w fun e w' => e = .returned (.agg #[.int .i64 (nth (redL (quadE ax ay bx bY dx dy (ax - bx + cx - dx) (ay - bY + cy - dy) (bx - cx) (bY - cy) (dx - cx) (dy - cy))) 0), .int .i64 (nth (redL (quadE ax ay bx bY dx dy (ax - bx + cx - dx) (ay - bY + cy - dy) (bx - cx) (bY - cy) (dx - cx) (dy - cy))) 1), .int .i64 (nth (redL (quadE ax ay bx bY dx dy (ax - bx + cx - dx) (ay - bY + cy - dy) (bx - cx) (bY - cy) (dx - cx) (dy - cy))) 2), .int .i64 (nth (redL (quadE ax ay bx bY dx dy (ax - bx + cx - dx) (ay - bY + cy - dy) (bx - cx) (bY - cy) (dx - cx) (dy - cy))) 3), .int .i64 (nth (redL (quadE ax ay bx bY dx dy (ax - bx + cx - dx) (ay - bY + cy - dy) (bx - cx) (bY - cy) (dx - cx) (dy - cy))) 4), .int .i64 (nth (redL (quadE ax ay bx bY dx dy (ax - bx + cx - dx) (ay - bY + cy - dy) (bx - cx) (bY - cy) (dx - cx) (dy - cy))) 5), .int .i64 (nth (redL (quadE ax ay bx bY dx dy (ax - bx + cx - dx) (ay - bY + cy - dy) (bx - cx) (bY - cy) (dx - cx) (dy - cy))) 6), .int .i64 (nth (redL (quadE ax ay bx bY dx dy (ax - bx + cx - dx) (ay - bY + cy - dy) (bx - cx) (bY - cy) (dx - cx) (dy - cy))) 7), .int .i64 (nth (redL (quadE ax ay bx bY dx dy (ax - bx + cx - dx) (ay - bY + cy - dy) (bx - cx) (bY - cy) (dx - cx) (dy - cy))) 8)]) ∧ Below w.heap.size w w' := by
  have r1 := spotB_true ra
  have r2 := spotB_true rb
  have r3 := spotB_true rc
  have r4 := spotB_true rd
  obtain ⟨sx, hsx⟩ : ∃ x, ax - bx + cx - dx = x := ⟨_, rfl⟩
  obtain ⟨sy, hsy⟩ : ∃ x, ay - bY + cy - dy = x := ⟨_, rfl⟩
  obtain ⟨ox, hox⟩ : ∃ x, bx - cx = x := ⟨_, rfl⟩
  obtain ⟨oy, hoy⟩ : ∃ x, bY - cy = x := ⟨_, rfl⟩
  obtain ⟨tx, htx⟩ : ∃ x, dx - cx = x := ⟨_, rfl⟩
  obtain ⟨ty, hty⟩ : ∃ x, dy - cy = x := ⟨_, rfl⟩
  obtain ⟨⟨p1, p2⟩, ⟨p3, p4⟩, ⟨p5, p6⟩, ⟨p7, p8⟩, ⟨p9, p10⟩, p11, p12⟩ := quad_pr (sx := sx) (sy := sy) (ox := ox) (oy := oy) (tx := tx) (ty := ty) (by omega) (by omega) (by omega) (by omega) (by omega) (by omega)
  have q1 := big_pr (x := bx - ax) (d := ox * ty - tx * oy) (by omega) (by omega)
  have q2 := big_pr (x := dx - ax) (d := ox * ty - tx * oy) (by omega) (by omega)
  have q3 := big_pr (x := ax) (d := ox * ty - tx * oy) (by omega) (by omega)
  have q4 := big_pr (x := bY - ay) (d := ox * ty - tx * oy) (by omega) (by omega)
  have q5 := big_pr (x := dy - ay) (d := ox * ty - tx * oy) (by omega) (by omega)
  have q6 := big_pr (x := ay) (d := ox * ty - tx * oy) (by omega) (by omega)
  have q7 := big_pr' (x := bx) (d := sx * ty - tx * sy) (by omega) (by omega)
  have q8 := big_pr' (x := dx) (d := ox * sy - sx * oy) (by omega) (by omega)
  have q9 := big_pr' (x := bY) (d := sx * ty - tx * sy) (by omega) (by omega)
  have q10 := big_pr' (x := dy) (d := ox * sy - sx * oy) (by omega) (by omega)
  obtain ⟨q1a, q1b⟩ := q1
  obtain ⟨q2a, q2b⟩ := q2
  obtain ⟨q3a, q3b⟩ := q3
  obtain ⟨q4a, q4b⟩ := q4
  obtain ⟨q5a, q5b⟩ := q5
  obtain ⟨q6a, q6b⟩ := q6
  obtain ⟨q7a, q7b⟩ := q7
  obtain ⟨q8a, q8b⟩ := q8
  obtain ⟨q9a, q9b⟩ := q9
  obtain ⟨q10a, q10b⟩ := q10
  have hq : quadE ax ay bx bY dx dy (ax - bx + cx - dx) (ay - bY + cy - dy) (bx - cx) (bY - cy) (dx - cx) (dy - cy) = quadE ax ay bx bY dx dy sx sy ox oy tx ty := by rw [hsx, hsy, hox, hoy, htx, hty]
  rw [hq]
  clear hq
  obtain ⟨xs, hxs⟩ : ∃ xs, xs = quadE ax ay bx bY dx dy sx sy ox oy tx ty := ⟨_, rfl⟩
  have hbd : ∀ x ∈ xs, x.natAbs ≤ 9223372036854775807 := by
    intro x hx; rw [hxs] at hx; simp [quadE] at hx; rcases hx with rfl | rfl | rfl | rfl | rfl | rfl | rfl | rfl | rfl <;> omega
  have hxl : xs.length = 9 := by rw [hxs]; rfl
  rw [← hxs]
  have HXS := Lib.hid hxs
  have HB := Lib.hid hbd
  have HL := Lib.hid hxl
  clear hxs hbd hxl
  rw [hox, htx, hoy, hty] at hdet
  have hlast : nth xs (xs.length - 1) < 0 := by rw [HL.out, HXS.out]; exact hdet
  have hg0 : 0 < gcdL xs := gcdL_pos (nth_mem (k := xs.length - 1) (by rw [HL.out]; omega)) (by omega)
  have hgb : gcdL xs ≤ 9223372036854775807 := gcdL_le xs HB.out
  obtain ⟨g, hg⟩ : ∃ g : Int, g = (gcdL xs : Int) := ⟨_, rfl⟩
  have hg1 : 0 < g := by omega
  have hg2 : g ≤ 9223372036854775807 := by omega
  have hres : ∀ k, k < 9 → nth (redL xs) k = -(nth xs k).tdiv g := fun k hk => redL_neg hg hg0 hlast (by rw [HL.out]; exact hk)
  have HG := Lib.hid hg
  have HRES := Lib.hid hres
  have hgc : ∀ A w B, RI w B A 9 xs → Calls Tryd.prog 34 #[.slice A 9 9] w fun e w' => e = .returned (.int .i64 g) ∧ w = w' := fun A w B hr => by
    rw [hg]; exact l25Gcd_any A 9 9 xs w B hr (by omega) HB.out
  have HGC := Lib.hid hgc
  clear hlast hg0 hgb hg hres hgc
  have HBX := Lib.hid (fun k (hk : k < 9) => HB.out _ (nth_mem (by rw [HL.out]; exact hk)))
  go_enter Tryd.func25, Tryd.ntmps25
  go_wp2_with fail
  go_quiet (fail)
  go_wp2_with fail
  go_quiet (fail)
  go_wp2_with fail
  go_quiet (fail)
  go_wp2_with fail
  go_at_call 34
  refine (HGC.out _ _ _ (RI.made0 (by rw [HXS.out]; rfl) HL.out (by simp))).mono ?_
  rintro e1 w1 ⟨rfl, rfl⟩
  go_wp2_with fail
  have td0 := tdiv_rg (b := g) 4500000000000 (by omega) (by omega) (a := (bx - ax) * (ox * ty - tx * oy) + (sx * ty - tx * sy) * bx)
  have td1 := tdiv_rg (b := g) 4500000000000 (by omega) (by omega) (a := (dx - ax) * (ox * ty - tx * oy) + (ox * sy - sx * oy) * dx)
  have td2 := tdiv_rg (b := g) 4500000000000 (by omega) (by omega) (a := ax * (ox * ty - tx * oy))
  have td3 := tdiv_rg (b := g) 4500000000000 (by omega) (by omega) (a := (bY - ay) * (ox * ty - tx * oy) + (sx * ty - tx * sy) * bY)
  have td4 := tdiv_rg (b := g) 4500000000000 (by omega) (by omega) (a := (dy - ay) * (ox * ty - tx * oy) + (ox * sy - sx * oy) * dy)
  have td5 := tdiv_rg (b := g) 4500000000000 (by omega) (by omega) (a := ay * (ox * ty - tx * oy))
  have td6 := tdiv_rg (b := g) 4500000000000 (by omega) (by omega) (a := sx * ty - tx * sy)
  have td7 := tdiv_rg (b := g) 4500000000000 (by omega) (by omega) (a := ox * sy - sx * oy)
  have td8 := tdiv_rg (b := g) 4500000000000 (by omega) (by omega) (a := ox * ty - tx * oy)
  have tw0 : IntKind.i64.wrap (-((bx - ax) * (ox * ty - tx * oy) + (sx * ty - tx * sy) * bx).tdiv g) = -((bx - ax) * (ox * ty - tx * oy) + (sx * ty - tx * sy) * bx).tdiv g := IntWalk.i64_in _ (by omega)
  have tw1 : IntKind.i64.wrap (-((dx - ax) * (ox * ty - tx * oy) + (ox * sy - sx * oy) * dx).tdiv g) = -((dx - ax) * (ox * ty - tx * oy) + (ox * sy - sx * oy) * dx).tdiv g := IntWalk.i64_in _ (by omega)
  have tw2 : IntKind.i64.wrap (-(ax * (ox * ty - tx * oy)).tdiv g) = -(ax * (ox * ty - tx * oy)).tdiv g := IntWalk.i64_in _ (by omega)
  have tw3 : IntKind.i64.wrap (-((bY - ay) * (ox * ty - tx * oy) + (sx * ty - tx * sy) * bY).tdiv g) = -((bY - ay) * (ox * ty - tx * oy) + (sx * ty - tx * sy) * bY).tdiv g := IntWalk.i64_in _ (by omega)
  have tw4 : IntKind.i64.wrap (-((dy - ay) * (ox * ty - tx * oy) + (ox * sy - sx * oy) * dy).tdiv g) = -((dy - ay) * (ox * ty - tx * oy) + (ox * sy - sx * oy) * dy).tdiv g := IntWalk.i64_in _ (by omega)
  have tw5 : IntKind.i64.wrap (-(ay * (ox * ty - tx * oy)).tdiv g) = -(ay * (ox * ty - tx * oy)).tdiv g := IntWalk.i64_in _ (by omega)
  have tw6 : IntKind.i64.wrap (-(sx * ty - tx * sy).tdiv g) = -(sx * ty - tx * sy).tdiv g := IntWalk.i64_in _ (by omega)
  have tw7 : IntKind.i64.wrap (-(ox * sy - sx * oy).tdiv g) = -(ox * sy - sx * oy).tdiv g := IntWalk.i64_in _ (by omega)
  have tw8 : IntKind.i64.wrap (-(ox * ty - tx * oy).tdiv g) = -(ox * ty - tx * oy).tdiv g := IntWalk.i64_in _ (by omega)
  have hgz : ¬ g = 0 := by omega
  refine wp_region_qat [] 45 [] (by kernel_rfl) (by kernel_rfl) ?_
  intro hbc
  simp only [List.take_succ_cons, List.take_zero, List.drop_succ_cons, List.drop_zero]
  repeat (first
    | refine wpQ_pass rfl ?_
    | (refine wpQ_step rfl (fun K hK => ?_)
       go_simp
       first
         | (refine hK _ ?_; clear hK K)))
  refine wpQ_nil ⟨?_, ?_⟩
  · exact rfl
  intro  w5 hb5 hF5
  clear hbc
  obtain ⟨hc5, hf5⟩ := bcell hb5
  have hB5 : Below w.heap.size w w5 := below_then (by first | (go_grown; done) | (repeat (first | (with_reducible assumption) | (with_reducible exact Below.refl _ _) | (with_reducible refine below_drewN' ?_ _) | (with_reducible refine Below.drew ?_) | ((with_reducible refine Below.alloc ?_ ?_ _); rotate_left; focus (first | (simp; done) | (simp; omega) | omega)) | ((with_reducible refine Below.setCell ?_ ?_ _); rotate_left; focus (first | (simp; done) | (simp; omega) | omega))))) (by first | (simp; done) | (simp; omega) | omega) hb5
  have hz5a : w.heap.size + 1 < w5.heap.size := (by have := hb5.size; first | omega | (simp at this; omega))
  clear hF5
  try simp only [Act.put, List.setIfInBounds_toArray, List.set_cons_succ, List.set_cons_zero]
  have hr5a : w5.cell? ⟨w.heap.size + 1, 0, none⟩ = some (.int .i64 0) := (hc5 _ _ (by first | (simp; done) | (simp; omega))).trans (by go_simp)
  have hr5b : w5.cell? ⟨w.heap.size + 1, 1, none⟩ = some (.int .i64 0) := (hc5 _ _ (by first | (simp; done) | (simp; omega))).trans (by go_simp)
  have hr5c : w5.cell? ⟨w.heap.size + 1, 2, none⟩ = some (.int .i64 0) := (hc5 _ _ (by first | (simp; done) | (simp; omega))).trans (by go_simp)
  have hr5d : w5.cell? ⟨w.heap.size + 1, 3, none⟩ = some (.int .i64 0) := (hc5 _ _ (by first | (simp; done) | (simp; omega))).trans (by go_simp)
  have hr5e : w5.cell? ⟨w.heap.size + 1, 4, none⟩ = some (.int .i64 0) := (hc5 _ _ (by first | (simp; done) | (simp; omega))).trans (by go_simp)
  have hr5f : w5.cell? ⟨w.heap.size + 1, 5, none⟩ = some (.int .i64 0) := (hc5 _ _ (by first | (simp; done) | (simp; omega))).trans (by go_simp)
  have hr5g : w5.cell? ⟨w.heap.size + 1, 6, none⟩ = some (.int .i64 0) := (hc5 _ _ (by first | (simp; done) | (simp; omega))).trans (by go_simp)
  have hr5h : w5.cell? ⟨w.heap.size + 1, 7, none⟩ = some (.int .i64 0) := (hc5 _ _ (by first | (simp; done) | (simp; omega))).trans (by go_simp)
  have hr5i : w5.cell? ⟨w.heap.size + 1, 8, none⟩ = some (.int .i64 0) := (hc5 _ _ (by first | (simp; done) | (simp; omega))).trans (by go_simp)
  go_wp2_with fail
  (try simp only [Exit.inBlock, Exit.then]); refine bodyPost_ret (by simp [results, Tryd.results25, go_sem, hr5a, hr5b, hr5c, hr5d, hr5e, hr5f, hr5g, hr5h, hr5i]; try rfl) rfl ?_
  refine ⟨?_, (((((((((hB5.setCell (Nat.le_succ _) _).setCell (Nat.le_succ _) _).setCell (Nat.le_succ _) _).setCell (Nat.le_succ _) _).setCell (Nat.le_succ _) _).setCell (Nat.le_succ _) _).setCell (Nat.le_succ _) _).setCell (Nat.le_succ _) _).setCell (Nat.le_succ _) _)⟩
  rw [HRES.out 0 (by omega), HRES.out 1 (by omega), HRES.out 2 (by omega), HRES.out 3 (by omega), HRES.out 4 (by omega), HRES.out 5 (by omega), HRES.out 6 (by omega), HRES.out 7 (by omega), HRES.out 8 (by omega), HXS.out]
  rfl
end Go.Proofs.YtnhhbpdjapccpaaDoor
