/-
  Contracts of chapter 24: the corners of a symbol, the other side. Printed by gen/c24c.py.
-/
import Derived.Test.YtnhhbpdjapccpaaC24D
namespace Go.Proofs.Ytnhhbpdjapccpaa
open Go.RowKit

set_option maxHeartbeats 600000 in
theorem l24Corners_any (ax ay bx bY cx cy n : Int) (w : World) (ra : spotB ax ay = true) (rb : spotB bx bY = true) (rc : spotB cx cy = true) (hn1 : 17 ≤ n) (hn2 : n ≤ 41)
    (Ax Ay Bx By Dx Dy : Int) (hA : Ax = cnA ax (bx - ax) (cx - ax) n) (hAy : Ay = cnA ay (bY - ay) (cy - ay) n) (hB : Bx = cnB Ax (bx - ax) n) (hBy : By = cnB Ay (bY - ay) n) (hD : Dx = cnB Ax (cx - ax) n) (hDy : Dy = cnB Ay (cy - ay) n) :
    Calls Try.prog 69 #[.agg #[.int .i64 ax, .int .i64 ay], .agg #[.int .i64 bx, .int .i64 bY], .agg #[.int .i64 cx, .int .i64 cy], .int .i64 n] w fun e w' => e = .returned (.agg #[.int .i64 Ax, .int .i64 Ay, .int .i64 Bx, .int .i64 By, .int .i64 (Bx + Dx - Ax), .int .i64 (By + Dy - Ay), .int .i64 Dx, .int .i64 Dy]) ∧ Below w.heap.size w w' := by
  obtain ⟨a1, a2, a3, a4⟩ := spotB_true ra
  obtain ⟨b1, b2, b3, b4⟩ := spotB_true rb
  obtain ⟨c1, c2, c3, c4⟩ := spotB_true rc
  obtain ⟨ux, hux⟩ : ∃ x, bx - ax = x := ⟨_, rfl⟩
  obtain ⟨uy, huy⟩ : ∃ x, bY - ay = x := ⟨_, rfl⟩
  obtain ⟨vx, hvx⟩ : ∃ x, cx - ax = x := ⟨_, rfl⟩
  obtain ⟨vy, hvy⟩ : ∃ x, cy - ay = x := ⟨_, rfl⟩
  obtain ⟨m, hm⟩ : ∃ m, n - 7 = m := ⟨_, rfl⟩
  rw [hux] at hA hB
  rw [huy] at hAy hBy
  rw [hvx] at hA hD
  rw [hvy] at hAy hDy
  unfold cnA at hA hAy
  unfold cnB at hB hBy hD hDy
  rw [hm] at hA hAy hB hBy hD hDy
  have d1 := ediv_rg (show 0 < 2 * m by omega) 112000 (a := (ux + vx) * 7) (by omega) (by omega)
  have d2 := ediv_rg (show 0 < 2 * m by omega) 112000 (a := (uy + vy) * 7) (by omega) (by omega)
  have p1 : -328000 ≤ ux * n ∧ ux * n ≤ 328000 := mul_rg 8000 41 (by omega) (by omega) (by omega) (by omega)
  have p2 : -328000 ≤ uy * n ∧ uy * n ≤ 328000 := mul_rg 8000 41 (by omega) (by omega) (by omega) (by omega)
  have p3 : -328000 ≤ vx * n ∧ vx * n ≤ 328000 := mul_rg 8000 41 (by omega) (by omega) (by omega) (by omega)
  have p4 : -328000 ≤ vy * n ∧ vy * n ≤ 328000 := mul_rg 8000 41 (by omega) (by omega) (by omega) (by omega)
  have d3 := ediv_rg (show 0 < m by omega) 328000 p1.1 p1.2
  have d4 := ediv_rg (show 0 < m by omega) 328000 p2.1 p2.2
  have d5 := ediv_rg (show 0 < m by omega) 328000 p3.1 p3.2
  have d6 := ediv_rg (show 0 < m by omega) 328000 p4.1 p4.2
  have c7 : (ux + vx) * 7 = 7 * (ux + vx) := Int.mul_comm _ _
  have c7y : (uy + vy) * 7 = 7 * (uy + vy) := Int.mul_comm _ _
  have q1 : ux * n = n * ux := Int.mul_comm _ _
  have q2 : uy * n = n * uy := Int.mul_comm _ _
  have q3 : vx * n = n * vx := Int.mul_comm _ _
  have q4 : vy * n = n * vy := Int.mul_comm _ _
  rw [c7] at hA d1
  rw [c7y] at hAy d2
  rw [q1] at hB p1 d3
  rw [q2] at hBy p2 d4
  rw [q3] at hD p3 d5
  rw [q4] at hDy p4 d6
  clear c7 c7y q1 q2 q3 q4
  have s1 := fun w => l24Plus_any 0 0 (ux + vx) (uy + vy) 7 (2 * m) w (by omega) (by omega) (by omega) (by omega) (by omega) (by omega) (by omega) (by omega) (by omega) (by omega)
  have s2 := fun w => l24Plus_any Ax Ay ux uy n m w (by omega) (by omega) (by omega) (by omega) (by omega) (by omega) (by omega) (by omega) (by omega) (by omega)
  have s3 := fun w => l24Plus_any Ax Ay vx vy n m w (by omega) (by omega) (by omega) (by omega) (by omega) (by omega) (by omega) (by omega) (by omega) (by omega)
  rw [← hB, ← hBy] at s2
  rw [← hD, ← hDy] at s3
  obtain ⟨kx, hkx⟩ : ∃ x, 0 + 7 * (ux + vx) / (2 * m) = x := ⟨_, rfl⟩
  obtain ⟨ky, hky⟩ : ∃ x, 0 + 7 * (uy + vy) / (2 * m) = x := ⟨_, rfl⟩
  rw [hkx, hky] at s1
  have eA : ax - kx = Ax := by rw [hA, ← hkx, Int.zero_add]
  have eAy : ay - ky = Ay := by rw [hAy, ← hky, Int.zero_add]
  have S1 := Lib.hid s1
  have S2 := Lib.hid s2
  have S3 := Lib.hid s3
  have e1 : IntKind.i64.wrap (n - 7) = m := by rw [hm]; exact wrapC (by omega) (by omega)
  have e2 : IntKind.i64.wrap (2 * m) = 2 * m := wrapC (by omega) (by omega)
  have g1 : IntKind.i64.wrap (bx - ax) = ux := by rw [hux]; exact wrapC (by omega) (by omega)
  have g2 : IntKind.i64.wrap (bY - ay) = uy := by rw [huy]; exact wrapC (by omega) (by omega)
  have g3 : IntKind.i64.wrap (cx - ax) = vx := by rw [hvx]; exact wrapC (by omega) (by omega)
  have g4 : IntKind.i64.wrap (cy - ay) = vy := by rw [hvy]; exact wrapC (by omega) (by omega)
  have e3 : wrap64 (ux + vx) = ux + vx := by unfold wrap64; omega
  have e4 : wrap64 (uy + vy) = uy + vy := by unfold wrap64; omega
  have e5 : wrap64 Ax = Ax := by unfold wrap64; omega
  have e6 : wrap64 Ay = Ay := by unfold wrap64; omega
  have e7 : wrap64 (n - 7) = m := by rw [hm]; unfold wrap64; omega
  have e8 : wrap64 (Bx + Dx) = Bx + Dx := by unfold wrap64; omega
  have e9 : wrap64 (By + Dy) = By + Dy := by unfold wrap64; omega
  have e10 : wrap64 (Bx + Dx - Ax) = Bx + Dx - Ax := by unfold wrap64; omega
  have e11 : wrap64 (By + Dy - Ay) = By + Dy - Ay := by unfold wrap64; omega
  clear s1 s2 s3 d1 d2 d3 d4 d5 d6 p1 p2 p3 p4 hA hAy hB hBy hD hDy hux huy hvx hvy hm hkx hky
  go_enter Try.func69, Try.ntmps69
  go_wp2_with fail
  go_quiet (fail)
  go_upto_region 4 with (go_at_call 82; with_reducible refine (S1.out _).mono ?_; rintro e1 w1 ⟨rfl, hb1⟩; obtain ⟨hc1, hf1⟩ := bcell hb1; have hB1 : Below w.heap.size w w1 := (below_then (by first | (go_grown; done) | (repeat (first | (with_reducible assumption) | (with_reducible exact Below.refl _ _) | (with_reducible refine below_drewN' ?_ _) | (with_reducible refine Below.drew ?_) | ((with_reducible refine Below.alloc ?_ ?_ _); rotate_left; focus (first | (simp; done) | (simp; omega) | omega)) | ((with_reducible refine Below.setCell ?_ ?_ _); rotate_left; focus (first | (simp; done) | (simp; omega) | omega))))) (by first | omega | (simp; done) | (simp; omega)) hb1); have hz1a : w.heap.size < w1.heap.size := (by have := hb1.size; first | omega | (simp at this; omega)); have hz1b : w.heap.size + 1 + 1 + 1 < w1.heap.size := (by have := hb1.size; first | omega | (simp at this; omega)))
  obtain ⟨gA, hgA⟩ : ∃ g, w1.heap.size + 1 = g := ⟨_, rfl⟩
  have zA : w.heap.size + 1 + 1 + 1 < gA := by omega
  have hr1 : RowAt w1 (w.heap.size + 1 + 1 + 1) 48 [0, 0, 0, 0, 0, 0, 0, 0] := by
    have h := ((RowAt.made (xs := [0, 0, 0, 0, 0, 0, 0, 0]) rfl).drewN nq).below hb1 (by simp)
    simpa only [World.size_alloc] using h
  have hrA : RowAt ((w1.alloc (.cells #[.int .i64 kx, .int .i64 ky] 38)).alloc (.cells #[.int .i64 Ax, .int .i64 Ay] 38)) gA 38 [Ax, Ay] := by
    have h := RowAt.made (w := w1.alloc (.cells #[.int .i64 kx, .int .i64 ky] 38)) (t := 38) (xs := [Ax, Ay]) rfl
    rw [World.size_alloc, hgA] at h
    exact h
  rw [hgA]
  have hBx : Below w.heap.size w ((w1.alloc (.cells #[.int .i64 kx, .int .i64 ky] 38)).alloc (.cells #[.int .i64 Ax, .int .i64 Ay] 38)) := by (repeat (first | (with_reducible assumption) | (with_reducible exact Below.refl _ _) | (with_reducible refine below_drewN' ?_ _) | (with_reducible refine Below.drew ?_) | ((with_reducible refine Below.alloc ?_ ?_ _); rotate_left; focus (first | (simp; done) | (simp; omega) | omega)) | ((with_reducible refine Below.setCell ?_ ?_ _); rotate_left; focus (first | (simp; done) | (simp; omega) | omega))))
  refine gen_worldC (P := fun W' => Code.wp _ _ _ _ W') (Q := fun W' => Below w.heap.size w W' ∧ RowAt W' (w.heap.size + 1 + 1 + 1) 48 [0, 0, 0, 0, 0, 0, 0, 0] ∧ RowAt W' gA 38 [Ax, Ay]) (by exact ⟨hBx, hr1.below (B := w1.heap.size) (((Below.refl _ _).alloc (Nat.le_refl _) _).alloc (by simp) _) (by omega), hrA⟩) ?_
  clear hrA hBx hr1 hb1 hc1 hf1 hB1
  rintro W1 ⟨hB, hr, hrgA⟩
  have fgA0 : W1.cell? ⟨gA, 0, none⟩ = some (.int .i64 Ax) := hrgA.cell (k := 0) (by simp)
  have fgA1 : W1.cell? ⟨gA, 1, none⟩ = some (.int .i64 Ay) := hrgA.cell (k := 1) (by simp)
  have zgA1 := hrgA.lt
  have HR := Lib.hid hr
  have HRgA := Lib.hid hrgA
  clear hr hrgA
  go_upto_region 5 with (go_at_call 82; with_reducible refine (S2.out _).mono ?_; rintro e2 w2 ⟨rfl, hb2⟩; obtain ⟨hc2, hf2⟩ := bcell hb2; have hB2 : Below w.heap.size w w2 := (below_then (by first | (go_grown; done) | (repeat (first | (with_reducible assumption) | (with_reducible exact Below.refl _ _) | (with_reducible refine below_drewN' ?_ _) | (with_reducible refine Below.drew ?_) | ((with_reducible refine Below.alloc ?_ ?_ _); rotate_left; focus (first | (simp; done) | (simp; omega) | omega)) | ((with_reducible refine Below.setCell ?_ ?_ _); rotate_left; focus (first | (simp; done) | (simp; omega) | omega))))) (by first | omega | (simp; done) | (simp; omega)) hb2))
  obtain ⟨gB, hggB⟩ : ∃ g, w2.heap.size = g := ⟨_, rfl⟩
  have zgB : w.heap.size + 1 + 1 + 1 < gB := by have := hb2.size; have := HR.out.lt; omega
  have htgB : RowAt (w2.alloc (.cells #[.int .i64 Bx, .int .i64 By] 38)) gB 38 [Bx, By] := by
    have h := RowAt.made (w := w2) (t := 38) (xs := [Bx, By]) rfl
    rw [hggB] at h
    exact h
  rw [hggB]
  refine gen_worldC (P := fun W' => Code.wp _ _ _ _ W') (Q := fun W' => Below w.heap.size w W' ∧ RowAt W' (w.heap.size + 1 + 1 + 1) 48 [0, 0, 0, 0, 0, 0, 0, 0] ∧ RowAt W' gA 38 [Ax, Ay] ∧ RowAt W' gB 38 [Bx, By]) (by exact ⟨hB2.alloc (by have := hB2.size; omega) _, (HR.out.below hb2 HR.out.lt).below (B := w2.heap.size) ((Below.refl _ _).alloc (Nat.le_refl _) _) (HR.out.below hb2 HR.out.lt).lt, (HRgA.out.below hb2 HRgA.out.lt).below (B := w2.heap.size) ((Below.refl _ _).alloc (Nat.le_refl _) _) (HRgA.out.below hb2 HRgA.out.lt).lt, htgB⟩) ?_
  clear htgB hb2 hc2 hf2 hB2 HR hB HRgA fgA0 fgA1 zgA1
  rintro W2 ⟨hB, hr, hrgA, hrgB⟩
  have fgA0 : W2.cell? ⟨gA, 0, none⟩ = some (.int .i64 Ax) := hrgA.cell (k := 0) (by simp)
  have fgA1 : W2.cell? ⟨gA, 1, none⟩ = some (.int .i64 Ay) := hrgA.cell (k := 1) (by simp)
  have zgA2 := hrgA.lt
  have fgB0 : W2.cell? ⟨gB, 0, none⟩ = some (.int .i64 Bx) := hrgB.cell (k := 0) (by simp)
  have fgB1 : W2.cell? ⟨gB, 1, none⟩ = some (.int .i64 By) := hrgB.cell (k := 1) (by simp)
  have zgB2 := hrgB.lt
  have HR := Lib.hid hr
  have HRgA := Lib.hid hrgA
  have HRgB := Lib.hid hrgB
  clear hr hrgA hrgB
  go_upto_region 6 with (go_at_call 82; with_reducible refine (S3.out _).mono ?_; rintro e3 w3 ⟨rfl, hb3⟩; obtain ⟨hc3, hf3⟩ := bcell hb3; have hB3 : Below w.heap.size w w3 := (below_then (by first | (go_grown; done) | (repeat (first | (with_reducible assumption) | (with_reducible exact Below.refl _ _) | (with_reducible refine below_drewN' ?_ _) | (with_reducible refine Below.drew ?_) | ((with_reducible refine Below.alloc ?_ ?_ _); rotate_left; focus (first | (simp; done) | (simp; omega) | omega)) | ((with_reducible refine Below.setCell ?_ ?_ _); rotate_left; focus (first | (simp; done) | (simp; omega) | omega))))) (by first | omega | (simp; done) | (simp; omega)) hb3))
  obtain ⟨gD, hggD⟩ : ∃ g, w3.heap.size = g := ⟨_, rfl⟩
  have zgD : w.heap.size + 1 + 1 + 1 < gD := by have := hb3.size; have := HR.out.lt; omega
  have htgD : RowAt (w3.alloc (.cells #[.int .i64 Dx, .int .i64 Dy] 38)) gD 38 [Dx, Dy] := by
    have h := RowAt.made (w := w3) (t := 38) (xs := [Dx, Dy]) rfl
    rw [hggD] at h
    exact h
  rw [hggD]
  refine gen_worldC (P := fun W' => Code.wp _ _ _ _ W') (Q := fun W' => Below w.heap.size w W' ∧ RowAt W' (w.heap.size + 1 + 1 + 1) 48 [0, 0, 0, 0, 0, 0, 0, 0] ∧ RowAt W' gA 38 [Ax, Ay] ∧ RowAt W' gB 38 [Bx, By] ∧ RowAt W' gD 38 [Dx, Dy]) (by exact ⟨hB3.alloc (by have := hB3.size; omega) _, (HR.out.below hb3 HR.out.lt).below (B := w3.heap.size) ((Below.refl _ _).alloc (Nat.le_refl _) _) (HR.out.below hb3 HR.out.lt).lt, (HRgA.out.below hb3 HRgA.out.lt).below (B := w3.heap.size) ((Below.refl _ _).alloc (Nat.le_refl _) _) (HRgA.out.below hb3 HRgA.out.lt).lt, (HRgB.out.below hb3 HRgB.out.lt).below (B := w3.heap.size) ((Below.refl _ _).alloc (Nat.le_refl _) _) (HRgB.out.below hb3 HRgB.out.lt).lt, htgD⟩) ?_
  clear htgD hb3 hc3 hf3 hB3 HR hB HRgA HRgB fgA0 fgA1 fgB0 fgB1 zgA2 zgB2
  rintro W3 ⟨hB, hr, hrgA, hrgB, hrgD⟩
  have fgA0 : W3.cell? ⟨gA, 0, none⟩ = some (.int .i64 Ax) := hrgA.cell (k := 0) (by simp)
  have fgA1 : W3.cell? ⟨gA, 1, none⟩ = some (.int .i64 Ay) := hrgA.cell (k := 1) (by simp)
  have zgA3 := hrgA.lt
  have fgB0 : W3.cell? ⟨gB, 0, none⟩ = some (.int .i64 Bx) := hrgB.cell (k := 0) (by simp)
  have fgB1 : W3.cell? ⟨gB, 1, none⟩ = some (.int .i64 By) := hrgB.cell (k := 1) (by simp)
  have zgB3 := hrgB.lt
  have fgD0 : W3.cell? ⟨gD, 0, none⟩ = some (.int .i64 Dx) := hrgD.cell (k := 0) (by simp)
  have fgD1 : W3.cell? ⟨gD, 1, none⟩ = some (.int .i64 Dy) := hrgD.cell (k := 1) (by simp)
  have zgD3 := hrgD.lt
  have HR := Lib.hid hr
  have HRgA := Lib.hid hrgA
  have HRgB := Lib.hid hrgB
  have HRgD := Lib.hid hrgD
  clear hr hrgA hrgB hrgD
  go_upto_region 7 with fail
  obtain ⟨gC, hgC⟩ : ∃ g, W3.heap.size = g := ⟨_, rfl⟩
  have htC : RowAt (W3.alloc (.cells #[.int .i64 (Bx + Dx - Ax), .int .i64 (By + Dy - Ay)] 38)) gC 38 [Bx + Dx - Ax, By + Dy - Ay] := by
    have h := RowAt.made (w := W3) (t := 38) (xs := [Bx + Dx - Ax, By + Dy - Ay]) rfl
    rw [hgC] at h
    exact h
  rw [hgC]
  refine gen_worldC (P := fun W' => Code.wp _ _ _ _ W') (Q := fun W' => Below w.heap.size w W' ∧ RowAt W' (w.heap.size + 1 + 1 + 1) 48 [0, 0, 0, 0, 0, 0, 0, 0] ∧ RowAt W' gA 38 [Ax, Ay] ∧ RowAt W' gB 38 [Bx, By] ∧ RowAt W' gD 38 [Dx, Dy] ∧ RowAt W' gC 38 [(Bx + Dx - Ax), (By + Dy - Ay)]) (by exact ⟨hB.alloc (by have := hB.size; omega) _, HR.out.below (B := W3.heap.size) ((Below.refl _ _).alloc (Nat.le_refl _) _) HR.out.lt, HRgA.out.below (B := W3.heap.size) ((Below.refl _ _).alloc (Nat.le_refl _) _) HRgA.out.lt, HRgB.out.below (B := W3.heap.size) ((Below.refl _ _).alloc (Nat.le_refl _) _) HRgB.out.lt, HRgD.out.below (B := W3.heap.size) ((Below.refl _ _).alloc (Nat.le_refl _) _) HRgD.out.lt, htC⟩) ?_
  clear htC HR hB HRgA HRgB HRgD
  rintro W4 ⟨hB, hr, hrgA, hrgB, hrgD, hrgC⟩
  have fgA0 : W4.cell? ⟨gA, 0, none⟩ = some (.int .i64 Ax) := hrgA.cell (k := 0) (by simp)
  have fgA1 : W4.cell? ⟨gA, 1, none⟩ = some (.int .i64 Ay) := hrgA.cell (k := 1) (by simp)
  have zgA4 := hrgA.lt
  have fgB0 : W4.cell? ⟨gB, 0, none⟩ = some (.int .i64 Bx) := hrgB.cell (k := 0) (by simp)
  have fgB1 : W4.cell? ⟨gB, 1, none⟩ = some (.int .i64 By) := hrgB.cell (k := 1) (by simp)
  have zgB4 := hrgB.lt
  have fgD0 : W4.cell? ⟨gD, 0, none⟩ = some (.int .i64 Dx) := hrgD.cell (k := 0) (by simp)
  have fgD1 : W4.cell? ⟨gD, 1, none⟩ = some (.int .i64 Dy) := hrgD.cell (k := 1) (by simp)
  have zgD4 := hrgD.lt
  have fgC0 : W4.cell? ⟨gC, 0, none⟩ = some (.int .i64 (Bx + Dx - Ax)) := hrgC.cell (k := 0) (by simp)
  have fgC1 : W4.cell? ⟨gC, 1, none⟩ = some (.int .i64 (By + Dy - Ay)) := hrgC.cell (k := 1) (by simp)
  have zgC4 := hrgC.lt
  have fr0 : W4.cell? ⟨w.heap.size + 1 + 1 + 1, 0, none⟩ = some (.int .i64 0) := hr.cell (k := 0) (by simp)
  have fr1 : W4.cell? ⟨w.heap.size + 1 + 1 + 1, 1, none⟩ = some (.int .i64 0) := hr.cell (k := 1) (by simp)
  have fr2 : W4.cell? ⟨w.heap.size + 1 + 1 + 1, 2, none⟩ = some (.int .i64 0) := hr.cell (k := 2) (by simp)
  have fr3 : W4.cell? ⟨w.heap.size + 1 + 1 + 1, 3, none⟩ = some (.int .i64 0) := hr.cell (k := 3) (by simp)
  have fr4 : W4.cell? ⟨w.heap.size + 1 + 1 + 1, 4, none⟩ = some (.int .i64 0) := hr.cell (k := 4) (by simp)
  have fr5 : W4.cell? ⟨w.heap.size + 1 + 1 + 1, 5, none⟩ = some (.int .i64 0) := hr.cell (k := 5) (by simp)
  have fr6 : W4.cell? ⟨w.heap.size + 1 + 1 + 1, 6, none⟩ = some (.int .i64 0) := hr.cell (k := 6) (by simp)
  have fr7 : W4.cell? ⟨w.heap.size + 1 + 1 + 1, 7, none⟩ = some (.int .i64 0) := hr.cell (k := 7) (by simp)
  have ffr : ∀ j, W4.frozen? ⟨w.heap.size + 1 + 1 + 1, j, none⟩ = false := hr.free
  have zr := hr.lt
  go_wp2_with fail
  (try simp only [Exit.inBlock, Exit.then]); refine bodyPost_ret (by simp [results, Try.results69, go_sem, fr0, fr1, fr2, fr3, fr4, fr5, fr6, fr7]; try rfl) rfl ?_
  exact ⟨rfl, by (repeat (first | (with_reducible assumption) | (with_reducible exact Below.refl _ _) | (with_reducible refine below_drewN' ?_ _) | (with_reducible refine Below.drew ?_) | ((with_reducible refine Below.alloc ?_ ?_ _); rotate_left; focus (first | (simp; done) | (simp; omega) | omega)) | ((with_reducible refine Below.setCell ?_ ?_ _); rotate_left; focus (first | (simp; done) | (simp; omega) | omega))))⟩
end Go.Proofs.Ytnhhbpdjapccpaa
