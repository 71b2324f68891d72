/-
  The row FnCorners: the corners of a symbol follow from the middles of its finder patterns, and exactly so where it is printed without bleed, for every input; no condition. Printed by gen/lco.py.
-/
import Derived.Test.YtnhhbpdjapccpaaArgB
import Derived.Test.YtnhhbpdjapccpaaDco
import Derived.Test.YtnhhbpdjapccpaaC24G
import Derived.Test.YtnhhbpdjapccpaaC24N
import Derived.Test.YtnhhbpdjapccpaaDice
import Derived.Test.YtnhhbpdjapccpaaFrame
namespace Go.Proofs.Ytnhhbpdjapccpaa
set_option linter.unusedSimpArgs false
open Go.ChangeShapes Go.WideShapes Go.ChangeAt Go.RowKit

theorem co_both (ax ay bx bY cx cy n : Int) : ∃ q0 q1 q2 q3 q4 q5 q6 q7 K : Int, (K = 0 → quadB q0 q1 q2 q3 q4 q5 q6 q7 = true) ∧
    (∀ w, Calls Try.prog 35 #[.agg #[.int .i64 ax, .int .i64 ay], .agg #[.int .i64 bx, .int .i64 bY], .agg #[.int .i64 cx, .int .i64 cy], .int .i64 n] w fun e w' => e = .returned (.tuple #[.agg #[.int .i64 q0, .int .i64 q1, .int .i64 q2, .int .i64 q3, .int .i64 q4, .int .i64 q5, .int .i64 q6, .int .i64 q7], .int .i64 K]) ∧ Below w.heap.size w w') ∧
    (∀ w, Calls Try.prog 36 #[.agg #[.int .i64 ax, .int .i64 ay], .agg #[.int .i64 bx, .int .i64 bY], .agg #[.int .i64 cx, .int .i64 cy], .int .i64 n] w fun e w' => e = .returned (.tuple #[.agg #[.int .i64 q0, .int .i64 q1, .int .i64 q2, .int .i64 q3, .int .i64 q4, .int .i64 q5, .int .i64 q6, .int .i64 q7], .int .i64 K]) ∧ Below w.heap.size w w') := by
  cases hsp : (spotB ax ay && spotB bx bY && spotB cx cy)
  · exact ⟨0, 0, 0, 0, 0, 0, 0, 0, 1, by decide, fun w => CornersOf_sp ax ay bx bY cx cy n w hsp, fun w => sCornersOf_sp ax ay bx bY cx cy n w hsp⟩
  simp only [Bool.and_eq_true] at hsp
  obtain ⟨⟨h1, h2⟩, h3⟩ := hsp
  cases hs : sizeB n
  · exact ⟨0, 0, 0, 0, 0, 0, 0, 0, 2, by decide, fun w => CornersOf_sz ax ay bx bY cx cy n w h1 h2 h3 hs, fun w => sCornersOf_sz ax ay bx bY cx cy n w h1 h2 h3 hs⟩
  obtain ⟨N, rfl, hN1, hN2, -⟩ := sizeB_true hs
  have hn1 : (17 : Int) ≤ N := by omega
  have hn2 : (N : Int) ≤ 41 := by omega
  cases hq : quadB (cnA ax (bx - ax) (cx - ax) N) (cnA ay (bY - ay) (cy - ay) N) (cnB (cnA ax (bx - ax) (cx - ax) N) (bx - ax) N) (cnB (cnA ay (bY - ay) (cy - ay) N) (bY - ay) N) (cnB (cnA ax (bx - ax) (cx - ax) N) (bx - ax) N + cnB (cnA ax (bx - ax) (cx - ax) N) (cx - ax) N - cnA ax (bx - ax) (cx - ax) N) (cnB (cnA ay (bY - ay) (cy - ay) N) (bY - ay) N + cnB (cnA ay (bY - ay) (cy - ay) N) (cy - ay) N - cnA ay (bY - ay) (cy - ay) N) (cnB (cnA ax (bx - ax) (cx - ax) N) (cx - ax) N) (cnB (cnA ay (bY - ay) (cy - ay) N) (cy - ay) N)
  · exact ⟨0, 0, 0, 0, 0, 0, 0, 0, 5, by decide, fun w => CornersOf_sh ax ay bx bY cx cy N w h1 h2 h3 hs hn1 hn2 _ _ _ _ _ _ rfl rfl rfl rfl rfl rfl hq, fun w => sCornersOf_sh ax ay bx bY cx cy N w h1 h2 h3 hs hn1 hn2 _ _ _ _ _ _ rfl rfl rfl rfl rfl rfl hq⟩
  · exact ⟨_, _, _, _, _, _, _, _, 0, fun _ => hq, fun w => CornersOf_ok ax ay bx bY cx cy N w h1 h2 h3 hs hn1 hn2 _ _ _ _ _ _ rfl rfl rfl rfl rfl rfl hq, fun w => sCornersOf_ok ax ay bx bY cx cy N w h1 h2 h3 hs hn1 hn2 _ _ _ _ _ _ rfl rfl rfl rfl rfl rfl hq⟩
theorem size_ok {i : Nat} (hi : i < 7) : sizeB (17 + 4 * (i : Int)) = true := by
  rcases (show i = 0 ∨ i = 1 ∨ i = 2 ∨ i = 3 ∨ i = 4 ∨ i = 5 ∨ i = 6 by omega) with rfl | rfl | rfl | rfl | rfl | rfl | rfl <;> decide
theorem co_sq (l t : Int) (p i s F : Nat) (hl1 : 0 ≤ l) (hl2 : l ≤ 99) (ht1 : 0 ≤ t) (ht2 : t ≤ 99) (hp1 : 1 ≤ p) (hp2 : p ≤ 12) (hi : i < 7) (hs : s = 2 * p * (10 + 4 * i)) (hF : F = 2 * p * (17 + 4 * i)) (w : World) :
    Calls Try.prog 35 #[.agg #[.int .i64 (l + 7 * p), .int .i64 (t + 7 * p)], .agg #[.int .i64 (l + 7 * p + s), .int .i64 (t + 7 * p)], .agg #[.int .i64 (l + 7 * p), .int .i64 (t + 7 * p + s)], .int .i64 (17 + 4 * (i : Int))] w fun e w' =>
      e = .returned (.tuple #[.agg #[.int .i64 l, .int .i64 t, .int .i64 (l + F), .int .i64 t, .int .i64 (l + F), .int .i64 (t + F), .int .i64 l, .int .i64 (t + F)], .int .i64 0]) ∧ Below w.heap.size w w' := by
  have hs2 : s ≤ 816 := by
    have := Nat.mul_le_mul (show 2 * p ≤ 24 by omega) (show 10 + 4 * i ≤ 34 by omega)
    omega
  have hF2 : F ≤ 984 := by
    have := Nat.mul_le_mul (show 2 * p ≤ 24 by omega) (show 17 + 4 * i ≤ 41 by omega)
    omega
  have hF1 : 0 < F := by
    rw [hF]; exact Nat.mul_pos (by omega) (by omega)
  have es : (s : Int) = 2 * p * (10 + 4 * (i : Int)) := by rw [hs]; push_cast; rfl
  have eF : (F : Int) = 2 * p * (17 + 4 * (i : Int)) := by rw [hF]; push_cast; rfl
  have em : (17 : Int) + 4 * i = (10 + 4 * (i : Int)) + 7 := by omega
  have A1 := cnA_sq (l := l) (p := p) (m := 10 + 4 * (i : Int)) (by omega)
  have A2 := cnA_sq (l := t) (p := p) (m := 10 + 4 * (i : Int)) (by omega)
  have B1 := cnB_sq (A := l) (p := p) (m := 10 + 4 * (i : Int)) (by omega)
  have B2 := cnB_sq (A := t) (p := p) (m := 10 + 4 * (i : Int)) (by omega)
  rw [← es, ← em] at A1 A2
  rw [← es, ← em, ← eF] at B1 B2
  have h := CornersOf_ok (l + 7 * p) (t + 7 * p) (l + 7 * p + s) (t + 7 * p) (l + 7 * p) (t + 7 * p + s) (17 + 4 * (i : Int)) w (spotB_ok (by omega) (by omega) (by omega) (by omega)) (spotB_ok (by omega) (by omega) (by omega) (by omega)) (spotB_ok (by omega) (by omega) (by omega) (by omega)) (size_ok hi) (by omega) (by omega)
    l t (l + F) t l (t + F)
    (by rw [show l + 7 * (p : Int) + s - (l + 7 * p) = s by omega, show l + 7 * (p : Int) - (l + 7 * p) = 0 by omega]; exact A1.1.symm)
    (by rw [show t + 7 * (p : Int) + s - (t + 7 * p) = s by omega, show t + 7 * (p : Int) - (t + 7 * p) = 0 by omega]; exact A2.2.symm)
    (by rw [show l + 7 * (p : Int) + s - (l + 7 * p) = s by omega]; exact B1.1.symm)
    (by rw [show t + 7 * (p : Int) - (t + 7 * p) = 0 by omega]; exact B2.2.symm)
    (by rw [show l + 7 * (p : Int) - (l + 7 * p) = 0 by omega]; exact B1.2.symm)
    (by rw [show t + 7 * (p : Int) + s - (t + 7 * p) = s by omega]; exact B2.1.symm)
    (by rw [show l + (F : Int) + l - l = l + F by omega, show t + (t + (F : Int)) - t = t + F by omega]; exact quad_sq (by omega) (by omega) (by omega) (by omega) (by omega))
  rw [show l + (F : Int) + l - l = l + F by omega, show t + (t + (F : Int)) - t = t + F by omega] at h
  exact h
set_option maxRecDepth 20000 in
set_option maxHeartbeats 8000000 in
theorem lawFnCorners (A : Option Addr) (n c : Nat) (bs : List Int) (w : World) (hr : RB w w.heap.size A n bs) :
    Calls Try.prog 11 #[.slice A n c] w fun e' w' => e' = .returned (.bool true) ∧ Below w.heap.size w w' := by
  have HR := Lib.hid hr
  clear hr
  by_cases hbig : 4096 < n
  · have hbd : decide (4096 < n) = true := decide_eq_true hbig
    go_enter Try.func11, Try.ntmps11
    go_wp2_with (go_at_call 32; go_call (big_any _ _ _ _) as e0 w0 ⟨rfl, hb0⟩; obtain ⟨hc0, hf0⟩ := bcell hb0; have hB0 : Below w.heap.size w w0 := (below_then (by first | (go_grown; done) | (repeat (first | (with_reducible assumption) | (with_reducible exact Below.refl _ _) | (with_reducible refine below_drewN' ?_ _) | (with_reducible refine Below.drew ?_) | ((with_reducible refine Below.alloc ?_ ?_ _); rotate_left; focus (first | (simp; done) | (simp; omega) | omega)) | ((with_reducible refine Below.setCell ?_ ?_ _); rotate_left; focus (first | (simp; done) | (simp; omega) | omega))))) (by first | omega | (simp; done) | (simp; omega)) hb0))
    go_ret
    exact ⟨rfl, by (repeat (first | (with_reducible assumption) | (with_reducible exact Below.refl _ _) | (with_reducible refine below_drewN' ?_ _) | (with_reducible refine Below.drew ?_) | ((with_reducible refine Below.alloc ?_ ?_ _); rotate_left; focus (first | (simp; done) | (simp; omega) | omega)) | ((with_reducible refine Below.setCell ?_ ?_ _); rotate_left; focus (first | (simp; done) | (simp; omega) | omega))))⟩
  · have hbd : decide (4096 < n) = false := decide_eq_false hbig
    have HD := Lib.hid (fun (w' : World) (hb : Below w.heap.size w w') => DrawCornersOf_any A n c bs w.heap.size w' (HR.out.below hb) hb.size (by omega))
    go_enter Try.func11, Try.ntmps11
    go_wp2_with first | (go_at_call 32; go_call (big_any _ _ _ _) as e0 w0 ⟨rfl, hb0⟩; obtain ⟨hc0, hf0⟩ := bcell hb0; have hB0 : Below w.heap.size w w0 := (below_then (by first | (go_grown; done) | (repeat (first | (with_reducible assumption) | (with_reducible exact Below.refl _ _) | (with_reducible refine below_drewN' ?_ _) | (with_reducible refine Below.drew ?_) | ((with_reducible refine Below.alloc ?_ ?_ _); rotate_left; focus (first | (simp; done) | (simp; omega) | omega)) | ((with_reducible refine Below.setCell ?_ ?_ _); rotate_left; focus (first | (simp; done) | (simp; omega) | omega))))) (by first | omega | (simp; done) | (simp; omega)) hb0))
    go_at_call 34
    with_reducible refine (HD.out _ hB0).mono ?_
    rintro e1 w1 ⟨u1, rfl, ⟨ax, ay, bx, bY, cx, cy, m, rfl⟩, hb1⟩
    have HB1 := Lib.hid (hB0.trans (hb1.mono hB0.size))
    have hs1 := HB1.out.size
    have hBq := HB1.out
    clear hb0 hb1 hB0 hc0 hf0
    obtain ⟨q0, q1, q2, q3, q4, q5, q6, q7, K, hq, P1, P2⟩ := co_both ax ay bx bY cx cy m
    have HP1 := Lib.hid P1
    have HP2 := Lib.hid P2
    have HQ := Lib.hid hq
    clear P1 P2 hq
    have hkk : (K != K) = false := by simp
    go_wp2_with fail
    (go_at_call 35; with_reducible refine (HP1.out _).mono ?_; rintro e2 w2 ⟨rfl, hb2⟩; obtain ⟨hc2, hf2⟩ := bcell hb2; have hB2 : Below w.heap.size w w2 := (below_then (by first | (go_grown; done) | (repeat (first | (with_reducible assumption) | (with_reducible exact Below.refl _ _) | (with_reducible refine below_drewN' ?_ _) | (with_reducible refine Below.drew ?_) | ((with_reducible refine Below.alloc ?_ ?_ _); rotate_left; focus (first | (simp; done) | (simp; omega) | omega)) | ((with_reducible refine Below.setCell ?_ ?_ _); rotate_left; focus (first | (simp; done) | (simp; omega) | omega))))) (by first | omega | (simp; done) | (simp; omega)) hb2); have hz2a : w1.heap.size < w2.heap.size := (by have := hb2.size; first | omega | (simp at this; omega)); have hz2b : w1.heap.size + 1 < w2.heap.size := (by have := hb2.size; first | omega | (simp at this; omega)); have hz2c : w1.heap.size + 1 + 1 < w2.heap.size := (by have := hb2.size; first | omega | (simp at this; omega)))
    have HG2 := Lib.hid (heap_alloc_new w2 (.cells #[.int .i64 q0, .int .i64 q1, .int .i64 q2, .int .i64 q3, .int .i64 q4, .int .i64 q5, .int .i64 q6, .int .i64 q7] 48))
    have hz2z : w2.heap.size < (w2.alloc (.cells #[.int .i64 q0, .int .i64 q1, .int .i64 q2, .int .i64 q3, .int .i64 q4, .int .i64 q5, .int .i64 q6, .int .i64 q7] 48)).heap.size := by simp
    go_wp2_with fail
    (go_at_call 36; with_reducible refine (HP2.out _).mono ?_; rintro e3 w3 ⟨rfl, hb3⟩; obtain ⟨hc3, hf3⟩ := bcell hb3; have hB3 : Below w.heap.size w w3 := (below_then (by first | (go_grown; done) | (repeat (first | (with_reducible assumption) | (with_reducible exact Below.refl _ _) | (with_reducible refine below_drewN' ?_ _) | (with_reducible refine Below.drew ?_) | ((with_reducible refine Below.alloc ?_ ?_ _); rotate_left; focus (first | (simp; done) | (simp; omega) | omega)) | ((with_reducible refine Below.setCell ?_ ?_ _); rotate_left; focus (first | (simp; done) | (simp; omega) | omega))))) (by first | omega | (simp; done) | (simp; omega)) hb3); have hz3a : w2.heap.size < w3.heap.size := (by have := hb3.size; first | omega | (simp at this; omega)))
    have HG3 := Lib.hid (blk_below HG2.out hb3 hz2z)
    obtain ⟨g2, hg2⟩ : ∃ g, w2.heap.size = g := ⟨_, rfl⟩
    rw [hg2] at HG3 hz3a ⊢
    have HB3 := Lib.hid hB3
    obtain ⟨y0, y1, y2, y3, y4, y5, y6, y7, -⟩ := blk8 HG3.out
    have n0 : (q0 != q0) = false := by simp
    have n1 : (q1 != q1) = false := by simp
    have n2 : (q2 != q2) = false := by simp
    have n3 : (q3 != q3) = false := by simp
    have n4 : (q4 != q4) = false := by simp
    have n5 : (q5 != q5) = false := by simp
    have n6 : (q6 != q6) = false := by simp
    have n7 : (q7 != q7) = false := by simp
    clear hz2z HG2 HG3 hg2 hb2 hc2 hf2 hB2 hb3 hc3 hf3 hB3 hz2a hz2b hz2c HP1 HP2
    have HBw := HB3.out
    have HFIN : Hid (∀ w' : World, Below w.heap.size w w' → Calls Try.prog 38 #[.slice A n c, .int .u64 2401] w' fun e w'' => e = .returned (.pointer (some ⟨w'.heap.size, 0, none⟩)) ∧ DiceW w'' 103 w'.heap.size A n c ∧ Below w'.heap.size w' w'') := Lib.hid (fun w' hb => roll_any A n c bs 2401 w' w.heap.size (HR.out.below hb) hb.size (by omega) (by omega) (by omega))
    by_cases hK : K = 0
    · have HIQ := Lib.hid (fun w => IsQuad_any q0 q1 q2 q3 q4 q5 q6 q7 w)
      rw [HQ.out hK] at HIQ
      have hK' : (K == 0) = true := by simpa using hK
      clear hK HQ
      have hs3 := HBw.size
      go_upto_region 10 with (go_at_call 37; with_reducible refine (HIQ.out _).mono ?_; rintro e4 w4 ⟨rfl, hb4⟩; obtain ⟨hc4, hf4⟩ := bcell hb4; have hB4 : Below w.heap.size w w4 := (below_then (by first | (go_grown; done) | (repeat (first | (with_reducible assumption) | (with_reducible exact Below.refl _ _) | (with_reducible refine below_drewN' ?_ _) | (with_reducible refine Below.drew ?_) | ((with_reducible refine Below.alloc ?_ ?_ _); rotate_left; focus (first | (simp; done) | (simp; omega) | omega)) | ((with_reducible refine Below.setCell ?_ ?_ _); rotate_left; focus (first | (simp; done) | (simp; omega) | omega))))) (by first | omega | (simp; done) | (simp; omega)) hb4))
      rename World => wq
      have HBq := Lib.hid hB4
      clear hb4 hc4 hf4 hB4 HIQ hK'
      clear y0 y1 y2 y3 y4 y5 y6 y7 n0 n1 n2 n3 n4 n5 n6 n7 hkk HBw HB3 hz3a HB1 hs1 hBq hs3
      go_wp2_with fail
      go_at_call 38
      with_reducible refine (HFIN.out _ HBq.out).mono ?_
      rintro e5 w5 ⟨rfl, hdw5, hb5⟩
      obtain ⟨bd, hbdd⟩ : ∃ x, wq.heap.size = x := ⟨_, rfl⟩
      rw [hbdd] at hdw5 hb5 ⊢
      have hbd : w.heap.size ≤ bd := by have := HBq.out.size; omega
      have HD5 := Lib.hid hdw5
      have HB5 := Lib.hid (HBq.out.trans (hb5.mono hbd))
      clear hdw5 hb5 hbdd HFIN HBq
      go_wp2_with fail
      go_at_call 39
      with_reducible refine (dice_below_any bd A n c bs 7 _ w.heap.size HD5.out (HR.out.below HB5.out) hbd (by omega) (by omega) (by omega)).mono ?_
      rintro e6 w6 ⟨r6, rfl, hr6a, hr6b, hdw6, hg6⟩
      have HB6 := Lib.hid (HB5.out.grown hg6 (by have := HB5.out.size; omega) (fun q hq => by have h' : bd = q := (by simpa using hq); omega))
      have HD6 := Lib.hid hdw6
      clear hg6 hdw6
      go_wp2_with fail
      go_at_call 39
      with_reducible refine (dice_below_any bd A n c bs 12 _ w.heap.size HD6.out (HR.out.below HB6.out) hbd (by omega) (by omega) (by omega)).mono ?_
      rintro e7 w7 ⟨r7, rfl, hr7a, hr7b, hdw7, hg7⟩
      have HB7 := Lib.hid (HB6.out.grown hg7 (by have := HB6.out.size; omega) (fun q hq => by have h' : bd = q := (by simpa using hq); omega))
      have HD7 := Lib.hid hdw7
      clear hg7 hdw7
      go_wp2_with fail
      go_at_call 39
      with_reducible refine (dice_below_any bd A n c bs 100 _ w.heap.size HD7.out (HR.out.below HB7.out) hbd (by omega) (by omega) (by omega)).mono ?_
      rintro e8 w8 ⟨r8, rfl, hr8a, hr8b, hdw8, hg8⟩
      have HB8 := Lib.hid (HB7.out.grown hg8 (by have := HB7.out.size; omega) (fun q hq => by have h' : bd = q := (by simpa using hq); omega))
      have HD8 := Lib.hid hdw8
      clear hg8 hdw8
      go_wp2_with fail
      go_at_call 39
      with_reducible refine (dice_below_any bd A n c bs 100 _ w.heap.size HD8.out (HR.out.below HB8.out) hbd (by omega) (by omega) (by omega)).mono ?_
      rintro e9 w9 ⟨r9, rfl, hr9a, hr9b, hdw9, hg9⟩
      have HB9 := Lib.hid (HB8.out.grown hg9 (by have := HB8.out.size; omega) (fun q hq => by have h' : bd = q := (by simpa using hq); omega))
      have HD9 := Lib.hid hdw9
      clear hg9 hdw9
      have HB := HB9
      clear HB5 HB6 HB7 HB8 HB9 HD5 HD6 HD7 HD8 HD9 HR
      obtain ⟨i, rfl⟩ := Int.eq_ofNat_of_zero_le hr6a
      obtain ⟨P, hP⟩ : ∃ P : Nat, 1 + r7 = P := ⟨(1 + r7).toNat, by omega⟩
      have hi : i < 7 := by omega
      have hP1 : 1 ≤ P := by omega
      have hP2 : P ≤ 12 := by omega
      obtain ⟨S, hS⟩ : ∃ S, S = 2 * P * (10 + 4 * i) := ⟨_, rfl⟩
      obtain ⟨F, hF⟩ : ∃ F, F = 2 * P * (17 + 4 * i) := ⟨_, rfl⟩
      have hS2 : S ≤ 816 := by
        have := Nat.mul_le_mul (show 2 * P ≤ 24 by omega) (show 10 + 4 * i ≤ 34 by omega)
        omega
      have hF2 : F ≤ 984 := by
        have := Nat.mul_le_mul (show 2 * P ≤ 24 by omega) (show 17 + 4 * i ≤ 41 by omega)
        omega
      have eS : 2 * (P : Int) * (17 + 4 * (i : Int) - 7) = (S : Int) := by rw [hS, show (17 : Int) + 4 * i - 7 = 10 + 4 * i by omega]; push_cast; rfl
      have eF : 2 * (P : Int) * (17 + 4 * (i : Int)) = (F : Int) := by rw [hF]; push_cast; rfl
      obtain ⟨l, hl⟩ : ∃ l, r8 = l := ⟨_, rfl⟩
      obtain ⟨t, ht⟩ : ∃ t, r9 = t := ⟨_, rfl⟩
      subst hl ht
      have HC := Lib.hid (fun w => co_sq r8 r9 P i S F hr8a (by omega) hr9a (by omega) hP1 hP2 hi hS hF w)
      have HN := Lib.hid (fun w' : World => NearestSize_sq (r8 + 7 * P) (r9 + 7 * P) P i S (some ⟨w'.heap.size, 0, none⟩) 7 (w'.alloc (.cells #[.int .i64 17, .int .i64 21, .int .i64 25, .int .i64 29, .int .i64 33, .int .i64 37, .int .i64 41] 2)) _ ((RowAt.made (xs := sizesL) rfl).RI (by simp) rfl) (Nat.le_refl _) hP1 hP2 hi hS (by omega) (by omega) (by omega) (by omega))
      clear hS hF
      have hBw := HB.out
      have hs9 := hBw.size
      go_wp2_with fail
      (go_at_call 35; with_reducible refine (HC.out _).mono ?_; rintro e10 w10 ⟨rfl, hb10⟩; obtain ⟨hc10, hf10⟩ := bcell hb10; have hB10 : Below w.heap.size w w10 := (below_then (by first | (go_grown; done) | (repeat (first | (with_reducible assumption) | (with_reducible exact Below.refl _ _) | (with_reducible refine below_drewN' ?_ _) | (with_reducible refine Below.drew ?_) | ((with_reducible refine Below.alloc ?_ ?_ _); rotate_left; focus (first | (simp; done) | (simp; omega) | omega)) | ((with_reducible refine Below.setCell ?_ ?_ _); rotate_left; focus (first | (simp; done) | (simp; omega) | omega))))) (by first | omega | (simp; done) | (simp; omega)) hb10); have hz10a : w9.heap.size < w10.heap.size := (by have := hb10.size; first | omega | (simp at this; omega)); have hz10b : w9.heap.size + 1 < w10.heap.size := (by have := hb10.size; first | omega | (simp at this; omega)); have hz10c : w9.heap.size + 1 + 1 < w10.heap.size := (by have := hb10.size; first | omega | (simp at this; omega)))
      have x0 : w10.cell? ⟨w9.heap.size, 0, none⟩ = some (.int .i64 (r8 + 7 * (P : Int))) := (hc10 _ _ (by first | (simp; done) | (simp; omega))).trans (by go_simp)
      have x1 : w10.cell? ⟨w9.heap.size, 1, none⟩ = some (.int .i64 (r9 + 7 * (P : Int))) := (hc10 _ _ (by first | (simp; done) | (simp; omega))).trans (by go_simp)
      have x2 : w10.cell? ⟨w9.heap.size + 1, 0, none⟩ = some (.int .i64 (r8 + 7 * (P : Int) + (S : Int))) := (hc10 _ _ (by first | (simp; done) | (simp; omega))).trans (by go_simp)
      have x3 : w10.cell? ⟨w9.heap.size + 1, 1, none⟩ = some (.int .i64 (r9 + 7 * (P : Int))) := (hc10 _ _ (by first | (simp; done) | (simp; omega))).trans (by go_simp)
      have HB10 := Lib.hid hB10
      clear hb10 hc10 hf10 hB10 HC HB hBw eS
      go_wp2_with fail
      have HN2 := HN.out (w10.alloc (.cells #[.int .i64 r8, .int .i64 r9, .int .i64 (r8 + (F : Int)), .int .i64 r9, .int .i64 (r8 + (F : Int)), .int .i64 (r9 + (F : Int)), .int .i64 r8, .int .i64 (r9 + (F : Int))] 48))
      simp only [World.size_alloc] at HN2
      go_at_call 40
      with_reducible refine HN2.mono ?_
      clear HN2
      rintro e11 w11 ⟨rfl, hb11⟩
      have hq0 := heap_alloc_new w10 (.cells #[.int .i64 r8, .int .i64 r9, .int .i64 (r8 + (F : Int)), .int .i64 r9, .int .i64 (r8 + (F : Int)), .int .i64 (r9 + (F : Int)), .int .i64 r8, .int .i64 (r9 + (F : Int))] 48)
      have hs10 := HB10.out.size
      have hz0 : w10.heap.size < (w10.alloc (.cells #[.int .i64 r8, .int .i64 r9, .int .i64 (r8 + (F : Int)), .int .i64 r9, .int .i64 (r8 + (F : Int)), .int .i64 (r9 + (F : Int)), .int .i64 r8, .int .i64 (r9 + (F : Int))] 48)).heap.size := by rw [World.size_alloc]; omega
      have hq1 := blk_alloc (u := .cells #[.int .i64 17, .int .i64 21, .int .i64 25, .int .i64 29, .int .i64 33, .int .i64 37, .int .i64 41] 2) hq0 hz0
      have hz1 : w10.heap.size < ((w10.alloc (.cells #[.int .i64 r8, .int .i64 r9, .int .i64 (r8 + (F : Int)), .int .i64 r9, .int .i64 (r8 + (F : Int)), .int .i64 (r9 + (F : Int)), .int .i64 r8, .int .i64 (r9 + (F : Int))] 48)).alloc (.cells #[.int .i64 17, .int .i64 21, .int .i64 25, .int .i64 29, .int .i64 33, .int .i64 37, .int .i64 41] 2)).heap.size := by rw [World.size_alloc]; omega
      have hh := blk_below hq1 hb11 (by omega)
      obtain ⟨y0, y1, y2, y3, y4, y5, y6, y7, -⟩ := blk8 hh
      have hz11 : w10.heap.size < w11.heap.size := by have := hb11.size; omega
      have hBa : Below w.heap.size w10 ((w10.alloc (.cells #[.int .i64 r8, .int .i64 r9, .int .i64 (r8 + (F : Int)), .int .i64 r9, .int .i64 (r8 + (F : Int)), .int .i64 (r9 + (F : Int)), .int .i64 r8, .int .i64 (r9 + (F : Int))] 48)).alloc (.cells #[.int .i64 17, .int .i64 21, .int .i64 25, .int .i64 29, .int .i64 33, .int .i64 37, .int .i64 41] 2)) := ((Below.refl w.heap.size w10).alloc hs10 _).alloc (by rw [World.size_alloc]; omega) _
      have HB11 := Lib.hid (HB10.out.trans (hBa.trans (hb11.mono (by omega))))
      clear hBa hz0 hz1 hq0 hq1
      clear hb11 hh x0 x1 x2 x3 HN
      go_wp2_with fail
      go_ret
      exact ⟨by simp, HB11.out⟩
    · have hK' : (K == 0) = false := by simpa using hK
      clear hK HQ
      have hs3 := HBw.size
      go_upto_region 10 with fail
      refine gen_worldC (P := fun W' => Code.wp _ _ _ _ W') (Q := fun W' => Below w.heap.size w W') (by exact HBw.alloc hs3 _) ?_
      intro wq hq'
      have HBq := Lib.hid hq'
      clear hq' hK'
      clear y0 y1 y2 y3 y4 y5 y6 y7 n0 n1 n2 n3 n4 n5 n6 n7 hkk HBw HB3 hz3a HB1 hs1 hBq hs3
      go_wp2_with fail
      go_at_call 38
      with_reducible refine (HFIN.out _ HBq.out).mono ?_
      rintro e5 w5 ⟨rfl, hdw5, hb5⟩
      obtain ⟨bd, hbdd⟩ : ∃ x, wq.heap.size = x := ⟨_, rfl⟩
      rw [hbdd] at hdw5 hb5 ⊢
      have hbd : w.heap.size ≤ bd := by have := HBq.out.size; omega
      have HD5 := Lib.hid hdw5
      have HB5 := Lib.hid (HBq.out.trans (hb5.mono hbd))
      clear hdw5 hb5 hbdd HFIN HBq
      go_wp2_with fail
      go_at_call 39
      with_reducible refine (dice_below_any bd A n c bs 7 _ w.heap.size HD5.out (HR.out.below HB5.out) hbd (by omega) (by omega) (by omega)).mono ?_
      rintro e6 w6 ⟨r6, rfl, hr6a, hr6b, hdw6, hg6⟩
      have HB6 := Lib.hid (HB5.out.grown hg6 (by have := HB5.out.size; omega) (fun q hq => by have h' : bd = q := (by simpa using hq); omega))
      have HD6 := Lib.hid hdw6
      clear hg6 hdw6
      go_wp2_with fail
      go_at_call 39
      with_reducible refine (dice_below_any bd A n c bs 12 _ w.heap.size HD6.out (HR.out.below HB6.out) hbd (by omega) (by omega) (by omega)).mono ?_
      rintro e7 w7 ⟨r7, rfl, hr7a, hr7b, hdw7, hg7⟩
      have HB7 := Lib.hid (HB6.out.grown hg7 (by have := HB6.out.size; omega) (fun q hq => by have h' : bd = q := (by simpa using hq); omega))
      have HD7 := Lib.hid hdw7
      clear hg7 hdw7
      go_wp2_with fail
      go_at_call 39
      with_reducible refine (dice_below_any bd A n c bs 100 _ w.heap.size HD7.out (HR.out.below HB7.out) hbd (by omega) (by omega) (by omega)).mono ?_
      rintro e8 w8 ⟨r8, rfl, hr8a, hr8b, hdw8, hg8⟩
      have HB8 := Lib.hid (HB7.out.grown hg8 (by have := HB7.out.size; omega) (fun q hq => by have h' : bd = q := (by simpa using hq); omega))
      have HD8 := Lib.hid hdw8
      clear hg8 hdw8
      go_wp2_with fail
      go_at_call 39
      with_reducible refine (dice_below_any bd A n c bs 100 _ w.heap.size HD8.out (HR.out.below HB8.out) hbd (by omega) (by omega) (by omega)).mono ?_
      rintro e9 w9 ⟨r9, rfl, hr9a, hr9b, hdw9, hg9⟩
      have HB9 := Lib.hid (HB8.out.grown hg9 (by have := HB8.out.size; omega) (fun q hq => by have h' : bd = q := (by simpa using hq); omega))
      have HD9 := Lib.hid hdw9
      clear hg9 hdw9
      have HB := HB9
      clear HB5 HB6 HB7 HB8 HB9 HD5 HD6 HD7 HD8 HD9 HR
      obtain ⟨i, rfl⟩ := Int.eq_ofNat_of_zero_le hr6a
      obtain ⟨P, hP⟩ : ∃ P : Nat, 1 + r7 = P := ⟨(1 + r7).toNat, by omega⟩
      have hi : i < 7 := by omega
      have hP1 : 1 ≤ P := by omega
      have hP2 : P ≤ 12 := by omega
      obtain ⟨S, hS⟩ : ∃ S, S = 2 * P * (10 + 4 * i) := ⟨_, rfl⟩
      obtain ⟨F, hF⟩ : ∃ F, F = 2 * P * (17 + 4 * i) := ⟨_, rfl⟩
      have hS2 : S ≤ 816 := by
        have := Nat.mul_le_mul (show 2 * P ≤ 24 by omega) (show 10 + 4 * i ≤ 34 by omega)
        omega
      have hF2 : F ≤ 984 := by
        have := Nat.mul_le_mul (show 2 * P ≤ 24 by omega) (show 17 + 4 * i ≤ 41 by omega)
        omega
      have eS : 2 * (P : Int) * (17 + 4 * (i : Int) - 7) = (S : Int) := by rw [hS, show (17 : Int) + 4 * i - 7 = 10 + 4 * i by omega]; push_cast; rfl
      have eF : 2 * (P : Int) * (17 + 4 * (i : Int)) = (F : Int) := by rw [hF]; push_cast; rfl
      obtain ⟨l, hl⟩ : ∃ l, r8 = l := ⟨_, rfl⟩
      obtain ⟨t, ht⟩ : ∃ t, r9 = t := ⟨_, rfl⟩
      subst hl ht
      have HC := Lib.hid (fun w => co_sq r8 r9 P i S F hr8a (by omega) hr9a (by omega) hP1 hP2 hi hS hF w)
      have HN := Lib.hid (fun w' : World => NearestSize_sq (r8 + 7 * P) (r9 + 7 * P) P i S (some ⟨w'.heap.size, 0, none⟩) 7 (w'.alloc (.cells #[.int .i64 17, .int .i64 21, .int .i64 25, .int .i64 29, .int .i64 33, .int .i64 37, .int .i64 41] 2)) _ ((RowAt.made (xs := sizesL) rfl).RI (by simp) rfl) (Nat.le_refl _) hP1 hP2 hi hS (by omega) (by omega) (by omega) (by omega))
      clear hS hF
      have hBw := HB.out
      have hs9 := hBw.size
      go_wp2_with fail
      (go_at_call 35; with_reducible refine (HC.out _).mono ?_; rintro e10 w10 ⟨rfl, hb10⟩; obtain ⟨hc10, hf10⟩ := bcell hb10; have hB10 : Below w.heap.size w w10 := (below_then (by first | (go_grown; done) | (repeat (first | (with_reducible assumption) | (with_reducible exact Below.refl _ _) | (with_reducible refine below_drewN' ?_ _) | (with_reducible refine Below.drew ?_) | ((with_reducible refine Below.alloc ?_ ?_ _); rotate_left; focus (first | (simp; done) | (simp; omega) | omega)) | ((with_reducible refine Below.setCell ?_ ?_ _); rotate_left; focus (first | (simp; done) | (simp; omega) | omega))))) (by first | omega | (simp; done) | (simp; omega)) hb10); have hz10a : w9.heap.size < w10.heap.size := (by have := hb10.size; first | omega | (simp at this; omega)); have hz10b : w9.heap.size + 1 < w10.heap.size := (by have := hb10.size; first | omega | (simp at this; omega)); have hz10c : w9.heap.size + 1 + 1 < w10.heap.size := (by have := hb10.size; first | omega | (simp at this; omega)))
      have x0 : w10.cell? ⟨w9.heap.size, 0, none⟩ = some (.int .i64 (r8 + 7 * (P : Int))) := (hc10 _ _ (by first | (simp; done) | (simp; omega))).trans (by go_simp)
      have x1 : w10.cell? ⟨w9.heap.size, 1, none⟩ = some (.int .i64 (r9 + 7 * (P : Int))) := (hc10 _ _ (by first | (simp; done) | (simp; omega))).trans (by go_simp)
      have x2 : w10.cell? ⟨w9.heap.size + 1, 0, none⟩ = some (.int .i64 (r8 + 7 * (P : Int) + (S : Int))) := (hc10 _ _ (by first | (simp; done) | (simp; omega))).trans (by go_simp)
      have x3 : w10.cell? ⟨w9.heap.size + 1, 1, none⟩ = some (.int .i64 (r9 + 7 * (P : Int))) := (hc10 _ _ (by first | (simp; done) | (simp; omega))).trans (by go_simp)
      have HB10 := Lib.hid hB10
      clear hb10 hc10 hf10 hB10 HC HB hBw eS
      go_wp2_with fail
      have HN2 := HN.out (w10.alloc (.cells #[.int .i64 r8, .int .i64 r9, .int .i64 (r8 + (F : Int)), .int .i64 r9, .int .i64 (r8 + (F : Int)), .int .i64 (r9 + (F : Int)), .int .i64 r8, .int .i64 (r9 + (F : Int))] 48))
      simp only [World.size_alloc] at HN2
      go_at_call 40
      with_reducible refine HN2.mono ?_
      clear HN2
      rintro e11 w11 ⟨rfl, hb11⟩
      have hq0 := heap_alloc_new w10 (.cells #[.int .i64 r8, .int .i64 r9, .int .i64 (r8 + (F : Int)), .int .i64 r9, .int .i64 (r8 + (F : Int)), .int .i64 (r9 + (F : Int)), .int .i64 r8, .int .i64 (r9 + (F : Int))] 48)
      have hs10 := HB10.out.size
      have hz0 : w10.heap.size < (w10.alloc (.cells #[.int .i64 r8, .int .i64 r9, .int .i64 (r8 + (F : Int)), .int .i64 r9, .int .i64 (r8 + (F : Int)), .int .i64 (r9 + (F : Int)), .int .i64 r8, .int .i64 (r9 + (F : Int))] 48)).heap.size := by rw [World.size_alloc]; omega
      have hq1 := blk_alloc (u := .cells #[.int .i64 17, .int .i64 21, .int .i64 25, .int .i64 29, .int .i64 33, .int .i64 37, .int .i64 41] 2) hq0 hz0
      have hz1 : w10.heap.size < ((w10.alloc (.cells #[.int .i64 r8, .int .i64 r9, .int .i64 (r8 + (F : Int)), .int .i64 r9, .int .i64 (r8 + (F : Int)), .int .i64 (r9 + (F : Int)), .int .i64 r8, .int .i64 (r9 + (F : Int))] 48)).alloc (.cells #[.int .i64 17, .int .i64 21, .int .i64 25, .int .i64 29, .int .i64 33, .int .i64 37, .int .i64 41] 2)).heap.size := by rw [World.size_alloc]; omega
      have hh := blk_below hq1 hb11 (by omega)
      obtain ⟨y0, y1, y2, y3, y4, y5, y6, y7, -⟩ := blk8 hh
      have hz11 : w10.heap.size < w11.heap.size := by have := hb11.size; omega
      have hBa : Below w.heap.size w10 ((w10.alloc (.cells #[.int .i64 r8, .int .i64 r9, .int .i64 (r8 + (F : Int)), .int .i64 r9, .int .i64 (r8 + (F : Int)), .int .i64 (r9 + (F : Int)), .int .i64 r8, .int .i64 (r9 + (F : Int))] 48)).alloc (.cells #[.int .i64 17, .int .i64 21, .int .i64 25, .int .i64 29, .int .i64 33, .int .i64 37, .int .i64 41] 2)) := ((Below.refl w.heap.size w10).alloc hs10 _).alloc (by rw [World.size_alloc]; omega) _
      have HB11 := Lib.hid (HB10.out.trans (hBa.trans (hb11.mono (by omega))))
      clear hBa hz0 hz1 hq0 hq1
      clear hb11 hh x0 x1 x2 x3 HN
      go_wp2_with fail
      go_ret
      exact ⟨by simp, HB11.out⟩
set_option maxRecDepth 100000 in
theorem lifted_FnCorners (os : Os) (started : os.Started) (H : Type) (enc : TypeId × Value → H) :
    ReturnsInHanded {} Try.checked os 11 .any (Rows.fnCornersSpec.pre6 enc Try.prog Try.f11 Rows.fnCornersRow.domain false) (Rows.fnCornersSpec.post enc Try.prog Try.f11 false true false false) := by
  refine law_lifted (C := Try.checked) (tb := 4) own started (by kernel_rfl) Try.func11
    (ChangeSpec.witness6 (enc := enc) (C := Try.checked) false ⟨#[], #[.slice none 0 0], []⟩ 8 (by kernel_rfl) (by kernel_rfl) (by kernel_rfl) (by kernel_rfl))
    laidOut (by kernel_rfl) rfl rfl Try.underlying4 ?_ ?_
  · intro ds hd
    match ds, hd with
    | [e0], _ => rfl
  · intro W base args ds p hval hA hlt hsz
    have hval1 : ∀ (j : Nat) t v, Try.f11.params[j]? = some t → args[j]? = some v → Value.okWide Try.prog W .any base t v := hval
    have hA1 : DataW.TrodAll enc Try.prog W 0 (fun _ => true) true Try.f11.params.toList args.toList ds p := hA
    have hsz1 : (DataW.weightsEach Try.prog Try.f11.params.toList ds).all (· ≤ reachBytes) = true := hsz
    rw [Try.params11] at hval1 hA1 hsz1
    clear hval hA hsz
    obtain ⟨v0, d0, rfl, rfl, h0⟩ := trodAll_one hA1
    obtain ⟨A, n, c, bs, rfl, hr, _⟩ := arg_bytes Try.underlying55 Try.underlying5 (by kernel_rfl) (hval1 0 55 v0 rfl rfl) h0 (fun x hx => hlt x (by simp [hx]))
    exact lawFnCorners A n c bs W hr
theorem holds_FnCorners : Rows.FnCornersSaid :=
  OpenClaim.holds_of_wide 11 Try.f11 rfl rfl rfl rfl rfl rfl rfl ⟨rfl, rfl, rfl, rfl, rfl⟩ rfl rfl rfl rfl rfl (by kernel_rfl) Try.func11 (by kernel_rfl)
    (of_decide_eq_true (by kernel_rfl)) (by unfold Func.isWrapper; first | (rw [if_pos (by decide +kernel)]; kernel_rfl) | (rw [if_neg (by decide +kernel)]; exact ⟨rfl, rfl⟩))
    (fun os started H enc _ => lifted_FnCorners os started H enc)

end Go.Proofs.Ytnhhbpdjapccpaa
