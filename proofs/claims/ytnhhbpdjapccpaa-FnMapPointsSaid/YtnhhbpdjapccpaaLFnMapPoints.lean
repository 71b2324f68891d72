/-
  The row FnMapPoints: a spot is the exact image of a point, rounded down, for every point that a code draws; no condition.
-/
import Derived.Test.YtnhhbpdjapccpaaArgB
import Derived.Test.YtnhhbpdjapccpaaDmp
import Derived.Test.YtnhhbpdjapccpaaC25P
import Derived.Test.YtnhhbpdjapccpaaC25S
namespace Go.Proofs.Ytnhhbpdjapccpaa
set_option linter.unusedSimpArgs false
open Go.ChangeShapes Go.WideShapes Go.ChangeAt Go.RowKit

theorem img_small {a b c u v n : Int} (ha : -10000000000000 ≤ a ∧ a ≤ 10000000000000) (hb : -10000000000000 ≤ b ∧ b ≤ 10000000000000) (hc : -10000000000000 ≤ c ∧ c ≤ 10000000000000)
    (hu : -100 ≤ u ∧ u ≤ 100) (hv : -100 ≤ v ∧ v ≤ 100) (hn : 0 ≤ n ∧ n ≤ 100001) : -((2000000000000000000 : Nat) : Int) ≤ imgI a b c u v n ∧ imgI a b c u v n ≤ ((2000000000000000000 : Nat) : Int) := by
  have h1 := mul_rg (a := a) (b := u) 10000000000000 100 (by omega) (by omega) (by omega) (by omega)
  have h2 := mul_rg (a := b) (b := v) 10000000000000 100 (by omega) (by omega) (by omega) (by omega)
  have h3 := mul_rg (a := c) (b := n) 10000000000000 100001 (by omega) (by omega) (by omega) (by omega)
  unfold imgI
  omega
/-- A number over a denominator, both without a common divisor, rounded down. -/
theorem mp_one {X Z : Int} {g : Nat} (hg : 0 < g) (hx : (g : Int) ∣ X) (hz : (g : Int) ∣ Z) (hZ : 0 < Z) (bx : -((2000000000000000000 : Nat) : Int) ≤ X ∧ X ≤ ((2000000000000000000 : Nat) : Int)) (bz : Z ≤ ((2000000000000000000 : Nat) : Int)) :
    0 < Z.tdiv g ∧ X / Z * Z.tdiv g ≤ X.tdiv g ∧ X.tdiv g < (X / Z + 1) * Z.tdiv g ∧ -5000000000000000000 ≤ X / Z * Z.tdiv g ∧ (X / Z + 1) * Z.tdiv g ≤ 5000000000000000000 ∧ Z.tdiv g ≤ 2000000000000000000 := by
  have hD : 0 < Z.tdiv g := by
    obtain ⟨k, rfl⟩ := hz
    rw [Int.mul_tdiv_cancel_left _ (by omega)]
    exact Int.pos_of_mul_pos_right hZ (by omega)
  rw [← div_common hg hx hz]
  have hP := tdiv_rg (b := (g : Int)) 2000000000000000000 bx.1 bx.2
  have hQ := tdiv_rg (a := Z) (b := (g : Int)) 2000000000000000000 (by omega) bz
  generalize X.tdiv g = P at *
  generalize Z.tdiv g = D at *
  have h1 := Int.ediv_mul_le P (show D ≠ 0 by omega)
  have h2 := Int.lt_ediv_add_one_mul_self P hD
  have h3 : (P / D + 1) * D = P / D * D + D := by rw [Int.add_mul, Int.one_mul]
  omega
theorem mp_fact {a b c d e f g h i u v n : Int} (hu : -100 ≤ u ∧ u ≤ 100) (hv : -100 ≤ v ∧ v ≤ 100) (hn : 0 ≤ n ∧ n ≤ 100001) (hk : codeB [a, b, c, d, e, f, g, h, i] u v n = 0)
    (hs : spotC (codeB [a, b, c, d, e, f, g, h, i] u v n) (imgI a b c u v n) (imgI d e f u v n) (imgI g h i u v n) = 0) :
    ∃ P Q D X Y : Int, ptQ 0 (imgI a b c u v n) (imgI a b c u v n) (imgI d e f u v n) (imgI g h i u v n) = P ∧ ptQ 0 (imgI d e f u v n) (imgI a b c u v n) (imgI d e f u v n) (imgI g h i u v n) = Q ∧ ptQ 0 (imgI g h i u v n) (imgI a b c u v n) (imgI d e f u v n) (imgI g h i u v n) = D ∧
      spotV 0 (imgI a b c u v n) (imgI d e f u v n) (imgI g h i u v n) (imgI a b c u v n) = X ∧ spotV 0 (imgI a b c u v n) (imgI d e f u v n) (imgI g h i u v n) (imgI d e f u v n) = Y ∧
      0 < D ∧ D ≤ 2000000000000000000 ∧ (X * D ≤ P ∧ P < (X + 1) * D ∧ -5000000000000000000 ≤ X * D ∧ (X + 1) * D ≤ 5000000000000000000) ∧ (Y * D ≤ Q ∧ Q < (Y + 1) * D ∧ -5000000000000000000 ≤ Y * D ∧ (Y + 1) * D ≤ 5000000000000000000) ∧ (-4000 ≤ X ∧ X ≤ 4000) ∧ (-4000 ≤ Y ∧ Y ≤ 4000) := by
  obtain ⟨hm, -, -, -, hZ⟩ := codeB_0 hk
  obtain ⟨a1, b1, c1, d1, e1, f1, g1, h1, i1, i2⟩ := map_rg hm
  have X := img_small a1 b1 c1 hu hv hn
  have Y := img_small d1 e1 f1 hu hv hn
  have Z := img_small g1 h1 ⟨by omega, i2⟩ hu hv hn
  rw [hk] at hs
  generalize imgI a b c u v n = x at *
  generalize imgI d e f u v n = y at *
  generalize imgI g h i u v n = w at *
  have hsp : spotB (x / w) (y / w) = true := by
    unfold spotC at hs
    rw [if_pos rfl] at hs
    cases e : spotB (x / w) (y / w)
    · rw [e] at hs; simp at hs
    · rfl
  have hg := gcd3_pos (x := x) (y := y) hZ
  obtain ⟨v1, v2, v3⟩ := gcd3_dvd (x := x) (y := y) (w := w)
  have A := mp_one hg v1 v3 hZ X Z.2
  have B := mp_one hg v2 v3 hZ Y Z.2
  have C := spotB_true hsp
  refine ⟨_, _, _, x / w, y / w, ptQ_0 rfl, ptQ_0 rfl, ptQ_0 rfl, ?_, ?_, A.1, A.2.2.2.2.2, ⟨A.2.1, A.2.2.1, A.2.2.2.1, A.2.2.2.2.1⟩, ⟨B.2.1, B.2.2.1, B.2.2.2.1, B.2.2.2.2.1⟩, ⟨C.1, C.2.1⟩, ⟨C.2.2.1, C.2.2.2⟩⟩
  · unfold spotV; rw [if_pos rfl, hsp, if_pos rfl]
  · unfold spotV; rw [if_pos rfl, hsp, if_pos rfl]
theorem mp_w {X D : Int} (d1 : 0 < D) (d2 : D ≤ 2000000000000000000) (h1 : -5000000000000000000 ≤ X * D) (h2 : (X + 1) * D ≤ 5000000000000000000) : IntKind.i64.wrap (X * D) = X * D ∧ IntKind.i64.wrap ((X + 1) * D) = (X + 1) * D := by
  have h3 : (X + 1) * D = X * D + D := by rw [Int.add_mul, Int.one_mul]
  rw [IntKind.wrap_i64, IntKind.wrap_i64]
  omega
set_option maxRecDepth 20000 in
set_option maxHeartbeats 8000000 in
theorem lawFnMapPoints (A : Option Addr) (n c : Nat) (bs : List Int) (w : World) (hr : RB w w.heap.size A n bs) :
    Calls Try.prog 10 #[.slice A n c] w fun e' w' => e' = .returned (.bool true) ∧ Below w.heap.size w w' := by
  have HR := Lib.hid hr
  clear hr
  by_cases hbig : 4096 < n
  · have hbd : decide (4096 < n) = true := decide_eq_true hbig
    go_enter Try.func10, Try.ntmps10
    go_wp2_with (go_at_call 32; go_call (big_any _ _ _ _) as e0 w0 ⟨rfl, hb0⟩; obtain ⟨hc0, hf0⟩ := bcell hb0; have hB0 : Below w.heap.size w w0 := (below_then (by first | (go_grown; done) | (repeat (first | (with_reducible assumption) | (with_reducible exact Below.refl _ _) | (with_reducible refine below_drewN' ?_ _) | (with_reducible refine Below.drew ?_) | ((with_reducible refine Below.alloc ?_ ?_ _); rotate_left; focus (first | (simp; done) | (simp; omega) | omega)) | ((with_reducible refine Below.setCell ?_ ?_ _); rotate_left; focus (first | (simp; done) | (simp; omega) | omega))))) (by first | omega | (simp; done) | (simp; omega)) hb0))
    go_ret
    exact ⟨rfl, by (repeat (first | (with_reducible assumption) | (with_reducible exact Below.refl _ _) | (with_reducible refine below_drewN' ?_ _) | (with_reducible refine Below.drew ?_) | ((with_reducible refine Below.alloc ?_ ?_ _); rotate_left; focus (first | (simp; done) | (simp; omega) | omega)) | ((with_reducible refine Below.setCell ?_ ?_ _); rotate_left; focus (first | (simp; done) | (simp; omega) | omega))))⟩
  · have hbd : decide (4096 < n) = false := decide_eq_false hbig
    have HD := Lib.hid (fun (w' : World) (hb : Below w.heap.size w w') => DrawMapPoint_any A n c bs w.heap.size w' (HR.out.below hb) hb.size (by omega))
    go_enter Try.func10, Try.ntmps10
    go_wp2_with first | (go_at_call 32; go_call (big_any _ _ _ _) as e0 w0 ⟨rfl, hb0⟩; obtain ⟨hc0, hf0⟩ := bcell hb0; have hB0 : Below w.heap.size w w0 := (below_then (by first | (go_grown; done) | (repeat (first | (with_reducible assumption) | (with_reducible exact Below.refl _ _) | (with_reducible refine below_drewN' ?_ _) | (with_reducible refine Below.drew ?_) | ((with_reducible refine Below.alloc ?_ ?_ _); rotate_left; focus (first | (simp; done) | (simp; omega) | omega)) | ((with_reducible refine Below.setCell ?_ ?_ _); rotate_left; focus (first | (simp; done) | (simp; omega) | omega))))) (by first | omega | (simp; done) | (simp; omega)) hb0))
    go_at_call 33
    with_reducible refine (HD.out _ hB0).mono ?_
    rintro e1 w1 ⟨u1, rfl, ⟨x0, x1, x2, x3, x4, x5, x6, x7, x8, u, v, m, rfl, hu1, hu2, hv1, hv2, hm1, hm2⟩, hb1⟩
    have HB1 := Lib.hid (hB0.trans (hb1.mono hB0.size))
    have hs1 := HB1.out.size
    have hBq := HB1.out
    have P1 := fun w => MapPoint_any x0 x1 x2 x3 x4 x5 x6 x7 x8 u v m w
    have P2 := fun w => sMapPoint_any x0 x1 x2 x3 x4 x5 x6 x7 x8 u v m w
    have P3 := fun w => MapSpot_any x0 x1 x2 x3 x4 x5 x6 x7 x8 u v m w
    have P4 := fun w => sMapSpot_any x0 x1 x2 x3 x4 x5 x6 x7 x8 u v m w
    have HF := Lib.hid (fun hk hs => mp_fact (a := x0) (b := x1) (c := x2) (d := x3) (e := x4) (f := x5) (g := x6) (h := x7) (i := x8) (u := u) (v := v) (n := m) ⟨hu1, hu2⟩ ⟨hv1, hv2⟩ ⟨hm1, hm2⟩ hk hs)
    generalize codeB [x0, x1, x2, x3, x4, x5, x6, x7, x8] u v m = K at P1 P2 P3 P4 HF
    generalize imgI x0 x1 x2 u v m = X at P1 P2 P3 P4 HF
    generalize imgI x3 x4 x5 u v m = Y at P1 P2 P3 P4 HF
    generalize imgI x6 x7 x8 u v m = Z at P1 P2 P3 P4 HF
    have HM1 := Lib.hid (heap_alloc_new w1 (.cells #[.int .i64 x0, .int .i64 x1, .int .i64 x2, .int .i64 x3, .int .i64 x4, .int .i64 x5, .int .i64 x6, .int .i64 x7, .int .i64 x8] 31))
    clear hb0 hb1 hB0 hc0 hf0
    obtain ⟨CS, hCS⟩ : ∃ CS, spotC K X Y Z = CS := ⟨_, rfl⟩
    rw [hCS] at P3 P4 HF
    clear hCS
    have hkk : (K != K) = false := by simp
    have hcc : (CS != CS) = false := by simp
    by_cases hgood : K = 0 ∧ CS = 0
    · obtain ⟨hK, hC⟩ := hgood
      obtain ⟨P, Q, D, SX, SY, e1, e2, e3, e4, e5, d1, d2, ⟨p1, p2, p3, p4⟩, ⟨q1, q2, q3, q4⟩, ⟨sx1, sx2⟩, ⟨sy1, sy2⟩⟩ := HF.out hK hC
      subst hK hC
      rw [e1, e2, e3] at P1 P2
      rw [e4, e5] at P3 P4
      have HP1 := Lib.hid P1
      have HP2 := Lib.hid P2
      have HP3 := Lib.hid P3
      have HP4 := Lib.hid P4
      obtain ⟨f1, f2⟩ := mp_w d1 d2 p3 p4
      obtain ⟨f3, f4⟩ := mp_w d1 d2 q3 q4
      have n1 : (P != P) = false := by simp
      have n2 : (Q != Q) = false := by simp
      have n3 : (D != D) = false := by simp
      have n4 : (SX != SX) = false := by simp
      have n5 : (SY != SY) = false := by simp
      clear P1 P2 P3 P4 HF e1 e2 e3 e4 e5 hu1 hu2 hv1 hv2 hm1 hm2 p3 p4 q3 q4
      go_wp2_with fail
      (go_at_call 21; go_call (HP1.out _) as e2 w2 ⟨rfl, hb2⟩; obtain ⟨hc2, hf2⟩ := bcell hb2; have hB2 : Below w.heap.size w w2 := (below_then (by first | (go_grown; done) | (repeat (first | (with_reducible assumption) | (with_reducible exact Below.refl _ _) | (with_reducible refine below_drewN' ?_ _) | (with_reducible refine Below.drew ?_) | ((with_reducible refine Below.alloc ?_ ?_ _); rotate_left; focus (first | (simp; done) | (simp; omega) | omega)) | ((with_reducible refine Below.setCell ?_ ?_ _); rotate_left; focus (first | (simp; done) | (simp; omega) | omega))))) (by first | omega | (simp; done) | (simp; omega)) hb2); have hz2a : w.heap.size < w2.heap.size := (by have := hb2.size; first | omega | (simp at this; omega)); have hz2b : w1.heap.size < w2.heap.size := (by have := hb2.size; first | omega | (simp at this; omega)))
      go_wp2_with fail
      (go_at_call 20; go_call (HP2.out _) as e3 w3 ⟨rfl, hb3⟩; obtain ⟨hc3, hf3⟩ := bcell hb3; have hB3 : Below w.heap.size w w3 := (below_then (by first | (go_grown; done) | (repeat (first | (with_reducible assumption) | (with_reducible exact Below.refl _ _) | (with_reducible refine below_drewN' ?_ _) | (with_reducible refine Below.drew ?_) | ((with_reducible refine Below.alloc ?_ ?_ _); rotate_left; focus (first | (simp; done) | (simp; omega) | omega)) | ((with_reducible refine Below.setCell ?_ ?_ _); rotate_left; focus (first | (simp; done) | (simp; omega) | omega))))) (by first | omega | (simp; done) | (simp; omega)) hb3); have hz3a : w.heap.size < w3.heap.size := (by have := hb3.size; first | omega | (simp at this; omega)); have hz3b : w1.heap.size < w3.heap.size := (by have := hb3.size; first | omega | (simp at this; omega)))
      go_wp2_with fail
      (go_at_call 23; go_call (HP3.out _) as e4 w4 ⟨rfl, hb4⟩; obtain ⟨hc4, hf4⟩ := bcell hb4; have hB4 : Below w.heap.size w w4 := (below_then (by first | (go_grown; done) | (repeat (first | (with_reducible assumption) | (with_reducible exact Below.refl _ _) | (with_reducible refine below_drewN' ?_ _) | (with_reducible refine Below.drew ?_) | ((with_reducible refine Below.alloc ?_ ?_ _); rotate_left; focus (first | (simp; done) | (simp; omega) | omega)) | ((with_reducible refine Below.setCell ?_ ?_ _); rotate_left; focus (first | (simp; done) | (simp; omega) | omega))))) (by first | omega | (simp; done) | (simp; omega)) hb4); have hz4a : w.heap.size < w4.heap.size := (by have := hb4.size; first | omega | (simp at this; omega)); have hz4b : w1.heap.size < w4.heap.size := (by have := hb4.size; first | omega | (simp at this; omega)))
      go_wp2_with fail
      (go_at_call 22; go_call (HP4.out _) as e5 w5 ⟨rfl, hb5⟩; obtain ⟨hc5, hf5⟩ := bcell hb5; have hB5 : Below w.heap.size w w5 := (below_then (by first | (go_grown; done) | (repeat (first | (with_reducible assumption) | (with_reducible exact Below.refl _ _) | (with_reducible refine below_drewN' ?_ _) | (with_reducible refine Below.drew ?_) | ((with_reducible refine Below.alloc ?_ ?_ _); rotate_left; focus (first | (simp; done) | (simp; omega) | omega)) | ((with_reducible refine Below.setCell ?_ ?_ _); rotate_left; focus (first | (simp; done) | (simp; omega) | omega))))) (by first | omega | (simp; done) | (simp; omega)) hb5); have hz5a : w.heap.size < w5.heap.size := (by have := hb5.size; first | omega | (simp at this; omega)); have hz5b : w1.heap.size < w5.heap.size := (by have := hb5.size; first | omega | (simp at this; omega)); have hz5c : w4.heap.size < w5.heap.size := (by have := hb5.size; first | omega | (simp at this; omega)))
      go_wp2_with fail
      go_ret
      exact ⟨by simp, by (repeat (first | (with_reducible assumption) | (with_reducible exact Below.refl _ _) | (with_reducible refine below_drewN' ?_ _) | (with_reducible refine Below.drew ?_) | ((with_reducible refine Below.alloc ?_ ?_ _); rotate_left; focus (first | (simp; done) | (simp; omega) | omega)) | ((with_reducible refine Below.setCell ?_ ?_ _); rotate_left; focus (first | (simp; done) | (simp; omega) | omega))))⟩
    · have hb : (K != 0 || CS != 0) = true := by
        by_cases h0 : K = 0
        · have : CS ≠ 0 := fun h => hgood ⟨h0, h⟩
          simp [this]
        · simp [h0]
      generalize ptQ K X X Y Z = P at P1 P2
      generalize ptQ K Y X Y Z = Q at P1 P2
      generalize ptQ K Z X Y Z = D at P1 P2
      generalize spotV K X Y Z X = SX at P3 P4
      generalize spotV K X Y Z Y = SY at P3 P4
      have HP1 := Lib.hid P1
      have HP2 := Lib.hid P2
      have HP3 := Lib.hid P3
      have HP4 := Lib.hid P4
      have n1 : (P != P) = false := by simp
      have n2 : (Q != Q) = false := by simp
      have n3 : (D != D) = false := by simp
      have n4 : (SX != SX) = false := by simp
      have n5 : (SY != SY) = false := by simp
      have HG := Lib.hid hgood
      clear P1 P2 P3 P4 HF hgood hb hu1 hu2 hv1 hv2 hm1 hm2
      by_cases hK : K = 0
      · have hC : ¬ CS = 0 := fun h => HG.out ⟨hK, h⟩
        have hC' : (CS != 0) = true := by simpa using hC
        have hK' : (K != 0) = false := by simpa using hK
        go_wp2_with fail
        (go_at_call 21; go_call (HP1.out _) as e2 w2 ⟨rfl, hb2⟩; obtain ⟨hc2, hf2⟩ := bcell hb2; have hB2 : Below w.heap.size w w2 := (below_then (by first | (go_grown; done) | (repeat (first | (with_reducible assumption) | (with_reducible exact Below.refl _ _) | (with_reducible refine below_drewN' ?_ _) | (with_reducible refine Below.drew ?_) | ((with_reducible refine Below.alloc ?_ ?_ _); rotate_left; focus (first | (simp; done) | (simp; omega) | omega)) | ((with_reducible refine Below.setCell ?_ ?_ _); rotate_left; focus (first | (simp; done) | (simp; omega) | omega))))) (by first | omega | (simp; done) | (simp; omega)) hb2); have hz2a : w.heap.size < w2.heap.size := (by have := hb2.size; first | omega | (simp at this; omega)); have hz2b : w1.heap.size < w2.heap.size := (by have := hb2.size; first | omega | (simp at this; omega)))
        go_wp2_with fail
        (go_at_call 20; go_call (HP2.out _) as e3 w3 ⟨rfl, hb3⟩; obtain ⟨hc3, hf3⟩ := bcell hb3; have hB3 : Below w.heap.size w w3 := (below_then (by first | (go_grown; done) | (repeat (first | (with_reducible assumption) | (with_reducible exact Below.refl _ _) | (with_reducible refine below_drewN' ?_ _) | (with_reducible refine Below.drew ?_) | ((with_reducible refine Below.alloc ?_ ?_ _); rotate_left; focus (first | (simp; done) | (simp; omega) | omega)) | ((with_reducible refine Below.setCell ?_ ?_ _); rotate_left; focus (first | (simp; done) | (simp; omega) | omega))))) (by first | omega | (simp; done) | (simp; omega)) hb3); have hz3a : w.heap.size < w3.heap.size := (by have := hb3.size; first | omega | (simp at this; omega)); have hz3b : w1.heap.size < w3.heap.size := (by have := hb3.size; first | omega | (simp at this; omega)))
        go_wp2_with fail
        (go_at_call 23; go_call (HP3.out _) as e4 w4 ⟨rfl, hb4⟩; obtain ⟨hc4, hf4⟩ := bcell hb4; have hB4 : Below w.heap.size w w4 := (below_then (by first | (go_grown; done) | (repeat (first | (with_reducible assumption) | (with_reducible exact Below.refl _ _) | (with_reducible refine below_drewN' ?_ _) | (with_reducible refine Below.drew ?_) | ((with_reducible refine Below.alloc ?_ ?_ _); rotate_left; focus (first | (simp; done) | (simp; omega) | omega)) | ((with_reducible refine Below.setCell ?_ ?_ _); rotate_left; focus (first | (simp; done) | (simp; omega) | omega))))) (by first | omega | (simp; done) | (simp; omega)) hb4); have hz4a : w.heap.size < w4.heap.size := (by have := hb4.size; first | omega | (simp at this; omega)); have hz4b : w1.heap.size < w4.heap.size := (by have := hb4.size; first | omega | (simp at this; omega)))
        go_wp2_with fail
        (go_at_call 22; go_call (HP4.out _) as e5 w5 ⟨rfl, hb5⟩; obtain ⟨hc5, hf5⟩ := bcell hb5; have hB5 : Below w.heap.size w w5 := (below_then (by first | (go_grown; done) | (repeat (first | (with_reducible assumption) | (with_reducible exact Below.refl _ _) | (with_reducible refine below_drewN' ?_ _) | (with_reducible refine Below.drew ?_) | ((with_reducible refine Below.alloc ?_ ?_ _); rotate_left; focus (first | (simp; done) | (simp; omega) | omega)) | ((with_reducible refine Below.setCell ?_ ?_ _); rotate_left; focus (first | (simp; done) | (simp; omega) | omega))))) (by first | omega | (simp; done) | (simp; omega)) hb5); have hz5a : w.heap.size < w5.heap.size := (by have := hb5.size; first | omega | (simp at this; omega)); have hz5b : w1.heap.size < w5.heap.size := (by have := hb5.size; first | omega | (simp at this; omega)); have hz5c : w4.heap.size < w5.heap.size := (by have := hb5.size; first | omega | (simp at this; omega)))
        go_wp2_with fail
        go_ret
        exact ⟨by simp, by (repeat (first | (with_reducible assumption) | (with_reducible exact Below.refl _ _) | (with_reducible refine below_drewN' ?_ _) | (with_reducible refine Below.drew ?_) | ((with_reducible refine Below.alloc ?_ ?_ _); rotate_left; focus (first | (simp; done) | (simp; omega) | omega)) | ((with_reducible refine Below.setCell ?_ ?_ _); rotate_left; focus (first | (simp; done) | (simp; omega) | omega))))⟩
      · have hK' : (K != 0) = true := by simpa using hK
        go_wp2_with fail
        (go_at_call 21; go_call (HP1.out _) as e2 w2 ⟨rfl, hb2⟩; obtain ⟨hc2, hf2⟩ := bcell hb2; have hB2 : Below w.heap.size w w2 := (below_then (by first | (go_grown; done) | (repeat (first | (with_reducible assumption) | (with_reducible exact Below.refl _ _) | (with_reducible refine below_drewN' ?_ _) | (with_reducible refine Below.drew ?_) | ((with_reducible refine Below.alloc ?_ ?_ _); rotate_left; focus (first | (simp; done) | (simp; omega) | omega)) | ((with_reducible refine Below.setCell ?_ ?_ _); rotate_left; focus (first | (simp; done) | (simp; omega) | omega))))) (by first | omega | (simp; done) | (simp; omega)) hb2); have hz2a : w.heap.size < w2.heap.size := (by have := hb2.size; first | omega | (simp at this; omega)); have hz2b : w1.heap.size < w2.heap.size := (by have := hb2.size; first | omega | (simp at this; omega)))
        go_wp2_with fail
        (go_at_call 20; go_call (HP2.out _) as e3 w3 ⟨rfl, hb3⟩; obtain ⟨hc3, hf3⟩ := bcell hb3; have hB3 : Below w.heap.size w w3 := (below_then (by first | (go_grown; done) | (repeat (first | (with_reducible assumption) | (with_reducible exact Below.refl _ _) | (with_reducible refine below_drewN' ?_ _) | (with_reducible refine Below.drew ?_) | ((with_reducible refine Below.alloc ?_ ?_ _); rotate_left; focus (first | (simp; done) | (simp; omega) | omega)) | ((with_reducible refine Below.setCell ?_ ?_ _); rotate_left; focus (first | (simp; done) | (simp; omega) | omega))))) (by first | omega | (simp; done) | (simp; omega)) hb3); have hz3a : w.heap.size < w3.heap.size := (by have := hb3.size; first | omega | (simp at this; omega)); have hz3b : w1.heap.size < w3.heap.size := (by have := hb3.size; first | omega | (simp at this; omega)))
        go_wp2_with fail
        (go_at_call 23; go_call (HP3.out _) as e4 w4 ⟨rfl, hb4⟩; obtain ⟨hc4, hf4⟩ := bcell hb4; have hB4 : Below w.heap.size w w4 := (below_then (by first | (go_grown; done) | (repeat (first | (with_reducible assumption) | (with_reducible exact Below.refl _ _) | (with_reducible refine below_drewN' ?_ _) | (with_reducible refine Below.drew ?_) | ((with_reducible refine Below.alloc ?_ ?_ _); rotate_left; focus (first | (simp; done) | (simp; omega) | omega)) | ((with_reducible refine Below.setCell ?_ ?_ _); rotate_left; focus (first | (simp; done) | (simp; omega) | omega))))) (by first | omega | (simp; done) | (simp; omega)) hb4); have hz4a : w.heap.size < w4.heap.size := (by have := hb4.size; first | omega | (simp at this; omega)); have hz4b : w1.heap.size < w4.heap.size := (by have := hb4.size; first | omega | (simp at this; omega)))
        go_wp2_with fail
        (go_at_call 22; go_call (HP4.out _) as e5 w5 ⟨rfl, hb5⟩; obtain ⟨hc5, hf5⟩ := bcell hb5; have hB5 : Below w.heap.size w w5 := (below_then (by first | (go_grown; done) | (repeat (first | (with_reducible assumption) | (with_reducible exact Below.refl _ _) | (with_reducible refine below_drewN' ?_ _) | (with_reducible refine Below.drew ?_) | ((with_reducible refine Below.alloc ?_ ?_ _); rotate_left; focus (first | (simp; done) | (simp; omega) | omega)) | ((with_reducible refine Below.setCell ?_ ?_ _); rotate_left; focus (first | (simp; done) | (simp; omega) | omega))))) (by first | omega | (simp; done) | (simp; omega)) hb5); have hz5a : w.heap.size < w5.heap.size := (by have := hb5.size; first | omega | (simp at this; omega)); have hz5b : w1.heap.size < w5.heap.size := (by have := hb5.size; first | omega | (simp at this; omega)); have hz5c : w4.heap.size < w5.heap.size := (by have := hb5.size; first | omega | (simp at this; omega)))
        go_wp2_with fail
        go_ret
        exact ⟨by simp, by (repeat (first | (with_reducible assumption) | (with_reducible exact Below.refl _ _) | (with_reducible refine below_drewN' ?_ _) | (with_reducible refine Below.drew ?_) | ((with_reducible refine Below.alloc ?_ ?_ _); rotate_left; focus (first | (simp; done) | (simp; omega) | omega)) | ((with_reducible refine Below.setCell ?_ ?_ _); rotate_left; focus (first | (simp; done) | (simp; omega) | omega))))⟩
set_option maxRecDepth 100000 in
theorem lifted_FnMapPoints (os : Os) (started : os.Started) (H : Type) (enc : TypeId × Value → H) :
    ReturnsInHanded {} Try.checked os 10 .any (Rows.fnMapPointsSpec.pre6 enc Try.prog Try.f10 Rows.fnMapPointsRow.domain false) (Rows.fnMapPointsSpec.post enc Try.prog Try.f10 false true false false) := by
  refine law_lifted (C := Try.checked) (tb := 4) own started (by kernel_rfl) Try.func10
    (ChangeSpec.witness6 (enc := enc) (C := Try.checked) false ⟨#[], #[.slice none 0 0], []⟩ 8 (by kernel_rfl) (by kernel_rfl) (by kernel_rfl) (by kernel_rfl))
    laidOut (by kernel_rfl) rfl rfl Try.underlying4 ?_ ?_
  · intro ds hd
    match ds, hd with
    | [e0], _ => rfl
  · intro W base args ds p hval hA hlt hsz
    have hval1 : ∀ (j : Nat) t v, Try.f10.params[j]? = some t → args[j]? = some v → Value.okWide Try.prog W .any base t v := hval
    have hA1 : DataW.TrodAll enc Try.prog W 0 (fun _ => true) true Try.f10.params.toList args.toList ds p := hA
    have hsz1 : (DataW.weightsEach Try.prog Try.f10.params.toList ds).all (· ≤ reachBytes) = true := hsz
    rw [Try.params10] at hval1 hA1 hsz1
    clear hval hA hsz
    obtain ⟨v0, d0, rfl, rfl, h0⟩ := trodAll_one hA1
    obtain ⟨A, n, c, bs, rfl, hr, _⟩ := arg_bytes Try.underlying55 Try.underlying5 (by kernel_rfl) (hval1 0 55 v0 rfl rfl) h0 (fun x hx => hlt x (by simp [hx]))
    exact lawFnMapPoints A n c bs W hr
theorem holds_FnMapPoints : Rows.FnMapPointsSaid :=
  OpenClaim.holds_of_wide 10 Try.f10 rfl rfl rfl rfl rfl rfl rfl ⟨rfl, rfl, rfl, rfl, rfl⟩ rfl rfl rfl rfl rfl (by kernel_rfl) Try.func10 (by kernel_rfl)
    (of_decide_eq_true (by kernel_rfl)) (by unfold Func.isWrapper; first | (rw [if_pos (by decide +kernel)]; kernel_rfl) | (rw [if_neg (by decide +kernel)]; exact ⟨rfl, rfl⟩))
    (fun os started H enc _ => lifted_FnMapPoints os started H enc)

end Go.Proofs.Ytnhhbpdjapccpaa
