/-
  Contracts of chapter 25: the image of a point.
-/
import Derived.Test.YtnhhbpdjapccpaaC25
import Derived.Test.YtnhhbpdjapccpaaC24
import Derived.Test.YtnhhbpdjapccpaaReduce
namespace Go.Proofs.Ytnhhbpdjapccpaa
open Go.RowKit

/-- What holds of the entries of a valid map. -/
theorem map_rg {a b c d e f g h i : Int} (hm : isMapB [a, b, c, d, e, f, g, h, i] = true) :
    (-10000000000000 ≤ a ∧ a ≤ 10000000000000) ∧ (-10000000000000 ≤ b ∧ b ≤ 10000000000000) ∧ (-10000000000000 ≤ c ∧ c ≤ 10000000000000) ∧ (-10000000000000 ≤ d ∧ d ≤ 10000000000000) ∧ (-10000000000000 ≤ e ∧ e ≤ 10000000000000) ∧ (-10000000000000 ≤ f ∧ f ≤ 10000000000000) ∧ (-10000000000000 ≤ g ∧ g ≤ 10000000000000) ∧ (-10000000000000 ≤ h ∧ h ≤ 10000000000000) ∧ (0 < i ∧ i ≤ 10000000000000) := by
  unfold isMapB at hm
  rw [Bool.and_eq_true, Bool.and_eq_true] at hm
  obtain ⟨⟨h1, h2⟩, _⟩ := hm
  have hi : 0 < i := by simpa [nth] using h2
  have m : ∀ x ∈ [a, b, c, d, e, f, g, h, i], -10000000000000 ≤ x ∧ x ≤ 10000000000000 := fun x hx => inAll_mem h1 hx
  refine ⟨m a (by simp), m b (by simp), m c (by simp), m d (by simp), m e (by simp), m f (by simp), m g (by simp), m h (by simp), hi, (m i (by simp)).2⟩

/-- The code of a map and a point. -/
def codeB (xs : List Int) (u v n : Int) : Int :=
  if isMapB xs then (if inR n 1 100000 && inR u (-n) (2 * n) && inR v (-n) (2 * n) then (if imgI (nth xs 6) (nth xs 7) (nth xs 8) u v n ≤ 0 then 5 else 0) else 2) else 1

theorem codeB_1 {xs : List Int} {u v n : Int} (h : isMapB xs = false) : codeB xs u v n = 1 := by unfold codeB; rw [h]; rfl
theorem codeB_2 {xs : List Int} {u v n : Int} (h : isMapB xs = true) (h' : (inR n 1 100000 && inR u (-n) (2 * n) && inR v (-n) (2 * n)) = false) : codeB xs u v n = 2 := by unfold codeB; rw [h, h']; rfl
theorem codeB_3 {xs : List Int} {u v n : Int} (h : isMapB xs = true) (h' : (inR n 1 100000 && inR u (-n) (2 * n) && inR v (-n) (2 * n)) = true) : codeB xs u v n = if imgI (nth xs 6) (nth xs 7) (nth xs 8) u v n ≤ 0 then 5 else 0 := by unfold codeB; rw [h, h']; rfl

set_option maxHeartbeats 1000000 in
theorem image_any (a b c d e f g h i u v n : Int) (w : World) (hm : isMapB [a, b, c, d, e, f, g, h, i] = true)
    (hu : -200000 ≤ u) (hu' : u ≤ 200000) (hv : -200000 ≤ v) (hv' : v ≤ 200000) (hn : -100000 ≤ n) (hn' : n ≤ 100000) :
    Calls Try.prog 50 #[.agg #[.int .i64 a, .int .i64 b, .int .i64 c, .int .i64 d, .int .i64 e, .int .i64 f, .int .i64 g, .int .i64 h, .int .i64 i], .int .i64 u, .int .i64 v, .int .i64 n] w fun e' w' =>
      e' = .returned (.tuple #[.int .i64 (imgI a b c u v n), .int .i64 (imgI d e f u v n), .int .i64 (imgI g h i u v n)]) ∧ Below w.heap.size w w' := by
  obtain ⟨⟨a1, a2⟩, ⟨b1, b2⟩, ⟨c1, c2⟩, ⟨d1, d2⟩, ⟨e1, e2⟩, ⟨f1, f2⟩, ⟨g1, g2⟩, ⟨h1, h2⟩, i1, i2⟩ := map_rg hm
  have X := imgI_rg a1 a2 b1 b2 c1 c2 hu hu' hv hv' hn hn'
  have Y := imgI_rg d1 d2 e1 e2 f1 f2 hu hu' hv hv' hn hn'
  have Z := imgI_rg g1 g2 h1 h2 (by omega) i2 hu hu' hv hv' hn hn'
  obtain ⟨⟨x1, x2⟩, ⟨x3, x4⟩, x5, x6⟩ := X
  obtain ⟨⟨y1, y2⟩, ⟨y3, y4⟩, y5, y6⟩ := Y
  obtain ⟨⟨z1, z2⟩, ⟨z3, z4⟩, z5, z6⟩ := Z
  clear hm a1 a2 b1 b2 c1 c2 d1 d2 e1 e2 f1 f2 g1 g2 h1 h2 i1 i2 hu hu' hv hv' hn hn'
  go_enter Try.func50, Try.ntmps50
  go_wp2_with fail
  go_quiet (fail)
  go_wp2
  go_returns
  exact ⟨rfl, below_drewN' (by go_grown) _⟩
set_option maxRecDepth 100000 in
set_option maxHeartbeats 1000000 in
theorem l25At_any (a b c d e f g h i u v n : Int) (w : World) (hm : isMapB [a, b, c, d, e, f, g, h, i] = true)
    (hu : -200000 ≤ u) (hu' : u ≤ 200000) (hv : -200000 ≤ v) (hv' : v ≤ 200000) (hn : -100000 ≤ n) (hn' : n ≤ 100000) :
    Calls Try.prog 48 #[.agg #[.int .i64 a, .int .i64 b, .int .i64 c, .int .i64 d, .int .i64 e, .int .i64 f, .int .i64 g, .int .i64 h, .int .i64 i], .int .i64 u, .int .i64 v, .int .i64 n] w fun e' w' =>
      e' = .returned (.tuple #[.int .i64 ((imgI a b c u v n).tdiv (gcdL [imgI a b c u v n, imgI d e f u v n, imgI g h i u v n])), .int .i64 ((imgI d e f u v n).tdiv (gcdL [imgI a b c u v n, imgI d e f u v n, imgI g h i u v n])), .int .i64 ((imgI g h i u v n).tdiv (gcdL [imgI a b c u v n, imgI d e f u v n, imgI g h i u v n]))]) ∧ Below w.heap.size w w' := by
  obtain ⟨⟨a1, a2⟩, ⟨b1, b2⟩, ⟨c1, c2⟩, ⟨d1, d2⟩, ⟨e1, e2⟩, ⟨f1, f2⟩, ⟨g1, g2⟩, ⟨h1, h2⟩, i1, i2⟩ := map_rg hm
  have X := imgI_rg a1 a2 b1 b2 c1 c2 hu hu' hv hv' hn hn'
  have Y := imgI_rg d1 d2 e1 e2 f1 f2 hu hu' hv hv' hn hn'
  have Z := imgI_rg g1 g2 h1 h2 (by omega) i2 hu hu' hv hv' hn hn'
  obtain ⟨⟨x1, x2⟩, ⟨x3, x4⟩, x5, x6⟩ := X
  obtain ⟨⟨y1, y2⟩, ⟨y3, y4⟩, y5, y6⟩ := Y
  obtain ⟨⟨z1, z2⟩, ⟨z3, z4⟩, z5, z6⟩ := Z
  clear hm a1 a2 b1 b2 c1 c2 d1 d2 e1 e2 f1 f2 g1 g2 h1 h2 i1 i2 hu hu' hv hv' hn hn'
  have X0 : -5000000000000000000 ≤ imgI a b c u v n ∧ imgI a b c u v n ≤ 5000000000000000000 := by unfold imgI; omega
  have Y0 : -5000000000000000000 ≤ imgI d e f u v n ∧ imgI d e f u v n ≤ 5000000000000000000 := by unfold imgI; omega
  have Z0 : -5000000000000000000 ≤ imgI g h i u v n ∧ imgI g h i u v n ≤ 5000000000000000000 := by unfold imgI; omega
  obtain ⟨xs, hxs⟩ : ∃ xs, xs = [imgI a b c u v n, imgI d e f u v n, imgI g h i u v n] := ⟨_, rfl⟩
  have hxl : xs.length = 3 := by rw [hxs]; rfl
  have hbd : ∀ x ∈ xs, x.natAbs ≤ 9223372036854775807 := by
    intro x hx; rw [hxs] at hx; simp at hx; rcases hx with rfl | rfl | rfl <;> omega
  have hgb : gcdL xs ≤ 9223372036854775807 := gcdL_le xs hbd
  have QX := tdiv_rg (b := (gcdL xs : Int)) 5000000000000000000 (by omega) (by omega) (a := imgI a b c u v n)
  have QY := tdiv_rg (b := (gcdL xs : Int)) 5000000000000000000 (by omega) (by omega) (a := imgI d e f u v n)
  have QZ := tdiv_rg (b := (gcdL xs : Int)) 5000000000000000000 (by omega) (by omega) (a := imgI g h i u v n)
  obtain ⟨X, hX⟩ : ∃ X, X = imgI a b c u v n := ⟨_, rfl⟩
  obtain ⟨Y, hY⟩ : ∃ X, X = imgI d e f u v n := ⟨_, rfl⟩
  obtain ⟨Z, hZ⟩ : ∃ X, X = imgI g h i u v n := ⟨_, rfl⟩
  rw [← hxs]
  rw [← hX] at X0 QX hxs
  rw [← hY] at Y0 QY hxs
  rw [← hZ] at Z0 QZ hxs
  rw [← hX, ← hY, ← hZ]
  have HXS := Lib.hid hxs
  have HX := Lib.hid (show a * u + b * v + c * n = X from hX.symm)
  have HY := Lib.hid (show d * u + e * v + f * n = Y from hY.symm)
  have HZ := Lib.hid (show g * u + h * v + i * n = Z from hZ.symm)
  have HB := Lib.hid hbd
  have HL := Lib.hid hxl
  clear hxs hX hY hZ hbd hxl
  obtain ⟨X1, X2⟩ := X0
  obtain ⟨Y1, Y2⟩ := Y0
  obtain ⟨Z1, Z2⟩ := Z0
  obtain ⟨QX1, QX2⟩ := QX
  obtain ⟨QY1, QY2⟩ := QY
  obtain ⟨QZ1, QZ2⟩ := QZ
  go_enter Try.func48, Try.ntmps48
  go_wp2_with fail
  go_quiet (fail)
  simp only [HX.out, HY.out, HZ.out]
  clear x1 x2 x3 x4 x5 x6 y1 y2 y3 y4 y5 y6 z1 z2 z3 z4 z5 z6
  go_wp2_with fail
  go_call (l25Gcd_any _ 3 3 xs _ _ (RI.made0 (by rw [HXS.out]; rfl) HL.out (by simp)) (by omega) HB.out) as e2 w2 ⟨rfl, rfl⟩
  go_wp2_with fail
  · have hh : ((gcdL xs : Int) == 0) = true := by assumption
    have hz : (gcdL xs : Int) = 0 := by simpa using hh
    rw [hz]
    simp only [Int.tdiv_zero]
    go_returns
    exact ⟨rfl, by (repeat (first | (with_reducible assumption) | (with_reducible exact Below.refl _ _) | (with_reducible refine below_drewN' ?_ _) | (with_reducible refine Below.drew ?_) | ((with_reducible refine Below.alloc ?_ ?_ _); rotate_left; focus (first | (simp; done) | (simp; omega) | omega)) | ((with_reducible refine Below.setCell ?_ ?_ _); rotate_left; focus (first | (simp; done) | (simp; omega) | omega))))⟩
  · have hh : ((gcdL xs : Int) == 0) = false := by assumption
    have hz : (gcdL xs : Int) ≠ 0 := by simpa using hh
    go_quiet (fail)
    go_wp2
    go_returns
    exact ⟨rfl, by (repeat (first | (with_reducible assumption) | (with_reducible exact Below.refl _ _) | (with_reducible refine below_drewN' ?_ _) | (with_reducible refine Below.drew ?_) | ((with_reducible refine Below.alloc ?_ ?_ _); rotate_left; focus (first | (simp; done) | (simp; omega) | omega)) | ((with_reducible refine Below.setCell ?_ ?_ _); rotate_left; focus (first | (simp; done) | (simp; omega) | omega))))⟩
end Go.Proofs.Ytnhhbpdjapccpaa
