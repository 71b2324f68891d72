/-
  Contracts of chapter 25: the image of a point.
-/
import Derived.Test.YtnhhbpdjapccpaaDoorC25
import Derived.Test.YtnhhbpdjapccpaaDoorC24
import Derived.Test.YtnhhbpdjapccpaaDoorReduce
namespace Go.Proofs.YtnhhbpdjapccpaaDoor
open Go.RowKit

/-- What holds of the entries of a valid map. -/
theorem map_rg {a b c d e f g h i : Int} (hm : isMapB [a, b, c, d, e, f, g, h, i] = true) :
    (-10000000000000 ≤ a ∧ a ≤ 10000000000000) ∧ (-10000000000000 ≤ b ∧ b ≤ 10000000000000) ∧ (-10000000000000 ≤ c ∧ c ≤ 10000000000000) ∧ (-10000000000000 ≤ d ∧ d ≤ 10000000000000) ∧ (-10000000000000 ≤ e ∧ e ≤ 10000000000000) ∧ (-10000000000000 ≤ f ∧ f ≤ 10000000000000) ∧ (-10000000000000 ≤ g ∧ g ≤ 10000000000000) ∧ (-10000000000000 ≤ h ∧ h ≤ 10000000000000) ∧ (0 < i ∧ i ≤ 10000000000000) := by
  unfold isMapB at hm
  rw [Bool.and_eq_true, Bool.and_eq_true] at hm
  obtain ⟨⟨h1, h2⟩, _⟩ := hm
  have hi : 0 < i := by simpa [nth] using h2
  have m : ∀ x ∈ [a, b, c, d, e, f, g, h, i], -10000000000000 ≤ x ∧ x ≤ 10000000000000 := fun x hx => inAll_mem h1 hx
  refine ⟨m a (by simp), m b (by simp), m c (by simp), m d (by simp), m e (by simp), m f (by simp), m g (by simp), m h (by simp), hi, (m i (by simp)).2⟩

/-- The code of a map and a point. -/
def codeB (xs : List Int) (u v n : Int) : Int :=
  if isMapB xs then (if inR n 1 100000 && inR u (-n) (2 * n) && inR v (-n) (2 * n) then (if imgI (nth xs 6) (nth xs 7) (nth xs 8) u v n ≤ 0 then 5 else 0) else 2) else 1

theorem codeB_1 {xs : List Int} {u v n : Int} (h : isMapB xs = false) : codeB xs u v n = 1 := by unfold codeB; rw [h]; rfl
theorem codeB_2 {xs : List Int} {u v n : Int} (h : isMapB xs = true) (h' : (inR n 1 100000 && inR u (-n) (2 * n) && inR v (-n) (2 * n)) = false) : codeB xs u v n = 2 := by unfold codeB; rw [h, h']; rfl
theorem codeB_3 {xs : List Int} {u v n : Int} (h : isMapB xs = true) (h' : (inR n 1 100000 && inR u (-n) (2 * n) && inR v (-n) (2 * n)) = true) : codeB xs u v n = if imgI (nth xs 6) (nth xs 7) (nth xs 8) u v n ≤ 0 then 5 else 0 := by unfold codeB; rw [h, h']; rfl

set_option maxHeartbeats 1000000 in
theorem image_any (a b c d e f g h i u v n : Int) (w : World) (hm : isMapB [a, b, c, d, e, f, g, h, i] = true)
    (hu : -200000 ≤ u) (hu' : u ≤ 200000) (hv : -200000 ≤ v) (hv' : v ≤ 200000) (hn : -100000 ≤ n) (hn' : n ≤ 100000) :
    Calls Tryd.prog 45 #[.agg #[.int .i64 a, .int .i64 b, .int .i64 c, .int .i64 d, .int .i64 e, .int .i64 f, .int .i64 g, .int .i64 h, .int .i64 i], .int .i64 u, .int .i64 v, .int .i64 n] w fun e' w' =>
      e' = .returned (.tuple #[.int .i64 (imgI a b c u v n), .int .i64 (imgI d e f u v n), .int .i64 (imgI g h i u v n)]) ∧ Below w.heap.size w w' := by
  obtain ⟨⟨a1, a2⟩, ⟨b1, b2⟩, ⟨c1, c2⟩, ⟨d1, d2⟩, ⟨e1, e2⟩, ⟨f1, f2⟩, ⟨g1, g2⟩, ⟨h1, h2⟩, i1, i2⟩ := map_rg hm
  have X := imgI_rg a1 a2 b1 b2 c1 c2 hu hu' hv hv' hn hn'
  have Y := imgI_rg d1 d2 e1 e2 f1 f2 hu hu' hv hv' hn hn'
  have Z := imgI_rg g1 g2 h1 h2 (by omega) i2 hu hu' hv hv' hn hn'
  obtain ⟨⟨x1, x2⟩, ⟨x3, x4⟩, x5, x6⟩ := X
  obtain ⟨⟨y1, y2⟩, ⟨y3, y4⟩, y5, y6⟩ := Y
  obtain ⟨⟨z1, z2⟩, ⟨z3, z4⟩, z5, z6⟩ := Z
  clear hm a1 a2 b1 b2 c1 c2 d1 d2 e1 e2 f1 f2 g1 g2 h1 h2 i1 i2 hu hu' hv hv' hn hn'
  go_enter Tryd.func45, Tryd.ntmps45
  go_wp2_with fail
  go_quiet (fail)
  go_wp2
  go_returns
  exact ⟨rfl, below_drewN' (by go_grown) _⟩
end Go.Proofs.YtnhhbpdjapccpaaDoor
