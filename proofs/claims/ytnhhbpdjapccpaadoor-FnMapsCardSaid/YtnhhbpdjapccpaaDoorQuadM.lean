/-
  The map of a quad: plain numbers. No program in sight.
-/
import Derived.Test.YtnhhbpdjapccpaaDoorReduce
namespace Go.Proofs.YtnhhbpdjapccpaaDoor
open Go.RowKit

/-- The entries of the map of a quad, not yet reduced; by the differences of its corners. -/
def quadE (ax ay bx bY dx dy sx sy ox oy tx ty : Int) : List Int :=
  [(bx - ax) * (ox * ty - tx * oy) + (sx * ty - tx * sy) * bx, (dx - ax) * (ox * ty - tx * oy) + (ox * sy - sx * oy) * dx, ax * (ox * ty - tx * oy),
   (bY - ay) * (ox * ty - tx * oy) + (sx * ty - tx * sy) * bY, (dy - ay) * (ox * ty - tx * oy) + (ox * sy - sx * oy) * dy, ay * (ox * ty - tx * oy), sx * ty - tx * sy, ox * sy - sx * oy, ox * ty - tx * oy]
theorem quad_pr {sx sy ox oy tx ty : Int} (h1 : -16000 ≤ sx ∧ sx ≤ 16000) (h2 : -16000 ≤ sy ∧ sy ≤ 16000) (h3 : -8000 ≤ ox ∧ ox ≤ 8000) (h4 : -8000 ≤ oy ∧ oy ≤ 8000) (h5 : -8000 ≤ tx ∧ tx ≤ 8000) (h6 : -8000 ≤ ty ∧ ty ≤ 8000) :
    (-64000000 ≤ ox * ty ∧ ox * ty ≤ 64000000) ∧ (-64000000 ≤ tx * oy ∧ tx * oy ≤ 64000000) ∧ (-128000000 ≤ sx * ty ∧ sx * ty ≤ 128000000) ∧ (-128000000 ≤ tx * sy ∧ tx * sy ≤ 128000000) ∧ (-128000000 ≤ ox * sy ∧ ox * sy ≤ 128000000) ∧ (-128000000 ≤ sx * oy ∧ sx * oy ≤ 128000000) := by
  have a := mul_rg (a := ox) (b := ty) 8000 8000 (by omega) (by omega) (by omega) (by omega)
  have b := mul_rg (a := tx) (b := oy) 8000 8000 (by omega) (by omega) (by omega) (by omega)
  have c := mul_rg (a := sx) (b := ty) 16000 8000 (by omega) (by omega) (by omega) (by omega)
  have d := mul_rg (a := tx) (b := sy) 8000 16000 (by omega) (by omega) (by omega) (by omega)
  have e := mul_rg (a := ox) (b := sy) 8000 16000 (by omega) (by omega) (by omega) (by omega)
  have f := mul_rg (a := sx) (b := oy) 16000 8000 (by omega) (by omega) (by omega) (by omega)
  simp only [Nat.reduceMul] at a b c d e f
  omega
theorem big_pr {x d : Int} (hx : -8000 ≤ x ∧ x ≤ 8000) (hd : -256000000 ≤ d ∧ d ≤ 256000000) : -2048000000000 ≤ x * d ∧ x * d ≤ 2048000000000 := by
  have a := mul_rg (a := x) (b := d) 8000 256000000 (by omega) (by omega) (by omega) (by omega)
  simp only [Nat.reduceMul] at a
  omega
theorem big_pr' {x d : Int} (hx : -8000 ≤ x ∧ x ≤ 8000) (hd : -256000000 ≤ d ∧ d ≤ 256000000) : -2048000000000 ≤ d * x ∧ d * x ≤ 2048000000000 := by
  rw [Int.mul_comm]; exact big_pr hx hd
/-- The determinant is the turn of the last three corners, turned round. -/
theorem det_turn (bx bY cx cy dx dy : Int) : (bx - cx) * (dy - cy) - (dx - cx) * (bY - cy) = -turnI bx bY cx cy dx dy := by
  unfold turnI
  rw [show bx - cx = -(cx - bx) by omega, show bY - cy = -(cy - bY) by omega, Int.neg_mul, Int.mul_neg, Int.mul_comm (dx - cx)]
  omega
end Go.Proofs.YtnhhbpdjapccpaaDoor
