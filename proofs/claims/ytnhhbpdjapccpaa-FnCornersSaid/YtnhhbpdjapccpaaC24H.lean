/-
  The corners of a square that is printed exactly: plain facts. No program in sight.
-/
import Derived.Test.YtnhhbpdjapccpaaC24F
import Derived.Test.YtnhhbpdjapccpaaRt
namespace Go.Proofs.Ytnhhbpdjapccpaa
open Go.RowKit

/-- The seven sizes of matrix symbols. -/
def sizesL : List Int := [17, 21, 25, 29, 33, 37, 41]
theorem sizesL_nth {k : Nat} (h : k < 7) : nth sizesL k = ((17 + 4 * k : Nat) : Int) := by
  rcases (show k = 0 ∨ k = 1 ∨ k = 2 ∨ k = 3 ∨ k = 4 ∨ k = 5 ∨ k = 6 by omega) with rfl | rfl | rfl | rfl | rfl | rfl | rfl <;> rfl
theorem inR_ok {n lo hi : Int} (h1 : lo ≤ n) (h2 : n ≤ hi) : inR n lo hi = true := by unfold inR; simp; exact ⟨h1, h2⟩
theorem spotB_ok {x y : Int} (h1 : -4000 ≤ x) (h2 : x ≤ 4000) (h3 : -4000 ≤ y) (h4 : y ≤ 4000) : spotB x y = true := by
  unfold spotB; rw [inR_ok h1 h2, inR_ok h3 h4]; rfl
theorem quad_sq {l t F : Int} (hF : 0 < F) (h1 : 0 ≤ l) (h2 : l + F ≤ 4000) (h3 : 0 ≤ t) (h4 : t + F ≤ 4000) : quadB l t (l + F) t (l + F) (t + F) l (t + F) = true := by
  have hp := Int.mul_pos hF hF
  have e1 : turnI l t (l + F) t (l + F) (t + F) = F * F := by unfold turnI; grind
  have e2 : turnI (l + F) t (l + F) (t + F) l (t + F) = F * F := by unfold turnI; grind
  have e3 : turnI (l + F) (t + F) l (t + F) l t = F * F := by unfold turnI; grind
  have e4 : turnI l (t + F) l t (l + F) t = F * F := by unfold turnI; grind
  unfold quadB
  rw [e1, e2, e3, e4, spotB_ok (by omega) (by omega) (by omega) (by omega), spotB_ok (by omega) (by omega) (by omega) (by omega), spotB_ok (by omega) (by omega) (by omega) (by omega), spotB_ok (by omega) (by omega) (by omega) (by omega)]
  simp [hp]
theorem cnA_sq {l p m : Int} (hm : 0 < m) : cnA (l + 7 * p) (2 * p * m) 0 (m + 7) = l ∧ cnA (l + 7 * p) 0 (2 * p * m) (m + 7) = l := by
  have e : (2 * p * m) * 7 / (2 * m) = 7 * p := by
    rw [show 2 * p * m * 7 = 7 * p * (2 * m) by grind]
    exact Int.mul_ediv_cancel _ (by omega)
  unfold cnA
  rw [show m + 7 - 7 = m by omega, Int.add_zero, Int.zero_add, e]
  omega
theorem cnB_sq {A p m : Int} (hm : 0 < m) : cnB A (2 * p * m) (m + 7) = A + 2 * p * (m + 7) ∧ cnB A 0 (m + 7) = A := by
  unfold cnB
  rw [show m + 7 - 7 = m by omega]
  constructor
  · rw [show 2 * p * m * (m + 7) = 2 * p * (m + 7) * m by grind, Int.mul_ediv_cancel _ (by omega)]
  · simp
/-- What NearestSize reckons at a length of 2 p m. -/
theorem want_sq {p m : Int} (hp : 0 < p) : (2 * p * m * 1 + p) / (2 * p) = m := by
  rw [show 2 * p * m * 1 + p = p + m * (2 * p) by grind, Int.add_mul_ediv_right _ _ (by omega), Int.ediv_eq_zero_of_lt (by omega) (by omega)]
  omega
/-- Which size is the best among the first k + 1 ones, where size number i is wanted. -/
theorem best_sq {k i : Nat} : ((((4 * k : Nat) : Int) - (4 * i : Nat)).natAbs < (((4 * min (k - 1) i : Nat) : Int) - (4 * i : Nat)).natAbs → min k i = k) ∧
    (¬ (((4 * k : Nat) : Int) - (4 * i : Nat)).natAbs < (((4 * min (k - 1) i : Nat) : Int) - (4 * i : Nat)).natAbs → min k i = min (k - 1) i) := by
  omega
end Go.Proofs.Ytnhhbpdjapccpaa
