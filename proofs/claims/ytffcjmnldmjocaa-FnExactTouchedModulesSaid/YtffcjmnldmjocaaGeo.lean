/-
  Plain mathematics of chapters 24 and 25: floors, turns, quads, images under maps. No program in sight.
-/
import Derived.Test.YtffcjmnldmjocaaMath
namespace Go.Proofs.Ytffcjmnldmjocaa
open Go.RowKit

theorem natAbs_mul_le {a b : Int} {A B : Nat} (h1 : a.natAbs ≤ A) (h2 : b.natAbs ≤ B) : (a * b).natAbs ≤ A * B := by
  rw [Int.natAbs_mul]; exact Nat.mul_le_mul h1 h2
/-- A product of two numbers in ranges, as two inequalities. -/
theorem mul_rg {a b : Int} (A B : Nat) (h1 : -(A : Int) ≤ a) (h2 : a ≤ A) (h3 : -(B : Int) ≤ b) (h4 : b ≤ B) : -((A * B : Nat) : Int) ≤ a * b ∧ a * b ≤ ((A * B : Nat) : Int) := by
  have := natAbs_mul_le (a := a) (b := b) (A := A) (B := B) (by omega) (by omega)
  generalize a * b = p at *
  generalize A * B = q at *
  omega
/-- Go's quotient, lowered by one where the remainder is negative, is the quotient rounded down. -/
theorem floor_eq {a b : Int} (hb : 0 < b) : (if a.tmod b < 0 then a.tdiv b - 1 else a.tdiv b) = a / b := by
  have e1 := Int.tmod_add_mul_tdiv a b
  have e2 := Int.emod_add_mul_ediv a b
  have h1 := Int.emod_nonneg a (show b ≠ 0 by omega)
  have h2 := Int.emod_lt_of_pos a hb
  have h3 : (a.tmod b).natAbs < b.natAbs := natAbs_tmod_lt a (by omega)
  have h4 : 0 ≤ a → 0 ≤ a.tmod b := fun h => Int.tmod_nonneg _ h
  generalize hr : a.tmod b = r at *
  generalize hq : a.tdiv b = q at *
  generalize hr' : a % b = r' at *
  generalize hq' : a / b = q' at *
  have hd : b * (q - q') = r' - r := by rw [Int.mul_sub]; omega
  split
  · have : b * (q - 1 - q') = r' - r - b := by rw [show q - 1 - q' = (q - q') - 1 by omega, Int.mul_sub, hd]; omega
    have hl : r' - r - b > -b := by omega
    have hu : r' - r - b < b := by omega
    have : q - 1 - q' = 0 := by
      rcases Int.lt_trichotomy (q - 1 - q') 0 with h | h | h
      · have := Int.mul_le_mul_of_nonneg_left (show q - 1 - q' ≤ -1 by omega) (Int.le_of_lt hb); omega
      · exact h
      · have := Int.mul_le_mul_of_nonneg_left (show (1 : Int) ≤ q - 1 - q' by omega) (Int.le_of_lt hb); omega
    omega
  · have : q - q' = 0 := by
      rcases Int.lt_trichotomy (q - q') 0 with h | h | h
      · have := Int.mul_le_mul_of_nonneg_left (show q - q' ≤ -1 by omega) (Int.le_of_lt hb); omega
      · exact h
      · have := Int.mul_le_mul_of_nonneg_left (show (1 : Int) ≤ q - q' by omega) (Int.le_of_lt hb); omega
    omega
theorem ediv_rg {a b : Int} (hb : 0 < b) (M : Nat) (h1 : -(M : Int) ≤ a) (h2 : a ≤ M) : -(M : Int) ≤ a / b ∧ a / b ≤ M := by
  constructor
  · rw [Int.le_ediv_iff_mul_le hb]
    have : (M : Int) * 1 ≤ M * b := Int.mul_le_mul_of_nonneg_left (by omega) (by omega)
    rw [Int.neg_mul]; omega
  · have h : a / b < M + 1 := by
      rw [Int.ediv_lt_iff_lt_mul hb]
      have : ((M : Int) + 1) * 1 ≤ (M + 1) * b := Int.mul_le_mul_of_nonneg_left (by omega) (by omega)
      omega
    omega
theorem tdiv_rg {a b : Int} (M : Nat) (h1 : -(M : Int) ≤ a) (h2 : a ≤ M) : -(M : Int) ≤ a.tdiv b ∧ a.tdiv b ≤ M := by
  have h : (a.tdiv b).natAbs = a.natAbs / b.natAbs := Int.natAbs_tdiv a b
  have h' : a.natAbs / b.natAbs ≤ a.natAbs := Nat.div_le_self _ _
  rw [← h] at h'
  omega
/-- Dividing both by a common divisor does not change the quotient. -/
theorem div_common {x w : Int} {g : Nat} (hg : 0 < g) (hx : (g : Int) ∣ x) (hw : (g : Int) ∣ w) : x.tdiv g / w.tdiv g = x / w := by
  obtain ⟨p, rfl⟩ := hx
  obtain ⟨q, rfl⟩ := hw
  have h0 : (g : Int) ≠ 0 := by omega
  rw [Int.mul_tdiv_cancel_left _ h0, Int.mul_tdiv_cancel_left _ h0, Int.mul_ediv_mul_of_pos _ _ (by omega)]
theorem gcdL_dvd {xs : List Int} : ∀ x ∈ xs, (gcdL xs : Int) ∣ x := by
  suffices h : ∀ (xs : List Int) (g : Nat), (∀ x ∈ xs, (xs.foldl (fun g x => Nat.gcd g x.natAbs) g) ∣ x.natAbs) ∧ (xs.foldl (fun g x => Nat.gcd g x.natAbs) g) ∣ g by
    intro x hx
    have := (h xs 0).1 x hx
    exact Int.ofNat_dvd_left.2 this
  intro xs
  induction xs with
  | nil => intro g; exact ⟨fun x hx => (by cases hx), Nat.dvd_refl _⟩
  | cons y ys ih =>
    intro g
    obtain ⟨h1, h2⟩ := ih (Nat.gcd g y.natAbs)
    refine ⟨fun x hx => ?_, Nat.dvd_trans h2 (Nat.gcd_dvd_left _ _)⟩
    rcases List.mem_cons.1 hx with rfl | hx
    · exact Nat.dvd_trans h2 (Nat.gcd_dvd_right _ _)
    · exact h1 x hx
theorem gcdL_pos {xs : List Int} {x : Int} (hx : x ∈ xs) (h0 : x ≠ 0) : 0 < gcdL xs := by
  rcases Nat.eq_zero_or_pos (gcdL xs) with h | h
  · have := gcdL_dvd x hx
    rw [h] at this
    have := Int.zero_dvd.1 (by simpa using this)
    exact absurd this h0
  · exact h

/-- A valid spot. -/
def spotB (x y : Int) : Bool := inR x (-4000) 4000 && inR y (-4000) 4000
theorem spotB_true {x y : Int} (h : spotB x y = true) : -4000 ≤ x ∧ x ≤ 4000 ∧ -4000 ≤ y ∧ y ≤ 4000 := by
  unfold spotB at h
  rw [Bool.and_eq_true] at h
  have h1 := inR_true h.1
  have h2 := inR_true h.2
  omega
/-- The turn of three spots. -/
def turnI (px py qx qy rx ry : Int) : Int := (qx - px) * (ry - qy) - (qy - py) * (rx - qx)
/-- A valid quad. -/
def quadB (ax ay bx bY cx cy dx dy : Int) : Bool :=
  spotB ax ay && spotB bx bY && spotB cx cy && spotB dx dy && decide (0 < turnI ax ay bx bY cx cy) && decide (0 < turnI bx bY cx cy dx dy) && decide (0 < turnI cx cy dx dy ax ay) && decide (0 < turnI dx dy ax ay bx bY)
/-- A numerator of the image of a point. -/
def imgI (a b c u v n : Int) : Int := a * u + b * v + c * n
theorem imgI_rg {a b c u v n : Int} (ha : -10000000000000 ≤ a) (ha' : a ≤ 10000000000000) (hb : -10000000000000 ≤ b) (hb' : b ≤ 10000000000000) (hc : -10000000000000 ≤ c) (hc' : c ≤ 10000000000000)
    (hu : -200000 ≤ u) (hu' : u ≤ 200000) (hv : -200000 ≤ v) (hv' : v ≤ 200000) (hn : -100000 ≤ n) (hn' : n ≤ 100000) :
    (-2000000000000000000 ≤ a * u ∧ a * u ≤ 2000000000000000000) ∧ (-2000000000000000000 ≤ b * v ∧ b * v ≤ 2000000000000000000) ∧ (-1000000000000000000 ≤ c * n ∧ c * n ≤ 1000000000000000000) := by
  have h1 := mul_rg (a := a) (b := u) 10000000000000 200000 (by omega) (by omega) (by omega) (by omega)
  have h2 := mul_rg (a := b) (b := v) 10000000000000 200000 (by omega) (by omega) (by omega) (by omega)
  have h3 := mul_rg (a := c) (b := n) 10000000000000 100000 (by omega) (by omega) (by omega) (by omega)
  simp only [Nat.reduceMul] at h1 h2 h3
  omega
end Go.Proofs.Ytffcjmnldmjocaa
