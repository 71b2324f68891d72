/-
  Contracts of chapter 25: the code of a map and a point, its image, its spot.
-/
import Derived.Test.YtnhhbpdjapccpaaDoorC25I
namespace Go.Proofs.YtnhhbpdjapccpaaDoor
open Go.RowKit

theorem tdiv_pos' {w : Int} {n : Nat} (hw : 0 < w) (hn : 0 < n) (hd : (n : Int) ∣ w) : 0 < w.tdiv n := by
  obtain ⟨q, rfl⟩ := hd
  rw [Int.mul_tdiv_cancel_left _ (by omega)]
  rcases Int.lt_or_le 0 q with h | h
  · exact h
  · have := Int.mul_le_mul_of_nonneg_left h (show (0 : Int) ≤ n by omega)
    omega
theorem tdiv_nonpos' {w : Int} {n : Nat} (hw : w ≤ 0) : w.tdiv n ≤ 0 := by
  have h := Int.tdiv_nonneg (a := -w) (b := (n : Int)) (by omega) (by omega)
  rw [Int.neg_tdiv] at h
  omega
theorem gcd3_pos {x y w : Int} (hw : 0 < w) : 0 < gcdL [x, y, w] := gcdL_pos (x := w) (by simp) (by omega)
theorem gcd3_dvd {x y w : Int} : (gcdL [x, y, w] : Int) ∣ x ∧ (gcdL [x, y, w] : Int) ∣ y ∧ (gcdL [x, y, w] : Int) ∣ w :=
  ⟨gcdL_dvd x (by simp), gcdL_dvd y (by simp), gcdL_dvd w (by simp)⟩
/-- What the code says, where it is 0. -/
theorem codeB_0 {a b c d e f g h i u v n : Int} (h0 : codeB [a, b, c, d, e, f, g, h, i] u v n = 0) :
    isMapB [a, b, c, d, e, f, g, h, i] = true ∧ (-200000 ≤ u ∧ u ≤ 200000) ∧ (-200000 ≤ v ∧ v ≤ 200000) ∧ (1 ≤ n ∧ n ≤ 100000) ∧ 0 < imgI g h i u v n := by
  unfold codeB at h0
  split at h0
  · rename_i hm
    split at h0
    · rename_i hr
      rw [Bool.and_eq_true, Bool.and_eq_true] at hr
      have h1 := inR_true hr.1.1
      have h2 := inR_true hr.1.2
      have h3 := inR_true hr.2
      split at h0
      · omega
      · rename_i hw
        exact ⟨hm, by omega, by omega, by omega, by simpa [nth] using hw⟩
    · omega
  · omega
theorem codeB_bd (xs : List Int) (u v n : Int) : 0 ≤ codeB xs u v n ∧ codeB xs u v n ≤ 5 := by
  unfold codeB; repeat (first | split | omega)
/-- A numerator or the denominator of a point's image, without a common divisor; 0 where there is none. -/
def ptQ (c z x y w : Int) : Int := if c = 0 then z.tdiv (gcdL [x, y, w]) else 0
theorem ptQ_0 {c z x y w : Int} (h : c = 0) : ptQ c z x y w = z.tdiv (gcdL [x, y, w]) := by unfold ptQ; rw [if_pos h]
theorem ptQ_no {c z x y w : Int} (h : c ≠ 0) : ptQ c z x y w = 0 := by unfold ptQ; rw [if_neg h]
theorem redL_3 {x y w : Int} (hw : 0 < w) : redL [x, y, w] = [x.tdiv (gcdL [x, y, w]), y.tdiv (gcdL [x, y, w]), w.tdiv (gcdL [x, y, w])] := by
  rw [redL_map (gcd3_pos hw)]
  have h : sgL [x, y, w] = gcdL [x, y, w] := by
    unfold sgL
    rw [if_neg (by simp [nth]; omega)]
  rw [h]; rfl
end Go.Proofs.YtnhhbpdjapccpaaDoor
