/-
  Plain lists of grey values: the least and the greatest, what lies below a limit, the limit of the split. No program in sight.
-/
import Derived.Test.YtkipaefhnmfebaaLst
namespace Go.Proofs.Ytkipaefhnmfebaa
open Go.RowKit

/-- The least and the greatest of the first k + 1 numbers. -/
def loM (xs : List Int) : Nat → Int
  | 0 => nth xs 0
  | k + 1 => min (loM xs k) (nth xs (k + 1))
def hiM (xs : List Int) : Nat → Int
  | 0 => nth xs 0
  | k + 1 => max (hiM xs k) (nth xs (k + 1))
theorem loM_b {xs : List Int} (h : ∀ k, k < xs.length → 0 ≤ nth xs k ∧ nth xs k ≤ 255) : ∀ k, k < xs.length → 0 ≤ loM xs k ∧ loM xs k ≤ 255 := by
  intro k
  induction k with
  | zero => intro hk; exact h 0 hk
  | succ k ih => intro hk; have := ih (by omega); have := h (k + 1) hk; simp only [loM]; omega
theorem hiM_b {xs : List Int} (h : ∀ k, k < xs.length → 0 ≤ nth xs k ∧ nth xs k ≤ 255) : ∀ k, k < xs.length → 0 ≤ hiM xs k ∧ hiM xs k ≤ 255 := by
  intro k
  induction k with
  | zero => intro hk; exact h 0 hk
  | succ k ih => intro hk; have := ih (by omega); have := h (k + 1) hk; simp only [hiM]; omega
/-- How many of the first k numbers lie below a limit, or do not, and their sums. -/
def nLo (xs : List Int) (l : Int) : Nat → Nat
  | 0 => 0
  | k + 1 => if nth xs k < l then nLo xs l k + 1 else nLo xs l k
def sLo (xs : List Int) (l : Int) : Nat → Nat
  | 0 => 0
  | k + 1 => if nth xs k < l then sLo xs l k + (nth xs k).toNat else sLo xs l k
def nHi (xs : List Int) (l : Int) : Nat → Nat
  | 0 => 0
  | k + 1 => if nth xs k < l then nHi xs l k else nHi xs l k + 1
def sHi (xs : List Int) (l : Int) : Nat → Nat
  | 0 => 0
  | k + 1 => if nth xs k < l then sHi xs l k else sHi xs l k + (nth xs k).toNat
theorem spl_b {xs : List Int} {l : Int} (h : ∀ k, k < xs.length → 0 ≤ nth xs k ∧ nth xs k ≤ 255) : ∀ k, k ≤ xs.length →
    nLo xs l k ≤ k ∧ nHi xs l k ≤ k ∧ sLo xs l k ≤ 255 * nLo xs l k ∧ sHi xs l k ≤ 255 * nHi xs l k := by
  intro k
  induction k with
  | zero => intro _; simp [nLo, nHi, sLo, sHi]
  | succ k ih =>
    intro hk
    have h1 := ih (by omega)
    have h2 := h k (by omega)
    simp only [nLo, nHi, sLo, sHi]
    split <;> omega
/-- The next limit. -/
def nxtL (xs : List Int) (l : Int) : Nat := (sLo xs l xs.length / nLo xs l xs.length + sHi xs l xs.length / nHi xs l xs.length + 1) / 2
theorem nxtL_b {xs : List Int} {l : Int} (h : ∀ k, k < xs.length → 0 ≤ nth xs k ∧ nth xs k ≤ 255) : nxtL xs l ≤ 255 := by
  obtain ⟨-, -, h1, h2⟩ := spl_b (l := l) h xs.length (Nat.le_refl _)
  have a := Nat.div_le_of_le_mul (show sLo xs l xs.length ≤ nLo xs l xs.length * 255 by omega)
  have b := Nat.div_le_of_le_mul (show sHi xs l xs.length ≤ nHi xs l xs.length * 255 by omega)
  unfold nxtL
  omega
/-- The limit after at most s more steps. -/
def splS (xs : List Int) : Nat → Int → Int
  | 0, l => l
  | s + 1, l => if nLo xs l xs.length = 0 ∨ nHi xs l xs.length = 0 ∨ (nxtL xs l : Int) = l then l else splS xs s (nxtL xs l)
/-- Is a raster of r rows and c columns with the pixels xs valid? -/
def limL (xs : List Int) : Int := (loM xs (xs.length - 1) + hiM xs (xs.length - 1) + 1) / 2
end Go.Proofs.Ytkipaefhnmfebaa
