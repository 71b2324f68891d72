/-
  Plain lists: a list that goes between two grey values, and its limit. No program in sight.
-/
import Derived.Test.YtkipaefhnmfebaaSpl
import Derived.Test.YtkipaefhnmfebaaRas
namespace Go.Proofs.Ytkipaefhnmfebaa
open Go.RowKit

/-- The list goes a, b, a, b, .. -/
def altX (a b : Int) (xs : List Int) : Prop := ∀ k, k < xs.length → nth xs k = if k % 2 = 0 then a else b
theorem alt_lo {a b : Int} {xs : List Int} (h : altX a b xs) (hab : a < b) : ∀ k, k < xs.length → loM xs k = a := by
  intro k
  induction k with
  | zero => intro hk; exact h 0 hk
  | succ k ih =>
    intro hk
    have e := h (k + 1) hk
    simp only [loM]
    rw [ih (by omega), e]
    split <;> omega
theorem alt_hi {a b : Int} {xs : List Int} (h : altX a b xs) (hab : a < b) : ∀ k, k < xs.length → hiM xs k = if k = 0 then a else b := by
  intro k
  induction k with
  | zero => intro hk; exact h 0 hk
  | succ k ih =>
    intro hk
    have e := h (k + 1) hk
    simp only [hiM]
    rw [ih (by omega), e]
    by_cases h0 : k = 0
    · subst h0; simp; omega
    · rw [if_neg h0, if_neg (show ¬ k + 1 = 0 by omega)]
      split <;> omega
theorem alt_cnt {a b m : Int} {xs : List Int} (h : altX a b xs) (ha : a < m) (hb : m ≤ b) : ∀ k, k ≤ xs.length →
    nLo xs m k = (k + 1) / 2 ∧ nHi xs m k = k / 2 ∧ sLo xs m k = (k + 1) / 2 * a.toNat ∧ sHi xs m k = k / 2 * b.toNat := by
  intro k
  induction k with
  | zero => intro _; simp [nLo, nHi, sLo, sHi]
  | succ k ih =>
    intro hk
    obtain ⟨h1, h2, h3, h4⟩ := ih (by omega)
    have e := h k (by omega)
    simp only [nLo, nHi, sLo, sHi, h1, h2, h3, h4]
    by_cases hp : k % 2 = 0
    · rw [if_pos hp] at e
      have e1 : (k + 1 + 1) / 2 = (k + 1) / 2 + 1 := by omega
      have e2 : (k + 1) / 2 = k / 2 := by omega
      rw [e]
      simp only [if_pos ha]
      rw [e1, Nat.add_mul, Nat.one_mul]
      exact ⟨rfl, e2.symm, rfl, by rw [e2]⟩
    · rw [if_neg hp] at e
      have e1 : (k + 1 + 1) / 2 = (k + 1) / 2 := by omega
      have e2 : (k + 1) / 2 = k / 2 + 1 := by omega
      have hn : ¬ b < m := by omega
      rw [e]
      simp only [if_neg hn]
      rw [e1, e2]
      exact ⟨rfl, rfl, rfl, by rw [Nat.add_mul, Nat.one_mul]⟩
/-- Between a and b every limit divides: what the split, the count and the contrast give. -/
theorem alt_split {a b : Int} {xs : List Int} (h : altX a b xs) (h0 : 0 ≤ a) (hab : a < b) (hn : 2 ≤ xs.length) :
    limL xs = (a + b + 1) / 2 ∧ splS xs 20 (limL xs) = (a + b + 1) / 2 ∧ nLo xs ((a + b + 1) / 2) xs.length = (xs.length + 1) / 2 ∧ loM xs (xs.length - 1) = a ∧ hiM xs (xs.length - 1) = b := by
  have hl := alt_lo h hab (xs.length - 1) (by omega)
  have hh := alt_hi h hab (xs.length - 1) (by omega)
  rw [if_neg (by omega)] at hh
  have hL : limL xs = (a + b + 1) / 2 := by unfold limL; rw [hl, hh]
  obtain ⟨c1, c2, c3, c4⟩ := alt_cnt (m := (a + b + 1) / 2) h (by omega) (by omega) xs.length (Nat.le_refl _)
  refine ⟨hL, ?_, c1, hl, hh⟩
  rw [hL]
  have hx : (nxtL xs ((a + b + 1) / 2) : Int) = (a + b + 1) / 2 := by
    unfold nxtL
    rw [c1, c2, c3, c4, Nat.mul_comm, Nat.mul_div_cancel _ (by omega), Nat.mul_comm, Nat.mul_div_cancel _ (by omega)]
    omega
  unfold splS
  rw [if_pos (.inr (.inr hx))]
/-- A list of which every other number is a, the others b. -/
def altL (a b : Int) (n : Nat) : List Int := (List.range n).map fun k => if k % 2 = 0 then a else b
theorem altL_len (a b : Int) (n : Nat) : (altL a b n).length = n := by simp [altL]
theorem altL_nth {a b : Int} {n k : Nat} (h : k < n) : nth (altL a b n) k = if k % 2 = 0 then a else b := by
  unfold altL
  rw [nth_lt (by simpa using h)]
  simp
theorem altL_alt (a b : Int) (n : Nat) : altX a b (altL a b n) := fun k hk => altL_nth (by simpa [altL_len] using hk)
theorem ras_alt {r c : Int} {xs ys : List Int} {a b : Int} (h : rasB r c xs = true) (hl : ys.length = xs.length) (hy : altX a b ys) (ha : 0 ≤ a) (hab : a < b) (hb : b ≤ 255) : rasB r c ys = true := by
  simp only [rasB, Bool.and_eq_true] at h ⊢
  refine ⟨⟨h.1.1, by rw [hl]; exact h.1.2⟩, ?_⟩
  unfold allIn
  rw [List.all_eq_true]
  intro x hx
  obtain ⟨k, hk, rfl⟩ := List.getElem_of_mem hx
  have e := hy k hk
  rw [nth_lt hk] at e
  rw [e]
  unfold inR
  split <;> (simp; omega)
end Go.Proofs.Ytkipaefhnmfebaa
