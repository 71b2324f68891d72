/-
  Plain mathematics: there are data cells, and all of them lie in the grid. No program in sight.
-/
import Derived.Test.YteghpageamehkaaC15I
namespace Go.Proofs.Yteghpageamehkaa
open Go.RowKit

theorem data_in4 {N : Nat} (h : 17 ≤ N ∧ N ≤ 41 ∧ N % 4 = 1) : ∀ p ∈ dataL N, 0 ≤ p.1 ∧ 0 ≤ p.2 ∧ p.1 < N ∧ p.2 < N := fun p hp => by
  obtain ⟨a, b, c, d⟩ := data_in h hp
  exact ⟨a, c, b, d⟩
def headOk : Bool := sizes.all fun N => !noD N (plcR N 0 0) (plcC N 0 0)
theorem headOk_true : headOk = true := by decide +kernel
theorem colP_sub {keep : Int → Int → Bool} {N j m k : Nat} (h : m ≤ k) : ∀ p ∈ colP keep N j m, p ∈ colP keep N j k := by
  induction k with
  | zero => obtain rfl : m = 0 := by omega
            exact fun p hp => hp
  | succ k ih =>
    intro p hp
    by_cases hm : m = k + 1
    · subst hm; exact hp
    · simp only [colP]
      exact List.mem_append_left _ (ih (by omega) p hp)
theorem dpL_sub {keep : Int → Int → Bool} {N j k : Nat} (h : j ≤ k) : ∀ p ∈ dpL keep N j, p ∈ dpL keep N k := by
  induction k with
  | zero => obtain rfl : j = 0 := by omega
            exact fun p hp => hp
  | succ k ih =>
    intro p hp
    by_cases hm : j = k + 1
    · subst hm; exact hp
    · simp only [dpL]
      exact List.mem_append_left _ (ih (by omega) p hp)
theorem data_pos {N : Nat} (h : 17 ≤ N ∧ N ≤ 41 ∧ N % 4 = 1) : 0 < (dataL N).length := by
  have hk := List.all_eq_true.1 headOk_true N (size_mem h)
  have h1 : (plcR N 0 0, plcC N 0 0) ∈ colP (fun r c => !noD N r c) N 0 1 := by simp [colP] at hk ⊢; exact hk
  have h2 : (plcR N 0 0, plcC N 0 0) ∈ dpL (fun r c => !noD N r c) N 1 := by
    simp only [dpL]
    exact List.mem_append_right _ (colP_sub (by omega) _ h1)
  have h3 : (plcR N 0 0, plcC N 0 0) ∈ dataL N := dpL_sub (by omega) _ h2
  exact List.length_pos_of_mem h3
end Go.Proofs.Yteghpageamehkaa
