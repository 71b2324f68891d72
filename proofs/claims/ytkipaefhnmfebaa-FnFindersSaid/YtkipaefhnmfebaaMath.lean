/-
  Plain mathematics: no program in sight.
-/
import Derived.Test.YtkipaefhnmfebaaCore
namespace Go.Proofs.Ytkipaefhnmfebaa
open Go.RowKit

/-- The greatest common divisor of a list of numbers. -/
def gcdL (xs : List Int) : Nat := xs.foldl (fun g x => Nat.gcd g x.natAbs) 0
theorem gcdL_nil : gcdL [] = 0 := rfl
theorem gcdL_snoc (xs : List Int) (x : Int) : gcdL (xs ++ [x]) = Nat.gcd (gcdL xs) x.natAbs := by
  unfold gcdL; rw [List.foldl_append]; rfl
theorem gcdL_take {xs : List Int} {k : Nat} (h : k < xs.length) : gcdL (xs.take (k + 1)) = Nat.gcd (gcdL (xs.take k)) (nth xs k).natAbs := by
  rw [take_nth h, gcdL_snoc]
theorem gcdL_le {M : Nat} : ∀ (xs : List Int), (∀ x ∈ xs, x.natAbs ≤ M) → gcdL xs ≤ M := by
  intro xs
  suffices h : ∀ (xs : List Int) (g : Nat), g ≤ M → (∀ x ∈ xs, x.natAbs ≤ M) → xs.foldl (fun g x => Nat.gcd g x.natAbs) g ≤ M from fun hx => h xs 0 (Nat.zero_le _) hx
  intro xs
  induction xs with
  | nil => intro g hg _; exact hg
  | cons x xs ih =>
    intro g hg hx
    refine ih _ ?_ (fun y hy => hx y (List.mem_cons_of_mem _ hy))
    have hx0 := hx x List.mem_cons_self
    rcases Nat.eq_zero_or_pos g with h0 | h0
    · subst h0; show Nat.gcd 0 _ ≤ M; rw [Nat.gcd_zero_left]; exact hx0
    · exact Nat.le_trans (Nat.gcd_le_left _ h0) hg
theorem gcd_tmod (a b : Int) : Nat.gcd b.natAbs (a.tmod b).natAbs = Nat.gcd a.natAbs b.natAbs := by
  rw [Int.natAbs_tmod, Nat.gcd_comm, ← Nat.gcd_rec, Nat.gcd_comm]
theorem gcd_emod (a b : Int) (ha : 0 ≤ a) : Nat.gcd b.natAbs (a % b).natAbs = Nat.gcd a.natAbs b.natAbs := by
  rw [← Int.tmod_eq_emod_of_nonneg ha]; exact gcd_tmod a b
theorem natAbs_tmod_lt (a : Int) {b : Int} (h : b ≠ 0) : (a.tmod b).natAbs < b.natAbs := by
  rw [Int.natAbs_tmod]; exact Nat.mod_lt _ (by omega)
end Go.Proofs.Ytkipaefhnmfebaa
