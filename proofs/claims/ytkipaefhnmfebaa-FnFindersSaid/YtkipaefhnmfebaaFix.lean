/-
  Plain mathematics: the fixed cells of a matrix symbol, told in two ways that agree. No program in sight.
-/
import Derived.Test.YtkipaefhnmfebaaLst
namespace Go.Proofs.Ytkipaefhnmfebaa

/-- The cell of a finder pattern or its border, by the distance from its middle; -1 beside it. -/
def fdist (r c : Int) : Int := max (r.natAbs : Int) (c.natAbs : Int)
def fcell (d : Int) : Int := if d = 2 ∨ d = 4 then 0 else 1
def findV (r c : Int) : Int := if 4 < fdist (r - 3) (c - 3) then -1 else fcell (fdist (r - 3) (c - 3))
/-- A fixed cell, or -1. -/
def lineV (n r c : Int) : Int :=
  if r = 6 ∧ 8 ≤ c ∧ c ≤ n - 9 then 1 - c.tmod 2 else if c = 6 ∧ 8 ≤ r ∧ r ≤ n - 9 then 1 - r.tmod 2 else if r = n - 8 ∧ c = 8 then 1 else -1
def fixV (n r c : Int) : Int :=
  if 0 ≤ findV r c then findV r c else if 0 ≤ findV r (c - (n - 7)) then findV r (c - (n - 7)) else if 0 ≤ findV (r - (n - 7)) c then findV (r - (n - 7)) c else lineV n r c
/-- The middle of the finder pattern that is near. -/
def midV (n x : Int) : Int := if n.tdiv 2 < x then n - 4 else 3
def nearB (n r c : Int) : Bool := (midV n r == 3 || midV n c == 3) && decide (fdist (r - midV n r) (c - midV n c) ≤ 4)
def fixI (n r c : Int) : Int := if nearB n r c then fcell (fdist (r - midV n r) (c - midV n c)) else lineV n r c
def sizes : List Nat := [17, 21, 25, 29, 33, 37, 41]
theorem size_mem {N : Nat} (h : 17 ≤ N ∧ N ≤ 41 ∧ N % 4 = 1) : N ∈ sizes := by
  have : N = 17 ∨ N = 21 ∨ N = 25 ∨ N = 29 ∨ N = 33 ∨ N = 37 ∨ N = 41 := by omega
  rcases this with rfl | rfl | rfl | rfl | rfl | rfl | rfl <;> simp [sizes]
def fixAll : Bool := sizes.all fun N => (List.range N).all fun r => (List.range N).all fun c => fixI N r c == fixV N r c && inR (fixV N r c) (-1) 1
theorem fixAll_true : fixAll = true := by decide +kernel
theorem fix_both {N r c : Nat} (h : 17 ≤ N ∧ N ≤ 41 ∧ N % 4 = 1) (hr : r < N) (hc : c < N) : fixI N r c = fixV N r c ∧ -1 ≤ fixV N r c ∧ fixV N r c ≤ 1 := by
  have h1 := List.all_eq_true.1 fixAll_true N (size_mem h)
  have h2 := List.all_eq_true.1 h1 r (List.mem_range.2 hr)
  have h3 := List.all_eq_true.1 h2 c (List.mem_range.2 hc)
  simp only [Bool.and_eq_true, beq_iff_eq] at h3
  exact ⟨h3.1, inR_true h3.2⟩
/-- All cells, row by row. -/
def fixL (N : Nat) : List Int := (List.range (N * N)).map fun i => fixV N (i / N : Nat) (i % N : Nat)
theorem fixL_len (N : Nat) : (fixL N).length = N * N := by simp [fixL]
theorem cell_lt {N r c : Nat} (hr : r < N) (hc : c < N) : r * N + c < N * N := by
  have := Nat.mul_le_mul_right N (show r + 1 ≤ N by omega)
  rw [Nat.add_mul] at this
  omega
theorem cell_div {N r c : Nat} (hc : c < N) : (r * N + c) / N = r ∧ (r * N + c) % N = c := by
  constructor
  · rw [Nat.add_comm, Nat.add_mul_div_right _ _ (by omega), Nat.div_eq_of_lt hc, Nat.zero_add]
  · rw [Nat.add_comm, Nat.add_mul_mod_self_right, Nat.mod_eq_of_lt hc]
theorem fixL_nth {N r c : Nat} (hr : r < N) (hc : c < N) : nth (fixL N) (r * N + c) = fixV N r c := by
  have h := cell_lt hr hc
  rw [nth_lt (by rw [fixL_len]; exact h)]
  simp only [fixL, List.getElem_map, List.getElem_range, (cell_div hc).1, (cell_div hc).2]
theorem fixL_in {N k : Nat} (h : 17 ≤ N ∧ N ≤ 41 ∧ N % 4 = 1) (hk : k < N * N) : -1 ≤ nth (fixL N) k ∧ nth (fixL N) k ≤ 1 := by
  have hN : 0 < N := by omega
  have h1 : k / N < N := Nat.div_lt_of_lt_mul hk
  have h2 := Nat.mod_lt k hN
  have e : k = k / N * N + k % N := by rw [Nat.mul_comm]; exact (Nat.div_add_mod k N).symm
  rw [e, fixL_nth h1 h2]
  exact (fix_both h h1 h2).2
end Go.Proofs.Ytkipaefhnmfebaa
