/-
  Plain lists of numbers: all in a range, how many of a kind; which grids are valid. No program in sight.
-/
import Derived.Test.YtkipaefhnmfebaaCore
namespace Go.Proofs.Ytkipaefhnmfebaa

/-- All numbers of a list lie in the range from lo to hi. -/
def allIn (lo hi : Int) (xs : List Int) : Bool := xs.all fun x => inR x lo hi
theorem allIn_take {lo hi : Int} {xs : List Int} {k : Nat} (hk : k < xs.length) : allIn lo hi (xs.take (k + 1)) = (allIn lo hi (xs.take k) && inR (nth xs k) lo hi) := by
  rw [take_nth hk]; simp [allIn]
theorem allIn_false {lo hi : Int} {xs : List Int} {k : Nat} (hk : k < xs.length) (e : inR (nth xs k) lo hi = false) : allIn lo hi xs = false := by
  cases h : allIn lo hi xs with
  | false => rfl
  | true => have := List.all_eq_true.1 h _ (nth_mem hk); rw [this] at e; exact e
theorem allIn_nth {lo hi : Int} {xs : List Int} (e : allIn lo hi xs = true) {k : Nat} (hk : k < xs.length) : lo ≤ nth xs k ∧ nth xs k ≤ hi := inR_true (List.all_eq_true.1 e _ (nth_mem hk))
/-- How many numbers of a list are of a kind. -/
def cnt (p : Int → Bool) (xs : List Int) : Nat := xs.countP p
theorem cnt_take {p : Int → Bool} {xs : List Int} {k : Nat} (hk : k < xs.length) : cnt p (xs.take (k + 1)) = cnt p (xs.take k) + if p (nth xs k) then 1 else 0 := by
  rw [take_nth hk]; simp [cnt, List.countP_append, List.countP_cons]
theorem cnt_le (p : Int → Bool) (xs : List Int) : cnt p xs ≤ xs.length := List.countP_le_length
theorem cnt_take_le (p : Int → Bool) (xs : List Int) (k : Nat) : cnt p (xs.take k) ≤ k := Nat.le_trans (cnt_le _ _) (by rw [List.length_take]; omega)

/-- A product of two numbers of a range. -/
theorem mul_bd {a b : Int} {A B : Int} (ha : 0 ≤ a) (ha' : a ≤ A) (hb : 0 ≤ b) (hb' : b ≤ B) : 0 ≤ a * b ∧ a * b ≤ A * B :=
  ⟨Int.mul_nonneg ha hb, Int.mul_le_mul ha' hb' hb (by omega)⟩
theorem mul_bd1 {a b : Int} (ha : 1 ≤ a) (hb : 1 ≤ b) : 1 ≤ a * b := by
  have := Int.mul_le_mul ha hb (by omega) (by omega)
  simpa using this
/-- Is a grid of r rows and c columns with the cells xs valid? -/
def gridB (r c : Int) (xs : List Int) : Bool := inR r 1 40000 && inR c 1 40000 && decide (r * c ≤ 40000) && decide ((xs.length : Int) = r * c) && allIn (-1) 1 xs
theorem gridB_true {r c : Int} {xs : List Int} (h : gridB r c xs = true) : (1 ≤ r ∧ r ≤ 40000) ∧ (1 ≤ c ∧ c ≤ 40000) ∧ r * c ≤ 40000 ∧ (xs.length : Int) = r * c ∧ allIn (-1) 1 xs = true := by
  simp only [gridB, Bool.and_eq_true, decide_eq_true_eq] at h
  exact ⟨inR_true h.1.1.1.1, inR_true h.1.1.1.2, h.1.1.2, h.1.2, h.2⟩
theorem gridB_no {r c : Int} {xs : List Int} (h : inR r 1 40000 = false ∨ inR c 1 40000 = false ∨ ¬ r * c ≤ 40000 ∨ ¬ (xs.length : Int) = r * c) : gridB r c xs = false := by
  cases e : gridB r c xs with
  | false => rfl
  | true =>
    simp only [gridB, Bool.and_eq_true, decide_eq_true_eq] at e
    rcases h with h | h | h | h
    · rw [e.1.1.1.1] at h; exact h
    · rw [e.1.1.1.2] at h; exact h
    · exact absurd e.1.1.2 h
    · exact absurd e.1.2 h
/-- Is a number a matrix size? -/
def sizeB (n : Int) : Bool := inR n 17 41 && (n.tmod 4 == 1)
theorem sizeB_true {n : Int} (h : sizeB n = true) : ∃ N : Nat, n = N ∧ 17 ≤ N ∧ N ≤ 41 ∧ N % 4 = 1 := by
  simp only [sizeB, Bool.and_eq_true, beq_iff_eq] at h
  have h1 := inR_true h.1
  obtain ⟨N, rfl⟩ := Int.eq_ofNat_of_zero_le (show 0 ≤ n by omega)
  have h2 := h.2
  rw [Int.tmod_eq_emod_of_nonneg (by omega)] at h2
  exact ⟨N, rfl, by omega, by omega, by omega⟩
end Go.Proofs.Ytkipaefhnmfebaa
