/-
  Plain mathematics: the data cells of a size are distinct; the index of one. No program in sight.
-/
import Derived.Test.YteghpageamehkaaDp
namespace Go.Proofs.Yteghpageamehkaa
open Go.RowKit

/-- Where a place stands in the order of all places of the pairs of columns. -/
def ordP (N : Nat) (p : Int × Int) : Nat :=
  let j := if p.2 ≤ 5 then ((N : Int) - 2 - p.2) / 2 else ((N : Int) - 1 - p.2) / 2
  let e := if p.2 ≤ 5 then ((N : Int) - 2 - p.2) % 2 else ((N : Int) - 1 - p.2) % 2
  let q := if j.toNat % 2 = 0 then (N : Int) - 1 - p.1 else p.1
  j.toNat * (2 * N) + (2 * q + e).toNat
def ordOk : Bool := sizes.all fun N => (List.range ((N - 1) / 2)).all fun j => (List.range (2 * N)).all fun m => ordP N (plcR N j m, plcC N j m) == j * (2 * N) + m
theorem ordOk_true : ordOk = true := by decide +kernel
theorem ord_at {N j m : Nat} (h : 17 ≤ N ∧ N ≤ 41 ∧ N % 4 = 1) (hj : j < (N - 1) / 2) (hm : m < 2 * N) : ordP N (plcR N j m, plcC N j m) = j * (2 * N) + m := by
  have h1 := List.all_eq_true.1 ordOk_true N (size_mem h)
  have h2 := List.all_eq_true.1 h1 j (List.mem_range.2 hj)
  have h3 := List.all_eq_true.1 h2 m (List.mem_range.2 hm)
  simpa using h3
theorem colP_ord {keep : Int → Int → Bool} {N j : Nat} (h : 17 ≤ N ∧ N ≤ 41 ∧ N % 4 = 1) (hj : j < (N - 1) / 2) :
    ∀ {m : Nat}, m ≤ 2 * N → (colP keep N j m).Pairwise (fun p q => ordP N p < ordP N q) ∧ ∀ p ∈ colP keep N j m, j * (2 * N) ≤ ordP N p ∧ ordP N p < j * (2 * N) + m := by
  intro m
  induction m with
  | zero => intro _; exact ⟨by simp [colP], fun p hp => by simp [colP] at hp⟩
  | succ m ih =>
    intro hm
    obtain ⟨h1, h2⟩ := ih (by omega)
    have ho := ord_at h hj (show m < 2 * N by omega)
    simp only [colP]
    split
    · refine ⟨?_, ?_⟩
      · rw [List.pairwise_append]
        refine ⟨h1, by simp, ?_⟩
        intro p hp q hq
        simp only [List.mem_singleton] at hq
        subst hq
        rw [ho]; exact (h2 p hp).2
      · intro p hp
        rcases List.mem_append.1 hp with hp | hp
        · have := h2 p hp; omega
        · simp only [List.mem_singleton] at hp
          subst hp
          rw [ho]; omega
    · simp only [List.append_nil]
      exact ⟨h1, fun p hp => by have := h2 p hp; omega⟩
theorem dpL_ord {keep : Int → Int → Bool} {N : Nat} (h : 17 ≤ N ∧ N ≤ 41 ∧ N % 4 = 1) :
    ∀ {j : Nat}, j ≤ (N - 1) / 2 → (dpL keep N j).Pairwise (fun p q => ordP N p < ordP N q) ∧ ∀ p ∈ dpL keep N j, ordP N p < j * (2 * N) := by
  intro j
  induction j with
  | zero => intro _; exact ⟨by simp [dpL], fun p hp => by simp [dpL] at hp⟩
  | succ j ih =>
    intro hj
    obtain ⟨h1, h2⟩ := ih (by omega)
    obtain ⟨h3, h4⟩ := colP_ord (keep := keep) h (show j < (N - 1) / 2 by omega) (Nat.le_refl (2 * N))
    have e : (j + 1) * (2 * N) = j * (2 * N) + 2 * N := Nat.succ_mul _ _
    simp only [dpL]
    refine ⟨?_, ?_⟩
    · rw [List.pairwise_append]
      exact ⟨h1, h3, fun p hp q hq => by have := h2 p hp; have := h4 q hq; omega⟩
    · intro p hp
      rcases List.mem_append.1 hp with hp | hp
      · have := h2 p hp; omega
      · have := h4 p hp; omega
theorem data_apart {N : Nat} (h : 17 ≤ N ∧ N ≤ 41 ∧ N % 4 = 1) {i j : Nat} (hij : i < j) (hj : j < (dataL N).length) : nthP (dataL N) i ≠ nthP (dataL N) j := by
  have hp := (dpL_ord (keep := fun r c => !noD N r c) h (Nat.le_refl _)).1
  have := List.pairwise_iff_getElem.1 hp i j (by unfold dataL at hj; omega) (by unfold dataL at hj; exact hj) hij
  rw [nthP_lt (by omega), nthP_lt hj]
  intro e
  unfold dataL at e
  rw [e] at this
  omega
/-- The index of a place among the first k. -/
def ixL (ps : List (Int × Int)) (r c : Int) : Nat → Option Int
  | 0 => none
  | k + 1 => if eqP r c (nthP ps k) then some (k : Int) else ixL ps r c k
theorem eqP_iff {r c : Int} {p : Int × Int} : eqP r c p = true ↔ p = (r, c) := by
  unfold eqP
  obtain ⟨a, b⟩ := p
  simp only [Bool.and_eq_true, beq_iff_eq, Prod.mk.injEq]
  exact ⟨fun h => ⟨h.1.symm, h.2.symm⟩, fun h => ⟨h.1.symm, h.2.symm⟩⟩
theorem ixL_none {ps : List (Int × Int)} {r c : Int} : ∀ {n : Nat}, (∀ i, i < n → eqP r c (nthP ps i) = false) → ixL ps r c n = none := by
  intro n
  induction n with
  | zero => intro _; rfl
  | succ n ih => intro h; simp only [ixL]; rw [h n (by omega)]; exact ih (fun i hi => h i (by omega))
theorem ixL_at {ps : List (Int × Int)} {r c : Int} {k : Nat} (hk : eqP r c (nthP ps k) = true) : ∀ {n : Nat}, k < n → (∀ j, k < j → j < n → eqP r c (nthP ps j) = false) → ixL ps r c n = some (k : Int) := by
  intro n
  induction n with
  | zero => intro h; omega
  | succ n ih =>
    intro h hj
    simp only [ixL]
    by_cases e : n = k
    · subst e; rw [hk]; rfl
    · rw [hj n (by omega) (by omega)]
      exact ih (by omega) (fun j h1 h2 => hj j h1 (by omega))
theorem ix_found {N : Nat} (h : 17 ≤ N ∧ N ≤ 41 ∧ N % 4 = 1) {r c : Int} {k : Nat} (hk : k < (dataL N).length) (he : eqP r c (nthP (dataL N) k) = true) : ixL (dataL N) r c (dataL N).length = some (k : Int) := by
  refine ixL_at he hk fun j h1 h2 => ?_
  cases e : eqP r c (nthP (dataL N) j) with
  | false => rfl
  | true => exact absurd ((eqP_iff.1 he).trans (eqP_iff.1 e).symm) (data_apart h h1 h2)
theorem ixL_in {ps : List (Int × Int)} {r c : Int} : ∀ {n : Nat}, 0 ≤ (ixL ps r c n).getD 0 ∧ (ixL ps r c n).getD 0 ≤ n := by
  intro n
  induction n with
  | zero => simp [ixL]
  | succ n ih => simp only [ixL]; split <;> simp <;> omega
end Go.Proofs.Yteghpageamehkaa
