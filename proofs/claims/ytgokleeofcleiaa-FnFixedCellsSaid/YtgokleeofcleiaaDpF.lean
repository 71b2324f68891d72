/-
  Plain mathematics: the data cells of a matrix size are free cells of its fixed grid. No program in sight.
-/
import Derived.Test.YtgokleeofcleiaaDpN
import Derived.Test.YtgokleeofcleiaaDat
namespace Go.Proofs.Ytgokleeofcleiaa
open Go.RowKit

theorem colP_keep {keep : Int → Int → Bool} {N j : Nat} : ∀ m, ∀ p ∈ colP keep N j m, keep p.1 p.2 = true := by
  intro m
  induction m with
  | zero => intro p hp; simp [colP] at hp
  | succ m ih =>
    intro p hp
    simp only [colP] at hp
    rcases List.mem_append.1 hp with hp | hp
    · exact ih p hp
    · split at hp
      · rename_i hk
        simp only [List.mem_singleton] at hp
        subst hp
        exact hk
      · simp at hp
theorem dpL_keep {keep : Int → Int → Bool} {N : Nat} : ∀ j, ∀ p ∈ dpL keep N j, keep p.1 p.2 = true := by
  intro j
  induction j with
  | zero => intro p hp; simp [dpL] at hp
  | succ j ih =>
    intro p hp
    simp only [dpL] at hp
    rcases List.mem_append.1 hp with hp | hp
    · exact ih p hp
    · exact colP_keep _ p hp
theorem data_free {N : Nat} (h : 17 ≤ N ∧ N ≤ 41 ∧ N % 4 = 1) {k : Nat} (hk : k < (dataL N).length) :
    ∃ R C : Nat, nthP (dataL N) k = ((R : Int), (C : Int)) ∧ R < N ∧ C < N ∧ nth (fixL N) (R * N + C) = -1 := by
  have hm := nthP_mem hk
  have hin := data_in4 h _ hm
  have hf : nthP (dataL N) k ∈ dataF N := by rw [← data_F h]; exact hm
  have hkp := dpL_keep _ _ hf
  generalize nthP (dataL N) k = p at hin hkp
  obtain ⟨a, b⟩ := p
  simp only at hin hkp
  obtain ⟨R, rfl⟩ := Int.eq_ofNat_of_zero_le hin.1
  obtain ⟨C, rfl⟩ := Int.eq_ofNat_of_zero_le hin.2.1
  have hR : R < N := by omega
  have hC : C < N := by omega
  refine ⟨R, C, rfl, hR, hC, ?_⟩
  have h1 := fixL_in h (cell_lt hR hC)
  rw [fixL_nth hR hC] at h1 ⊢
  simp only [noF, Bool.not_eq_true', Bool.or_eq_false_iff, decide_eq_false_iff_not] at hkp
  omega
theorem fixL_grid {N : Nat} (h : 17 ≤ N ∧ N ≤ 41 ∧ N % 4 = 1) : gridB N N (fixL N) = true := by
  have hNN : N * N ≤ 1681 := Nat.mul_le_mul h.2.1 h.2.1
  have hNi : ((N : Int) * N) = ((N * N : Nat) : Int) := by simp
  unfold gridB
  rw [fixL_len, hNi]
  simp only [Bool.and_eq_true, decide_eq_true_eq]
  refine ⟨⟨⟨⟨?_, ?_⟩, by omega⟩, trivial⟩, ?_⟩
  · unfold inR; simp; omega
  · unfold inR; simp; omega
  · unfold allIn
    refine List.all_eq_true.2 fun x hx => ?_
    obtain ⟨k, hk, rfl⟩ := List.getElem_of_mem hx
    have := fixL_in h (by rw [← fixL_len]; exact hk : k < N * N)
    rw [nth_lt hk] at this
    exact inR_mk this.1 this.2
theorem size_nat {N : Nat} (h : 17 ≤ N ∧ N ≤ 41 ∧ N % 4 = 1) : sizeB (N : Int) = true := by
  unfold sizeB
  rw [inR_mk (by omega) (by omega), Int.tmod_eq_emod_of_nonneg (by omega)]
  simp; omega
end Go.Proofs.Ytgokleeofcleiaa
