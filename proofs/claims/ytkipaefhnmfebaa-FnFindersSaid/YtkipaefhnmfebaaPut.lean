/-
  Plain mathematics: a grid with a format word. No program in sight.
-/
import Derived.Test.YtkipaefhnmfebaaDp
import Derived.Test.YtkipaefhnmfebaaFw
namespace Go.Proofs.Ytkipaefhnmfebaa
open Go.RowKit

def idxP (N : Nat) (p : Int × Int) : Nat := (p.1 * N + p.2).toNat
/-- The cells with the first i bits of a word at two lists of places. -/
def put1 (N : Nat) (ps qs : List (Int × Int)) (ws xs : List Int) : Nat → List Int
  | 0 => xs
  | i + 1 => ((put1 N ps qs ws xs i).set (idxP N (nthP ps i)) (nth ws i)).set (idxP N (nthP qs i)) (nth ws i)
theorem put1_len (N : Nat) (ps qs : List (Int × Int)) (ws xs : List Int) : ∀ i, (put1 N ps qs ws xs i).length = xs.length := by
  intro i
  induction i with
  | zero => rfl
  | succ i ih => simp only [put1, List.length_set, ih]
theorem nth_set {xs : List Int} {a k : Nat} {v : Int} (hk : k < xs.length) : nth (xs.set a v) k = if a = k then v else nth xs k := by
  unfold nth
  rw [List.getD_eq_getElem?_getD, List.getElem?_set]
  by_cases e : a = k
  · subst e; simp [hk]
  · simp [e]
theorem put1_neg {N : Nat} {ps qs : List (Int × Int)} {ws xs : List Int} {k : Nat} (hk : k < xs.length) (hw : ∀ i, 0 ≤ nth ws i) :
    ∀ i, nth (put1 N ps qs ws xs i) k < 0 ↔ nth xs k < 0 ∧ ∀ j, j < i → idxP N (nthP ps j) ≠ k ∧ idxP N (nthP qs j) ≠ k := by
  intro i
  induction i with
  | zero => simp [put1]
  | succ i ih =>
    have hl := put1_len N ps qs ws xs i
    simp only [put1]
    rw [nth_set (by rw [List.length_set, hl]; exact hk), nth_set (by rw [hl]; exact hk)]
    have h0 := hw i
    by_cases e2 : idxP N (nthP qs i) = k
    · rw [if_pos e2]
      refine ⟨fun h => absurd h (by omega), fun ⟨_, h⟩ => absurd e2 (h i (by omega)).2⟩
    · rw [if_neg e2]
      by_cases e1 : idxP N (nthP ps i) = k
      · rw [if_pos e1]
        refine ⟨fun h => absurd h (by omega), fun ⟨_, h⟩ => absurd e1 (h i (by omega)).1⟩
      · rw [if_neg e1, ih]
        refine ⟨fun ⟨h1, h2⟩ => ⟨h1, fun j hj => ?_⟩, fun ⟨h1, h2⟩ => ⟨h1, fun j hj => h2 j (by omega)⟩⟩
        by_cases ej : j = i
        · subst ej; exact ⟨e1, e2⟩
        · exact h2 j (by omega)
theorem put1_in {N : Nat} {ps qs : List (Int × Int)} {ws xs : List Int} (hw : ∀ i, -1 ≤ nth ws i ∧ nth ws i ≤ 1) (hx : ∀ x ∈ xs, -1 ≤ x ∧ x ≤ 1) : ∀ i, ∀ x ∈ put1 N ps qs ws xs i, -1 ≤ x ∧ x ≤ 1 := by
  intro i
  induction i with
  | zero => exact hx
  | succ i ih =>
    intro x h
    simp only [put1] at h
    rcases List.mem_or_eq_of_mem_set h with h | rfl
    · rcases List.mem_or_eq_of_mem_set h with h | rfl
      · exact ih x h
      · exact hw i
    · exact hw i
theorem idx_eq {N R C : Nat} {p : Int × Int} (hp : 0 ≤ p.1 ∧ 0 ≤ p.2 ∧ p.1 < N ∧ p.2 < N) (hC : C < N) : idxP N p = R * N + C ↔ p = ((R : Int), (C : Int)) := by
  obtain ⟨a, b⟩ := p
  simp only at hp
  obtain ⟨A, rfl⟩ := Int.eq_ofNat_of_zero_le hp.1
  obtain ⟨B, rfl⟩ := Int.eq_ofNat_of_zero_le hp.2.1
  have hB : B < N := by omega
  have hN : 0 < N := by omega
  unfold idxP
  rw [show ((A : Int) * N + B) = ((A * N + B : Nat) : Int) by simp, Int.toNat_natCast]
  constructor
  · intro h
    have h1 : (A * N + B) / N = (R * N + C) / N := by rw [h]
    have h2 : (A * N + B) % N = (R * N + C) % N := by rw [h]
    rw [Nat.mul_comm, Nat.mul_add_div hN, Nat.mul_comm R, Nat.mul_add_div hN, Nat.div_eq_of_lt hB, Nat.div_eq_of_lt hC] at h1
    rw [Nat.mul_comm, Nat.mul_add_mod, Nat.mul_comm R, Nat.mul_add_mod, Nat.mod_eq_of_lt hB, Nat.mod_eq_of_lt hC] at h2
    have h3 : A = R := by omega
    rw [h3, h2]
  · intro h
    simp only [Prod.mk.injEq, Int.ofNat_inj] at h
    rw [h.1, h.2]
theorem any_nth {ps : List (Int × Int)} {r c : Int} : ps.any (eqP r c) = false ↔ ∀ j, j < ps.length → nthP ps j ≠ (r, c) := by
  rw [List.any_eq_false]
  constructor
  · intro h j hj e
    have := h _ (nthP_mem hj)
    rw [e] at this
    simp [eqP] at this
  · intro h p hp
    obtain ⟨j, hj, rfl⟩ := List.getElem_of_mem hp
    have := h j hj
    rw [nthP_lt hj] at this
    unfold eqP
    intro e
    simp only [Bool.and_eq_true, beq_iff_eq] at e
    exact this (by rw [e.1, e.2])
/-- The bits of a number as a format word. -/
def stdW (V : Nat) : List Int := bitsL 15 (fword 5 15 1335 V)
theorem stdW_len (V : Nat) : (stdW V).length = 15 := bitsL_len _ _
theorem stdW_01 (V i : Nat) : 0 ≤ nth (stdW V) i ∧ nth (stdW V) i ≤ 1 := by
  by_cases h : i < 15
  · have := bitsL_01 (nth_mem (xs := stdW V) (k := i) (by rw [stdW_len]; exact h))
    omega
  · unfold nth; rw [List.getD_eq_getElem?_getD, List.getElem?_eq_none (by rw [stdW_len]; omega)]; simp
/-- The grid of a size with its fixed cells and a format word: its unknown cells are the data cells. -/
theorem put_noD {N V : Nat} (h : 17 ≤ N ∧ N ≤ 41 ∧ N % 4 = 1) {r c : Int} (hr : 0 ≤ r ∧ r < N) (hc : 0 ≤ c ∧ c < N) :
    decide (nth (put1 N fmtA (fmtB N) (stdW V) (fixL N) 15) (r * N + c).toNat < 0) = !noD N r c := by
  obtain ⟨R, rfl⟩ := Int.eq_ofNat_of_zero_le hr.1
  obtain ⟨C, rfl⟩ := Int.eq_ofNat_of_zero_le hc.1
  have hR : R < N := by omega
  have hC : C < N := by omega
  have hlt := cell_lt hR hC
  have e : (R : Int) * N + C = ((R * N + C : Nat) : Int) := by simp
  rw [e, Int.toNat_natCast]
  have h1 := put1_neg (N := N) (ps := fmtA) (qs := fmtB N) (ws := stdW V) (xs := fixL N) (k := R * N + C) (by rw [fixL_len]; exact hlt) (fun i => (stdW_01 V i).1) 15
  rw [fixL_nth hR hC] at h1
  rw [noD_F ⟨by omega, by omega⟩ ⟨by omega, by omega⟩]
  unfold noF
  rw [List.any_append]
  have ha : (∀ j, j < 15 → idxP N (nthP fmtA j) ≠ R * N + C) ↔ fmtA.any (eqP R C) = false := by
    rw [any_nth]
    refine ⟨fun q j hj => ?_, fun q j hj => ?_⟩
    · have hm := fmt_in h (List.mem_append_left (fmtB N) (nthP_mem hj))
      exact fun e => q j hj ((idx_eq hm hC).2 e)
    · have hm := fmt_in h (List.mem_append_left (fmtB N) (nthP_mem (ps := fmtA) hj))
      exact fun e => q j hj ((idx_eq hm hC).1 e)
  have hb : (∀ j, j < 15 → idxP N (nthP (fmtB N) j) ≠ R * N + C) ↔ (fmtB N).any (eqP R C) = false := by
    rw [any_nth]
    refine ⟨fun q j hj => ?_, fun q j hj => ?_⟩
    · have hm := fmt_in h (List.mem_append_right fmtA (nthP_mem hj))
      exact fun e => q j hj ((idx_eq hm hC).2 e)
    · have hm := fmt_in h (List.mem_append_right fmtA (nthP_mem (ps := fmtB N) hj))
      exact fun e => q j hj ((idx_eq hm hC).1 e)
  have hab : (∀ j, j < 15 → idxP N (nthP fmtA j) ≠ R * N + C ∧ idxP N (nthP (fmtB N) j) ≠ R * N + C) ↔ (fmtA.any (eqP R C) = false ∧ (fmtB N).any (eqP R C) = false) := by
    rw [← ha, ← hb]
    exact ⟨fun q => ⟨fun j hj => (q j hj).1, fun j hj => (q j hj).2⟩, fun q j hj => ⟨q.1 j hj, q.2 j hj⟩⟩
  rw [Bool.eq_iff_iff]
  simp only [decide_eq_true_eq, Bool.not_eq_true', Bool.or_eq_false_iff, decide_eq_false_iff_not, h1, hab]
  constructor
  · rintro ⟨a, b⟩; exact ⟨by omega, b⟩
  · rintro ⟨a, b⟩; exact ⟨by omega, b⟩
end Go.Proofs.Ytkipaefhnmfebaa
