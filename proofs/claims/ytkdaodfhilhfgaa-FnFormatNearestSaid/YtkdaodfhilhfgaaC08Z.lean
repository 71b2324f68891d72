/-
  Plain facts of what NearestFormat and FormatShare tell.
-/
import Derived.Test.YtkdaodfhilhfgaaC08S
import Derived.Test.YtkdaodfhilhfgaaDist
namespace Go.Proofs.Ytkdaodfhilhfgaa
open Go.RowKit

theorem share_plain {d l p : Int} {xs ys : List Int} (h : shC d l p xs ys = 0) : (nfC d l p xs = 0 ∧ nfV d l p xs = shV d l p xs ys) ∨ (nfC d l p ys = 0 ∧ nfV d l p ys = shV d l p xs ys) := by
  revert h
  unfold shC nfC nfV shV pick2
  cases fcodeB d l p <;> cases listB xs l <;> cases listB ys l <;> cases nOk d l p xs <;> cases nOk d l p ys <;> simp
  by_cases h2 : 2 * nL d l p ys + unkL ys < 2 * nL d l p xs + unkL xs <;> simp [h2]
  exact .inr (fun h3 => by omega)
/-- What is read from a word with few errors. -/
theorem near_told {D k P v m : Nat} (hD0 : 1 ≤ D) (hD : D ≤ 8) (hk0 : 1 ≤ k) (hDk : D + k ≤ 24) (hp : polyOk P k) (hv : v < 2 ^ D) (hm : 2 * m < minD D (D + k) P (2 ^ D)) :
    let xs := flipL m (bitsL (D + k) (fword D (D + k) P v))
    nfC D ((D : Int) + k) P xs = 0 ∧ nfV D ((D : Int) + k) P xs = v ∧ nfD D ((D : Int) + k) P xs = m ∧ shC D ((D : Int) + k) P xs xs = 0 ∧ shV D ((D : Int) + k) P xs xs = v := by
  intro xs
  have hp' : polyOk P (D + k - D) := by rw [show D + k - D = k by omega]; exact hp
  have hb : ∀ x ∈ xs, x = 0 ∨ x = 1 := flip_01 (fun y hy => bitsL_01 hy)
  have hu : unkL xs = 0 := unk_zero (fun x hx => by have := hb x hx; omega)
  have hlen : xs.length = D + k := by show (flipL m _).length = _; rw [flip_len, bitsL_len]
  have hn : nearN (farV D k P xs) (D + k) (2 ^ D) = (v, m) := near_flip hp' hv hm
  obtain ⟨e1, e2, e3⟩ := n_at D k P xs
  rw [hn] at e1 e2 e3
  rw [hu] at e3
  have hc : fcodeB D ((D : Int) + k) P = true := fcodeB_mk hD0 hD hk0 hDk hp
  have hl : listB xs ((D : Int) + k) = true := by
    unfold listB
    rw [Bool.and_eq_true]
    refine ⟨by unfold allR; rw [List.all_eq_true]; intro x hx; rcases hb x hx with rfl | rfl <;> decide, ?_⟩
    rw [hlen]; simp
  have ho : nOk D ((D : Int) + k) P xs = true := by rw [e3]; exact decide_eq_true (by omega)
  unfold nfC nfV nfD shC shV pick2
  simp [hc, hl, ho, e1, e2]
end Go.Proofs.Ytkdaodfhilhfgaa
