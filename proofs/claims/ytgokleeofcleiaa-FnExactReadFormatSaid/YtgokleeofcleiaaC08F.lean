/-
  Contracts of chapter 8: the format word of a number.
-/
import Derived.Test.YtgokleeofcleiaaC08D
import Derived.Test.YtgokleeofcleiaaRegOwn
namespace Go.Proofs.Ytgokleeofcleiaa
open Go.RowKit

/-- The format word, and the code. -/
def fwC (d l p v : Int) : Int := if fcodeB d l p then (if inR v 0 (2 ^ d.toNat - 1) then 0 else 2) else 1
def fwL (d l p v : Int) : List Int := if fcodeB d l p then (if inR v 0 (2 ^ d.toNat - 1) then bitsL l.toNat (fword d.toNat l.toNat p.toNat v.toNat) else []) else []
theorem fw_no1 {d l p v : Int} (h : fcodeB d l p = false) : fwC d l p v = 1 ∧ fwL d l p v = [] := by unfold fwC fwL; simp [h]
theorem fw_no2 {D k P : Nat} {v : Int} (h : fcodeB D ((D : Int) + k) P = true) (h2 : inR v 0 (2 ^ D - 1) = false) : fwC D ((D : Int) + k) P v = 2 ∧ fwL D ((D : Int) + k) P v = [] := by
  unfold fwC fwL; simp [h, h2]
theorem fw_yes {D k P v : Nat} (h : fcodeB D ((D : Int) + k) P = true) (h2 : inR (v : Int) 0 (2 ^ D - 1) = true) :
    fwC D ((D : Int) + k) P v = 0 ∧ fwL D ((D : Int) + k) P v = bitsL (D + k) (fword D (D + k) P v) := by
  refine ⟨by unfold fwC; simp [h, h2], ?_⟩
  unfold fwL; simp only [h, Int.toNat_natCast, h2, if_true]
  rw [show ((D : Int) + k).toNat = D + k by omega]
theorem inR_pow {D : Nat} {v : Int} : (inR v 0 (2 ^ D - 1) = true ∧ ∃ V : Nat, v = V ∧ V < 2 ^ D) ∨ (inR v 0 (2 ^ D - 1) = false ∧ (v < 0 ∨ ∃ V : Nat, v = V ∧ ¬ V < 2 ^ D)) := by
  have e : ((2 ^ D : Nat) : Int) = (2 : Int) ^ D := by simp
  rw [← e]
  have hp := Nat.two_pow_pos D
  rcases inR_cases v 0 (((2 ^ D : Nat) : Int) - 1) with ⟨h, h1, h2⟩ | ⟨h, h1 | h1⟩
  · exact .inl ⟨h, v.toNat, by omega, by omega⟩
  · exact .inr ⟨h, .inl h1⟩
  · exact .inr ⟨h, .inr ⟨v.toNat, by omega, by omega⟩⟩
theorem fcodeB_mk' {D k P : Nat} (hD0 : 1 ≤ D) (hD : D ≤ 8) (hk0 : 1 ≤ k) (hk : D + k ≤ 24) (hp : polyOk P k) : fcodeB D ((D : Int) + k) P = true := fcodeB_mk hD0 hD hk0 hk hp
end Go.Proofs.Ytgokleeofcleiaa
