/-
  Plain mathematics: how math/bits counts the bits of a number below 2^24. No program in sight.
-/
import Derived.Test.YtkipaefhnmfebaaFw
namespace Go.Proofs.Ytkipaefhnmfebaa
open Go.RowKit

theorem land_split (y m r M : Nat) (hy : y < 256) (hm : m < 256) : (y + 256 * r) &&& (m + 256 * M) = (y &&& m) + 256 * (r &&& M) := by
  have h1 : y &&& m < 2 ^ 8 := Nat.lt_of_le_of_lt Nat.and_le_left (by omega)
  have e1 : y + 256 * r = 2 ^ 8 * r + y := by omega
  have e2 : m + 256 * M = 2 ^ 8 * M + m := by omega
  have e3 : (y &&& m) + 256 * (r &&& M) = 2 ^ 8 * (r &&& M) + (y &&& m) := by omega
  rw [e1, e2, e3]
  apply Nat.eq_of_testBit_eq
  intro i
  rw [Nat.testBit_and, Nat.testBit_two_pow_mul_add _ (by omega), Nat.testBit_two_pow_mul_add _ (by omega), Nat.testBit_two_pow_mul_add _ h1]
  by_cases h : i < 8 <;> simp [h]
/-- n bytes c. -/
def mk8 (c : Nat) : Nat → Nat
  | 0 => 0
  | n + 1 => c + 256 * mk8 c n
def stA (n x : Nat) : Nat := (x / 2 &&& mk8 85 n) + (x &&& mk8 85 n)
def stB (n x : Nat) : Nat := (x / 4 &&& mk8 51 n) + (x &&& mk8 51 n)
def stC (n x : Nat) : Nat := (x / 16 + x) &&& mk8 15 n
theorem byteA : ∀ y : Fin 256, ∀ t : Fin 2, ((y.val / 2 + 128 * t.val) &&& 85) + (y.val &&& 85) = stA 1 y.val ∧ stA 1 y.val < 256 := by decide +kernel
theorem byteB : ∀ y : Fin 256, ∀ t : Fin 4, ((y.val / 4 + 64 * t.val) &&& 51) + (y.val &&& 51) = stB 1 y.val ∧ stB 1 y.val < 256 := by decide +kernel
theorem byteN : ∀ y : Fin 256, stB 1 (stA 1 y.val) % 16 ≤ 4 ∧ stB 1 (stA 1 y.val) ≤ 68 ∧ stC 1 (stB 1 (stA 1 y.val)) = popc 8 y.val := by decide +kernel
theorem byteC : ∀ b : Fin 69, ∀ t : Fin 5, ((b.val / 16 + b.val + 16 * t.val) &&& 15) = stC 1 b.val := by decide +kernel
theorem stA_split (n y r : Nat) (hy : y < 256) : stA (n + 1) (y + 256 * r) = stA 1 y + 256 * stA n r := by
  have h := (byteA ⟨y, hy⟩ ⟨r % 2, by omega⟩).1
  simp only at h
  have e : (y + 256 * r) / 2 = (y / 2 + 128 * (r % 2)) + 256 * (r / 2) := by omega
  show ((y + 256 * r) / 2 &&& (85 + 256 * mk8 85 n)) + ((y + 256 * r) &&& (85 + 256 * mk8 85 n)) = _
  rw [e, land_split _ _ _ _ (by omega) (by decide), land_split _ _ _ _ hy (by decide), ← h]
  unfold stA; omega
theorem stB_split (n y r : Nat) (hy : y < 256) : stB (n + 1) (y + 256 * r) = stB 1 y + 256 * stB n r := by
  have h := (byteB ⟨y, hy⟩ ⟨r % 4, by omega⟩).1
  simp only at h
  have e : (y + 256 * r) / 4 = (y / 4 + 64 * (r % 4)) + 256 * (r / 4) := by omega
  show ((y + 256 * r) / 4 &&& (51 + 256 * mk8 51 n)) + ((y + 256 * r) &&& (51 + 256 * mk8 51 n)) = _
  rw [e, land_split _ _ _ _ (by omega) (by decide), land_split _ _ _ _ hy (by decide), ← h]
  unfold stB; omega
theorem stC_split (n b r : Nat) (hb : b ≤ 68) (hr : r % 16 ≤ 4) : stC (n + 1) (b + 256 * r) = stC 1 b + 256 * stC n r := by
  have h := byteC ⟨b, by omega⟩ ⟨r % 16, by omega⟩
  simp only at h
  have e : (b + 256 * r) / 16 + (b + 256 * r) = (b / 16 + b + 16 * (r % 16)) + 256 * (r / 16 + r) := by omega
  show ((b + 256 * r) / 16 + (b + 256 * r)) &&& (15 + 256 * mk8 15 n) = _
  rw [e, land_split _ _ _ _ (by omega) (by decide), ← h]
  rfl
def st3 (n x : Nat) : Nat := stC n (stB n (stA n x))
theorem st3_zero (n : Nat) : stA n 0 = 0 ∧ stB n 0 = 0 ∧ stC n 0 = 0 := by simp [stA, stB, stC]
theorem st3_split (n y r : Nat) (hy : y < 256) (hr : stB n (stA n r) % 16 ≤ 4) : st3 (n + 1) (y + 256 * r) = popc 8 y + 256 * st3 n r ∧ stB (n + 1) (stA (n + 1) (y + 256 * r)) % 16 ≤ 4 := by
  have h := byteN ⟨y, hy⟩
  simp only at h
  have hA := (byteA ⟨y, hy⟩ ⟨0, by omega⟩).2
  simp only at hA
  unfold st3
  rw [stA_split n y r hy, stB_split n _ _ hA]
  refine ⟨?_, by omega⟩
  rw [stC_split n _ _ h.2.1 hr, h.2.2]
theorem bit_low (y r j : Nat) (hj : j < 8) : (y + 256 * r) / 2 ^ j % 2 = y / 2 ^ j % 2 := by
  have : j = 0 ∨ j = 1 ∨ j = 2 ∨ j = 3 ∨ j = 4 ∨ j = 5 ∨ j = 6 ∨ j = 7 := by omega
  rcases this with rfl | rfl | rfl | rfl | rfl | rfl | rfl | rfl <;> simp only [Nat.reducePow] <;> omega
theorem popc_low (y r : Nat) : ∀ j, j ≤ 8 → popc j (y + 256 * r) = popc j y := by
  intro j
  induction j with
  | zero => intro _; rfl
  | succ j ih => intro hj; simp only [popc]; rw [ih (by omega), bit_low y r j (by omega)]
theorem popc_split (w y r : Nat) (hy : y < 256) : popc (w + 8) (y + 256 * r) = popc w r + popc 8 y := by
  induction w with
  | zero =>
    have h0 : popc 0 r = 0 := rfl
    rw [h0, Nat.zero_add, Nat.zero_add]
    exact popc_low y r 8 (Nat.le_refl _)
  | succ w ih =>
    rw [show w + 1 + 8 = (w + 8) + 1 by omega]
    have u1 : ∀ z, popc (w + 8 + 1) z = z / 2 ^ (w + 8) % 2 + popc (w + 8) z := fun _ => rfl
    have u2 : ∀ z, popc (w + 1) z = z / 2 ^ w % 2 + popc w z := fun _ => rfl
    rw [u1, u2, ih]
    have e : (y + 256 * r) / 2 ^ (w + 8) = r / 2 ^ w := by
      rw [Nat.pow_add, Nat.mul_comm (2 ^ w), ← Nat.div_div_eq_div_mul]
      congr 1
      omega
    rw [e]
    omega
/-- What math/bits reckons. -/
def swar (x : Nat) : Nat :=
  let c := st3 8 x
  let d := c + c / 256
  let e := d + d / 65536
  (e + e / 4294967296) % 128
theorem st3_24 (x : Nat) (hx : x < 16777216) : ∃ p q r : Nat, p ≤ 8 ∧ q ≤ 8 ∧ r ≤ 8 ∧ st3 8 x = p + 256 * q + 65536 * r ∧ popc 24 x = p + q + r := by
  obtain ⟨y0, y1, y2, h0, h1, h2, rfl⟩ : ∃ y0 y1 y2 : Nat, y0 < 256 ∧ y1 < 256 ∧ y2 < 256 ∧ x = y0 + 256 * (y1 + 256 * (y2 + 256 * 0)) :=
    ⟨x % 256, x / 256 % 256, x / 65536, by omega, by omega, by omega, by omega⟩
  have z := st3_zero 5
  have z5 : stB 5 (stA 5 0) % 16 ≤ 4 := by rw [z.1, z.2.1]; omega
  have z3 : st3 5 0 = 0 := by unfold st3; rw [z.1, z.2.1, z.2.2]
  have a := st3_split 5 y2 0 h2 z5
  have b := st3_split 6 y1 _ h1 a.2
  have c := st3_split 7 y0 _ h0 b.2
  have q1 : popc 24 (y0 + 256 * (y1 + 256 * (y2 + 256 * 0))) = popc 16 (y1 + 256 * (y2 + 256 * 0)) + popc 8 y0 := popc_split 16 y0 _ h0
  have q2 : popc 16 (y1 + 256 * (y2 + 256 * 0)) = popc 8 (y2 + 256 * 0) + popc 8 y1 := popc_split 8 y1 _ h1
  have q3 : popc 8 (y2 + 256 * 0) = popc 8 y2 := by rw [Nat.mul_zero, Nat.add_zero]
  have l0 := popc_le 8 y0
  have l1 := popc_le 8 y1
  have l2 := popc_le 8 y2
  refine ⟨popc 8 y0, popc 8 y1, popc 8 y2, l0, l1, l2, ?_, ?_⟩
  · rw [c.1, b.1, a.1, z3]; omega
  · rw [q1, q2, q3]; omega
theorem swar_popc (x : Nat) (hx : x < 16777216) : swar x = popc 24 x := by
  obtain ⟨p, q, r, hp, hq, hr, h1, h2⟩ := st3_24 x hx
  have e1 : (p + 256 * q + 65536 * r) / 256 = q + 256 * r := by omega
  have e2 : (p + 256 * q + 65536 * r + (q + 256 * r)) / 65536 = r := by omega
  have e3 : (p + 256 * q + 65536 * r + (q + 256 * r) + r) / 4294967296 = 0 := by omega
  unfold swar
  rw [h1, h2]
  simp only
  rw [e1, e2, e3]
  omega
/-- A number below 2^w has no bits from w on. -/
theorem popc_more {w v : Nat} (h : v < 2 ^ w) : ∀ n, popc (w + n) v = popc w v := by
  intro n
  induction n with
  | zero => rfl
  | succ n ih =>
    rw [← Nat.add_assoc, popc, ih]
    rw [Nat.div_eq_of_lt (Nat.lt_of_lt_of_le h (Nat.pow_le_pow_right (by decide) (by omega)))]
    omega
end Go.Proofs.Ytkipaefhnmfebaa
