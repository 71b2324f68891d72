/-
  Plain mathematics of format words: bits of numbers, remainders. No program in sight.
-/
import Derived.Test.YtkipaefhnmfebaaCore
namespace Go.Proofs.Ytkipaefhnmfebaa
open Go.RowKit

/-! ### bits of a number, the highest first -/
/-- The lowest w bits of v, the highest first. -/
def bitsL : Nat → Nat → List Int
  | 0, _ => []
  | w + 1, v => ((v / 2 ^ w % 2 : Nat) : Int) :: bitsL w v
theorem bitsL_len (w v : Nat) : (bitsL w v).length = w := by
  induction w with
  | zero => rfl
  | succ w ih => simp [bitsL, ih]
theorem bitsL_01 {w v : Nat} {x : Int} (h : x ∈ bitsL w v) : x = 0 ∨ x = 1 := by
  induction w with
  | zero => simp [bitsL] at h
  | succ w ih =>
    simp only [bitsL, List.mem_cons] at h
    rcases h with rfl | h
    · omega
    · exact ih h
theorem bitsL_add (D k v r : Nat) (hr : r < 2 ^ k) : bitsL (D + k) (v * 2 ^ k + r) = bitsL D v ++ bitsL k r := by
  have h0 : bitsL k (v * 2 ^ k + r) = bitsL k r := by
    clear hr
    suffices h : ∀ j, j ≤ k → bitsL j (v * 2 ^ k + r) = bitsL j r from h k (Nat.le_refl _)
    intro j
    induction j with
    | zero => intro _; rfl
    | succ j ih =>
      intro hj
      simp only [bitsL]
      rw [ih (by omega)]
      congr 2
      have e : v * 2 ^ k = 2 ^ j * (2 * (v * 2 ^ (k - j - 1))) := by
        have : 2 ^ k = 2 ^ j * (2 * 2 ^ (k - j - 1)) := by
          rw [← Nat.mul_assoc, ← Nat.pow_succ, ← Nat.pow_add]; congr 1; omega
        rw [this]
        simp only [Nat.mul_left_comm]
      rw [e, Nat.add_comm, Nat.add_mul_div_left _ _ (Nat.two_pow_pos _)]
      omega
  induction D with
  | zero => simpa [bitsL] using h0
  | succ D ih =>
    rw [show D + 1 + k = D + k + 1 by omega]
    simp only [bitsL, List.cons_append]
    rw [ih]
    congr 2
    rw [Nat.add_comm D k, Nat.pow_add, ← Nat.div_div_eq_div_mul, Nat.mul_comm v, Nat.add_comm, Nat.add_mul_div_left _ _ (Nat.two_pow_pos _), Nat.div_eq_of_lt hr, Nat.zero_add]
theorem nth_bitsL {w v i : Nat} (h : i < w) : nth (bitsL w v) i = ((v / 2 ^ (w - 1 - i) % 2 : Nat) : Int) := by
  induction w generalizing i with
  | zero => omega
  | succ w ih =>
    cases i with
    | zero => simp [bitsL, nth]
    | succ i =>
      have := ih (i := i) (by omega)
      unfold nth at this ⊢
      simp only [bitsL, List.getD_cons_succ]
      rw [this, show w + 1 - 1 - (i + 1) = w - 1 - i by omega]
theorem bitsL_zero (w : Nat) : bitsL w 0 = List.replicate w 0 := by
  induction w with
  | zero => rfl
  | succ w ih => simp [bitsL, ih, List.replicate_succ]

/-! ### the remainder -/
def remStep (P k at' r : Nat) : Nat := if r / 2 ^ at' % 2 = 1 then r ^^^ (P * 2 ^ (at' - k)) else r
/-- What is left behind the last n steps. -/
def remN (P k : Nat) : Nat → Nat → Nat
  | 0, r => r
  | n + 1, r => remN P k n (remStep P k (k + n) r)
theorem xor_top {a b n : Nat} (ha : a < 2 ^ (n + 1)) (hb : b < 2 ^ (n + 1)) (h1 : a / 2 ^ n % 2 = 1) (h2 : b / 2 ^ n % 2 = 1) : a ^^^ b < 2 ^ n := by
  refine Nat.lt_pow_two_of_testBit _ (fun i hi => ?_)
  rw [Nat.testBit_xor]
  rcases Nat.lt_or_ge n i with h | h
  · rw [Nat.testBit_lt_two_pow (Nat.lt_of_lt_of_le ha (Nat.pow_le_pow_right (by decide) h)), Nat.testBit_lt_two_pow (Nat.lt_of_lt_of_le hb (Nat.pow_le_pow_right (by decide) h))]; rfl
  · have : i = n := by omega
    subst this
    rw [Nat.testBit_eq_decide_div_mod_eq, Nat.testBit_eq_decide_div_mod_eq, h1, h2]; rfl
theorem div_top {a n : Nat} (ha : a < 2 ^ (n + 1)) (h1 : ¬ a / 2 ^ n % 2 = 1) : a < 2 ^ n := by
  have h2 : a / 2 ^ n < 2 := (Nat.div_lt_iff_lt_mul (Nat.two_pow_pos _)).2 (by rw [Nat.pow_succ] at ha; omega)
  have h3 : a / 2 ^ n = 0 := by generalize a / 2 ^ n = q at *; omega
  rcases Nat.div_eq_zero_iff.1 h3 with h | h
  · have := Nat.two_pow_pos n; omega
  · exact h
/-- A polynomial of degree k. -/
def polyOk (P k : Nat) : Prop := 2 ^ k ≤ P ∧ P < 2 ^ (k + 1)
theorem poly_shift {P k n : Nat} (h : polyOk P k) : P * 2 ^ n < 2 ^ (k + n + 1) ∧ P * 2 ^ n / 2 ^ (k + n) % 2 = 1 := by
  obtain ⟨h1, h2⟩ := h
  have hp := Nat.two_pow_pos n
  have hk := Nat.two_pow_pos k
  refine ⟨?_, ?_⟩
  · rw [show k + n + 1 = (k + 1) + n by omega, Nat.pow_add]
    exact Nat.mul_lt_mul_of_pos_right h2 hp
  · rw [Nat.pow_add, Nat.mul_div_mul_right _ _ hp]
    have : P / 2 ^ k = 1 := by
      refine Nat.div_eq_of_lt_le (by omega) ?_
      rw [Nat.pow_succ] at h2; omega
    rw [this]
theorem remStep_lt {P k n r : Nat} (h : polyOk P k) (hr : r < 2 ^ (k + n + 1)) : remStep P k (k + n) r < 2 ^ (k + n) := by
  obtain ⟨p1, p2⟩ := poly_shift (n := n) h
  unfold remStep
  rw [show k + n - k = n by omega]
  split
  · rename_i h1; exact xor_top hr p1 h1 p2
  · rename_i h1; exact div_top hr h1
theorem remN_lt {P k : Nat} (h : polyOk P k) : ∀ {n r : Nat}, r < 2 ^ (k + n) → remN P k n r < 2 ^ k := by
  intro n
  induction n with
  | zero => intro r hr; exact hr
  | succ n ih => intro r hr; exact ih (remStep_lt h hr)
theorem remN_zero (P k n : Nat) : remN P k n 0 = 0 := by
  induction n with
  | zero => rfl
  | succ n ih =>
    have : remStep P k (k + n) 0 = 0 := by unfold remStep; simp
    simp only [remN, this, ih]
/-- The format word of a number, as a number. -/
def fword (D L P v : Nat) : Nat := v * 2 ^ (L - D) + remN P (L - D) D (v * 2 ^ (L - D))
theorem mul_pow_lt {v D k : Nat} (h : v < 2 ^ D) : v * 2 ^ k < 2 ^ (k + D) := by
  rw [Nat.add_comm, Nat.pow_add]; exact Nat.mul_lt_mul_of_pos_right h (Nat.two_pow_pos _)
theorem fword_or {D L P v : Nat} (hp : polyOk P (L - D)) (hv : v < 2 ^ D) : (v * 2 ^ (L - D)) ||| remN P (L - D) D (v * 2 ^ (L - D)) = fword D L P v := by
  have h := remN_lt hp (mul_pow_lt (k := L - D) hv)
  have e := Nat.two_pow_add_eq_or_of_lt h v
  rw [Nat.mul_comm (2 ^ (L - D)) v] at e
  exact e.symm
theorem fword_lt {D L P v : Nat} (hD : D ≤ L) (hp : polyOk P (L - D)) (hv : v < 2 ^ D) : fword D L P v < 2 ^ L := by
  have h := remN_lt hp (mul_pow_lt (k := L - D) hv)
  have h1 : v * 2 ^ (L - D) + 2 ^ (L - D) ≤ 2 ^ L := by
    have e : 2 ^ L = 2 ^ D * 2 ^ (L - D) := by rw [← Nat.pow_add]; congr 1; omega
    rw [e, ← Nat.succ_mul]
    exact Nat.mul_le_mul_right _ hv
  unfold fword; omega
theorem fword_bits {D L P v : Nat} (hD : D ≤ L) (hp : polyOk P (L - D)) (hv : v < 2 ^ D) :
    bitsL L (fword D L P v) = bitsL D v ++ bitsL (L - D) (remN P (L - D) D (v * 2 ^ (L - D))) := by
  have h := bitsL_add D (L - D) v _ (remN_lt hp (mul_pow_lt (k := L - D) hv))
  rw [show D + (L - D) = L by omega] at h
  exact h
theorem fword_zero (D L P : Nat) : fword D L P 0 = 0 := by unfold fword; rw [Nat.zero_mul, remN_zero]

/-! ### sums of words -/
theorem two_pow_dvd_shift {a b n : Nat} : (a ^^^ b) * 2 ^ n = (a * 2 ^ n) ^^^ (b * 2 ^ n) := by
  rw [← Nat.shiftLeft_eq, ← Nat.shiftLeft_eq, ← Nat.shiftLeft_eq, Nat.shiftLeft_xor_distrib]
theorem bit_xor (a b n : Nat) : (a ^^^ b) / 2 ^ n % 2 = (a / 2 ^ n % 2 + b / 2 ^ n % 2) % 2 := by
  have h := Nat.testBit_xor (x := a) (y := b) (i := n)
  rw [Nat.testBit_eq_decide_div_mod_eq, Nat.testBit_eq_decide_div_mod_eq, Nat.testBit_eq_decide_div_mod_eq] at h
  have ha : a / 2 ^ n % 2 = 0 ∨ a / 2 ^ n % 2 = 1 := by omega
  have hb : b / 2 ^ n % 2 = 0 ∨ b / 2 ^ n % 2 = 1 := by omega
  have hc : (a ^^^ b) / 2 ^ n % 2 = 0 ∨ (a ^^^ b) / 2 ^ n % 2 = 1 := by omega
  rcases ha with ha | ha <;> rcases hb with hb | hb <;> rcases hc with hc | hc <;> simp [ha, hb, hc] at h ⊢
theorem remStep_xor (P k n a b : Nat) : remStep P k n (a ^^^ b) = remStep P k n a ^^^ remStep P k n b := by
  unfold remStep
  rw [bit_xor]
  have ha : a / 2 ^ n % 2 = 0 ∨ a / 2 ^ n % 2 = 1 := by omega
  have hb : b / 2 ^ n % 2 = 0 ∨ b / 2 ^ n % 2 = 1 := by omega
  rcases ha with ha | ha <;> rcases hb with hb | hb <;> simp [ha, hb]
  · rw [Nat.xor_assoc]
  · rw [Nat.xor_assoc, Nat.xor_comm b, ← Nat.xor_assoc]
  · rw [Nat.xor_assoc, Nat.xor_comm _ (b ^^^ _), Nat.xor_assoc b, Nat.xor_self, Nat.xor_zero]
theorem remN_xor (P k n : Nat) : ∀ a b, remN P k n (a ^^^ b) = remN P k n a ^^^ remN P k n b := by
  induction n with
  | zero => intro a b; rfl
  | succ n ih => intro a b; simp only [remN]; rw [remStep_xor, ih]
theorem fword_xor {D L P u v : Nat} (hp : polyOk P (L - D)) (hu : u < 2 ^ D) (hv : v < 2 ^ D) : fword D L P (u ^^^ v) = fword D L P u ^^^ fword D L P v := by
  rw [← fword_or hp (Nat.xor_lt_two_pow hu hv), ← fword_or hp hu, ← fword_or hp hv, two_pow_dvd_shift, remN_xor]
  have h1 := remN_lt hp (mul_pow_lt (k := L - D) hu)
  have h2 := remN_lt hp (mul_pow_lt (k := L - D) hv)
  apply Nat.eq_of_testBit_eq
  intro i
  simp only [Nat.testBit_or, Nat.testBit_xor]
  rcases Nat.lt_or_ge i (L - D) with h | h
  · have e1 : (u * 2 ^ (L - D)).testBit i = false := by rw [Nat.testBit_mul_two_pow]; simp; omega
    have e2 : (v * 2 ^ (L - D)).testBit i = false := by rw [Nat.testBit_mul_two_pow]; simp; omega
    simp [e1, e2]
  · have e1 : (remN P (L - D) D (u * 2 ^ (L - D))).testBit i = false := Nat.testBit_lt_two_pow (Nat.lt_of_lt_of_le h1 (Nat.pow_le_pow_right (by decide) h))
    have e2 : (remN P (L - D) D (v * 2 ^ (L - D))).testBit i = false := Nat.testBit_lt_two_pow (Nat.lt_of_lt_of_le h2 (Nat.pow_le_pow_right (by decide) h))
    simp [e1, e2]

/-! ### how many bits are set -/
/-- How many elements of a list are 1. -/
def ones (xs : List Int) : Nat := xs.foldl (fun n x => if x = 1 then n + 1 else n) 0
/-- How many of the lowest w bits of v are set. -/
def popc : Nat → Nat → Nat
  | 0, _ => 0
  | w + 1, v => v / 2 ^ w % 2 + popc w v
theorem popc_le (w v : Nat) : popc w v ≤ w := by
  induction w with
  | zero => simp [popc]
  | succ w ih => simp only [popc]; omega
/-- At how many indexes two lists differ. -/
def differL : List Int → List Int → Nat
  | x :: xs, y :: ys => (if x = y then 0 else 1) + differL xs ys
  | _, _ => 0
theorem differ_zero (w v : Nat) : differL (bitsL w v) (bitsL w 0) = popc w v := by
  induction w with
  | zero => rfl
  | succ w ih =>
    simp only [bitsL, differL, popc, ih]
    have : v / 2 ^ w % 2 = 0 ∨ v / 2 ^ w % 2 = 1 := by omega
    rcases this with h | h <;> rw [h] <;> simp
theorem differ_snoc {xs ys : List Int} {k : Nat} (hl : xs.length = ys.length) (h : k < xs.length) :
    differL (xs.take (k + 1)) (ys.take (k + 1)) = differL (xs.take k) (ys.take k) + (if nth xs k = nth ys k then 0 else 1) := by
  induction k generalizing xs ys with
  | zero =>
    match xs, ys, hl, h with
    | x :: xs, y :: ys, _, _ => simp [differL, nth]
  | succ k ih =>
    match xs, ys, hl, h with
    | x :: xs, y :: ys, hl, h =>
      have := ih (xs := xs) (ys := ys) (by simpa using hl) (by simpa using h)
      simp only [List.take_succ_cons, differL, this]
      unfold nth
      simp only [List.getD_cons_succ]
      omega
theorem differ_le : ∀ (xs ys : List Int), differL xs ys ≤ xs.length := by
  intro xs
  induction xs with
  | nil => intro ys; simp [differL]
  | cons x xs ih =>
    intro ys
    cases ys with
    | nil => simp [differL]
    | cons y ys => have := ih ys; simp only [differL, List.length_cons]; split <;> omega
/-- The minimum distance of a code. -/
def minD (D L P : Nat) : Nat → Nat
  | 0 => L
  | v + 1 => if v = 0 then L else min (minD D L P v) (popc L (fword D L P v))
theorem minD_step (D L P v : Nat) (h : 1 ≤ v) : minD D L P (v + 1) = min (minD D L P v) (popc L (fword D L P v)) := by
  rw [minD, if_neg (by omega)]
theorem minD_one (D L P : Nat) : minD D L P 1 = L := by rw [minD, if_pos rfl]
theorem minD_le (D L P : Nat) : ∀ v, minD D L P v ≤ L := by
  intro v
  induction v with
  | zero => exact Nat.le_refl _
  | succ v ih => rw [minD]; split <;> omega
end Go.Proofs.Ytkipaefhnmfebaa
