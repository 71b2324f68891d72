/-
  Plain mathematics: which format word is nearest to a list. No program in sight.
-/
import Derived.Test.YtgokleeofcleiaaOnes
namespace Go.Proofs.Ytgokleeofcleiaa
open Go.RowKit

/-- At how many known indexes a list differs from a word. -/
def awayL : List Int → List Int → Nat
  | a :: ws, x :: xs => (if x < 0 ∨ x = a then 0 else 1) + awayL ws xs
  | _, _ => 0
/-- How many elements are unknown. -/
def unkL : List Int → Nat
  | [] => 0
  | x :: xs => (if x < 0 then 1 else 0) + unkL xs
theorem unkL_snoc (xs : List Int) (x : Int) : unkL (xs ++ [x]) = unkL xs + (if x < 0 then 1 else 0) := by
  induction xs with
  | nil => simp [unkL]
  | cons y ys ih => simp only [List.cons_append, unkL, ih]; omega
theorem unkL_le (xs : List Int) : unkL xs ≤ xs.length := by
  induction xs with
  | nil => simp [unkL]
  | cons y ys ih => simp only [unkL, List.length_cons]; split <;> omega
theorem awayL_le : ∀ (ws xs : List Int), awayL ws xs ≤ xs.length := by
  intro ws
  induction ws with
  | nil => intro xs; simp [awayL]
  | cons a ws ih =>
    intro xs
    cases xs with
    | nil => simp [awayL]
    | cons x xs => have := ih xs; simp only [awayL, List.length_cons]; split <;> omega
theorem awayL_snoc : ∀ {ws xs : List Int} {k : Nat}, ws.length = xs.length → k < xs.length →
    awayL (ws.take (k + 1)) (xs.take (k + 1)) = awayL (ws.take k) (xs.take k) + (if nth xs k < 0 ∨ nth xs k = nth ws k then 0 else 1) := by
  intro ws
  induction ws with
  | nil => intro xs k hl h; simp at hl; omega
  | cons a ws ih =>
    intro xs k hl h
    cases xs with
    | nil => simp at h
    | cons x xs =>
      cases k with
      | zero => simp [awayL, nth]
      | succ k =>
        have := ih (xs := xs) (k := k) (by simpa using hl) (by simpa using h)
        simp only [List.take_succ_cons, awayL, this]
        unfold nth
        simp only [List.getD_cons_succ]
        omega
/-- The known elements of a list, and its ones, as numbers. -/
def knownN (xs : List Int) : Nat := xs.foldl (fun k x => 2 * k + if x < 0 then 0 else 1) 0
def wordN (xs : List Int) : Nat := xs.foldl (fun k x => 2 * k + if x = 1 then 1 else 0) 0
theorem knownN_snoc (xs : List Int) (x : Int) : knownN (xs ++ [x]) = 2 * knownN xs + if x < 0 then 0 else 1 := by unfold knownN; rw [List.foldl_append]; rfl
theorem wordN_snoc (xs : List Int) (x : Int) : wordN (xs ++ [x]) = 2 * wordN xs + if x = 1 then 1 else 0 := by unfold wordN; rw [List.foldl_append]; rfl
theorem fold_shift (f : Int → Nat) : ∀ (xs : List Int) (k : Nat), xs.foldl (fun k x => 2 * k + f x) k = k * 2 ^ xs.length + xs.foldl (fun k x => 2 * k + f x) 0 := by
  intro xs
  induction xs with
  | nil => intro k; simp
  | cons x xs ih =>
    intro k
    simp only [List.foldl_cons, List.length_cons]
    rw [ih (2 * k + f x), ih (2 * 0 + f x), Nat.pow_succ, Nat.add_mul, Nat.add_mul]
    have : 2 * k * 2 ^ xs.length = k * (2 ^ xs.length * 2) := by rw [Nat.mul_comm 2 k, Nat.mul_assoc, Nat.mul_comm 2]
    omega
theorem fold_lt (f : Int → Nat) (hf : ∀ x, f x ≤ 1) (xs : List Int) : xs.foldl (fun k x => 2 * k + f x) 0 < 2 ^ xs.length := by
  induction xs with
  | nil => simp
  | cons x xs ih =>
    simp only [List.foldl_cons, List.length_cons]
    rw [fold_shift f xs, Nat.pow_succ]
    have := hf x
    have h2 : (2 * 0 + f x) * 2 ^ xs.length ≤ 1 * 2 ^ xs.length := Nat.mul_le_mul_right _ (by omega)
    omega
theorem knownN_lt (xs : List Int) : knownN xs < 2 ^ xs.length := fold_lt (fun x => if x < 0 then 0 else 1) (fun x => by split <;> omega) xs
theorem wordN_lt (xs : List Int) : wordN xs < 2 ^ xs.length := fold_lt (fun x => if x = 1 then 1 else 0) (fun x => by split <;> omega) xs
theorem knownN_cons (x : Int) (xs : List Int) : knownN (x :: xs) = (if x < 0 then 0 else 1) * 2 ^ xs.length + knownN xs := by
  unfold knownN
  rw [List.foldl_cons, fold_shift (fun x => if x < 0 then 0 else 1) xs]; simp
theorem wordN_cons (x : Int) (xs : List Int) : wordN (x :: xs) = (if x = 1 then 1 else 0) * 2 ^ xs.length + wordN xs := by
  unfold wordN
  rw [List.foldl_cons, fold_shift (fun x => if x = 1 then 1 else 0) xs]; simp
theorem popc_congr {a b : Nat} : ∀ {w : Nat}, (∀ j, j < w → a / 2 ^ j % 2 = b / 2 ^ j % 2) → popc w a = popc w b := by
  intro w
  induction w with
  | zero => intro _; rfl
  | succ w ih => intro h; simp only [popc]; rw [h w (by omega), ih (fun j hj => h j (by omega))]
theorem bit_and (a b n : Nat) : (a &&& b) / 2 ^ n % 2 = a / 2 ^ n % 2 * (b / 2 ^ n % 2) := by
  have h := Nat.testBit_and a b n
  rw [Nat.testBit_eq_decide_div_mod_eq, Nat.testBit_eq_decide_div_mod_eq, Nat.testBit_eq_decide_div_mod_eq] at h
  have ha : a / 2 ^ n % 2 = 0 ∨ a / 2 ^ n % 2 = 1 := by omega
  have hb : b / 2 ^ n % 2 = 0 ∨ b / 2 ^ n % 2 = 1 := by omega
  have hc : (a &&& b) / 2 ^ n % 2 = 0 ∨ (a &&& b) / 2 ^ n % 2 = 1 := by omega
  rcases ha with ha | ha <;> rcases hb with hb | hb <;> rcases hc with hc | hc <;> simp [ha, hb, hc] at h ⊢
theorem bit_below {c r n j : Nat} (hj : j < n) : (c * 2 ^ n + r) / 2 ^ j % 2 = r / 2 ^ j % 2 := by
  have e : c * 2 ^ n = 2 ^ j * (2 * (c * 2 ^ (n - j - 1))) := by
    have : 2 ^ n = 2 ^ j * (2 * 2 ^ (n - j - 1)) := by
      rw [← Nat.mul_assoc, ← Nat.pow_succ, ← Nat.pow_add]; congr 1; omega
    rw [this]
    simp only [Nat.mul_left_comm]
  rw [e, Nat.add_comm, Nat.add_mul_div_left _ _ (Nat.two_pow_pos _)]
  omega
theorem bit_at {c r n : Nat} (hc : c ≤ 1) (hr : r < 2 ^ n) : (c * 2 ^ n + r) / 2 ^ n % 2 = c := by
  rw [Nat.mul_comm, Nat.add_comm, Nat.add_mul_div_left _ _ (Nat.two_pow_pos _), Nat.div_eq_of_lt hr]; omega
theorem away_popc : ∀ (xs : List Int) (W : Nat), (∀ x ∈ xs, -1 ≤ x ∧ x ≤ 1) → popc xs.length ((W ^^^ wordN xs) &&& knownN xs) = awayL (bitsL xs.length W) xs := by
  intro xs
  induction xs with
  | nil => intro W _; rfl
  | cons x xs ih =>
    intro W hx
    have hx0 := hx x List.mem_cons_self
    simp only [List.length_cons, popc, bitsL, awayL]
    have hlow : popc xs.length ((W ^^^ wordN (x :: xs)) &&& knownN (x :: xs)) = popc xs.length ((W ^^^ wordN xs) &&& knownN xs) := by
      refine popc_congr fun j hj => ?_
      rw [bit_and, bit_and, bit_xor, bit_xor, knownN_cons, wordN_cons, bit_below hj, bit_below hj]
    rw [hlow, ih W (fun y hy => hx y (List.mem_cons_of_mem _ hy)), bit_and, bit_xor, knownN_cons, wordN_cons, bit_at (by split <;> omega) (knownN_lt xs), bit_at (by split <;> omega) (wordN_lt xs)]
    congr 1
    have hb : W / 2 ^ xs.length % 2 = 0 ∨ W / 2 ^ xs.length % 2 = 1 := by omega
    generalize W / 2 ^ xs.length % 2 = b at hb ⊢
    by_cases h1 : x < 0
    · simp [h1]
    · by_cases h2 : x = 1
      · subst h2
        rcases hb with rfl | rfl <;> simp
      · have h0 : x = 0 := by omega
        subst h0
        rcases hb with rfl | rfl <;> simp
/-- The nearest word among the first n: its number, and how far it is. -/
def nearN (f : Nat → Nat) (L : Nat) : Nat → Nat × Nat
  | 0 => (0, L + 1)
  | v + 1 => if f v < (nearN f L v).2 then (v, f v) else nearN f L v
theorem nearN_yes {f : Nat → Nat} {L v : Nat} (h : f v < (nearN f L v).2) : nearN f L (v + 1) = (v, f v) := by rw [nearN, if_pos h]
theorem nearN_no {f : Nat → Nat} {L v : Nat} (h : ¬ f v < (nearN f L v).2) : nearN f L (v + 1) = nearN f L v := by rw [nearN, if_neg h]
theorem nearN_le (f : Nat → Nat) (L v : Nat) : (nearN f L v).2 ≤ L + 1 ∧ (nearN f L v).1 ≤ v := by
  induction v with
  | zero => simp [nearN]
  | succ v ih =>
    by_cases h : f v < (nearN f L v).2
    · rw [nearN_yes h]; simp only; omega
    · rw [nearN_no h]; omega
end Go.Proofs.Ytgokleeofcleiaa
