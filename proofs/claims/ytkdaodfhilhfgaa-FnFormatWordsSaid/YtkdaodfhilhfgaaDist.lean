/-
  Plain mathematics: distances of format words, and that a word with few errors is read as its number. No program in sight.
-/
import Derived.Test.YtkdaodfhilhfgaaNear
namespace Go.Proofs.Ytkdaodfhilhfgaa
open Go.RowKit

theorem differ_popc (w a b : Nat) : differL (bitsL w a) (bitsL w b) = popc w (a ^^^ b) := by
  induction w with
  | zero => rfl
  | succ w ih =>
    simp only [bitsL, differL, popc, ih, bit_xor]
    have ha : a / 2 ^ w % 2 = 0 ∨ a / 2 ^ w % 2 = 1 := by omega
    have hb : b / 2 ^ w % 2 = 0 ∨ b / 2 ^ w % 2 = 1 := by omega
    rcases ha with ha | ha <;> rcases hb with hb | hb <;> simp [ha, hb]
theorem differ_tri : ∀ {xs ys zs : List Int}, xs.length = ys.length → ys.length = zs.length → differL xs zs ≤ differL xs ys + differL ys zs := by
  intro xs
  induction xs with
  | nil => intro ys zs h1 h2; simp [differL]
  | cons x xs ih =>
    intro ys zs h1 h2
    match ys, zs, h1, h2 with
    | y :: ys, z :: zs, h1, h2 =>
      have := ih (ys := ys) (zs := zs) (by simpa using h1) (by simpa using h2)
      simp only [differL]
      by_cases e1 : x = y
      · subst e1; by_cases e2 : x = z <;> simp [e2] <;> omega
      · by_cases e2 : y = z
        · subst e2; simp [e1]; omega
        · simp [e1, e2]; split <;> omega
theorem away_differ : ∀ {ws xs : List Int}, (∀ x ∈ xs, 0 ≤ x) → awayL ws xs = differL ws xs := by
  intro ws
  induction ws with
  | nil => intro xs _; simp [awayL, differL]
  | cons a ws ih =>
    intro xs h
    cases xs with
    | nil => simp [awayL, differL]
    | cons x xs =>
      have h0 := h x List.mem_cons_self
      have := ih (xs := xs) (fun y hy => h y (List.mem_cons_of_mem _ hy))
      simp only [awayL, differL, this]
      congr 1
      by_cases e : a = x
      · subst e; simp
      · have e' : ¬ x = a := fun q => e q.symm
        have e2 : ¬ x < 0 := by omega
        simp [e, e', e2]
theorem unk_zero : ∀ {xs : List Int}, (∀ x ∈ xs, 0 ≤ x) → unkL xs = 0 := by
  intro xs
  induction xs with
  | nil => intro _; rfl
  | cons x xs ih =>
    intro h
    have h0 := h x List.mem_cons_self
    simp only [unkL, ih (fun y hy => h y (List.mem_cons_of_mem _ hy))]
    rw [if_neg (by omega)]
/-- The first m elements turned. -/
def flipL : Nat → List Int → List Int
  | 0, xs => xs
  | _ + 1, [] => []
  | m + 1, x :: xs => (1 - x) :: flipL m xs
theorem flip_len : ∀ (m : Nat) (xs : List Int), (flipL m xs).length = xs.length := by
  intro m
  induction m with
  | zero => intro xs; rfl
  | succ m ih => intro xs; cases xs with
    | nil => rfl
    | cons x xs => simp [flipL, ih]
theorem flip_01 : ∀ {m : Nat} {xs : List Int}, (∀ x ∈ xs, x = 0 ∨ x = 1) → ∀ x ∈ flipL m xs, x = 0 ∨ x = 1 := by
  intro m
  induction m with
  | zero => intro xs h; exact h
  | succ m ih =>
    intro xs h
    cases xs with
    | nil => intro x hx; simp [flipL] at hx
    | cons y xs =>
      intro x hx
      simp only [flipL, List.mem_cons] at hx
      have h0 := h y List.mem_cons_self
      rcases hx with rfl | hx
      · omega
      · exact ih (fun z hz => h z (List.mem_cons_of_mem _ hz)) x hx
theorem flip_differ : ∀ {m : Nat} {xs : List Int}, m ≤ xs.length → differL (flipL m xs) xs = m := by
  intro m
  induction m with
  | zero =>
    intro xs _
    show differL xs xs = 0
    induction xs with
    | nil => rfl
    | cons x xs ih => simp [differL, ih]
  | succ m ih =>
    intro xs h
    cases xs with
    | nil => simp at h
    | cons x xs =>
      have := ih (xs := xs) (by simpa using h)
      simp only [flipL, differL, this]
      rw [if_neg (by omega)]; omega
theorem flip_nth : ∀ {m : Nat} {xs : List Int}, nth (flipL m xs) m = nth xs m := by
  intro m
  induction m with
  | zero => intro xs; rfl
  | succ m ih =>
    intro xs
    cases xs with
    | nil => rfl
    | cons x xs =>
      have := ih (xs := xs)
      unfold nth at this ⊢
      simpa [flipL] using this
theorem flip_set : ∀ {m : Nat} {xs : List Int}, m < xs.length → (flipL m xs).set m (1 - nth (flipL m xs) m) = flipL (m + 1) xs := by
  intro m
  induction m with
  | zero =>
    intro xs h
    cases xs with
    | nil => simp at h
    | cons x xs => simp [flipL, nth]
  | succ m ih =>
    intro xs h
    cases xs with
    | nil => simp at h
    | cons x xs =>
      have := ih (xs := xs) (by simpa using h)
      show ((1 - x) :: flipL m xs).set (m + 1) _ = (1 - x) :: flipL (m + 1) xs
      rw [List.set_cons_succ, ← this]
      congr 2
theorem differ_symm : ∀ (xs ys : List Int), differL xs ys = differL ys xs := by
  intro xs
  induction xs with
  | nil => intro ys; cases ys <;> rfl
  | cons x xs ih =>
    intro ys
    cases ys with
    | nil => rfl
    | cons y ys =>
      simp only [differL, ih ys]
      by_cases e : x = y
      · subst e; rfl
      · have e' : ¬ y = x := fun q => e q.symm
        simp [e, e']
theorem minD_word (D L P : Nat) : ∀ {n v : Nat}, 1 ≤ v → v < n → minD D L P n ≤ popc L (fword D L P v) := by
  intro n
  induction n with
  | zero => intro v _ h; omega
  | succ n ih =>
    intro v h1 h
    rw [minD_step D L P n (by omega)]
    by_cases e : v = n
    · subst e; omega
    · have := ih (v := v) h1 (by omega); omega
theorem popc_pos {w v : Nat} (hv : v < 2 ^ w) (h0 : v ≠ 0) : 1 ≤ popc w v := by
  induction w generalizing v with
  | zero => simp at hv; omega
  | succ w ih =>
    simp only [popc]
    by_cases h : v < 2 ^ w
    · have := ih h h0; omega
    · have h2 : v / 2 ^ w = 1 := Nat.div_eq_of_lt_le (by omega) (by rw [Nat.pow_succ] at hv; omega)
      rw [h2]; omega
theorem fword_ne {D L P v : Nat} (h : v ≠ 0) : fword D L P v ≠ 0 := by
  unfold fword
  have := Nat.two_pow_pos (L - D)
  have : v * 2 ^ (L - D) ≠ 0 := Nat.mul_ne_zero h (by omega)
  omega
theorem minD_pos {D L P : Nat} (hD : D ≤ L) (hL : 1 ≤ L) (hp : polyOk P (L - D)) : ∀ {n : Nat}, n ≤ 2 ^ D → 1 ≤ minD D L P n := by
  intro n
  induction n with
  | zero => intro _; exact hL
  | succ n ih =>
    intro h
    by_cases h0 : n = 0
    · subst h0; rw [minD_one]; exact hL
    · rw [minD_step D L P n (by omega)]
      have h1 := ih (by omega)
      have h2 := popc_pos (fword_lt hD hp (v := n) (by omega)) (fword_ne h0)
      omega
/-- Two words are as far from each other as the minimum distance says. -/
theorem words_apart {D L P u v : Nat} (hp : polyOk P (L - D)) (hu : u < 2 ^ D) (hv : v < 2 ^ D) (hne : u ≠ v) : minD D L P (2 ^ D) ≤ differL (bitsL L (fword D L P u)) (bitsL L (fword D L P v)) := by
  rw [differ_popc, ← fword_xor hp hu hv]
  refine minD_word D L P ?_ (Nat.xor_lt_two_pow hu hv)
  have : u ^^^ v ≠ 0 := fun h => hne (by
    apply Nat.eq_of_testBit_eq
    intro i
    have := congrArg (fun x => x.testBit i) h
    simpa [Nat.testBit_xor] using this)
  omega
theorem near_one' {f : Nat → Nat} {L v0 m N : Nat} (hf : f v0 = m) (hm : m ≤ L) (ho : ∀ v, v < N → v ≠ v0 → m < f v) : ∀ n, v0 < n → n ≤ N → nearN f L n = (v0, m) := by
  have hlo : ∀ n, n ≤ v0 → n ≤ N → m < (nearN f L n).2 := by
    intro n
    induction n with
    | zero => intro _ _; show m < L + 1; omega
    | succ n ih =>
      intro h hN
      have h1 := ih (by omega) (by omega)
      have h2 := ho n (by omega) (by omega)
      by_cases e : f n < (nearN f L n).2
      · rw [nearN_yes e]; exact h2
      · rw [nearN_no e]; exact h1
  intro n
  induction n with
  | zero => intro h; omega
  | succ n ih =>
    intro h hN
    by_cases e : n = v0
    · subst e
      have := hlo n (Nat.le_refl _) (by omega)
      rw [nearN_yes (by omega), hf]
    · rw [nearN_no ?_]
      · exact ih (by omega) (by omega)
      · rw [ih (by omega) (by omega)]
        have := ho n (by omega) e
        simp; omega
/-- A word with few errors is nearest to its number. -/
theorem near_flip {D L P v m : Nat} (hp : polyOk P (L - D)) (hv : v < 2 ^ D) (hm : 2 * m < minD D L P (2 ^ D)) :
    nearN (fun u => awayL (bitsL L (fword D L P u)) (flipL m (bitsL L (fword D L P v)))) L (2 ^ D) = (v, m) := by
  have hmL : m ≤ L := by have := minD_le D L P (2 ^ D); omega
  have h01 : ∀ x ∈ flipL m (bitsL L (fword D L P v)), 0 ≤ x := fun x hx => by
    have := flip_01 (m := m) (xs := bitsL L (fword D L P v)) (fun y hy => bitsL_01 hy) x hx; omega
  have hd : differL (flipL m (bitsL L (fword D L P v))) (bitsL L (fword D L P v)) = m := flip_differ (by rw [bitsL_len]; exact hmL)
  refine near_one' (N := 2 ^ D) ?_ hmL ?_ _ hv (Nat.le_refl _)
  · rw [away_differ h01, differ_symm]; exact hd
  · intro u hu hne
    rw [away_differ h01]
    have h1 := words_apart hp hu hv hne
    have h2 := differ_tri (xs := bitsL L (fword D L P u)) (ys := flipL m (bitsL L (fword D L P v))) (zs := bitsL L (fword D L P v)) (by rw [flip_len, bitsL_len, bitsL_len]) (by rw [flip_len])
    omega
/-- The sum of two words. -/
def xorI (x y : Int) : Int := if x = y then 0 else 1
theorem zip_bits (w a b : Nat) : List.zipWith xorI (bitsL w a) (bitsL w b) = bitsL w (a ^^^ b) := by
  induction w with
  | zero => rfl
  | succ w ih =>
    simp only [bitsL, List.zipWith_cons_cons, ih, bit_xor]
    congr 1
    have ha : a / 2 ^ w % 2 = 0 ∨ a / 2 ^ w % 2 = 1 := by omega
    have hb : b / 2 ^ w % 2 = 0 ∨ b / 2 ^ w % 2 = 1 := by omega
    rcases ha with ha | ha <;> rcases hb with hb | hb <;> simp [ha, hb, xorI]
end Go.Proofs.Ytkdaodfhilhfgaa
