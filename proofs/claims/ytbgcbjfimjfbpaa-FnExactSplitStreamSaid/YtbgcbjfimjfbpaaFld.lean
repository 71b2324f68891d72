/-
  Plain mathematics: powers in a field, primes, which fields are valid. No program in sight.
-/
import Derived.Test.YtbgcbjfimjfbpaaCore
namespace Go.Proofs.Ytbgcbjfimjfbpaa

theorem wr64 {n : Int} (h : -9223372036854775808 ≤ n ∧ n ≤ 9223372036854775807) : IntKind.i64.wrap n = n := by
  have h1 : IntKind.i64.min = -9223372036854775808 := rfl
  have h2 : IntKind.i64.max = 9223372036854775807 := rfl
  unfold IntKind.wrap
  simp [IntKind.bits, IntKind.signed]
  omega
/-- The n-th power by n steps. -/
def pw (t : Nat → Nat) : Nat → Nat
  | 0 => 1
  | n + 1 => t (pw t n)
/-- The powers but the last are neither 0 nor 1, and the last is 1. -/
def fullB (t : Nat → Nat) (s : Nat) : Bool := (List.range (s - 2)).all (fun i => pw t (i + 1) != 0 && pw t (i + 1) != 1) && pw t (s - 1) == 1
/-- The first n powers behind 1 are neither 0 nor 1. -/
def openB (t : Nat → Nat) (n : Nat) : Prop := ∀ i, 1 ≤ i → i < n → pw t i ≠ 0 ∧ pw t i ≠ 1
theorem openB_one (t : Nat → Nat) : openB t 1 := fun i h1 h2 => by omega
theorem openB_succ {t : Nat → Nat} {n : Nat} (h : openB t n) (h0 : pw t n ≠ 0) (h1 : pw t n ≠ 1) : openB t (n + 1) := fun i hi hn => by
  rcases Nat.lt_or_ge i n with hlt | hge
  · exact h i hi hlt
  · obtain rfl : i = n := by omega
    exact ⟨h0, h1⟩
theorem fullB_iff {t : Nat → Nat} {s : Nat} : fullB t s = true ↔ openB t (s - 1) ∧ pw t (s - 1) = 1 := by
  unfold fullB openB
  simp only [Bool.and_eq_true, List.all_eq_true, List.mem_range, beq_iff_eq, bne_iff_ne, ne_eq]
  constructor
  · rintro ⟨h1, h2⟩
    refine ⟨fun i hi hn => ?_, h2⟩
    have := h1 (i - 1) (by omega)
    rwa [show i - 1 + 1 = i by omega] at this
  · rintro ⟨h1, h2⟩
    exact ⟨fun i hi => h1 (i + 1) (by omega) (by omega), h2⟩
theorem fullB_hit {t : Nat → Nat} {s n : Nat} (hn : 1 ≤ n) (hs : n + 1 < s) (h : pw t n = 0 ∨ pw t n = 1) : fullB t s = false := by
  cases e : fullB t s with
  | false => rfl
  | true =>
    have := (fullB_iff.1 e).1 n hn (by omega)
    rcases h with h | h
    · exact absurd h this.1
    · exact absurd h this.2
theorem fullB_end {t : Nat → Nat} {s : Nat} (h : openB t (s - 1)) : fullB t s = (pw t (s - 1) == 1) := by
  cases e : fullB t s with
  | true => rw [(fullB_iff.1 e).2]; rfl
  | false =>
    cases e2 : (pw t (s - 1) == 1) with
    | false => rfl
    | true => rw [fullB_iff.2 ⟨h, by simpa using e2⟩] at e; cases e
/-- How the reference's loop ends. -/
theorem runs_end {t : Nat → Nat} {s n : Nat} (h : openB t n) (h1 : 1 ≤ n) (hn : n ≤ s) (hs : 3 ≤ s) (he : pw t n = 1 ∨ pw t n = 0 ∨ n = s) : (decide (pw t n = 1) && decide (n = s - 1)) = fullB t s := by
  by_cases hns : n = s
  · subst hns
    have : pw t (n - 1) ≠ 1 := (h (n - 1) (by omega) (by omega)).2
    rw [fullB_end (fun i hi hn => h i hi (by omega))]
    have h2 : decide (n = n - 1) = false := decide_eq_false (by omega)
    rw [h2, Bool.and_false]
    exact (by simpa using this : (pw t (n - 1) == 1) = false).symm
  · by_cases hn1 : n = s - 1
    · subst hn1
      rw [fullB_end h]
      by_cases h3 : pw t (s - 1) = 1 <;> simp [h3]
    · rw [fullB_hit h1 (by omega) (he.elim Or.inr (fun he => he.elim Or.inl (fun he => absurd he hns)))]
      simp [hn1]
/-- No number from 2 on whose square is at most n divides n. -/
def primeB (n : Nat) : Bool := decide (2 ≤ n) && (List.range n).all fun d => decide (d < 2) || decide (n < d * d) || (n % d != 0)
theorem primeB_no {n d : Nat} (h2 : 2 ≤ d) (hd : d * d ≤ n) (h : n % d = 0) : primeB n = false := by
  cases e : primeB n with
  | false => rfl
  | true =>
    simp only [primeB, Bool.and_eq_true, List.all_eq_true, List.mem_range, Bool.or_eq_true, decide_eq_true_eq, bne_iff_ne, ne_eq] at e
    have hdn : d < n := by
      have : d * 2 ≤ d * d := Nat.mul_le_mul_left d h2
      omega
    rcases e.2 d hdn with (h' | h') | h'
    · omega
    · omega
    · exact absurd h h'
theorem primeB_yes {n d : Nat} (hn : 2 ≤ n) (h : ∀ k, 2 ≤ k → k < d → n % k ≠ 0) (hd : n < d * d) : primeB n = true := by
  simp only [primeB, Bool.and_eq_true, List.all_eq_true, List.mem_range, Bool.or_eq_true, decide_eq_true_eq, bne_iff_ne, ne_eq]
  refine ⟨hn, fun k hk => ?_⟩
  by_cases h2 : k < 2
  · exact .inl (.inl h2)
  · by_cases h3 : k < d
    · exact .inr (h k (by omega) h3)
    · have : d * d ≤ k * k := Nat.mul_le_mul (by omega) (by omega)
      exact .inl (.inr (by omega))
theorem primeB_small {n : Nat} (h : n < 2) : primeB n = false := by simp [primeB]; omega
/-- One step in a prime field, and one in a field of characteristic 2. -/
def mulT (p g x : Nat) : Nat := x * g % p
def dblT (k poly x : Nat) : Nat := if 2 ^ k ≤ 2 * x then (2 * x) ^^^ poly else 2 * x
theorem mulT_lt {p g : Nat} (hp : 2 ≤ p) : ∀ n, pw (mulT p g) n < p := by
  intro n
  cases n with
  | zero => exact hp
  | succ n => exact Nat.mod_lt _ (by omega)
theorem dbl_lt {k poly x : Nat} (hp1 : 2 ^ k ≤ poly) (hp2 : poly < 2 ^ (k + 1)) (hx : x < 2 ^ k) : dblT k poly x < 2 ^ k := by
  unfold dblT
  split
  · rename_i h
    have h2 : 2 * x < 2 ^ (k + 1) := by rw [Nat.pow_succ]; omega
    have ht1 : (2 * x).testBit k = true := by
      rw [Nat.testBit_eq_decide_div_mod_eq]
      have : 2 * x / 2 ^ k = 1 := by
        apply Nat.div_eq_of_lt_le <;> rw [Nat.pow_succ] at h2 <;> omega
      simp [this]
    have ht2 : poly.testBit k = true := by
      rw [Nat.testBit_eq_decide_div_mod_eq]
      have : poly / 2 ^ k = 1 := by
        apply Nat.div_eq_of_lt_le <;> rw [Nat.pow_succ] at hp2 <;> omega
      simp [this]
    apply Nat.lt_pow_two_of_testBit
    intro i hi
    rcases Nat.lt_or_ge k i with h3 | h3
    · rw [Nat.testBit_xor, Nat.testBit_lt_two_pow (Nat.lt_of_lt_of_le h2 (Nat.pow_le_pow_right (by omega) h3)), Nat.testBit_lt_two_pow (Nat.lt_of_lt_of_le hp2 (Nat.pow_le_pow_right (by omega) h3))]; rfl
    · obtain rfl : i = k := by omega
      rw [Nat.testBit_xor, ht1, ht2]; rfl
  · omega
theorem dblT_lt {k poly : Nat} (hk : 1 ≤ k) (hp1 : 2 ^ k ≤ poly) (hp2 : poly < 2 ^ (k + 1)) : ∀ n, pw (dblT k poly) n < 2 ^ k := by
  intro n
  induction n with
  | zero => exact Nat.one_lt_two_pow (by omega)
  | succ n ih => exact dbl_lt hp1 hp2 ih
/-- The valid prime fields, the valid fields of characteristic 2, and all. -/
def fieldP (p g : Int) : Bool := inR p 3 1021 && primeB p.toNat && inR g 2 (p - 1) && (List.range g.toNat).all (fun h => decide (h < 2) || !fullB (mulT p.toNat h) p.toNat) && fullB (mulT p.toNat g.toNat) p.toNat
def fieldT (k poly : Int) : Bool := inR k 3 8 && inR poly ((2 : Int) ^ k.toNat) ((2 : Int) ^ (k.toNat + 1) - 1) && fullB (dblT k.toNat poly.toNat) (2 ^ k.toNat)
def fieldB (p k g : Int) : Bool := if k = 1 then fieldP p g else (p == 2) && fieldT k g
theorem full_one {p : Nat} (hp : 3 ≤ p) : fullB (mulT p 1) p = false := by
  apply fullB_hit (n := 1) (Nat.le_refl _) (by omega)
  right
  show 1 * 1 % p = 1
  exact Nat.mod_eq_of_lt (by omega)
/-- The size of a valid field. -/
def fsize (p k : Int) : Int := if k = 1 then p else (2 : Int) ^ k.toNat
theorem fieldP_size {p g : Int} (h : fieldP p g = true) : ∃ P G : Nat, p = P ∧ g = G ∧ 3 ≤ P ∧ P ≤ 1021 ∧ 2 ≤ G ∧ G < P := by
  simp only [fieldP, Bool.and_eq_true] at h
  have h1 := inR_true h.1.1.1.1
  have h2 := inR_true h.1.1.2
  obtain ⟨P, rfl⟩ := Int.eq_ofNat_of_zero_le (show 0 ≤ p by omega)
  obtain ⟨G, rfl⟩ := Int.eq_ofNat_of_zero_le (show 0 ≤ g by omega)
  exact ⟨P, G, rfl, rfl, by omega, by omega, by omega, by omega⟩
theorem fieldB_size {p k g : Int} (h : fieldB p k g = true) : ∃ S : Nat, fsize p k = S ∧ 3 ≤ S ∧ S ≤ 1021 := by
  unfold fieldB at h
  unfold fsize
  split at h
  · rename_i hk
    rw [if_pos hk]
    obtain ⟨P, G, rfl, rfl, h1, h2, h3, h4⟩ := fieldP_size h
    exact ⟨P, rfl, h1, h2⟩
  · rename_i hk
    rw [if_neg hk]
    simp only [fieldT, Bool.and_eq_true] at h
    have h1 := inR_true h.2.1.1
    obtain ⟨K, rfl⟩ := Int.eq_ofNat_of_zero_le (show 0 ≤ k by omega)
    rw [Int.toNat_natCast]
    have hK : 2 ^ K ≤ 2 ^ 8 := Nat.pow_le_pow_right (by omega) (by omega)
    have hK2 : 2 ^ 3 ≤ 2 ^ K := Nat.pow_le_pow_right (by omega) (by omega)
    exact ⟨2 ^ K, by simp, by omega, by omega⟩
end Go.Proofs.Ytbgcbjfimjfbpaa
