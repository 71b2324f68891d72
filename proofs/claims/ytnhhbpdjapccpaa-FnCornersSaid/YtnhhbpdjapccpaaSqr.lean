import Derived.Test.YtnhhbpdjapccpaaMath
namespace Go.Proofs.Ytnhhbpdjapccpaa
open Ieee
theorem cut_even_le (n d : Nat) : Toward.even.cut false n d ≤ n / 2 ^ min d (n.log2 + 2) + 1 := by
  unfold Toward.cut
  simp only [Nat.one_shiftLeft]
  have : ∀ b : Bool, b.toNat ≤ 1 := by intro b; cases b <;> decide
  exact Nat.add_le_add_left (this _) _
theorem cut_even_0 (n : Nat) : Toward.even.cut false n 0 = n := by
  unfold Toward.cut
  simp [Nat.mod_one]
theorem cut_zero_eq (n d : Nat) : Toward.zero.cut false n d = n / 2 ^ min d (n.log2 + 2) := by
  unfold Toward.cut
  simp [Nat.one_shiftLeft]
theorem rootFrom_lt (n : Nat) : ∀ t r, Datum.rootFrom n t r < r + 2 ^ t := by
  intro t
  induction t with
  | zero => intro r; simp [Datum.rootFrom]
  | succ t ih =>
    intro r
    simp only [Datum.rootFrom, Nat.one_shiftLeft]
    have e : 2 ^ (t + 1) = 2 ^ t + 2 ^ t := by rw [Nat.pow_succ]; omega
    have hp := Nat.two_pow_pos t
    split
    · have := ih (r + 2 ^ t); omega
    · have := ih r; omega
theorem log2_eq {n k : Nat} (h1 : 2 ^ k ≤ n) (h2 : n < 2 ^ (k + 1)) : n.log2 = k := by
  have h0 : n ≠ 0 := by have := Nat.two_pow_pos k; omega
  have a := (Nat.log2_lt h0).2 h2
  have b := (Nat.le_log2 h0).2 h1
  omega
theorem b53 : 2 * double.binade = 2 ^ 53 := by decide +kernel
theorem b52 : double.binade = 2 ^ 52 := by decide +kernel
theorem bInf : double.infRung = 2047 * double.binade := by decide +kernel
theorem bSgn : double.signWeight = 2048 * double.binade := by decide +kernel
theorem bPos : 0 < double.binade := by decide +kernel
theorem bLst : double.leastPlace = -1074 := by decide +kernel
theorem near_lt {mag : Nat} {place : Int} (hm : mag < 2 ^ 56) (hp : -60 ≤ place) (hp2 : place ≤ -42) : Format.nearest double false mag place ≤ 1043 * double.binade := by
  unfold Format.nearest
  by_cases h0 : mag = 0
  · simp [h0, Format.word]
  rw [if_neg h0]
  have hL : mag.log2 < 56 := (Nat.log2_lt h0).2 hm
  have h2 : mag < 2 ^ (mag.log2 + 1) := Nat.lt_log2_self
  have hf : double.fractionBits = 52 := rfl
  have hlast : max (place + mag.log2 - double.fractionBits) double.leastPlace = place + mag.log2 - 52 := by rw [bLst, hf]; omega
  rw [hlast]
  simp only [bLst, Format.word]
  generalize hK : Toward.even.cut false _ _ = K
  have hKb : K ≤ 2 * double.binade := by
    rw [← hK, b53]
    by_cases hc : mag.log2 ≤ 52
    · have e1 : (place + ↑mag.log2 - 52 - place).toNat = 0 := by omega
      have e2 : (place - (place + ↑mag.log2 - 52)).toNat = 52 - mag.log2 := by omega
      rw [e1, e2, cut_even_0, Nat.shiftLeft_eq]
      have : mag * 2 ^ (52 - mag.log2) ≤ 2 ^ (mag.log2 + 1) * 2 ^ (52 - mag.log2) := Nat.mul_le_mul_right _ (Nat.le_of_lt h2)
      rw [← Nat.pow_add] at this
      rw [show mag.log2 + 1 + (52 - mag.log2) = 53 by omega] at this
      exact this
    · have e1 : (place + ↑mag.log2 - 52 - place).toNat = mag.log2 - 52 := by omega
      have e2 : (place - (place + ↑mag.log2 - 52)).toNat = 0 := by omega
      rw [e1, e2]
      refine Nat.le_trans (cut_even_le _ _) ?_
      rw [Nat.shiftLeft_zero, show min (mag.log2 - 52) (mag.log2 + 2) = mag.log2 - 52 by omega]
      have : mag / 2 ^ (mag.log2 - 52) < 2 ^ 53 := by
        rw [Nat.div_lt_iff_lt_mul (Nat.two_pow_pos _), ← Nat.pow_add, show 53 + (mag.log2 - 52) = mag.log2 + 1 by omega]
        exact h2
      exact this
  have hT : (place + ↑mag.log2 - 52 - -1074).toNat ≤ 1036 := by omega
  generalize (place + ↑mag.log2 - 52 - -1074).toNat = T at hT ⊢
  have hTb := Nat.mul_le_mul_right double.binade hT
  simp only [Bool.false_eq_true, if_false, bInf]
  generalize double.binade = B at *
  generalize T * B = P at *
  omega
theorem read_lt {x : Nat} (hx : x ≤ 1043 * double.binade) : ∃ d : Nat, (double.read x).toInt .zero = some (d : Int) ∧ d ≤ 2 ^ 21 := by
  have hB := bPos
  have e1 : x / (2048 * double.binade) = 0 := Nat.div_eq_of_lt (by omega)
  have e2 : x % (2048 * double.binade) = x := Nat.mod_eq_of_lt (by omega)
  have key : ∀ (m : Nat) (i : Int), m < 2 ^ 53 → i ≤ -32 → ∃ d : Nat, (Datum.number false m i).toInt .zero = some (d : Int) ∧ d ≤ 2 ^ 21 := by
    intro m i hm hi
    refine ⟨m / 2 ^ min (-i).toNat (m.log2 + 2), ?_, ?_⟩
    · simp only [Datum.toInt, Datum.integral, cut_zero_eq, signed]
      rw [show i.toNat = 0 by omega]
      simp
    · by_cases hc : (-i).toNat ≤ m.log2 + 2
      · rw [Nat.min_eq_left hc]
        have h32 : 2 ^ 32 ≤ 2 ^ (-i).toNat := Nat.pow_le_pow_right (by decide) (by omega)
        refine Nat.le_trans (Nat.div_le_div_left h32 (by decide)) ?_
        omega
      · rw [Nat.min_eq_right (by omega)]
        have : m < 2 ^ (m.log2 + 2) := Nat.lt_of_lt_of_le Nat.lt_log2_self (Nat.pow_le_pow_right (by decide) (by omega))
        rw [Nat.div_eq_of_lt this]; exact Nat.zero_le _
  unfold Format.read
  simp only [bSgn, e1, e2, bInf, bLst]
  have hn : ((0 : Nat) % 2 == 1) = false := by decide +kernel
  rw [hn]
  have h53 := b53
  by_cases hc : x < double.binade
  · rw [if_pos hc]
    exact key _ _ (by omega) (by omega)
  · rw [if_neg hc, if_pos (by omega)]
    have hr : x % double.binade < double.binade := Nat.mod_lt _ hB
    have hd : x / double.binade < 1044 := (Nat.div_lt_iff_lt_mul hB).2 (by omega)
    exact key _ _ (by omega) (by omega)
theorem near_int {n : Nat} (h0 : n ≠ 0) (h : n < 2 ^ 28) : ∃ (m e : Nat), e < 28 ∧ double.binade ≤ m ∧ m < 2 * double.binade ∧ Format.nearest double false n 0 = (e + 1022) * double.binade + m := by
  have hL : n.log2 < 28 := (Nat.log2_lt h0).2 h
  have h1 := Nat.log2_self_le h0
  have h2 : n < 2 ^ (n.log2 + 1) := Nat.lt_log2_self
  have hm2 : n * 2 ^ (52 - n.log2) < 2 * double.binade := by
    have : n * 2 ^ (52 - n.log2) < 2 ^ (n.log2 + 1) * 2 ^ (52 - n.log2) := Nat.mul_lt_mul_of_pos_right h2 (Nat.two_pow_pos _)
    rw [← Nat.pow_add, show n.log2 + 1 + (52 - n.log2) = 53 by omega] at this
    rw [b53]
    exact this
  refine ⟨n * 2 ^ (52 - n.log2), n.log2, hL, ?_, hm2, ?_⟩
  · have : 2 ^ n.log2 * 2 ^ (52 - n.log2) ≤ n * 2 ^ (52 - n.log2) := Nat.mul_le_mul_right _ h1
    rw [← Nat.pow_add, show n.log2 + (52 - n.log2) = 52 by omega] at this
    rw [b52]
    exact this
  · unfold Format.nearest
    rw [if_neg h0]
    have hf : double.fractionBits = 52 := rfl
    have hlast : max ((0 : Int) + n.log2 - double.fractionBits) double.leastPlace = n.log2 - 52 := by rw [bLst, hf]; omega
    rw [hlast]
    have e1 : ((n.log2 : Int) - 52 - 0).toNat = 0 := by omega
    have e2 : ((0 : Int) - ((n.log2 : Int) - 52)).toNat = 52 - n.log2 := by omega
    have e3 : ((n.log2 : Int) - 52 - -1074).toNat = n.log2 + 1022 := by omega
    simp only [bLst, bInf, Format.word, Bool.false_eq_true, if_false]
    rw [e1, e2, e3, cut_even_0, Nat.shiftLeft_eq]
    have hTb := Nat.mul_le_mul_right double.binade (show n.log2 + 1022 ≤ 1049 by omega)
    generalize n * 2 ^ (52 - n.log2) = M at *
    generalize double.binade = B at *
    generalize (n.log2 + 1022) * B = P at *
    omega
theorem read_near {m e : Nat} (he : e < 28) (h1 : double.binade ≤ m) (h2 : m < 2 * double.binade) : double.read ((e + 1022) * double.binade + m) = .number false m (e - 52 : Int) := by
  have hB := bPos
  have hx := Nat.mul_le_mul_right double.binade (show e + 1022 ≤ 1049 by omega)
  obtain ⟨f, rfl⟩ : ∃ f, m = double.binade + f := ⟨m - double.binade, by omega⟩
  have hf : f < double.binade := by omega
  have hx2 : (e + 1022) * double.binade + (double.binade + f) = f + double.binade * (e + 1023) := by
    rw [show e + 1023 = (e + 1022) + 1 by omega, Nat.mul_add double.binade, Nat.mul_one, Nat.mul_comm double.binade]
    omega
  have hlt : f + double.binade * (e + 1023) < 2047 * double.binade := by rw [← hx2]; omega
  have hge : double.binade ≤ f + double.binade * (e + 1023) := by rw [← hx2]; omega
  rw [hx2]
  have e1 : (f + double.binade * (e + 1023)) / (2048 * double.binade) = 0 := Nat.div_eq_of_lt (by omega)
  have e2 : (f + double.binade * (e + 1023)) % (2048 * double.binade) = f + double.binade * (e + 1023) := Nat.mod_eq_of_lt (by omega)
  have e3 : (f + double.binade * (e + 1023)) / double.binade = e + 1023 := by
    rw [Nat.add_mul_div_left _ _ hB, Nat.div_eq_of_lt hf, Nat.zero_add]
  have e4 : (f + double.binade * (e + 1023)) % double.binade = f := by
    rw [Nat.add_mul_mod_self_left, Nat.mod_eq_of_lt hf]
  unfold Format.read
  simp only [bSgn, e1, e2, bInf, bLst]
  rw [if_neg (by omega), if_pos hlt, e3, e4]
  have hn : ((0 : Nat) % 2 == 1) = false := by decide +kernel
  rw [hn]
  generalize double.binade = B
  have e5 : (-1074 + ((e + 1023 - 1 : Nat) : Int)) = (e - 52 : Int) := by omega
  rw [e5]
/-- The square root of a whole number below 2 ^ 28 is a float that makes a small whole number. -/
theorem sqrt_int {n : Nat} (h : n < 2 ^ 28) : ∃ r d : Nat, FloatKind.f64.format.sqrt (FloatKind.f64.nearest (n : Int)) = some r ∧ (FloatKind.f64.decode r).toInt .zero = some (d : Int) ∧ d ≤ 2 ^ 21 := by
  have hn : FloatKind.f64.nearest (n : Int) = Format.nearest double false n 0 := by
    unfold FloatKind.nearest FloatKind.encode FloatKind.format Format.write
    rw [show decide ((n : Int) < 0) = false from decide_eq_false (by omega), Int.natAbs_natCast]
  rw [hn]
  show ∃ r d : Nat, double.sqrt _ = some r ∧ (double.read r).toInt .zero = some (d : Int) ∧ d ≤ 2 ^ 21
  by_cases h0 : n = 0
  · subst h0
    exact ⟨0, 0, by decide +kernel, by decide +kernel, by decide⟩
  obtain ⟨m, e, he, h1, h2, hx⟩ := near_int h0 h
  rw [hx]
  have hm0 : m ≠ 0 := by omega
  have hl : m.log2 = 52 := log2_eq h1 h2
  unfold Format.sqrt
  rw [read_near he h1 h2]
  simp only [Datum.root, if_neg hm0, Bool.false_eq_true, if_false, Option.map_some, Format.write, hl]
  generalize hmore : (2 * (double.fractionBits + 2) - 52 + (((e : Int) - 52 - ↑(2 * (double.fractionBits + 2) - 52)) % 2).toNat) = more
  have hmr : more = 56 + e % 2 := by
    rw [← hmore]
    have : double.fractionBits = 52 := rfl
    rw [this]
    omega
  have hw := rootFrom_lt (m <<< more) ((m <<< more).log2 / 2 + 1) 0
  have hlg : (m <<< more).log2 < 110 := by
    rw [Nat.log2_lt (by rw [Nat.shiftLeft_eq]; have := Nat.mul_pos (show 0 < m by omega) (Nat.two_pow_pos more); omega), Nat.shiftLeft_eq]
    have a1 : m * 2 ^ more < 2 * double.binade * 2 ^ more := Nat.mul_lt_mul_of_pos_right h2 (Nat.two_pow_pos _)
    rw [b53, ← Nat.pow_add] at a1
    exact Nat.lt_of_lt_of_le a1 (Nat.pow_le_pow_right (by decide) (by omega))
  have hp : 2 ^ ((m <<< more).log2 / 2 + 1) ≤ 2 ^ 55 := Nat.pow_le_pow_right (by decide) (by omega)
  generalize Datum.rootFrom (m <<< more) ((m <<< more).log2 / 2 + 1) 0 = W at hw ⊢
  have hb : ∀ b : Bool, b.toNat ≤ 1 := by intro b; cases b <;> decide
  have hbb := hb (W * W != m <<< more)
  generalize (W * W != m <<< more).toNat = b1 at hbb ⊢
  obtain ⟨d, hd1, hd2⟩ := read_lt (near_lt (mag := 2 * W + b1) (place := ((e : Int) - 52 - more) / 2 - 1) (by omega) (by omega) (by omega))
  exact ⟨_, d, rfl, hd1, hd2⟩
end Go.Proofs.Ytnhhbpdjapccpaa
