/-
  Contracts of chapter 8: format codes and format words as numbers.
-/
import Derived.Test.YtkipaefhnmfebaaC01
import Derived.Test.YtkipaefhnmfebaaC01A
namespace Go.Proofs.Ytkipaefhnmfebaa
open Go.RowKit

/-- A valid format code. -/
def fcodeB (d l p : Int) : Bool := inR d 1 8 && (inR l (d + 1) 24 && inR p (2 ^ (l - d).toNat) (2 ^ ((l - d).toNat + 1) - 1))
theorem fcodeB_1 {d l p : Int} (h : inR d 1 8 = false) : fcodeB d l p = false := by unfold fcodeB; rw [h]; rfl
theorem fcodeB_2 {d l p : Int} (h : inR l (d + 1) 24 = false) : fcodeB d l p = false := by unfold fcodeB; rw [h]; simp
theorem fcodeB_3 {D k : Nat} {p : Int} (h1 : inR (D : Int) 1 8 = true) (h2 : inR ((D : Int) + k) ((D : Int) + 1) 24 = true) : fcodeB D ((D : Int) + k) p = inR p (2 ^ k) (2 ^ (k + 1) - 1) := by
  unfold fcodeB
  rw [h1, h2, show (((D : Int) + k) - D).toNat = k by omega]; rfl
theorem pow_bd {k : Nat} (hk : k ≤ 31) : (0 : Int) < 2 ^ k ∧ (2 : Int) ^ k ≤ 2147483648 := by
  have h1 := Nat.two_pow_pos k
  have h2 : 2 ^ k ≤ 2 ^ 31 := Nat.pow_le_pow_right (by decide) hk
  have e : ((2 ^ k : Nat) : Int) = (2 : Int) ^ k := by simp
  rw [← e]; omega
theorem fcodeB_true {d l p : Int} (h : fcodeB d l p = true) : ∃ D k P : Nat, d = D ∧ l = (D : Int) + k ∧ p = P ∧ 1 ≤ D ∧ D ≤ 8 ∧ 1 ≤ k ∧ k ≤ 23 ∧ D + k ≤ 24 ∧ polyOk P k := by
  unfold fcodeB at h
  simp only [Bool.and_eq_true] at h
  obtain ⟨h1, h2, h3⟩ := h
  have a := inR_true h1
  have b := inR_true h2
  have c := inR_true h3
  have hp := pow_bd (k := (l - d).toNat) (by omega)
  refine ⟨d.toNat, (l - d).toNat, p.toNat, by omega, by omega, by omega, by omega, by omega, by omega, by omega, by omega, ?_, ?_⟩
  · have e : ((2 ^ (l - d).toNat : Nat) : Int) = (2 : Int) ^ (l - d).toNat := by simp
    rw [← e] at c; omega
  · have e : ((2 ^ ((l - d).toNat + 1) : Nat) : Int) = (2 : Int) ^ ((l - d).toNat + 1) := by simp
    rw [← e] at c; omega
theorem fcodeB_mk {D k P : Nat} (hD0 : 1 ≤ D) (hD : D ≤ 8) (hk0 : 1 ≤ k) (hk : D + k ≤ 24) (hp : polyOk P k) : fcodeB D ((D : Int) + k) P = true := by
  rw [fcodeB_3 (inR_mk (by omega) (by omega)) (inR_mk (by omega) (by omega))]
  have e1 : ((2 ^ k : Nat) : Int) = (2 : Int) ^ k := by simp
  have e2 : ((2 ^ (k + 1) : Nat) : Int) = (2 : Int) ^ (k + 1) := by simp
  rw [← e1, ← e2]
  obtain ⟨h1, h2⟩ := hp
  exact inR_mk (by omega) (by omega)
theorem poly_test (P k : Nat) : inR (P : Int) (2 ^ k) (2 ^ (k + 1) - 1) = (((P : Int) / 2 ^ k) == 1) := by
  have e1 : ((2 ^ k : Nat) : Int) = (2 : Int) ^ k := by simp
  have e2 : ((2 ^ (k + 1) : Nat) : Int) = (2 : Int) ^ (k + 1) := by simp
  have hk := Nat.two_pow_pos k
  have e3 : 2 ^ (k + 1) = 2 * 2 ^ k := by rw [Nat.pow_succ]; omega
  rw [← e1, ← e2, e3, ← Int.natCast_ediv]
  generalize 2 ^ k = K at *
  have h : P / K = 1 ↔ K ≤ P ∧ P < 2 * K := by
    rw [Nat.div_eq_iff hk]; omega
  by_cases hc : P / K = 1
  · rw [hc]
    have := h.1 hc
    rw [inR_mk (by omega) (by omega)]; rfl
  · have h2 : (((P / K : Nat) : Int) == 1) = false := by simpa using by omega
    rw [h2]
    rcases inR_cases (P : Int) (K : Int) (((2 * K : Nat) : Int) - 1) with ⟨_, h3, h4⟩ | ⟨h3, _⟩
    · exact absurd (h.2 ⟨by omega, by omega⟩) hc
    · exact h3
set_option maxHeartbeats 1000000 in
theorem l08Word_any (D k P v : Nat) (w : World) (hD0 : 1 ≤ D) (hD : D ≤ 8) (hk0 : 1 ≤ k) (hk : k ≤ 23) (hp : polyOk P k) (hv : v < 2 ^ D) :
    Calls Try.prog 106 #[.agg #[.int .i64 D, .int .i64 ((D : Int) + k), .int .i64 P], .int .i64 v] w fun e w' =>
      ∃ v', e = .returned v' ∧ Own w' w.heap.size v' (bitsL (D + k) (fword D (D + k) P v)) ∧ Below w.heap.size w w' := by
  have hkk : ((D : Int) + k) - D = k := by omega
  have hv0 : (0 : Int) ≤ (v : Int) * 2 ^ k := by
    have := Int.natCast_nonneg (v * 2 ^ k); simpa using this
  have hlt := mul_pow_lt (k := k) hv
  have hle : 2 ^ (k + D) ≤ 2 ^ 31 := Nat.pow_le_pow_right (by decide) (by omega)
  have hv1 : (v : Int) * 2 ^ k ≤ 2147483647 := by
    have h : ((v * 2 ^ k : Nat) : Int) ≤ 2147483647 := by omega
    simpa using h
  clear hle
  have HP := Lib.hid hp
  have HLT := Lib.hid hlt
  clear hlt hp
  go_enter Try.func106, Try.ntmps106
  go_wp2_with fail
  go_loop [6, 7] (fun q a => ∃ n r : Nat, n ≤ D ∧ a = .int .i64 ((k : Int) + n - 1) ∧ q = .int .i64 r ∧ Hid (r < 2 ^ (k + n)) ∧ Hid (remN P k n r = remN P k D (v * 2 ^ k))) (fun _ a => (intOf a + 1 - k).toNat)
  case atStart => exact ⟨D, v * 2 ^ k, Nat.le_refl _, by go_num, by simp, HLT.out, rfl⟩
  case round =>
    obtain ⟨n, r, hn, rfl, rfl, hr, hrem⟩ := hrel
    rcases n with _ | m
    · have hv62 : v < 4611686018427387904 := by
        have hle : 2 ^ D ≤ 2 ^ 31 := Nat.pow_le_pow_right (by decide) (by omega)
        omega
      have hr62 : r < 4611686018427387904 := by
        have h1 := hr.out
        have hle : 2 ^ (k + 0) ≤ 2 ^ 31 := Nat.pow_le_pow_right (by decide) (by omega)
        omega
      have hfb : bitsL (D + k) (fword D (D + k) P v) = bitsL D v ++ bitsL k r := by
        have hrem' : r = remN P k D (v * 2 ^ k) := hrem.out
        have h := fword_bits (D := D) (L := D + k) (P := P) (v := v) (by omega) (by rw [Nat.add_sub_cancel_left]; exact HP.out) hv
        rw [Nat.add_sub_cancel_left] at h
        rw [h, hrem']
      have HF := Lib.hid hfb
      clear hfb hv0 hv1
      go_wp2_with fail
      refine (l01Append_any (.slice none 0 0) [] v D _ (.inl ⟨rfl, rfl⟩) (by simp) (by omega) hv62).mono ?_
      rintro e1 w1 ⟨v1, rfl, ho1, hb1⟩
      have hB1 : Below w.heap.size w w1 := below_then (by go_grown) (by simp) hb1
      have HO1 := Lib.hid ho1
      have HB1 := Lib.hid hB1
      clear ho1 hb1 hB1
      go_wp2_with fail
      refine (l01Append_any v1 ([] ++ bitsL D v) r k _ HO1.out.src (by rw [List.nil_append, bitsL_len]; omega) (by omega) hr62).mono ?_
      rintro e2 w2 ⟨v2, rfl, ho2, hb2⟩
      have hB2 : Below w.heap.size w w2 := below_then HB1.out (HB1.out.size) hb2
      have HO2 := Lib.hid (ho2.more HB1.out.size)
      have HB2 := Lib.hid hB2
      clear ho2 hb2 hB2
      go_wp2_with fail
      go_ret
      exact ⟨_, rfl, by rw [HF.out]; exact HO2.out, HB2.out⟩
    · have hr62 : r < 4611686018427387904 := by
        have h1 := hr.out
        have hle : 2 ^ (k + (m + 1)) ≤ 2 ^ 31 := Nat.pow_le_pow_right (by decide) (by omega)
        omega
      have hsh : P * 2 ^ m < 4611686018427387904 := by
        have h1 := (poly_shift (n := m) HP.out).1
        have hle : 2 ^ (k + m + 1) ≤ 2 ^ 32 := Nat.pow_le_pow_right (by decide) (by omega)
        omega
      have hP0 : (0 : Int) ≤ (P : Int) * 2 ^ m := by
        have := Int.natCast_nonneg (P * 2 ^ m); simpa using this
      have hP1 : (P : Int) * 2 ^ m ≤ 4611686018427387903 := by
        have h : ((P * 2 ^ m : Nat) : Int) ≤ 4611686018427387903 := by omega
        simpa using h
      have hstep := remStep_lt (n := m) HP.out hr.out
      by_cases hb : r / 2 ^ (k + m) % 2 = 1
      · have ht := i64_bit_yes hr62 hb
        have hx : bits .xor .i64 (r : Int) (wrap64 ((P : Int) * 2 ^ m)) = ((remStep P k (k + m) r : Nat) : Int) := by
          have e : wrap64 ((P : Int) * 2 ^ m) = ((P * 2 ^ m : Nat) : Int) := by rw [wrap64_in (by omega)]; simp
          rw [e, i64_xor _ _ hr62 hsh]
          unfold remStep
          rw [if_pos hb, Nat.add_sub_cancel_left]
        have HX := Lib.hid hx
        have HS := Lib.hid hstep
        clear hx hb hstep
        go_wp2_with fail
        go_round
        case rel => exact ⟨m, remStep P k (k + m) r, by omega, by go_num, by rw [HX.out], HS.out, hrem.out⟩
        case measure => simp [intOf]; omega
      · have ht := i64_bit_no hr62 hb
        have hx : remStep P k (k + m) r = r := by unfold remStep; rw [if_neg hb]
        rw [hx] at hstep
        have HX := Lib.hid hx
        have HS := Lib.hid hstep
        clear hx hb hstep
        go_wp2_with fail
        go_round
        case rel => exact ⟨m, r, by omega, by go_num, rfl, HS.out, by have h := hrem.out; simp only [remN, HX.out] at h; exact h⟩
        case measure => simp [intOf]; omega
end Go.Proofs.Ytkipaefhnmfebaa
