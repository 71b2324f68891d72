/-
  Contracts of chapter 2: primes.
-/
import Derived.Test.YtbgcbjfimjfbpaaC01
import Derived.Test.YtbgcbjfimjfbpaaFld
namespace Go.Proofs.Ytbgcbjfimjfbpaa
set_option linter.unusedSimpArgs false
open Go.RowKit

set_option maxHeartbeats 1000000 in
theorem isPrime_any (N : Nat) (w : World) (hN : 2 ≤ N) (hn : N ≤ 100000) : Calls Try.prog 95 #[.int .i64 N] w fun e w' => e = .returned (.bool (primeB N)) ∧ w = w' := by
  have hn2 : (2 : Int) ≤ N := by omega
  go_enter Try.func95, Try.ntmps95
  go_wp2_with fail
  go_loop [3] (fun q => ∃ d : Nat, 2 ≤ d ∧ d ≤ N + 1 ∧ q = .int .i64 d ∧ Hid (∀ k, 2 ≤ k → k < d → N % k ≠ 0)) (fun q => N + 2 - (intOf q).toNat)
  case atStart => exact ⟨2, by omega, by omega, rfl, Lib.hid (fun k h1 h2 => by omega)⟩
  case round =>
    obtain ⟨d, hd2, hdN, rfl, hno⟩ := hrel
    have hdd : ((d * d : Nat) : Int) ≤ 100001 * 100001 := by
      have := Nat.mul_le_mul (show d ≤ 100001 by omega) (show d ≤ 100001 by omega)
      omega
    have hw : IntKind.i64.wrap ((d : Int) * d) = ((d * d : Nat) : Int) := by rw [← Int.natCast_mul]; exact wr64 (by omega)
    obtain ⟨E, hE⟩ : ∃ E, d * d = E := ⟨_, rfl⟩
    rw [hE] at hw hdd
    by_cases hle : E ≤ N
    · have hdn : d ≤ N := by have := Nat.le_mul_of_pos_left d (show 0 < d by omega); omega
      obtain ⟨M, hM⟩ : ∃ M, N % d = M := ⟨_, rfl⟩
      have hm1 : (N : Int) % d = (M : Int) := by rw [← Int.natCast_emod, hM]
      have hm2 : (N : Int).tmod d = (M : Int) := by rw [Int.tmod_eq_emod_of_nonneg (by omega), hm1]
      have hd0 : ¬ d = 0 := by omega
      by_cases hM0 : M = 0
      · have hp := Lib.hid (primeB_no hd2 (by rw [hE]; exact hle) (by rw [hM]; exact hM0))
        have HE := Lib.hid hE
        have HM := Lib.hid hM
        clear hE hM
        go_wp2_with fail
        go_ret
        exact ⟨ret_bool (by rw [hp.out]), rfl⟩
      · have HE := Lib.hid hE
        have HM := Lib.hid hM
        clear hE hM
        go_wp2_with fail
        go_round
        case rel => exact ⟨d + 1, by omega, by omega, by go_num, Lib.hid (fun k h1 h2 => by
          rcases Nat.lt_or_ge k d with h3 | h3
          · exact hno.out k h1 h3
          · obtain rfl : k = d := by omega
            rw [HM.out]; exact hM0)⟩
        case measure => simp [intOf]; omega
    · have hp := Lib.hid (primeB_yes hN hno.out (by rw [hE]; omega))
      have HE := Lib.hid hE
      clear hE
      go_wp2_with fail
      go_ret
      exact ⟨ret_bool (by rw [hp.out]; try simp; try omega), rfl⟩
set_option maxHeartbeats 1000000 in
theorem l02Prime_any (N : Nat) (w : World) (hN : 2 ≤ N) (hn : N ≤ 100000) : Calls Try.prog 97 #[.int .i64 N] w fun e w' => e = .returned (.bool (primeB N)) ∧ w = w' := by
  have hn2 : (2 : Int) ≤ N := by omega
  go_enter Try.func97, Try.ntmps97
  go_wp2_with fail
  go_loop [3] (fun q => ∃ d : Nat, 2 ≤ d ∧ d ≤ N + 1 ∧ q = .int .i64 d ∧ Hid (∀ k, 2 ≤ k → k < d → N % k ≠ 0)) (fun q => N + 2 - (intOf q).toNat)
  case atStart => exact ⟨2, by omega, by omega, rfl, Lib.hid (fun k h1 h2 => by omega)⟩
  case round =>
    obtain ⟨d, hd2, hdN, rfl, hno⟩ := hrel
    have hdd : ((d * d : Nat) : Int) ≤ 100001 * 100001 := by
      have := Nat.mul_le_mul (show d ≤ 100001 by omega) (show d ≤ 100001 by omega)
      omega
    have hw : IntKind.i64.wrap ((d : Int) * d) = ((d * d : Nat) : Int) := by rw [← Int.natCast_mul]; exact wr64 (by omega)
    obtain ⟨E, hE⟩ : ∃ E, d * d = E := ⟨_, rfl⟩
    rw [hE] at hw hdd
    by_cases hle : E ≤ N
    · have hdn : d ≤ N := by have := Nat.le_mul_of_pos_left d (show 0 < d by omega); omega
      obtain ⟨M, hM⟩ : ∃ M, N % d = M := ⟨_, rfl⟩
      have hm1 : (N : Int) % d = (M : Int) := by rw [← Int.natCast_emod, hM]
      have hm2 : (N : Int).tmod d = (M : Int) := by rw [Int.tmod_eq_emod_of_nonneg (by omega), hm1]
      have hd0 : ¬ d = 0 := by omega
      by_cases hM0 : M = 0
      · have hp := Lib.hid (primeB_no hd2 (by rw [hE]; exact hle) (by rw [hM]; exact hM0))
        have HE := Lib.hid hE
        have HM := Lib.hid hM
        clear hE hM
        go_wp2_with fail
        go_ret
        exact ⟨ret_bool (by rw [hp.out]), rfl⟩
      · have HE := Lib.hid hE
        have HM := Lib.hid hM
        clear hE hM
        go_wp2_with fail
        go_round
        case rel => exact ⟨d + 1, by omega, by omega, by go_num, Lib.hid (fun k h1 h2 => by
          rcases Nat.lt_or_ge k d with h3 | h3
          · exact hno.out k h1 h3
          · obtain rfl : k = d := by omega
            rw [HM.out]; exact hM0)⟩
        case measure => simp [intOf]; omega
    · have hp := Lib.hid (primeB_yes hN hno.out (by rw [hE]; omega))
      have HE := Lib.hid hE
      clear hE
      go_wp2_with fail
      go_ret
      exact ⟨ret_bool (by rw [hp.out]; try simp; try omega), rfl⟩
end Go.Proofs.Ytbgcbjfimjfbpaa
