/-
  Contracts of chapter 26: what more samples tell, both sides. Printed by gen/c26j.py.
-/
import Derived.Test.YtflpllmbpfdnjaaSlice
import Derived.Test.YtflpllmbpfdnjaaBlk
namespace Go.Proofs.Ytflpllmbpfdnjaa
set_option linter.unusedSimpArgs false
open Go.RowKit

/-- What one sample adds to a vote; the sum; the vote. -/
def vone (x : Int) : Int := if x = 1 then 1 else if x = 0 then -1 else 0
def vsum : List Int → Int
  | [] => 0
  | x :: xs => vone x + vsum xs
def voteV (xs : List Int) : Int := if 0 < vsum xs then 1 else if vsum xs < 0 then 0 else -1
theorem vone_bd (x : Int) : -1 ≤ vone x ∧ vone x ≤ 1 := by
  unfold vone; split
  · omega
  · split <;> omega
theorem vsum_bd : ∀ xs : List Int, -(xs.length : Int) ≤ vsum xs ∧ vsum xs ≤ xs.length
  | [] => by simp [vsum]
  | x :: xs => by
    have h1 := vsum_bd xs
    have h2 := vone_bd x
    simp only [vsum, List.length_cons]
    omega
theorem vsum_append : ∀ xs ys : List Int, vsum (xs ++ ys) = vsum xs + vsum ys
  | [], ys => by simp [vsum]
  | x :: xs, ys => by simp only [List.cons_append, vsum, vsum_append xs ys]; omega
theorem vsum_take {xs : List Int} {k : Nat} (h : k < xs.length) : vsum (xs.take (k + 1)) = vsum (xs.take k) + vone (nth xs k) := by
  rw [take_nth h, vsum_append]; simp [vsum]
set_option maxHeartbeats 4000000 in
theorem vote_any (A : Option Addr) (n c : Nat) (xs : List Int) (w : World) (B : Nat) (hr : RI w B A n xs) (hn : n ≤ 1000) :
    Calls Try.prog 89 #[.slice A n c] w fun e w' => e = .returned (.int .i64 (voteV xs)) ∧ w = w' := by
  have HR := Lib.hid hr
  have HL := Lib.hid hr.len
  clear hr
  go_enter Try.func89, Try.ntmps89
  go_wp2_with fail
  go_loop [3, 8] (fun q i => ∃ k : Nat, k ≤ n ∧ i = .int .i64 k ∧ q = .int .i64 (vsum (xs.take k))) (fun _ i => n - (intOf i).toNat)
  case atStart => exact ⟨0, Nat.zero_le _, rfl, rfl⟩
  case round =>
    obtain ⟨k, hk, rfl, rfl⟩ := hrel
    have hb := vsum_bd (xs.take k)
    rw [List.length_take] at hb
    by_cases hlt : k < n
    · obtain ⟨b, o, rfl, hbB, hc⟩ := HR.out.cells (by omega)
      have hck := hc k hlt
      have hst := vsum_take (xs := xs) (k := k) (by rw [HL.out]; exact hlt)
      have HS := Lib.hid hst
      have hki : (k : Int) < n := by omega
      clear hc hst
      obtain ⟨x, hx⟩ : ∃ x, nth xs k = x := ⟨_, rfl⟩
      rw [hx] at hck HS
      generalize vsum (xs.take k) = v at *
      clear hx
      rcases (show x = 1 ∨ x = 0 ∨ (¬ x = 1 ∧ ¬ x = 0) by omega) with rfl | rfl | ⟨n1, n0⟩
      · go_wp2_with fail
        go_round
        case rel => exact ⟨k + 1, by omega, by go_num, by rw [HS.out]; simp [vone]⟩
        case measure => simp [intOf]; omega
      · go_wp2_with fail
        go_round
        case rel => exact ⟨k + 1, by omega, by go_num, by rw [HS.out]; simp [vone]; rfl⟩
        case measure => simp [intOf]; omega
      · have e1 : (x == 1) = false := by simpa using n1
        have e0 : (x == 0) = false := by simpa using n0
        go_wp2_with fail
        go_round
        case rel => exact ⟨k + 1, by omega, by go_num, by rw [HS.out]; simp [vone, n1, n0]⟩
        case measure => simp [intOf]; omega
    · obtain rfl : k = n := by omega
      have hfin : vsum (xs.take k) = vsum xs := by rw [List.take_of_length_le (by rw [HL.out]; exact Nat.le_refl _)]
      have hki : ¬ ((k : Int) < k) := by omega
      rw [hfin] at hb
      rw [hfin]
      clear hfin
      have HV := Lib.hid (show voteV xs = if 0 < vsum xs then 1 else if vsum xs < 0 then 0 else -1 from rfl)
      generalize vsum xs = v at *
      rcases (show 0 < v ∨ v < 0 ∨ v = 0 by omega) with h | h | rfl
      · have h2 : ¬ v < 0 := by omega
        have HW := Lib.hid (show voteV xs = 1 by rw [HV.out, if_pos h])
        go_wp2_with fail
        go_ret
        exact ⟨ret_int HW.out.symm, rfl⟩
      · have h2 : ¬ 0 < v := by omega
        have HW := Lib.hid (show voteV xs = 0 by rw [HV.out, if_neg h2, if_pos h])
        go_wp2_with fail
        go_ret
        exact ⟨ret_int HW.out.symm, rfl⟩
      · have HW := Lib.hid (show voteV xs = -1 by rw [HV.out]; rfl)
        go_wp2_with fail
        go_ret
        exact ⟨ret_int HW.out.symm, rfl⟩
set_option maxHeartbeats 4000000 in
theorem l26Vote_any (A : Option Addr) (n c : Nat) (xs : List Int) (w : World) (B : Nat) (hr : RI w B A n xs) (hn : n ≤ 1000) :
    Calls Try.prog 87 #[.slice A n c] w fun e w' => e = .returned (.int .i64 (voteV xs)) ∧ w = w' := by
  have HR := Lib.hid hr
  have HL := Lib.hid hr.len
  clear hr
  go_enter Try.func87, Try.ntmps87
  go_wp2_with fail
  go_loop [3, 4] (fun q i => ∃ k : Nat, k ≤ n ∧ i = .int .i64 k ∧ q = .int .i64 (vsum (xs.take k))) (fun _ i => n - (intOf i).toNat)
  case atStart => exact ⟨0, Nat.zero_le _, rfl, rfl⟩
  case round =>
    obtain ⟨k, hk, rfl, rfl⟩ := hrel
    have hb := vsum_bd (xs.take k)
    rw [List.length_take] at hb
    by_cases hlt : k < n
    · obtain ⟨b, o, rfl, hbB, hc⟩ := HR.out.cells (by omega)
      have hck := hc k hlt
      have hst := vsum_take (xs := xs) (k := k) (by rw [HL.out]; exact hlt)
      have HS := Lib.hid hst
      have hki : (k : Int) < n := by omega
      clear hc hst
      obtain ⟨x, hx⟩ : ∃ x, nth xs k = x := ⟨_, rfl⟩
      rw [hx] at hck HS
      generalize vsum (xs.take k) = v at *
      clear hx
      rcases (show x = 1 ∨ x = 0 ∨ (¬ x = 1 ∧ ¬ x = 0) by omega) with rfl | rfl | ⟨n1, n0⟩
      · go_wp2_with fail
        go_round
        case rel => exact ⟨k + 1, by omega, by go_num, by rw [HS.out]; simp [vone]⟩
        case measure => simp [intOf]; omega
      · go_wp2_with fail
        go_round
        case rel => exact ⟨k + 1, by omega, by go_num, by rw [HS.out]; simp [vone]; rfl⟩
        case measure => simp [intOf]; omega
      · have e1 : (x == 1) = false := by simpa using n1
        have e0 : (x == 0) = false := by simpa using n0
        go_wp2_with fail
        go_round
        case rel => exact ⟨k + 1, by omega, by go_num, by rw [HS.out]; simp [vone, n1, n0]⟩
        case measure => simp [intOf]; omega
    · obtain rfl : k = n := by omega
      have hfin : vsum (xs.take k) = vsum xs := by rw [List.take_of_length_le (by rw [HL.out]; exact Nat.le_refl _)]
      have hki : ¬ ((k : Int) < k) := by omega
      rw [hfin] at hb
      rw [hfin]
      clear hfin
      have HV := Lib.hid (show voteV xs = if 0 < vsum xs then 1 else if vsum xs < 0 then 0 else -1 from rfl)
      generalize vsum xs = v at *
      rcases (show 0 < v ∨ v < 0 ∨ v = 0 by omega) with h | h | rfl
      · have h2 : ¬ v < 0 := by omega
        have HW := Lib.hid (show voteV xs = 1 by rw [HV.out, if_pos h])
        go_wp2_with fail
        go_ret
        exact ⟨ret_int HW.out.symm, rfl⟩
      · have h2 : ¬ 0 < v := by omega
        have HW := Lib.hid (show voteV xs = 0 by rw [HV.out, if_neg h2, if_pos h])
        go_wp2_with fail
        go_ret
        exact ⟨ret_int HW.out.symm, rfl⟩
      · have HW := Lib.hid (show voteV xs = -1 by rw [HV.out]; rfl)
        go_wp2_with fail
        go_ret
        exact ⟨ret_int HW.out.symm, rfl⟩
end Go.Proofs.Ytflpllmbpfdnjaa
