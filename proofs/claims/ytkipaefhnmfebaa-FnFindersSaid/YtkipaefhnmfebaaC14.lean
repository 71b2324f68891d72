/-
  Contracts of chapter 14: which grids are valid, matrix sizes.
-/
import Derived.Test.YtkipaefhnmfebaaC01
import Derived.Test.YtkipaefhnmfebaaLst
namespace Go.Proofs.Ytkipaefhnmfebaa
set_option linter.unusedSimpArgs false
open Go.RowKit

set_option maxHeartbeats 400000 in
theorem isMatrixSize_any (n : Int) (w : World) : Calls Try.prog 50 #[.int .i64 n] w fun e w' => e = .returned (.bool (sizeB n)) ∧ w = w' := by
  cases h : inR n 17 41
  · go_enter Try.func50, Try.ntmps50
    go_wp2_with (go_at_call 39; refine (inRange_any _ _ _ _).mono ?_; rintro e w' ⟨rfl, rfl⟩)
    all_goals (go_ret; exact ⟨ret_bool (by simp [sizeB, h]), rfl⟩)
  · go_enter Try.func50, Try.ntmps50
    go_wp2_with (go_at_call 39; refine (inRange_any _ _ _ _).mono ?_; rintro e w' ⟨rfl, rfl⟩)
    all_goals (go_ret; exact ⟨ret_bool (by simp [sizeB, h]), rfl⟩)
set_option maxHeartbeats 1000000 in
theorem IsGrid_any (r c : Int) (A : Option Addr) (n cp : Nat) (xs : List Int) (w : World) (B : Nat) (hr : RI w B A n xs) (hB : B ≤ w.heap.size) (hn : n ≤ 1000000000000000) :
    Calls Try.prog 45 #[.agg #[.int .i64 r, .int .i64 c, .slice A n cp]] w fun e w' => e = .returned (.bool (gridB r c xs)) ∧ Below w.heap.size w w' := by
  have HL := Lib.hid hr.len
  have HR := Lib.hid (hr.alloc hB (.cells #[.int .i64 r, .int .i64 c, .slice A n cp] 41))
  clear hr
  have short : gridB r c xs = false → Ending.returned (.bool false) = .returned (.bool (gridB r c xs)) := fun h2 => by rw [h2]
  have HS := Lib.hid short
  clear short
  cases h1 : inR r 1 40000
  · go_enter Try.func45, Try.ntmps45
    go_wp2_with (go_at_call 39; refine (inRange_any _ _ _ _).mono ?_; rintro e w' ⟨rfl, rfl⟩)
    go_ret
    exact ⟨HS.out (gridB_no (.inl h1)), by go_grown⟩
  cases h2 : inR c 1 40000
  · go_enter Try.func45, Try.ntmps45
    go_wp2_with (go_at_call 39; refine (inRange_any _ _ _ _).mono ?_; rintro e w' ⟨rfl, rfl⟩)
    go_ret
    exact ⟨HS.out (gridB_no (.inr (.inl h2))), by go_grown⟩
  have b1 := inR_true h1
  have b2 := inR_true h2
  have b3 := mul_bd (show 0 ≤ r by omega) b1.2 (show 0 ≤ c by omega) b2.2
  by_cases h3 : ¬ r * c ≤ 40000
  · go_enter Try.func45, Try.ntmps45
    go_wp2_with (go_at_call 39; refine (inRange_any _ _ _ _).mono ?_; rintro e w' ⟨rfl, rfl⟩)
    go_ret
    exact ⟨HS.out (gridB_no (.inr (.inr (.inl (by omega))))), by go_grown⟩
  replace h3 := Decidable.not_not.1 h3
  have h3d : decide (40000 < r * c) = false := decide_eq_false (by omega)
  by_cases h4 : ¬ (n : Int) = r * c
  · have h4' : ((n : Int) != r * c) = true := by simpa using h4
    replace h4 := Lib.hid h4
    go_enter Try.func45, Try.ntmps45
    go_wp2_with (go_at_call 39; refine (inRange_any _ _ _ _).mono ?_; rintro e w' ⟨rfl, rfl⟩)
    go_ret
    exact ⟨HS.out (gridB_no (.inr (.inr (.inr (by rw [HL.out]; exact h4.out))))), by go_grown⟩
  replace h4 := Decidable.not_not.1 h4
  have h5 : gridB r c xs = allIn (-1) 1 xs := by simp [gridB, HL.out, h1, h2, h3, h4]
  have H5 := Lib.hid h5
  clear h5 HS
  have h4' : ((n : Int) != r * c) = false := by simpa using h4
  clear h4
  go_enter Try.func45, Try.ntmps45
  go_wp2_with (go_at_call 39; refine (inRange_any _ _ _ _).mono ?_; rintro e w' ⟨rfl, rfl⟩)
  clear h1 h2 h3 h3d h4' b1 b2 b3
  go_loop [37] (fun i => ∃ k : Nat, k ≤ n ∧ i = .int .i64 k ∧ Hid (allIn (-1) 1 (xs.take k) = true)) (fun i => n - (intOf i).toNat)
  case atStart => exact ⟨0, Nat.zero_le _, rfl, rfl⟩
  case round =>
    obtain ⟨k, hk, rfl, hall⟩ := hrel
    by_cases hlt : k < n
    · obtain ⟨b, o, rfl, hb, hc⟩ := HR.out.cells (by omega)
      have hck := hc k hlt
      clear hc
      cases he : inR (nth xs k) (-1) 1
      · go_wp2_with (go_at_call 39; refine (inRange_any _ _ _ _).mono ?_; rintro e w' ⟨rfl, rfl⟩)
        go_ret
        exact ⟨ret_bool (by rw [H5.out, allIn_false (by rw [HL.out]; exact hlt) he]), by go_grown⟩
      · go_wp2_with (go_at_call 39; refine (inRange_any _ _ _ _).mono ?_; rintro e w' ⟨rfl, rfl⟩)
        go_round
        case rel => exact ⟨k + 1, by omega, by go_num, by rw [allIn_take (by rw [HL.out]; exact hlt), hall.out, he]; rfl⟩
        case measure => simp [intOf]; omega
    · have hkn : k = n := by omega
      have hA : allIn (-1) 1 xs = true := by have := hall.out; rwa [hkn, List.take_of_length_le (by rw [HL.out]; exact Nat.le_refl _)] at this
      have HA := Lib.hid hA
      clear hA hkn
      go_wp2_with fail
      go_ret
      exact ⟨ret_bool (by rw [H5.out, HA.out]), by go_grown⟩

set_option maxHeartbeats 1000000 in
theorem sIsGrid_any (r c : Int) (A : Option Addr) (n cp : Nat) (xs : List Int) (w : World) (B : Nat) (hr : RI w B A n xs) (hB : B ≤ w.heap.size) (hn : n ≤ 1000000000000000) :
    Calls Try.prog 47 #[.agg #[.int .i64 r, .int .i64 c, .slice A n cp]] w fun e w' => e = .returned (.bool (gridB r c xs)) ∧ Below w.heap.size w w' := by
  have HL := Lib.hid hr.len
  have HR := Lib.hid (hr.alloc hB (.cells #[.int .i64 r, .int .i64 c, .slice A n cp] 41))
  clear hr
  have short : gridB r c xs = false → Ending.returned (.bool false) = .returned (.bool (gridB r c xs)) := fun h2 => by rw [h2]
  have HS := Lib.hid short
  clear short
  cases h1 : inR r 1 40000
  · go_enter Try.func47, Try.ntmps47
    go_wp2_with (go_at_call 70; refine (l01In_any _ _ _ _).mono ?_; rintro e w' ⟨rfl, rfl⟩)
    go_ret
    exact ⟨HS.out (gridB_no (.inl h1)), by go_grown⟩
  cases h2 : inR c 1 40000
  · go_enter Try.func47, Try.ntmps47
    go_wp2_with (go_at_call 70; refine (l01In_any _ _ _ _).mono ?_; rintro e w' ⟨rfl, rfl⟩)
    go_ret
    exact ⟨HS.out (gridB_no (.inr (.inl h2))), by go_grown⟩
  have b1 := inR_true h1
  have b2 := inR_true h2
  have b3 := mul_bd (show 0 ≤ r by omega) b1.2 (show 0 ≤ c by omega) b2.2
  by_cases h3 : ¬ r * c ≤ 40000
  · go_enter Try.func47, Try.ntmps47
    go_wp2_with (go_at_call 70; refine (l01In_any _ _ _ _).mono ?_; rintro e w' ⟨rfl, rfl⟩)
    go_ret
    exact ⟨HS.out (gridB_no (.inr (.inr (.inl (by omega))))), by go_grown⟩
  replace h3 := Decidable.not_not.1 h3
  have h3d : decide (40000 < r * c) = false := decide_eq_false (by omega)
  by_cases h4 : ¬ (n : Int) = r * c
  · have h4' : ((n : Int) != r * c) = true := by simpa using h4
    replace h4 := Lib.hid h4
    go_enter Try.func47, Try.ntmps47
    go_wp2_with (go_at_call 70; refine (l01In_any _ _ _ _).mono ?_; rintro e w' ⟨rfl, rfl⟩)
    go_ret
    exact ⟨HS.out (gridB_no (.inr (.inr (.inr (by rw [HL.out]; exact h4.out))))), by go_grown⟩
  replace h4 := Decidable.not_not.1 h4
  have h5 : gridB r c xs = allIn (-1) 1 xs := by simp [gridB, HL.out, h1, h2, h3, h4]
  have H5 := Lib.hid h5
  clear h5 HS
  have h4' : ((n : Int) != r * c) = false := by simpa using h4
  clear h4
  go_enter Try.func47, Try.ntmps47
  go_wp2_with (go_at_call 70; refine (l01In_any _ _ _ _).mono ?_; rintro e w' ⟨rfl, rfl⟩)
  clear h1 h2 h3 h3d h4' b1 b2 b3
  go_loop [3] (fun i => ∃ k : Nat, k ≤ n ∧ i = .int .i64 k ∧ Hid (allIn (-1) 1 (xs.take k) = true)) (fun i => n - (intOf i).toNat)
  case atStart => exact ⟨0, Nat.zero_le _, rfl, rfl⟩
  case round =>
    obtain ⟨k, hk, rfl, hall⟩ := hrel
    by_cases hlt : k < n
    · obtain ⟨b, o, rfl, hb, hc⟩ := HR.out.cells (by omega)
      have hck := hc k hlt
      clear hc
      cases he : inR (nth xs k) (-1) 1
      · go_wp2_with (go_at_call 70; refine (l01In_any _ _ _ _).mono ?_; rintro e w' ⟨rfl, rfl⟩)
        go_ret
        exact ⟨ret_bool (by rw [H5.out, allIn_false (by rw [HL.out]; exact hlt) he]), by go_grown⟩
      · go_wp2_with (go_at_call 70; refine (l01In_any _ _ _ _).mono ?_; rintro e w' ⟨rfl, rfl⟩)
        go_round
        case rel => exact ⟨k + 1, by omega, by go_num, by rw [allIn_take (by rw [HL.out]; exact hlt), hall.out, he]; rfl⟩
        case measure => simp [intOf]; omega
    · have hkn : k = n := by omega
      have hA : allIn (-1) 1 xs = true := by have := hall.out; rwa [hkn, List.take_of_length_le (by rw [HL.out]; exact Nat.le_refl _)] at this
      have HA := Lib.hid hA
      clear hA hkn
      go_wp2_with fail
      go_ret
      exact ⟨ret_bool (by rw [H5.out, HA.out]), by go_grown⟩

end Go.Proofs.Ytkipaefhnmfebaa
