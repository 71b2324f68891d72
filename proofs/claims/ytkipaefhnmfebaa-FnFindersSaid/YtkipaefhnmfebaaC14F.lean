/-
  Contracts of chapter 14: the fixed cells of a matrix symbol, one by one.
-/
import Derived.Test.YtkipaefhnmfebaaC14
import Derived.Test.YtkipaefhnmfebaaFix
import Derived.Test.YtkipaefhnmfebaaBlk
namespace Go.Proofs.Ytkipaefhnmfebaa
set_option linter.unusedSimpArgs false
open Go.RowKit

theorem fdist_bd {r c : Int} (hr : -1000 ≤ r ∧ r ≤ 1000) (hc : -1000 ≤ c ∧ c ≤ 1000) : 0 ≤ fdist r c ∧ fdist r c ≤ 1000 := by unfold fdist; omega
theorem fdist_if (r c : Int) : fdist r c = if r.natAbs < c.natAbs then ((c.natAbs : Nat) : Int) else ((r.natAbs : Nat) : Int) := by unfold fdist; split <;> omega
theorem midV_bd {n x : Int} (hn : 0 ≤ n ∧ n ≤ 41) : -4 ≤ midV n x ∧ midV n x ≤ 41 := by unfold midV; split <;> omega
set_option maxHeartbeats 400000 in
theorem l14Finder_any (r c : Int) (w : World) (hr : -100 ≤ r ∧ r ≤ 100) (hc : -100 ≤ c ∧ c ≤ 100) :
    Calls Try.prog 114 #[.int .i64 r, .int .i64 c] w fun e w' => e = .returned (.int .i64 (findV r c)) ∧ w = w' := by
  obtain ⟨d, hd⟩ : ∃ d, fdist (r - 3) (c - 3) = d := ⟨_, rfl⟩
  have hd' : (if (r - 3).natAbs < (c - 3).natAbs then (((c - 3).natAbs : Nat) : Int) else (((r - 3).natAbs : Nat) : Int)) = d := by rw [← hd, fdist_if]
  have hV : findV r c = if 4 < d then -1 else fcell d := by unfold findV; rw [hd]
  have HV := Lib.hid hV
  clear hV hd
  by_cases h4 : 4 < d
  · go_enter Try.func114, Try.ntmps114
    go_wp2_with (go_at_call 115; refine (l01Abs_any _ _ (by omega) (by omega)).mono ?_; rintro e w' ⟨rfl, rfl⟩)
    go_ret
    exact ⟨ret_int (by rw [HV.out]; simp [h4]), rfl⟩
  · have h4d : decide (4 < d) = false := decide_eq_false h4
    by_cases h2 : d = 2 ∨ d = 4
    · have hc1 : fcell d = 0 := by unfold fcell; simp [h2]
      rw [if_neg h4, hc1] at HV
      rcases h2 with rfl | rfl
      · go_enter Try.func114, Try.ntmps114
        go_wp2_with (go_at_call 115; refine (l01Abs_any _ _ (by omega) (by omega)).mono ?_; rintro e w' ⟨rfl, rfl⟩)
        go_ret
        exact ⟨ret_int HV.out.symm, rfl⟩
      · go_enter Try.func114, Try.ntmps114
        go_wp2_with (go_at_call 115; refine (l01Abs_any _ _ (by omega) (by omega)).mono ?_; rintro e w' ⟨rfl, rfl⟩)
        go_ret
        exact ⟨ret_int HV.out.symm, rfl⟩
    · have hc1 : fcell d = 1 := by unfold fcell; simp [h2]
      rw [if_neg h4, hc1] at HV
      have e2 : (d == 2) = false := by simp; omega
      have e4 : (d == 4) = false := by simp; omega
      clear h2 hc1
      go_enter Try.func114, Try.ntmps114
      go_wp2_with (go_at_call 115; refine (l01Abs_any _ _ (by omega) (by omega)).mono ?_; rintro e w' ⟨rfl, rfl⟩)
      go_ret
      exact ⟨ret_int HV.out.symm, rfl⟩
set_option maxHeartbeats 400000 in
theorem finder_any (r c : Int) (w : World) (hr : -100 ≤ r ∧ r ≤ 100) (hc : -100 ≤ c ∧ c ≤ 100) :
    Calls Try.prog 94 #[.int .i64 r, .int .i64 c] w fun e w' => e = .returned (.int .i64 (fcell (fdist r c))) ∧ w = w' := by
  obtain ⟨d, hd⟩ : ∃ d, fdist r c = d := ⟨_, rfl⟩
  have hd' : (if r.natAbs < c.natAbs then ((c.natAbs : Nat) : Int) else ((r.natAbs : Nat) : Int)) = d := by rw [← hd, fdist_if]
  rw [hd]
  clear hd
  by_cases h2 : d = 2 ∨ d = 4
  · have hc1 : fcell d = 0 := by unfold fcell; simp [h2]
    rw [hc1]
    clear hc1
    rcases h2 with rfl | rfl
    · go_enter Try.func94, Try.ntmps94
      go_wp2_with (go_at_call 73; refine (distance_any _ _ (by omega) (by omega)).mono ?_; rintro e w' ⟨rfl, rfl⟩)
      go_ret
      exact ⟨rfl, rfl⟩
    · go_enter Try.func94, Try.ntmps94
      go_wp2_with (go_at_call 73; refine (distance_any _ _ (by omega) (by omega)).mono ?_; rintro e w' ⟨rfl, rfl⟩)
      go_ret
      exact ⟨rfl, rfl⟩
  · have hc1 : fcell d = 1 := by unfold fcell; simp [h2]
    rw [hc1]
    have e2 : (d == 2) = false := by simp; omega
    have e4 : (d == 4) = false := by simp; omega
    clear h2 hc1
    go_enter Try.func94, Try.ntmps94
    go_wp2_with (go_at_call 73; refine (distance_any _ _ (by omega) (by omega)).mono ?_; rintro e w' ⟨rfl, rfl⟩)
    go_ret
    exact ⟨rfl, rfl⟩
set_option maxHeartbeats 400000 in
theorem middle_any (n r c : Int) (w : World) (hn : 0 ≤ n ∧ n ≤ 41) :
    Calls Try.prog 92 #[.int .i64 n, .agg #[.int .i64 r, .int .i64 c]] w fun e w' => e = .returned (.agg #[.int .i64 (midV n r), .int .i64 (midV n c)]) ∧ Below w.heap.size w w' := by
  obtain ⟨q, hq⟩ : ∃ q, n.tdiv 2 = q := ⟨_, rfl⟩
  have hqb : 0 ≤ q ∧ q ≤ 41 := by rw [← hq, Int.tdiv_eq_ediv_of_nonneg (by omega)]; omega
  have hr : midV n r = if q < r then n - 4 else 3 := by unfold midV; rw [hq]
  have hc : midV n c = if q < c then n - 4 else 3 := by unfold midV; rw [hq]
  rw [hr, hc]
  clear hr hc
  by_cases h1 : q < r
  · by_cases h2 : q < c
    · go_enter Try.func92, Try.ntmps92
      go_wp2_with fail
      go_returns
      exact ⟨by simp [h1, h2], by go_grown⟩
    · have h2' : decide (q < c) = false := decide_eq_false h2
      go_enter Try.func92, Try.ntmps92
      go_wp2_with fail
      go_returns
      exact ⟨by simp [h1, h2], by go_grown⟩
  · have h1' : decide (q < r) = false := decide_eq_false h1
    by_cases h2 : q < c
    · go_enter Try.func92, Try.ntmps92
      go_wp2_with fail
      go_returns
      exact ⟨by simp [h1, h2], by go_grown⟩
    · have h2' : decide (q < c) = false := decide_eq_false h2
      go_enter Try.func92, Try.ntmps92
      go_wp2_with fail
      go_returns
      exact ⟨by simp [h1, h2], by go_grown⟩
end Go.Proofs.Ytkipaefhnmfebaa
