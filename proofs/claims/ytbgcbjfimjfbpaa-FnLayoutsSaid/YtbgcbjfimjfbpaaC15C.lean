/-
  Contracts of chapters 14 and 15: how many data cells a matrix size has.
-/
import Derived.Test.YtbgcbjfimjfbpaaC15D
import Derived.Test.YtbgcbjfimjfbpaaDpN
import Derived.Test.YtbgcbjfimjfbpaaC14I
import Derived.Test.YtbgcbjfimjfbpaaLst
namespace Go.Proofs.Ytbgcbjfimjfbpaa
set_option linter.unusedSimpArgs false
open Go.RowKit

theorem OwnP.form {w : World} {B : Nat} {v : Value} {ps : List (Int × Int)} (h : OwnP w B v ps) : ∃ A c, v = .slice A ps.length c := by
  rcases h.2 with ⟨rfl, h0⟩ | ⟨g, cap, cur, rfl, hB, hg, hr⟩
  · exact ⟨none, 0, by rw [h0]⟩
  · exact ⟨_, cap, rfl⟩
/-- The number of data cells of a size, or 0. -/
def dcV (n : Int) : Int := if sizeB n then ((dataL n.toNat).length : Nat) else 0
set_option maxHeartbeats 1000000 in
theorem l14Count_any (N : Nat) (w : World) (hN : 17 ≤ N ∧ N ≤ 41 ∧ N % 4 = 1) :
    Calls Try.prog 108 #[.int .i64 N] w fun e w' => e = .returned (.int .i64 ((dataL N).length : Nat)) ∧ Below w.heap.size w w' := by
  have HG := Lib.hid (fun w => l14Grid_any N w hN)
  have hlen := fixL_len N
  have HC := Lib.hid (data_count hN)
  have hNN : N * N ≤ 1681 := Nat.mul_le_mul hN.2.1 hN.2.1
  clear hN
  go_enter Try.func108, Try.ntmps108
  go_wp2_with fail
  (go_at_call 117; with_reducible refine (HG.out _).mono ?_; rintro e1 w1 ⟨v1, rfl, ho1, hb1⟩; obtain ⟨hc1, hf1⟩ := bcell hb1; have hB1 : Below w.heap.size w w1 := (below_then (by first | (go_grown; done) | (repeat (first | (with_reducible assumption) | (with_reducible exact Below.refl _ _) | (with_reducible refine below_drewN' ?_ _) | (with_reducible refine Below.drew ?_) | ((with_reducible refine Below.alloc ?_ ?_ _); rotate_left; focus (first | (simp; done) | (simp; omega) | omega)) | ((with_reducible refine Below.setCell ?_ ?_ _); rotate_left; focus (first | (simp; done) | (simp; omega) | omega))))) (by first | omega | (simp; done) | (simp; omega)) hb1))
  obtain ⟨A1, c1, rfl, hr1⟩ := ho1.shape
  rw [hlen] at hr1 ⊢
  have HL := Lib.hid hlen
  have hs1 := hb1.size
  have HR1 := Lib.hid (hr1.alloc (Nat.le_refl _) (.cells #[.int .i64 (N : Int), .int .i64 (N : Int), .slice A1 (N * N) c1] 137))
  have HB1 := Lib.hid hB1
  have hNNi : (N : Int) * N ≤ 1681 := by have : ((N * N : Nat) : Int) ≤ 1681 := by omega
                                         simpa using this
  clear ho1 hr1 hlen hc1 hf1 hb1
  go_wp2_with fail
  go_loop [4, 5] (fun q i => ∃ k : Nat, k ≤ N * N ∧ i = .int .i64 k ∧ q = .int .i64 (-30 + (cnt negB ((fixL N).take k) : Nat))) (fun _ i => N * N - (intOf i).toNat)
  case atStart => exact ⟨0, Nat.zero_le _, rfl, rfl⟩
  case round =>
    obtain ⟨k, hk, rfl, rfl⟩ := hrel
    by_cases hlt : k < N * N
    · obtain ⟨b, o, rfl, hb, hc⟩ := HR1.out.cells (by omega)
      have hck := hc k hlt
      clear hc
      have hle := cnt_take_le negB (fixL N) k
      have hst := cnt_take (p := negB) (xs := fixL N) (k := k) (by rw [HL.out]; exact hlt)
      have HS := Lib.hid hst
      clear hst
      by_cases he : nth (fixL N) k < 0
      · go_wp2_with fail
        go_round
        case rel => exact ⟨k + 1, by omega, by go_num, by rw [HS.out]; simp [negB, he]; go_num⟩
        case measure => simp [intOf]; omega
      · go_wp2_with fail
        go_round
        case rel => exact ⟨k + 1, by omega, by go_num, by rw [HS.out]; simp [negB, he]⟩
        case measure => simp [intOf]; omega
    · have hkn : k = N * N := by omega
      have hA : cnt negB ((fixL N).take k) = cnt negB (fixL N) := by rw [hkn, List.take_of_length_le (by rw [HL.out]; exact Nat.le_refl _)]
      have HA := Lib.hid hA
      clear hA hkn
      go_wp2_with fail
      go_ret
      exact ⟨ret_int (by rw [HA.out, ← HC.out]; omega), by (repeat (first | (with_reducible assumption) | (with_reducible exact Below.refl _ _) | (with_reducible refine below_drewN' ?_ _) | (with_reducible refine Below.drew ?_) | ((with_reducible refine Below.alloc ?_ ?_ _); rotate_left; focus (first | (simp; done) | (simp; omega) | omega)) | ((with_reducible refine Below.setCell ?_ ?_ _); rotate_left; focus (first | (simp; done) | (simp; omega) | omega))))⟩
theorem DataCount_any (n : Int) (w : World) : Calls Try.prog 99 #[.int .i64 n] w fun e w' => e = .returned (.int .i64 (dcV n)) ∧ Below w.heap.size w w' := by
  unfold dcV
  cases hs : sizeB n
  · go_enter Try.func99, Try.ntmps99
    go_wp2_with (go_at_call 62; refine (isMatrixSize_any _ _).mono ?_; rintro e w' ⟨rfl, rfl⟩)
    go_ret
    exact ⟨by simp, by (repeat (first | (with_reducible assumption) | (with_reducible exact Below.refl _ _) | (with_reducible refine below_drewN' ?_ _) | (with_reducible refine Below.drew ?_) | ((with_reducible refine Below.alloc ?_ ?_ _); rotate_left; focus (first | (simp; done) | (simp; omega) | omega)) | ((with_reducible refine Below.setCell ?_ ?_ _); rotate_left; focus (first | (simp; done) | (simp; omega) | omega))))⟩
  · obtain ⟨N, rfl, h1, h2, h3⟩ := sizeB_true hs
    have HC := Lib.hid (fun w => dataPlaces_any N w ⟨h1, h2, h3⟩)
    have HT : Hid ((N : Int).toNat = N) := Lib.hid (by simp)
    have hln : Hid ((dataL N).length ≤ 1680) := Lib.hid (by
      have := data_count ⟨h1, h2, h3⟩
      have h4 := cnt_take_le negB (fixL N) (N * N)
      have h5 : (fixL N).take (N * N) = fixL N := List.take_of_length_le (by rw [fixL_len]; exact Nat.le_refl _)
      have h6 : N * N ≤ 41 * 41 := Nat.mul_le_mul h2 h2
      rw [h5] at h4
      omega)
    go_enter Try.func99, Try.ntmps99
    go_wp2_with first | (go_at_call 62; refine (isMatrixSize_any _ _).mono ?_; rintro e w' ⟨rfl, rfl⟩)
    (go_at_call 114; with_reducible refine (HC.out _).mono ?_; rintro e1 w1 ⟨v1, rfl, ho1, hb1⟩; obtain ⟨hc1, hf1⟩ := bcell hb1; have hB1 : Below w.heap.size w w1 := (below_then (by first | (go_grown; done) | (repeat (first | (with_reducible assumption) | (with_reducible exact Below.refl _ _) | (with_reducible refine below_drewN' ?_ _) | (with_reducible refine Below.drew ?_) | ((with_reducible refine Below.alloc ?_ ?_ _); rotate_left; focus (first | (simp; done) | (simp; omega) | omega)) | ((with_reducible refine Below.setCell ?_ ?_ _); rotate_left; focus (first | (simp; done) | (simp; omega) | omega))))) (by first | omega | (simp; done) | (simp; omega)) hb1))
    obtain ⟨A1, c1, rfl⟩ := ho1.form
    go_wp2_with fail
    go_ret
    exact ⟨by simp, by (repeat (first | (with_reducible assumption) | (with_reducible exact Below.refl _ _) | (with_reducible refine below_drewN' ?_ _) | (with_reducible refine Below.drew ?_) | ((with_reducible refine Below.alloc ?_ ?_ _); rotate_left; focus (first | (simp; done) | (simp; omega) | omega)) | ((with_reducible refine Below.setCell ?_ ?_ _); rotate_left; focus (first | (simp; done) | (simp; omega) | omega))))⟩
end Go.Proofs.Ytbgcbjfimjfbpaa
