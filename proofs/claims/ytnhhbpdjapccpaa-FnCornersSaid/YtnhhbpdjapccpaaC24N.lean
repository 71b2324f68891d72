/-
  Contracts of chapter 24: the nearest size, at a length that fits exactly.
-/
import Derived.Test.YtnhhbpdjapccpaaC24H
import Derived.Test.YtnhhbpdjapccpaaC24C
import Derived.Test.YtnhhbpdjapccpaaQom
import Derived.Test.YtnhhbpdjapccpaaSlice
namespace Go.Proofs.Ytnhhbpdjapccpaa
set_option linter.unusedSimpArgs false
open Go.RowKit

theorem nth7 {k : Nat} (h : k < 7) : nth sizesL k = 17 + 4 * (k : Int) := by rw [sizesL_nth h]; omega
theorem root_exact (s : Nat) (hs : s ≤ 4000) (w : World) : Calls Try.prog 83 #[.int .i64 ((s : Int) * s)] w fun e w' => e = .returned (.int .i64 (s : Nat)) ∧ Below w.heap.size w w' := by
  have h := Nat.mul_le_mul hs hs
  rw [← Int.natCast_mul]
  refine (root_any (s * s) (by omega) w).mono ?_
  rintro e w' ⟨⟨d, he, h1, h2⟩, m, hm⟩
  obtain rfl := root_sq h1 h2
  exact ⟨he, hm ▸ below_drewN' (Below.refl _ _) m⟩
set_option maxHeartbeats 2000000 in
theorem nearestSize_sq (X Y : Int) (p i s : Nat) (A : Option Addr) (c : Nat) (w : World) (B : Nat) (hr : RI w B A 7 sizesL) (hB : B ≤ w.heap.size) (hp1 : 1 ≤ p) (hp2 : p ≤ 12) (hi : i < 7) (hs : s = 2 * p * (10 + 4 * i)) (hX1 : 0 ≤ X) (hX2 : X ≤ 1000) (hY1 : 0 ≤ Y) (hY2 : Y ≤ 1000) :
    Calls Try.prog 72 #[.agg #[.int .i64 X, .int .i64 Y], .agg #[.int .i64 (X + s), .int .i64 Y], .int .i64 p, .int .i64 1, .slice A 7 c] w fun e w' => e = .returned (.int .i64 (17 + 4 * (i : Int))) ∧ Below w.heap.size w w' := by
  have hs2 : s ≤ 4000 := by
    have := Nat.mul_le_mul (show 2 * p ≤ 24 by omega) (show 10 + 4 * i ≤ 34 by omega)
    omega
  have HM : Hid (∀ w : World, Calls Try.prog 77 #[.agg #[.int .i64 (X + s), .int .i64 Y], .agg #[.int .i64 X, .int .i64 Y]] w fun e w' => e = .returned (.agg #[.int .i64 (s : Nat), .int .i64 0]) ∧ Below w.heap.size w w') := Lib.hid (fun w => by
    have h := minus_any (X + s) Y X Y w (by omega) (by omega) (by omega) (by omega) (by omega) (by omega) (by omega) (by omega)
    rw [show X + s - X = (s : Int) by omega, show Y - Y = (0 : Int) by omega] at h
    exact h.mono fun e w' h => ⟨h.1, by first | exact h.2 | exact h.2 ▸ Below.refl _ _⟩)
  have HQ : Hid (∀ w : World, Calls Try.prog 84 #[.agg #[.int .i64 (s : Nat), .int .i64 0]] w fun e w' => e = .returned (.int .i64 ((s : Int) * s)) ∧ Below w.heap.size w w') := Lib.hid (fun w => by
    have h := square_any (s : Nat) 0 w (by omega) (by omega) (by omega) (by omega)
    rw [show (s : Int) * s + 0 * 0 = (s : Int) * s by omega] at h
    exact h)
  have HR := Lib.hid (fun w => root_exact s hs2 w)
  have hq : ((s : Int) + p) / (2 * p) = 10 + 4 * i := by
    have h := want_sq (p := (p : Int)) (m := 10 + 4 * (i : Int)) (by omega)
    rw [Int.mul_one] at h
    rw [show (s : Int) = 2 * p * (10 + 4 * i) by rw [hs]; push_cast; rfl]
    exact h
  have hq2 : ((s : Int) + p).tdiv (2 * p) = 10 + 4 * i := by rw [Int.tdiv_eq_ediv_of_nonneg (by omega)]; exact hq
  have hp0 : ¬ (2 * (p : Int)) = 0 := by omega
  have HA := Lib.hid hr
  clear hr hs
  go_enter Try.func72, Try.ntmps72
  go_upto_region 2 with first | (go_at_call 77; with_reducible refine (HM.out _).mono ?_; rintro e1 w1 ⟨rfl, hb1⟩; obtain ⟨hc1, hf1⟩ := bcell hb1; have hB1 : Below w.heap.size w w1 := (below_then (by first | (go_grown; done) | (repeat (first | (with_reducible assumption) | (with_reducible exact Below.refl _ _) | (with_reducible refine below_drewN' ?_ _) | (with_reducible refine Below.drew ?_) | ((with_reducible refine Below.alloc ?_ ?_ _); rotate_left; focus (first | (simp; done) | (simp; omega) | omega)) | ((with_reducible refine Below.setCell ?_ ?_ _); rotate_left; focus (first | (simp; done) | (simp; omega) | omega))))) (by first | omega | (simp; done) | (simp; omega)) hb1); have hz1a : w.heap.size < w1.heap.size := (by have := hb1.size; first | omega | (simp at this; omega)); have hz1b : w.heap.size + 1 < w1.heap.size := (by have := hb1.size; first | omega | (simp at this; omega))) | (go_at_call 84; with_reducible refine (HQ.out _).mono ?_; rintro e2 w2 ⟨rfl, hb2⟩; obtain ⟨hc2, hf2⟩ := bcell hb2; have hB2 : Below w.heap.size w w2 := (below_then (by first | (go_grown; done) | (repeat (first | (with_reducible assumption) | (with_reducible exact Below.refl _ _) | (with_reducible refine below_drewN' ?_ _) | (with_reducible refine Below.drew ?_) | ((with_reducible refine Below.alloc ?_ ?_ _); rotate_left; focus (first | (simp; done) | (simp; omega) | omega)) | ((with_reducible refine Below.setCell ?_ ?_ _); rotate_left; focus (first | (simp; done) | (simp; omega) | omega))))) (by first | omega | (simp; done) | (simp; omega)) hb2); have hz2a : w.heap.size < w2.heap.size := (by have := hb2.size; first | omega | (simp at this; omega)); have hz2b : w.heap.size + 1 < w2.heap.size := (by have := hb2.size; first | omega | (simp at this; omega))) | (go_at_call 83; with_reducible refine (HR.out _).mono ?_; rintro e3 w3 ⟨rfl, hb3⟩; obtain ⟨hc3, hf3⟩ := bcell hb3; have hB3 : Below w.heap.size w w3 := (below_then (by first | (go_grown; done) | (repeat (first | (with_reducible assumption) | (with_reducible exact Below.refl _ _) | (with_reducible refine below_drewN' ?_ _) | (with_reducible refine Below.drew ?_) | ((with_reducible refine Below.alloc ?_ ?_ _); rotate_left; focus (first | (simp; done) | (simp; omega) | omega)) | ((with_reducible refine Below.setCell ?_ ?_ _); rotate_left; focus (first | (simp; done) | (simp; omega) | omega))))) (by first | omega | (simp; done) | (simp; omega)) hb3); have hz3a : w.heap.size < w3.heap.size := (by have := hb3.size; first | omega | (simp at this; omega)); have hz3b : w.heap.size + 1 < w3.heap.size := (by have := hb3.size; first | omega | (simp at this; omega)))
  have HB3 := Lib.hid hB3
  clear hb1 hc1 hf1 hB1 hb2 hc2 hf2 hB2 hb3 hc3 hf3 hB3 HM HQ HR hq hq2 hp0 hz1a hz1b hz2a hz2b hz3a hz3b
  have HR3 := Lib.hid (HA.out.below (HB3.out.mono hB))
  obtain ⟨b, o, rfl, hb, hc⟩ := HR3.out.cells (by omega)
  have hc0 := hc 0 (by omega)
  rw [show nth sizesL 0 = 17 from rfl, Nat.add_zero] at hc0
  have HC := Lib.hid hc
  clear hc
  go_wp2_with fail
  go_loopw [12, 14, 33] (fun best _ q wr => ∃ k : Nat, k ≤ 7 ∧ q = .int .i64 k ∧ best = .int .i64 (17 + 4 * ((min (k - 1) i : Nat) : Int)) ∧ Hid (wr = w3)) (fun _ _ q _ => 7 - (intOf q).toNat)
  case atStart => exact ⟨0, by omega, rfl, by simp, Lib.hid rfl⟩
  case round =>
    obtain ⟨k, hk, rfl, rfl, hw⟩ := hrel
    obtain rfl := hw.out
    have hw : Hid (wr = wr) := Lib.hid rfl
    by_cases hlt : k < 7
    · have hck := HC.out k hlt
      rw [nth7 hlt] at hck
      have hmi : min (k - 1) i ≤ 7 := by omega
      obtain ⟨M, hM⟩ : ∃ M, min (k - 1) i = M := ⟨_, rfl⟩
      rw [hM] at hmi ⊢
      have HM := Lib.hid hM
      clear hM hc0
      have hki : (k : Int) < 7 := by omega
      go_wp2_with (go_at_call 85; refine (distance_any _ _ (by omega) (by omega)).mono ?_; rintro e w' ⟨rfl, rfl⟩)
      all_goals
        have hM := HM.out
        refine ⟨⟨k + 1, by omega, by go_num, congrArg (Value.int .i64) (by omega), Lib.hid trivial⟩, ?_⟩
        simp [intOf]; omega
    · obtain rfl : k = 7 := by omega
      go_wp2_with fail
      go_ret
      exact ⟨ret_int (by omega), HB3.out⟩
set_option maxHeartbeats 2000000 in
theorem NearestSize_sq (X Y : Int) (p i s : Nat) (A : Option Addr) (c : Nat) (w : World) (B : Nat) (hr : RI w B A 7 sizesL) (hB : B ≤ w.heap.size) (hp1 : 1 ≤ p) (hp2 : p ≤ 12) (hi : i < 7) (hs : s = 2 * p * (10 + 4 * i)) (hX1 : 0 ≤ X) (hX2 : X ≤ 1000) (hY1 : 0 ≤ Y) (hY2 : Y ≤ 1000) :
    Calls Try.prog 40 #[.agg #[.int .i64 X, .int .i64 Y], .agg #[.int .i64 (X + s), .int .i64 Y], .int .i64 p, .int .i64 1, .slice A 7 c] w fun e w' => e = .returned (.tuple #[.int .i64 (17 + 4 * (i : Int)), .int .i64 0]) ∧ Below w.heap.size w w' := by
  have hs2 : s ≤ 816 := by
    have := Nat.mul_le_mul (show 2 * p ≤ 24 by omega) (show 10 + 4 * i ≤ 34 by omega)
    omega
  have hsp : spotsB [X, Y, X + s, Y] 2 = true := by
    rw [show spotsB [X, Y, X + s, Y] 2 = (spotB X Y && spotB (X + s) Y) by simp [spotsB, List.range_succ, nth]]
    rw [spotB_ok (by omega) (by omega) (by omega) (by omega), spotB_ok (by omega) (by omega) (by omega) (by omega)]
    rfl
  have HN := Lib.hid (fun (w' : World) (hb : Below w.heap.size w w') => nearestSize_sq X Y p i s A c w' B (hr.below (hb.mono hB)) (by have := hb.size; omega) hp1 hp2 hi hs hX1 hX2 hY1 hY2)
  have HA := Lib.hid hr
  clear hr hs
  go_enter Try.func40, Try.ntmps40
  go_upto_region 3 with (go_at_call 59; go_call (areSpots_any _ _ 2 [X, Y, X + s, Y] _ (by simp) (by intro k hk; rcases (show k = 0 ∨ k = 1 by omega) with rfl | rfl <;> exact ⟨by go_simp; simp [nth], by go_simp; simp [nth]⟩) (by decide)) as e1 w1 ⟨rfl, hb1⟩; obtain ⟨hc1, hf1⟩ := bcell hb1; have hB1 : Below w.heap.size w w1 := (below_then (by first | (go_grown; done) | (repeat (first | (with_reducible assumption) | (with_reducible exact Below.refl _ _) | (with_reducible refine below_drewN' ?_ _) | (with_reducible refine Below.drew ?_) | ((with_reducible refine Below.alloc ?_ ?_ _); rotate_left; focus (first | (simp; done) | (simp; omega) | omega)) | ((with_reducible refine Below.setCell ?_ ?_ _); rotate_left; focus (first | (simp; done) | (simp; omega) | omega))))) (by first | omega | (simp; done) | (simp; omega)) hb1); have hz1a : w.heap.size < w1.heap.size := (by have := hb1.size; first | omega | (simp at this; omega)); have hz1b : w.heap.size + 1 < w1.heap.size := (by have := hb1.size; first | omega | (simp at this; omega)))
  have HB1 := Lib.hid hB1
  have k0 : w1.cell? ⟨w.heap.size, 0, none⟩ = some (.int .i64 X) := (hc1 _ _ (by first | (simp; done) | (simp; omega))).trans (by go_simp)
  have k1 : w1.cell? ⟨w.heap.size, 1, none⟩ = some (.int .i64 Y) := (hc1 _ _ (by first | (simp; done) | (simp; omega))).trans (by go_simp)
  have k2 : w1.cell? ⟨w.heap.size + 1, 0, none⟩ = some (.int .i64 (X + s)) := (hc1 _ _ (by first | (simp; done) | (simp; omega))).trans (by go_simp)
  have k3 : w1.cell? ⟨w.heap.size + 1, 1, none⟩ = some (.int .i64 Y) := (hc1 _ _ (by first | (simp; done) | (simp; omega))).trans (by go_simp)
  clear hb1 hc1 hf1 hB1
  have e1 : inR (p : Int) 1 1000000 = true := inR_ok (by omega) (by omega)
  have e2 : inR (1 : Int) 1 1000 = true := by decide
  have e3 : inR (7 : Int) 1 8 = true := by decide
  have HR3 := Lib.hid (HA.out.below (HB1.out.mono hB))
  obtain ⟨b, o, rfl, hb, hc⟩ := HR3.out.cells (by omega)
  have HC := Lib.hid hc
  clear hc
  go_wp2_with (go_at_call 42; refine (inRange_any _ _ _ _).mono ?_; rintro e w' ⟨rfl, rfl⟩)
  clear e1 e2 e3
  go_loopw [13, 33] (fun _ q wr => ∃ k : Nat, k ≤ 7 ∧ q = .int .i64 k ∧ Hid (wr = w1)) (fun _ q _ => 7 - (intOf q).toNat)
  case atStart => exact ⟨0, by omega, rfl, Lib.hid rfl⟩
  case round =>
    obtain ⟨k, hk, rfl, hw⟩ := hrel
    obtain rfl := hw.out
    have hw : Hid (wr = wr) := Lib.hid rfl
    by_cases hlt : k < 7
    · have hck := HC.out k hlt
      rw [nth7 hlt] at hck
      have e1 : inR (17 + 4 * (k : Int)) 1 400 = true := inR_ok (by omega) (by omega)
      have hki : (k : Int) < 7 := by omega
      go_wp2_with (go_at_call 42; refine (inRange_any _ _ _ _).mono ?_; rintro e w' ⟨rfl, rfl⟩)
      go_roundw
      case rel => exact ⟨k + 1, by omega, by go_num, Lib.hid trivial⟩
      case measure => simp [intOf]; omega
    · obtain rfl : k = 7 := by omega
      have hbw := HB1.out
      go_wp2_with (go_at_call 72; go_call (HN.out _ HB1.out) as e9 w9 ⟨rfl, hb9⟩; obtain ⟨hc9, hf9⟩ := bcell hb9; have hB9 : Below w.heap.size w w9 := (below_then (by first | (go_grown; done) | (repeat (first | (with_reducible assumption) | (with_reducible exact Below.refl _ _) | (with_reducible refine below_drewN' ?_ _) | (with_reducible refine Below.drew ?_) | ((with_reducible refine Below.alloc ?_ ?_ _); rotate_left; focus (first | (simp; done) | (simp; omega) | omega)) | ((with_reducible refine Below.setCell ?_ ?_ _); rotate_left; focus (first | (simp; done) | (simp; omega) | omega))))) (by first | omega | (simp; done) | (simp; omega)) hb9))
      go_returns
      exact ⟨rfl, by (repeat (first | (with_reducible assumption) | (with_reducible exact Below.refl _ _) | (with_reducible refine below_drewN' ?_ _) | (with_reducible refine Below.drew ?_) | ((with_reducible refine Below.alloc ?_ ?_ _); rotate_left; focus (first | (simp; done) | (simp; omega) | omega)) | ((with_reducible refine Below.setCell ?_ ?_ _); rotate_left; focus (first | (simp; done) | (simp; omega) | omega))))⟩
end Go.Proofs.Ytnhhbpdjapccpaa
