/-
  Contracts of chapter 26: one sample of the reference.
-/
import Derived.Test.YtflpllmbpfdnjaaC26T
namespace Go.Proofs.Ytflpllmbpfdnjaa
set_option linter.unusedSimpArgs false
open Go.RowKit

set_option maxHeartbeats 4000000 in
theorem l26Sample_any_far (PR PC : Nat) (A : Option Addr) (n cp : Nat) (xs : List Int) (m0 m1 m2 m3 m4 m5 m6 m7 m8 : Int) (R C lim mar : Int) (x m y k : Nat) (w : World) (B : Nat) (_hr : RI w B A n xs) (_hB : B ≤ w.heap.size) (_hn : n = PR * PC) (_hn2 : PR * PC ≤ 40000) (_hPR : PR ≤ 400) (_hPC : PC ≤ 400) (_hxs : ∀ k, k < n → 0 ≤ nth xs k ∧ nth xs k ≤ 255)
    (hmap : isMapB [m0, m1, m2, m3, m4, m5, m6, m7, m8] = true) (_hlim : 0 ≤ lim ∧ lim ≤ 256) (_hmar : 0 ≤ mar ∧ mar ≤ 256) (hu : x * k ≤ 200000) (hv : y * m ≤ 200000) (hw : m * k ≤ 100000) (_hs1 : x ≤ 1000000) (_hs2 : m ≤ 1000000) (_hs3 : y ≤ 1000000) (_hs4 : k ≤ 1000000) (hW : ¬ 0 < (imgI m6 m7 m8 ((x * k : Nat) : Int) ((y * m : Nat) : Int) ((m * k : Nat) : Int))):
    Calls Try.prog 82 #[.agg #[.int .i64 PR, .int .i64 PC, .slice A n cp], .agg #[.int .i64 m0, .int .i64 m1, .int .i64 m2, .int .i64 m3, .int .i64 m4, .int .i64 m5, .int .i64 m6, .int .i64 m7, .int .i64 m8], .agg #[.int .i64 R, .int .i64 C, .int .i64 lim, .int .i64 mar], .int .i64 x, .int .i64 m, .int .i64 y, .int .i64 k] w fun e w' => e = .returned (.int .i64 (takeV PR PC xs (imgI m0 m1 m2 ((x * k : Nat) : Int) ((y * m : Nat) : Int) ((m * k : Nat) : Int)) (imgI m3 m4 m5 ((x * k : Nat) : Int) ((y * m : Nat) : Int) ((m * k : Nat) : Int)) (imgI m6 m7 m8 ((x * k : Nat) : Int) ((y * m : Nat) : Int) ((m * k : Nat) : Int)) lim mar)) ∧ Below w.heap.size w w' := by
  have e1 : (x : Int) * k = ((x * k : Nat) : Int) := by simp
  have e2 : (y : Int) * m = ((y * m : Nat) : Int) := by simp
  have e3 : (m : Int) * k = ((m * k : Nat) : Int) := by simp
  have HSP := Lib.hid (fun w => l25Spot_any m0 m1 m2 m3 m4 m5 m6 m7 m8 ((x * k : Nat) : Int) ((y * m : Nat) : Int) ((m * k : Nat) : Int) w hmap (by omega) (by omega) (by omega) (by omega) (by omega) (by omega))
  clear hmap
  generalize x * k = U at *
  generalize y * m = V at *
  generalize m * k = N at *
  generalize imgI m0 m1 m2 (U : Int) (V : Int) (N : Int) = X at *
  generalize imgI m3 m4 m5 (U : Int) (V : Int) (N : Int) = Y at *
  generalize imgI m6 m7 m8 (U : Int) (V : Int) (N : Int) = W at *
  rw [if_neg hW] at HSP
  have HT : Hid (takeV PR PC xs X Y W lim mar = -1) := Lib.hid (by unfold takeV; rw [if_neg hW])
  go_enter Try.func82, Try.ntmps82
  go_wp2_with (go_at_call 109; with_reducible refine (HSP.out _).mono ?_; rintro e1 w1 ⟨rfl, hb1⟩; obtain ⟨hc1, hf1⟩ := bcell hb1; have hB1 : Below w.heap.size w w1 := (below_then (by first | (go_grown; done) | (repeat (first | (with_reducible assumption) | (with_reducible exact Below.refl _ _) | (with_reducible refine below_drewN' ?_ _) | (with_reducible refine Below.drew ?_) | ((with_reducible refine Below.alloc ?_ ?_ _); rotate_left; focus (first | (simp; done) | (simp; omega) | omega)) | ((with_reducible refine Below.setCell ?_ ?_ _); rotate_left; focus (first | (simp; done) | (simp; omega) | omega))))) (by first | omega | (simp; done) | (simp; omega)) hb1); have hz1a : w.heap.size < w1.heap.size := (by have := hb1.size; first | omega | (simp at this; omega)))
  go_ret
  exact ⟨ret_int (by rw [HT.out]), by (repeat (first | (with_reducible assumption) | (with_reducible exact Below.refl _ _) | (with_reducible refine below_drewN' ?_ _) | (with_reducible refine Below.drew ?_) | ((with_reducible refine Below.alloc ?_ ?_ _); rotate_left; focus (first | (simp; done) | (simp; omega) | omega)) | ((with_reducible refine Below.setCell ?_ ?_ _); rotate_left; focus (first | (simp; done) | (simp; omega) | omega))))⟩
set_option maxHeartbeats 4000000 in
theorem l26Sample_any_off (PR PC : Nat) (A : Option Addr) (n cp : Nat) (xs : List Int) (m0 m1 m2 m3 m4 m5 m6 m7 m8 : Int) (R C lim mar : Int) (x m y k : Nat) (w : World) (B : Nat) (_hr : RI w B A n xs) (_hB : B ≤ w.heap.size) (_hn : n = PR * PC) (_hn2 : PR * PC ≤ 40000) (_hPR : PR ≤ 400) (_hPC : PC ≤ 400) (_hxs : ∀ k, k < n → 0 ≤ nth xs k ∧ nth xs k ≤ 255)
    (hmap : isMapB [m0, m1, m2, m3, m4, m5, m6, m7, m8] = true) (_hlim : 0 ≤ lim ∧ lim ≤ 256) (_hmar : 0 ≤ mar ∧ mar ≤ 256) (hu : x * k ≤ 200000) (hv : y * m ≤ 200000) (hw : m * k ≤ 100000) (_hs1 : x ≤ 1000000) (_hs2 : m ≤ 1000000) (_hs3 : y ≤ 1000000) (_hs4 : k ≤ 1000000) (hW : 0 < (imgI m6 m7 m8 ((x * k : Nat) : Int) ((y * m : Nat) : Int) ((m * k : Nat) : Int))) (hsp : spotB ((imgI m0 m1 m2 ((x * k : Nat) : Int) ((y * m : Nat) : Int) ((m * k : Nat) : Int)) / (imgI m6 m7 m8 ((x * k : Nat) : Int) ((y * m : Nat) : Int) ((m * k : Nat) : Int))) ((imgI m3 m4 m5 ((x * k : Nat) : Int) ((y * m : Nat) : Int) ((m * k : Nat) : Int)) / (imgI m6 m7 m8 ((x * k : Nat) : Int) ((y * m : Nat) : Int) ((m * k : Nat) : Int))) = false):
    Calls Try.prog 82 #[.agg #[.int .i64 PR, .int .i64 PC, .slice A n cp], .agg #[.int .i64 m0, .int .i64 m1, .int .i64 m2, .int .i64 m3, .int .i64 m4, .int .i64 m5, .int .i64 m6, .int .i64 m7, .int .i64 m8], .agg #[.int .i64 R, .int .i64 C, .int .i64 lim, .int .i64 mar], .int .i64 x, .int .i64 m, .int .i64 y, .int .i64 k] w fun e w' => e = .returned (.int .i64 (takeV PR PC xs (imgI m0 m1 m2 ((x * k : Nat) : Int) ((y * m : Nat) : Int) ((m * k : Nat) : Int)) (imgI m3 m4 m5 ((x * k : Nat) : Int) ((y * m : Nat) : Int) ((m * k : Nat) : Int)) (imgI m6 m7 m8 ((x * k : Nat) : Int) ((y * m : Nat) : Int) ((m * k : Nat) : Int)) lim mar)) ∧ Below w.heap.size w w' := by
  have e1 : (x : Int) * k = ((x * k : Nat) : Int) := by simp
  have e2 : (y : Int) * m = ((y * m : Nat) : Int) := by simp
  have e3 : (m : Int) * k = ((m * k : Nat) : Int) := by simp
  have HSP := Lib.hid (fun w => l25Spot_any m0 m1 m2 m3 m4 m5 m6 m7 m8 ((x * k : Nat) : Int) ((y * m : Nat) : Int) ((m * k : Nat) : Int) w hmap (by omega) (by omega) (by omega) (by omega) (by omega) (by omega))
  clear hmap
  generalize x * k = U at *
  generalize y * m = V at *
  generalize m * k = N at *
  generalize imgI m0 m1 m2 (U : Int) (V : Int) (N : Int) = X at *
  generalize imgI m3 m4 m5 (U : Int) (V : Int) (N : Int) = Y at *
  generalize imgI m6 m7 m8 (U : Int) (V : Int) (N : Int) = W at *
  have HT : Hid (takeV PR PC xs X Y W lim mar = -1) := Lib.hid (by unfold takeV; rw [if_pos hW, hsp]; rfl)
  generalize takeV PR PC xs X Y W lim mar = tv at *
  rw [if_pos hW] at HSP
  generalize X / W = qx at *
  generalize Y / W = qy at *
  skip
  rw [hsp] at HSP
  clear hsp
  go_enter Try.func82, Try.ntmps82
  go_wp2_with first | (go_at_call 109; with_reducible refine (HSP.out _).mono ?_; rintro e1 w1 ⟨rfl, hb1⟩; obtain ⟨hc1, hf1⟩ := bcell hb1; have hB1 : Below w.heap.size w w1 := (below_then (by first | (go_grown; done) | (repeat (first | (with_reducible assumption) | (with_reducible exact Below.refl _ _) | (with_reducible refine below_drewN' ?_ _) | (with_reducible refine Below.drew ?_) | ((with_reducible refine Below.alloc ?_ ?_ _); rotate_left; focus (first | (simp; done) | (simp; omega) | omega)) | ((with_reducible refine Below.setCell ?_ ?_ _); rotate_left; focus (first | (simp; done) | (simp; omega) | omega))))) (by first | omega | (simp; done) | (simp; omega)) hb1); have hz1a : w.heap.size < w1.heap.size := (by have := hb1.size; first | omega | (simp at this; omega)))
  go_ret
  exact ⟨ret_int (by rw [HT.out]), by (repeat (first | (with_reducible assumption) | (with_reducible exact Below.refl _ _) | (with_reducible refine below_drewN' ?_ _) | (with_reducible refine Below.drew ?_) | ((with_reducible refine Below.alloc ?_ ?_ _); rotate_left; focus (first | (simp; done) | (simp; omega) | omega)) | ((with_reducible refine Below.setCell ?_ ?_ _); rotate_left; focus (first | (simp; done) | (simp; omega) | omega))))⟩
set_option maxHeartbeats 4000000 in
theorem l26Sample_any_row (PR PC : Nat) (A : Option Addr) (n cp : Nat) (xs : List Int) (m0 m1 m2 m3 m4 m5 m6 m7 m8 : Int) (R C lim mar : Int) (x m y k : Nat) (w : World) (B : Nat) (_hr : RI w B A n xs) (_hB : B ≤ w.heap.size) (_hn : n = PR * PC) (_hn2 : PR * PC ≤ 40000) (hPR : PR ≤ 400) (_hPC : PC ≤ 400) (_hxs : ∀ k, k < n → 0 ≤ nth xs k ∧ nth xs k ≤ 255)
    (hmap : isMapB [m0, m1, m2, m3, m4, m5, m6, m7, m8] = true) (_hlim : 0 ≤ lim ∧ lim ≤ 256) (_hmar : 0 ≤ mar ∧ mar ≤ 256) (hu : x * k ≤ 200000) (hv : y * m ≤ 200000) (hw : m * k ≤ 100000) (_hs1 : x ≤ 1000000) (_hs2 : m ≤ 1000000) (_hs3 : y ≤ 1000000) (_hs4 : k ≤ 1000000) (hW : 0 < (imgI m6 m7 m8 ((x * k : Nat) : Int) ((y * m : Nat) : Int) ((m * k : Nat) : Int))) (hsp : spotB ((imgI m0 m1 m2 ((x * k : Nat) : Int) ((y * m : Nat) : Int) ((m * k : Nat) : Int)) / (imgI m6 m7 m8 ((x * k : Nat) : Int) ((y * m : Nat) : Int) ((m * k : Nat) : Int))) ((imgI m3 m4 m5 ((x * k : Nat) : Int) ((y * m : Nat) : Int) ((m * k : Nat) : Int)) / (imgI m6 m7 m8 ((x * k : Nat) : Int) ((y * m : Nat) : Int) ((m * k : Nat) : Int))) = true) (hi1 : inR ((imgI m3 m4 m5 ((x * k : Nat) : Int) ((y * m : Nat) : Int) ((m * k : Nat) : Int)) / (imgI m6 m7 m8 ((x * k : Nat) : Int) ((y * m : Nat) : Int) ((m * k : Nat) : Int)) / 2) 0 ((PR : Int) - 1) = false):
    Calls Try.prog 82 #[.agg #[.int .i64 PR, .int .i64 PC, .slice A n cp], .agg #[.int .i64 m0, .int .i64 m1, .int .i64 m2, .int .i64 m3, .int .i64 m4, .int .i64 m5, .int .i64 m6, .int .i64 m7, .int .i64 m8], .agg #[.int .i64 R, .int .i64 C, .int .i64 lim, .int .i64 mar], .int .i64 x, .int .i64 m, .int .i64 y, .int .i64 k] w fun e w' => e = .returned (.int .i64 (takeV PR PC xs (imgI m0 m1 m2 ((x * k : Nat) : Int) ((y * m : Nat) : Int) ((m * k : Nat) : Int)) (imgI m3 m4 m5 ((x * k : Nat) : Int) ((y * m : Nat) : Int) ((m * k : Nat) : Int)) (imgI m6 m7 m8 ((x * k : Nat) : Int) ((y * m : Nat) : Int) ((m * k : Nat) : Int)) lim mar)) ∧ Below w.heap.size w w' := by
  have e1 : (x : Int) * k = ((x * k : Nat) : Int) := by simp
  have e2 : (y : Int) * m = ((y * m : Nat) : Int) := by simp
  have e3 : (m : Int) * k = ((m * k : Nat) : Int) := by simp
  have HSP := Lib.hid (fun w => l25Spot_any m0 m1 m2 m3 m4 m5 m6 m7 m8 ((x * k : Nat) : Int) ((y * m : Nat) : Int) ((m * k : Nat) : Int) w hmap (by omega) (by omega) (by omega) (by omega) (by omega) (by omega))
  clear hmap
  generalize x * k = U at *
  generalize y * m = V at *
  generalize m * k = N at *
  generalize imgI m0 m1 m2 (U : Int) (V : Int) (N : Int) = X at *
  generalize imgI m3 m4 m5 (U : Int) (V : Int) (N : Int) = Y at *
  generalize imgI m6 m7 m8 (U : Int) (V : Int) (N : Int) = W at *
  have HT : Hid (takeV PR PC xs X Y W lim mar = -1) := Lib.hid (by unfold takeV; rw [if_pos hW, hsp, hi1]; rfl)
  generalize takeV PR PC xs X Y W lim mar = tv at *
  rw [if_pos hW] at HSP
  generalize X / W = qx at *
  generalize Y / W = qy at *
  have hq := spotB_true hsp
  have hf1 : -2000 ≤ qy / 2 ∧ qy / 2 ≤ 2000 := by omega
  have hf2 : -2000 ≤ qx / 2 ∧ qx / 2 ≤ 2000 := by omega
  skip
  rw [hsp] at HSP
  clear hsp
  go_enter Try.func82, Try.ntmps82
  go_wp2_with first | (go_at_call 109; with_reducible refine (HSP.out _).mono ?_; rintro e1 w1 ⟨rfl, hb1⟩; obtain ⟨hc1, hf1⟩ := bcell hb1; have hB1 : Below w.heap.size w w1 := (below_then (by first | (go_grown; done) | (repeat (first | (with_reducible assumption) | (with_reducible exact Below.refl _ _) | (with_reducible refine below_drewN' ?_ _) | (with_reducible refine Below.drew ?_) | ((with_reducible refine Below.alloc ?_ ?_ _); rotate_left; focus (first | (simp; done) | (simp; omega) | omega)) | ((with_reducible refine Below.setCell ?_ ?_ _); rotate_left; focus (first | (simp; done) | (simp; omega) | omega))))) (by first | omega | (simp; done) | (simp; omega)) hb1); have hz1a : w.heap.size < w1.heap.size := (by have := hb1.size; first | omega | (simp at this; omega)))
  go_quiet ((go_at_call 110; exact Calls.quiet_of_same ((l24Floor_any _ 2 _ (by omega) (by omega) (by omega) (by omega)).mono fun _ _ h => ⟨h.1, h.2.symm⟩)))
  go_wp2_with (go_at_call 44; refine (l01In_any _ _ _ _).mono ?_; rintro e w' ⟨rfl, rfl⟩)
  go_ret
  exact ⟨ret_int (by rw [HT.out]), by (repeat (first | (with_reducible assumption) | (with_reducible exact Below.refl _ _) | (with_reducible refine below_drewN' ?_ _) | (with_reducible refine Below.drew ?_) | ((with_reducible refine Below.alloc ?_ ?_ _); rotate_left; focus (first | (simp; done) | (simp; omega) | omega)) | ((with_reducible refine Below.setCell ?_ ?_ _); rotate_left; focus (first | (simp; done) | (simp; omega) | omega))))⟩
set_option maxHeartbeats 4000000 in
theorem l26Sample_any_col (PR PC : Nat) (A : Option Addr) (n cp : Nat) (xs : List Int) (m0 m1 m2 m3 m4 m5 m6 m7 m8 : Int) (R C lim mar : Int) (x m y k : Nat) (w : World) (B : Nat) (_hr : RI w B A n xs) (_hB : B ≤ w.heap.size) (_hn : n = PR * PC) (_hn2 : PR * PC ≤ 40000) (hPR : PR ≤ 400) (hPC : PC ≤ 400) (_hxs : ∀ k, k < n → 0 ≤ nth xs k ∧ nth xs k ≤ 255)
    (hmap : isMapB [m0, m1, m2, m3, m4, m5, m6, m7, m8] = true) (_hlim : 0 ≤ lim ∧ lim ≤ 256) (_hmar : 0 ≤ mar ∧ mar ≤ 256) (hu : x * k ≤ 200000) (hv : y * m ≤ 200000) (hw : m * k ≤ 100000) (_hs1 : x ≤ 1000000) (_hs2 : m ≤ 1000000) (_hs3 : y ≤ 1000000) (_hs4 : k ≤ 1000000) (hW : 0 < (imgI m6 m7 m8 ((x * k : Nat) : Int) ((y * m : Nat) : Int) ((m * k : Nat) : Int))) (hsp : spotB ((imgI m0 m1 m2 ((x * k : Nat) : Int) ((y * m : Nat) : Int) ((m * k : Nat) : Int)) / (imgI m6 m7 m8 ((x * k : Nat) : Int) ((y * m : Nat) : Int) ((m * k : Nat) : Int))) ((imgI m3 m4 m5 ((x * k : Nat) : Int) ((y * m : Nat) : Int) ((m * k : Nat) : Int)) / (imgI m6 m7 m8 ((x * k : Nat) : Int) ((y * m : Nat) : Int) ((m * k : Nat) : Int))) = true) (hi1 : inR ((imgI m3 m4 m5 ((x * k : Nat) : Int) ((y * m : Nat) : Int) ((m * k : Nat) : Int)) / (imgI m6 m7 m8 ((x * k : Nat) : Int) ((y * m : Nat) : Int) ((m * k : Nat) : Int)) / 2) 0 ((PR : Int) - 1) = true) (hi2 : inR ((imgI m0 m1 m2 ((x * k : Nat) : Int) ((y * m : Nat) : Int) ((m * k : Nat) : Int)) / (imgI m6 m7 m8 ((x * k : Nat) : Int) ((y * m : Nat) : Int) ((m * k : Nat) : Int)) / 2) 0 ((PC : Int) - 1) = false):
    Calls Try.prog 82 #[.agg #[.int .i64 PR, .int .i64 PC, .slice A n cp], .agg #[.int .i64 m0, .int .i64 m1, .int .i64 m2, .int .i64 m3, .int .i64 m4, .int .i64 m5, .int .i64 m6, .int .i64 m7, .int .i64 m8], .agg #[.int .i64 R, .int .i64 C, .int .i64 lim, .int .i64 mar], .int .i64 x, .int .i64 m, .int .i64 y, .int .i64 k] w fun e w' => e = .returned (.int .i64 (takeV PR PC xs (imgI m0 m1 m2 ((x * k : Nat) : Int) ((y * m : Nat) : Int) ((m * k : Nat) : Int)) (imgI m3 m4 m5 ((x * k : Nat) : Int) ((y * m : Nat) : Int) ((m * k : Nat) : Int)) (imgI m6 m7 m8 ((x * k : Nat) : Int) ((y * m : Nat) : Int) ((m * k : Nat) : Int)) lim mar)) ∧ Below w.heap.size w w' := by
  have e1 : (x : Int) * k = ((x * k : Nat) : Int) := by simp
  have e2 : (y : Int) * m = ((y * m : Nat) : Int) := by simp
  have e3 : (m : Int) * k = ((m * k : Nat) : Int) := by simp
  have HSP := Lib.hid (fun w => l25Spot_any m0 m1 m2 m3 m4 m5 m6 m7 m8 ((x * k : Nat) : Int) ((y * m : Nat) : Int) ((m * k : Nat) : Int) w hmap (by omega) (by omega) (by omega) (by omega) (by omega) (by omega))
  clear hmap
  generalize x * k = U at *
  generalize y * m = V at *
  generalize m * k = N at *
  generalize imgI m0 m1 m2 (U : Int) (V : Int) (N : Int) = X at *
  generalize imgI m3 m4 m5 (U : Int) (V : Int) (N : Int) = Y at *
  generalize imgI m6 m7 m8 (U : Int) (V : Int) (N : Int) = W at *
  have HT : Hid (takeV PR PC xs X Y W lim mar = -1) := Lib.hid (by unfold takeV; rw [if_pos hW, hsp, hi1, hi2]; rfl)
  generalize takeV PR PC xs X Y W lim mar = tv at *
  rw [if_pos hW] at HSP
  generalize X / W = qx at *
  generalize Y / W = qy at *
  have hq := spotB_true hsp
  have hf1 : -2000 ≤ qy / 2 ∧ qy / 2 ≤ 2000 := by omega
  have hf2 : -2000 ≤ qx / 2 ∧ qx / 2 ≤ 2000 := by omega
  skip
  rw [hsp] at HSP
  clear hsp
  go_enter Try.func82, Try.ntmps82
  go_wp2_with first | (go_at_call 109; with_reducible refine (HSP.out _).mono ?_; rintro e1 w1 ⟨rfl, hb1⟩; obtain ⟨hc1, hf1⟩ := bcell hb1; have hB1 : Below w.heap.size w w1 := (below_then (by first | (go_grown; done) | (repeat (first | (with_reducible assumption) | (with_reducible exact Below.refl _ _) | (with_reducible refine below_drewN' ?_ _) | (with_reducible refine Below.drew ?_) | ((with_reducible refine Below.alloc ?_ ?_ _); rotate_left; focus (first | (simp; done) | (simp; omega) | omega)) | ((with_reducible refine Below.setCell ?_ ?_ _); rotate_left; focus (first | (simp; done) | (simp; omega) | omega))))) (by first | omega | (simp; done) | (simp; omega)) hb1); have hz1a : w.heap.size < w1.heap.size := (by have := hb1.size; first | omega | (simp at this; omega)))
  go_quiet ((go_at_call 110; exact Calls.quiet_of_same ((l24Floor_any _ 2 _ (by omega) (by omega) (by omega) (by omega)).mono fun _ _ h => ⟨h.1, h.2.symm⟩)))
  go_wp2_with (go_at_call 44; refine (l01In_any _ _ _ _).mono ?_; rintro e w' ⟨rfl, rfl⟩)
  go_ret
  exact ⟨ret_int (by rw [HT.out]), by (repeat (first | (with_reducible assumption) | (with_reducible exact Below.refl _ _) | (with_reducible refine below_drewN' ?_ _) | (with_reducible refine Below.drew ?_) | ((with_reducible refine Below.alloc ?_ ?_ _); rotate_left; focus (first | (simp; done) | (simp; omega) | omega)) | ((with_reducible refine Below.setCell ?_ ?_ _); rotate_left; focus (first | (simp; done) | (simp; omega) | omega))))⟩
set_option maxHeartbeats 4000000 in
theorem l26Sample_any_in (PR PC : Nat) (A : Option Addr) (n cp : Nat) (xs : List Int) (m0 m1 m2 m3 m4 m5 m6 m7 m8 : Int) (R C lim mar : Int) (x m y k : Nat) (w : World) (B : Nat) (hr : RI w B A n xs) (hB : B ≤ w.heap.size) (hn : n = PR * PC) (hn2 : PR * PC ≤ 40000) (hPR : PR ≤ 400) (hPC : PC ≤ 400) (hxs : ∀ k, k < n → 0 ≤ nth xs k ∧ nth xs k ≤ 255)
    (hmap : isMapB [m0, m1, m2, m3, m4, m5, m6, m7, m8] = true) (hlim : 0 ≤ lim ∧ lim ≤ 256) (_hmar : 0 ≤ mar ∧ mar ≤ 256) (hu : x * k ≤ 200000) (hv : y * m ≤ 200000) (hw : m * k ≤ 100000) (_hs1 : x ≤ 1000000) (_hs2 : m ≤ 1000000) (_hs3 : y ≤ 1000000) (_hs4 : k ≤ 1000000) (hW : 0 < (imgI m6 m7 m8 ((x * k : Nat) : Int) ((y * m : Nat) : Int) ((m * k : Nat) : Int))) (hsp : spotB ((imgI m0 m1 m2 ((x * k : Nat) : Int) ((y * m : Nat) : Int) ((m * k : Nat) : Int)) / (imgI m6 m7 m8 ((x * k : Nat) : Int) ((y * m : Nat) : Int) ((m * k : Nat) : Int))) ((imgI m3 m4 m5 ((x * k : Nat) : Int) ((y * m : Nat) : Int) ((m * k : Nat) : Int)) / (imgI m6 m7 m8 ((x * k : Nat) : Int) ((y * m : Nat) : Int) ((m * k : Nat) : Int))) = true) (hi1 : inR ((imgI m3 m4 m5 ((x * k : Nat) : Int) ((y * m : Nat) : Int) ((m * k : Nat) : Int)) / (imgI m6 m7 m8 ((x * k : Nat) : Int) ((y * m : Nat) : Int) ((m * k : Nat) : Int)) / 2) 0 ((PR : Int) - 1) = true) (hi2 : inR ((imgI m0 m1 m2 ((x * k : Nat) : Int) ((y * m : Nat) : Int) ((m * k : Nat) : Int)) / (imgI m6 m7 m8 ((x * k : Nat) : Int) ((y * m : Nat) : Int) ((m * k : Nat) : Int)) / 2) 0 ((PC : Int) - 1) = true):
    Calls Try.prog 82 #[.agg #[.int .i64 PR, .int .i64 PC, .slice A n cp], .agg #[.int .i64 m0, .int .i64 m1, .int .i64 m2, .int .i64 m3, .int .i64 m4, .int .i64 m5, .int .i64 m6, .int .i64 m7, .int .i64 m8], .agg #[.int .i64 R, .int .i64 C, .int .i64 lim, .int .i64 mar], .int .i64 x, .int .i64 m, .int .i64 y, .int .i64 k] w fun e w' => e = .returned (.int .i64 (takeV PR PC xs (imgI m0 m1 m2 ((x * k : Nat) : Int) ((y * m : Nat) : Int) ((m * k : Nat) : Int)) (imgI m3 m4 m5 ((x * k : Nat) : Int) ((y * m : Nat) : Int) ((m * k : Nat) : Int)) (imgI m6 m7 m8 ((x * k : Nat) : Int) ((y * m : Nat) : Int) ((m * k : Nat) : Int)) lim mar)) ∧ Below w.heap.size w w' := by
  have e1 : (x : Int) * k = ((x * k : Nat) : Int) := by simp
  have e2 : (y : Int) * m = ((y * m : Nat) : Int) := by simp
  have e3 : (m : Int) * k = ((m * k : Nat) : Int) := by simp
  have HSP := Lib.hid (fun w => l25Spot_any m0 m1 m2 m3 m4 m5 m6 m7 m8 ((x * k : Nat) : Int) ((y * m : Nat) : Int) ((m * k : Nat) : Int) w hmap (by omega) (by omega) (by omega) (by omega) (by omega) (by omega))
  have HPX := Lib.hid (fun (r c : Nat) (h1 : r < PR) (h2 : c < PC) (w' : World) (hb : Below w.heap.size w w') => l20At_any PR PC r c A n cp xs w' w.heap.size ((hr.more hB).below hb) hb.size hn hn2 h1 h2)
  have HXS := Lib.hid hxs
  have hnn := Lib.hid hn
  clear hr hxs hn
  clear hmap
  generalize x * k = U at *
  generalize y * m = V at *
  generalize m * k = N at *
  generalize imgI m0 m1 m2 (U : Int) (V : Int) (N : Int) = X at *
  generalize imgI m3 m4 m5 (U : Int) (V : Int) (N : Int) = Y at *
  generalize imgI m6 m7 m8 (U : Int) (V : Int) (N : Int) = W at *
  have HT0 : Hid (takeV PR PC xs X Y W lim mar = greyV lim mar (nth xs ((Y / W / 2).toNat * PC + (X / W / 2).toNat))) := Lib.hid (by unfold takeV; rw [if_pos hW, hsp, hi1, hi2]; rfl)
  generalize takeV PR PC xs X Y W lim mar = tv at *
  rw [if_pos hW] at HSP
  generalize X / W = qx at *
  generalize Y / W = qy at *
  have hq := spotB_true hsp
  have hf1 : -2000 ≤ qy / 2 ∧ qy / 2 ≤ 2000 := by omega
  have hf2 : -2000 ≤ qx / 2 ∧ qx / 2 ≤ 2000 := by omega
  skip
  rw [hsp] at HSP
  clear hsp
  have hr1 := inR_true hi1
  have hr2 := inR_true hi2
  obtain ⟨r, hrr⟩ := Int.eq_ofNat_of_zero_le hr1.1
  obtain ⟨c, hcc⟩ := Int.eq_ofNat_of_zero_le hr2.1
  have HT1 : Hid (tv = greyV lim mar (nth xs (r * PC + c))) := Lib.hid (by rw [HT0.out, hrr, hcc]; rfl)
  clear HT0
  rw [hrr] at hi1 hr1 hf1
  rw [hcc] at hi2 hr2 hf2
  have HPX := Lib.hid (HPX.out r c (by omega) (by omega))
  have hg : 0 ≤ nth xs (r * PC + c) ∧ nth xs (r * PC + c) ≤ 255 := HXS.out _ (by
    rw [hnn.out]
    have := Nat.mul_le_mul (show r + 1 ≤ PR by omega) (Nat.le_refl PC)
    rw [Nat.succ_mul] at this
    omega)
  generalize nth xs (r * PC + c) = gv at *
  clear HXS
  have HDI := Lib.hid (fun w => l01Abs_any (gv - lim) w (by omega) (by omega))
  by_cases hk1 : ((gv - lim).natAbs : Int) < mar
  · have HT : Hid (tv = -1) := Lib.hid (by rw [HT1.out]; unfold greyV; rw [if_pos hk1])
    generalize hZ : (gv - lim).natAbs = Z at *
    clear hZ
    go_enter Try.func82, Try.ntmps82
    go_wp2_with first | (go_at_call 109; with_reducible refine (HSP.out _).mono ?_; rintro e1 w1 ⟨rfl, hb1⟩; obtain ⟨hc1, hf1⟩ := bcell hb1; have hB1 : Below w.heap.size w w1 := (below_then (by first | (go_grown; done) | (repeat (first | (with_reducible assumption) | (with_reducible exact Below.refl _ _) | (with_reducible refine below_drewN' ?_ _) | (with_reducible refine Below.drew ?_) | ((with_reducible refine Below.alloc ?_ ?_ _); rotate_left; focus (first | (simp; done) | (simp; omega) | omega)) | ((with_reducible refine Below.setCell ?_ ?_ _); rotate_left; focus (first | (simp; done) | (simp; omega) | omega))))) (by first | omega | (simp; done) | (simp; omega)) hb1); have hz1a : w.heap.size < w1.heap.size := (by have := hb1.size; first | omega | (simp at this; omega)))
    go_quiet ((go_at_call 110; exact Calls.quiet_of_same ((l24Floor_any _ 2 _ (by omega) (by omega) (by omega) (by omega)).mono fun _ _ h => ⟨h.1, h.2.symm⟩)))
    go_wp2_with (go_at_call 44; refine (l01In_any _ _ _ _).mono ?_; rintro e w' ⟨rfl, rfl⟩)
    go_at_call 111
    refine (HPX.out _ (by (repeat (first | (with_reducible assumption) | (with_reducible exact Below.refl _ _) | (with_reducible refine below_drewN' ?_ _) | (with_reducible refine Below.drew ?_) | ((with_reducible refine Below.alloc ?_ ?_ _); rotate_left; focus (first | (simp; done) | (simp; omega) | omega)) | ((with_reducible refine Below.setCell ?_ ?_ _); rotate_left; focus (first | (simp; done) | (simp; omega) | omega)))))).mono ?_
    rintro e5 w5 ⟨rfl, hb5⟩
    obtain ⟨hc5, hf5⟩ := bcell hb5
    have hB5 : Below w.heap.size w w5 := below_then (by (repeat (first | (with_reducible assumption) | (with_reducible exact Below.refl _ _) | (with_reducible refine below_drewN' ?_ _) | (with_reducible refine Below.drew ?_) | ((with_reducible refine Below.alloc ?_ ?_ _); rotate_left; focus (first | (simp; done) | (simp; omega) | omega)) | ((with_reducible refine Below.setCell ?_ ?_ _); rotate_left; focus (first | (simp; done) | (simp; omega) | omega))))) (by first | omega | (simp; done) | (simp; omega)) hb5
    go_wp2_with fail
    have hz1b : w.heap.size + 2 < w1.heap.size := (by have := hb1.size; simp at this; omega)
    have hz6 : w.heap.size + 2 < ((w1.alloc (Obj.cells #[Value.int IntKind.i64 qx, Value.int IntKind.i64 qy] 61)).drewN nq).heap.size := (by simp; omega)
    have hv2 : w5.cell? { block := w.heap.size + 2, off := 2 } = some (.int .i64 lim) := by (rw [hc5 _ _ hz6, World.cell?_drewN, World.cell?_alloc_lt _ _ _ hz1b, hc1 _ _ (by simp)]; simp [go_sem])
    have hv3 : w5.cell? { block := w.heap.size + 2, off := 3 } = some (.int .i64 mar) := by (rw [hc5 _ _ hz6, World.cell?_drewN, World.cell?_alloc_lt _ _ _ hz1b, hc1 _ _ (by simp)]; simp [go_sem])
    clear hc5 hc1
    go_quiet ((go_at_call 112; exact Calls.quiet_of_same ((HDI.out _).mono fun _ _ h => ⟨h.1, h.2.symm⟩)))
    go_wp2_with fail
    go_ret
    exact ⟨ret_int (by rw [HT.out]), by (repeat (first | (with_reducible assumption) | (with_reducible exact Below.refl _ _) | (with_reducible refine below_drewN' ?_ _) | (with_reducible refine Below.drew ?_) | ((with_reducible refine Below.alloc ?_ ?_ _); rotate_left; focus (first | (simp; done) | (simp; omega) | omega)) | ((with_reducible refine Below.setCell ?_ ?_ _); rotate_left; focus (first | (simp; done) | (simp; omega) | omega))))⟩
  · by_cases hk2 : gv < lim
    · have HT : Hid (tv = 1) := Lib.hid (by rw [HT1.out]; unfold greyV; rw [if_neg hk1, if_pos hk2])
      generalize hZ : (gv - lim).natAbs = Z at *
      clear hZ
      go_enter Try.func82, Try.ntmps82
      go_wp2_with first | (go_at_call 109; with_reducible refine (HSP.out _).mono ?_; rintro e1 w1 ⟨rfl, hb1⟩; obtain ⟨hc1, hf1⟩ := bcell hb1; have hB1 : Below w.heap.size w w1 := (below_then (by first | (go_grown; done) | (repeat (first | (with_reducible assumption) | (with_reducible exact Below.refl _ _) | (with_reducible refine below_drewN' ?_ _) | (with_reducible refine Below.drew ?_) | ((with_reducible refine Below.alloc ?_ ?_ _); rotate_left; focus (first | (simp; done) | (simp; omega) | omega)) | ((with_reducible refine Below.setCell ?_ ?_ _); rotate_left; focus (first | (simp; done) | (simp; omega) | omega))))) (by first | omega | (simp; done) | (simp; omega)) hb1); have hz1a : w.heap.size < w1.heap.size := (by have := hb1.size; first | omega | (simp at this; omega)))
      go_quiet ((go_at_call 110; exact Calls.quiet_of_same ((l24Floor_any _ 2 _ (by omega) (by omega) (by omega) (by omega)).mono fun _ _ h => ⟨h.1, h.2.symm⟩)))
      go_wp2_with (go_at_call 44; refine (l01In_any _ _ _ _).mono ?_; rintro e w' ⟨rfl, rfl⟩)
      go_at_call 111
      refine (HPX.out _ (by (repeat (first | (with_reducible assumption) | (with_reducible exact Below.refl _ _) | (with_reducible refine below_drewN' ?_ _) | (with_reducible refine Below.drew ?_) | ((with_reducible refine Below.alloc ?_ ?_ _); rotate_left; focus (first | (simp; done) | (simp; omega) | omega)) | ((with_reducible refine Below.setCell ?_ ?_ _); rotate_left; focus (first | (simp; done) | (simp; omega) | omega)))))).mono ?_
      rintro e5 w5 ⟨rfl, hb5⟩
      obtain ⟨hc5, hf5⟩ := bcell hb5
      have hB5 : Below w.heap.size w w5 := below_then (by (repeat (first | (with_reducible assumption) | (with_reducible exact Below.refl _ _) | (with_reducible refine below_drewN' ?_ _) | (with_reducible refine Below.drew ?_) | ((with_reducible refine Below.alloc ?_ ?_ _); rotate_left; focus (first | (simp; done) | (simp; omega) | omega)) | ((with_reducible refine Below.setCell ?_ ?_ _); rotate_left; focus (first | (simp; done) | (simp; omega) | omega))))) (by first | omega | (simp; done) | (simp; omega)) hb5
      go_wp2_with fail
      have hz1b : w.heap.size + 2 < w1.heap.size := (by have := hb1.size; simp at this; omega)
      have hz6 : w.heap.size + 2 < ((w1.alloc (Obj.cells #[Value.int IntKind.i64 qx, Value.int IntKind.i64 qy] 61)).drewN nq).heap.size := (by simp; omega)
      have hv2 : w5.cell? { block := w.heap.size + 2, off := 2 } = some (.int .i64 lim) := by (rw [hc5 _ _ hz6, World.cell?_drewN, World.cell?_alloc_lt _ _ _ hz1b, hc1 _ _ (by simp)]; simp [go_sem])
      have hv3 : w5.cell? { block := w.heap.size + 2, off := 3 } = some (.int .i64 mar) := by (rw [hc5 _ _ hz6, World.cell?_drewN, World.cell?_alloc_lt _ _ _ hz1b, hc1 _ _ (by simp)]; simp [go_sem])
      clear hc5 hc1
      go_quiet ((go_at_call 112; exact Calls.quiet_of_same ((HDI.out _).mono fun _ _ h => ⟨h.1, h.2.symm⟩)))
      go_wp2_with fail
      go_ret
      exact ⟨ret_int (by rw [HT.out]), by (repeat (first | (with_reducible assumption) | (with_reducible exact Below.refl _ _) | (with_reducible refine below_drewN' ?_ _) | (with_reducible refine Below.drew ?_) | ((with_reducible refine Below.alloc ?_ ?_ _); rotate_left; focus (first | (simp; done) | (simp; omega) | omega)) | ((with_reducible refine Below.setCell ?_ ?_ _); rotate_left; focus (first | (simp; done) | (simp; omega) | omega))))⟩
    · have HT : Hid (tv = 0) := Lib.hid (by rw [HT1.out]; unfold greyV; rw [if_neg hk1, if_neg hk2])
      generalize hZ : (gv - lim).natAbs = Z at *
      clear hZ
      go_enter Try.func82, Try.ntmps82
      go_wp2_with first | (go_at_call 109; with_reducible refine (HSP.out _).mono ?_; rintro e1 w1 ⟨rfl, hb1⟩; obtain ⟨hc1, hf1⟩ := bcell hb1; have hB1 : Below w.heap.size w w1 := (below_then (by first | (go_grown; done) | (repeat (first | (with_reducible assumption) | (with_reducible exact Below.refl _ _) | (with_reducible refine below_drewN' ?_ _) | (with_reducible refine Below.drew ?_) | ((with_reducible refine Below.alloc ?_ ?_ _); rotate_left; focus (first | (simp; done) | (simp; omega) | omega)) | ((with_reducible refine Below.setCell ?_ ?_ _); rotate_left; focus (first | (simp; done) | (simp; omega) | omega))))) (by first | omega | (simp; done) | (simp; omega)) hb1); have hz1a : w.heap.size < w1.heap.size := (by have := hb1.size; first | omega | (simp at this; omega)))
      go_quiet ((go_at_call 110; exact Calls.quiet_of_same ((l24Floor_any _ 2 _ (by omega) (by omega) (by omega) (by omega)).mono fun _ _ h => ⟨h.1, h.2.symm⟩)))
      go_wp2_with (go_at_call 44; refine (l01In_any _ _ _ _).mono ?_; rintro e w' ⟨rfl, rfl⟩)
      go_at_call 111
      refine (HPX.out _ (by (repeat (first | (with_reducible assumption) | (with_reducible exact Below.refl _ _) | (with_reducible refine below_drewN' ?_ _) | (with_reducible refine Below.drew ?_) | ((with_reducible refine Below.alloc ?_ ?_ _); rotate_left; focus (first | (simp; done) | (simp; omega) | omega)) | ((with_reducible refine Below.setCell ?_ ?_ _); rotate_left; focus (first | (simp; done) | (simp; omega) | omega)))))).mono ?_
      rintro e5 w5 ⟨rfl, hb5⟩
      obtain ⟨hc5, hf5⟩ := bcell hb5
      have hB5 : Below w.heap.size w w5 := below_then (by (repeat (first | (with_reducible assumption) | (with_reducible exact Below.refl _ _) | (with_reducible refine below_drewN' ?_ _) | (with_reducible refine Below.drew ?_) | ((with_reducible refine Below.alloc ?_ ?_ _); rotate_left; focus (first | (simp; done) | (simp; omega) | omega)) | ((with_reducible refine Below.setCell ?_ ?_ _); rotate_left; focus (first | (simp; done) | (simp; omega) | omega))))) (by first | omega | (simp; done) | (simp; omega)) hb5
      go_wp2_with fail
      have hz1b : w.heap.size + 2 < w1.heap.size := (by have := hb1.size; simp at this; omega)
      have hz6 : w.heap.size + 2 < ((w1.alloc (Obj.cells #[Value.int IntKind.i64 qx, Value.int IntKind.i64 qy] 61)).drewN nq).heap.size := (by simp; omega)
      have hv2 : w5.cell? { block := w.heap.size + 2, off := 2 } = some (.int .i64 lim) := by (rw [hc5 _ _ hz6, World.cell?_drewN, World.cell?_alloc_lt _ _ _ hz1b, hc1 _ _ (by simp)]; simp [go_sem])
      have hv3 : w5.cell? { block := w.heap.size + 2, off := 3 } = some (.int .i64 mar) := by (rw [hc5 _ _ hz6, World.cell?_drewN, World.cell?_alloc_lt _ _ _ hz1b, hc1 _ _ (by simp)]; simp [go_sem])
      clear hc5 hc1
      go_quiet ((go_at_call 112; exact Calls.quiet_of_same ((HDI.out _).mono fun _ _ h => ⟨h.1, h.2.symm⟩)))
      go_wp2_with fail
      go_ret
      exact ⟨ret_int (by rw [HT.out]), by (repeat (first | (with_reducible assumption) | (with_reducible exact Below.refl _ _) | (with_reducible refine below_drewN' ?_ _) | (with_reducible refine Below.drew ?_) | ((with_reducible refine Below.alloc ?_ ?_ _); rotate_left; focus (first | (simp; done) | (simp; omega) | omega)) | ((with_reducible refine Below.setCell ?_ ?_ _); rotate_left; focus (first | (simp; done) | (simp; omega) | omega))))⟩
theorem l26Sample_any (PR PC : Nat) (A : Option Addr) (n cp : Nat) (xs : List Int) (m0 m1 m2 m3 m4 m5 m6 m7 m8 : Int) (R C lim mar : Int) (x m y k : Nat) (w : World) (B : Nat) (hr : RI w B A n xs) (hB : B ≤ w.heap.size) (hn : n = PR * PC) (hn2 : PR * PC ≤ 40000) (hPR : PR ≤ 400) (hPC : PC ≤ 400) (hxs : ∀ k, k < n → 0 ≤ nth xs k ∧ nth xs k ≤ 255)
    (hmap : isMapB [m0, m1, m2, m3, m4, m5, m6, m7, m8] = true) (hlim : 0 ≤ lim ∧ lim ≤ 256) (hmar : 0 ≤ mar ∧ mar ≤ 256) (hu : x * k ≤ 200000) (hv : y * m ≤ 200000) (hw : m * k ≤ 100000) (hs1 : x ≤ 1000000) (hs2 : m ≤ 1000000) (hs3 : y ≤ 1000000) (hs4 : k ≤ 1000000) :
    Calls Try.prog 82 #[.agg #[.int .i64 PR, .int .i64 PC, .slice A n cp], .agg #[.int .i64 m0, .int .i64 m1, .int .i64 m2, .int .i64 m3, .int .i64 m4, .int .i64 m5, .int .i64 m6, .int .i64 m7, .int .i64 m8], .agg #[.int .i64 R, .int .i64 C, .int .i64 lim, .int .i64 mar], .int .i64 x, .int .i64 m, .int .i64 y, .int .i64 k] w fun e w' => e = .returned (.int .i64 (takeV PR PC xs (imgI m0 m1 m2 ((x * k : Nat) : Int) ((y * m : Nat) : Int) ((m * k : Nat) : Int)) (imgI m3 m4 m5 ((x * k : Nat) : Int) ((y * m : Nat) : Int) ((m * k : Nat) : Int)) (imgI m6 m7 m8 ((x * k : Nat) : Int) ((y * m : Nat) : Int) ((m * k : Nat) : Int)) lim mar)) ∧ Below w.heap.size w w' := by
  by_cases hW : 0 < (imgI m6 m7 m8 ((x * k : Nat) : Int) ((y * m : Nat) : Int) ((m * k : Nat) : Int))
  · cases hsp : spotB ((imgI m0 m1 m2 ((x * k : Nat) : Int) ((y * m : Nat) : Int) ((m * k : Nat) : Int)) / (imgI m6 m7 m8 ((x * k : Nat) : Int) ((y * m : Nat) : Int) ((m * k : Nat) : Int))) ((imgI m3 m4 m5 ((x * k : Nat) : Int) ((y * m : Nat) : Int) ((m * k : Nat) : Int)) / (imgI m6 m7 m8 ((x * k : Nat) : Int) ((y * m : Nat) : Int) ((m * k : Nat) : Int)))
    · exact l26Sample_any_off PR PC A n cp xs m0 m1 m2 m3 m4 m5 m6 m7 m8 R C lim mar x m y k w B hr hB hn hn2 hPR hPC hxs hmap hlim hmar hu hv hw hs1 hs2 hs3 hs4 hW hsp
    · cases hi1 : inR ((imgI m3 m4 m5 ((x * k : Nat) : Int) ((y * m : Nat) : Int) ((m * k : Nat) : Int)) / (imgI m6 m7 m8 ((x * k : Nat) : Int) ((y * m : Nat) : Int) ((m * k : Nat) : Int)) / 2) 0 ((PR : Int) - 1)
      · exact l26Sample_any_row PR PC A n cp xs m0 m1 m2 m3 m4 m5 m6 m7 m8 R C lim mar x m y k w B hr hB hn hn2 hPR hPC hxs hmap hlim hmar hu hv hw hs1 hs2 hs3 hs4 hW hsp hi1
      · cases hi2 : inR ((imgI m0 m1 m2 ((x * k : Nat) : Int) ((y * m : Nat) : Int) ((m * k : Nat) : Int)) / (imgI m6 m7 m8 ((x * k : Nat) : Int) ((y * m : Nat) : Int) ((m * k : Nat) : Int)) / 2) 0 ((PC : Int) - 1)
        · exact l26Sample_any_col PR PC A n cp xs m0 m1 m2 m3 m4 m5 m6 m7 m8 R C lim mar x m y k w B hr hB hn hn2 hPR hPC hxs hmap hlim hmar hu hv hw hs1 hs2 hs3 hs4 hW hsp hi1 hi2
        · exact l26Sample_any_in PR PC A n cp xs m0 m1 m2 m3 m4 m5 m6 m7 m8 R C lim mar x m y k w B hr hB hn hn2 hPR hPC hxs hmap hlim hmar hu hv hw hs1 hs2 hs3 hs4 hW hsp hi1 hi2
  · exact l26Sample_any_far PR PC A n cp xs m0 m1 m2 m3 m4 m5 m6 m7 m8 R C lim mar x m y k w B hr hB hn hn2 hPR hPC hxs hmap hlim hmar hu hv hw hs1 hs2 hs3 hs4 hW

end Go.Proofs.Ytflpllmbpfdnjaa
