/-
  Contracts of chapter 15: the data cells of a size, or none.
-/
import Derived.Test.YtgokleeofcleiaaC15P
import Derived.Test.YtgokleeofcleiaaC14
import Derived.Test.YtgokleeofcleiaaLst
namespace Go.Proofs.Ytgokleeofcleiaa
set_option linter.unusedSimpArgs false
open Go.RowKit

def dpC (n : Int) : Int := if sizeB n then 0 else 2
def dpR (n : Int) : List (Int × Int) := if sizeB n then dataL n.toNat else []
theorem dataL_le {N : Nat} (h : N ≤ 41) : (dataL N).length ≤ 1640 := by
  have h1 := dpL_le (fun r c => !noD N r c) N ((N - 1) / 2)
  have h2 : (N - 1) / 2 * (2 * N) ≤ 20 * 82 := Nat.mul_le_mul (by omega) (by omega)
  unfold dataL; omega
theorem dpR_le (n : Int) : (dpR n).length ≤ 1640 := by
  unfold dpR
  cases hs : sizeB n
  · simp
  · obtain ⟨N, rfl, h1, h2, h3⟩ := sizeB_true hs
    simpa using dataL_le h2
set_option maxHeartbeats 1000000 in
theorem sDataPlaces_any (n : Int) (w : World) :
    Calls Try.prog 36 #[.int .i64 n] w fun e w' => ∃ v, e = .returned (.tuple #[v, .int .i64 (dpC n)]) ∧ OwnP w' w.heap.size v (dpR n) ∧ Below w.heap.size w w' := by
  unfold dpC dpR
  cases hs : sizeB n
  · go_enter Try.func36, Try.ntmps36
    go_wp2_with (go_at_call 50; refine (l14Size_any _ _).mono ?_; rintro e w' ⟨rfl, rfl⟩)
    go_returns
    exact ⟨.slice none 0 0, by simp, by simpa using OwnP.nil, by (repeat (first | (with_reducible assumption) | (with_reducible exact Below.refl _ _) | (with_reducible refine below_drewN' ?_ _) | (with_reducible refine Below.drew ?_) | ((with_reducible refine Below.alloc ?_ ?_ _); rotate_left; focus (first | (simp; done) | (simp; omega) | omega)) | ((with_reducible refine Below.setCell ?_ ?_ _); rotate_left; focus (first | (simp; done) | (simp; omega) | omega))))⟩
  · obtain ⟨N, rfl, h1, h2, h3⟩ := sizeB_true hs
    have HF := Lib.hid (fun w => l15Places_any N w ⟨h1, h2, h3⟩)
    have HT : Hid ((N : Int).toNat = N) := Lib.hid (by simp)
    go_enter Try.func36, Try.ntmps36
    go_wp2_with (go_at_call 50; refine (l14Size_any _ _).mono ?_; rintro e w' ⟨rfl, rfl⟩)
    (go_at_call 78; with_reducible refine (HF.out _).mono ?_; rintro e1 w1 ⟨v1, rfl, ho1, hb1⟩; obtain ⟨hc1, hf1⟩ := bcell hb1; have hB1 : Below w.heap.size w w1 := (below_then (by first | (go_grown; done) | (repeat (first | (with_reducible assumption) | (with_reducible exact Below.refl _ _) | (with_reducible refine below_drewN' ?_ _) | (with_reducible refine Below.drew ?_) | ((with_reducible refine Below.alloc ?_ ?_ _); rotate_left; focus (first | (simp; done) | (simp; omega) | omega)) | ((with_reducible refine Below.setCell ?_ ?_ _); rotate_left; focus (first | (simp; done) | (simp; omega) | omega))))) (by first | omega | (simp; done) | (simp; omega)) hb1))
    have HO := Lib.hid ho1
    clear ho1
    go_wp2_with fail
    go_returns
    exact ⟨_, rfl, by simpa [HT.out] using HO.out, hB1⟩
set_option maxHeartbeats 1000000 in
theorem DataPlaces_any (n : Int) (w : World) :
    Calls Try.prog 32 #[.int .i64 n] w fun e w' => ∃ v, e = .returned (.tuple #[v, .int .i64 (dpC n)]) ∧ OwnP w' w.heap.size v (dpR n) ∧ Below w.heap.size w w' := by
  unfold dpC dpR
  cases hs : sizeB n
  · go_enter Try.func32, Try.ntmps32
    go_wp2_with (go_at_call 52; refine (isMatrixSize_any _ _).mono ?_; rintro e w' ⟨rfl, rfl⟩)
    go_returns
    exact ⟨.slice none 0 0, by simp, by simpa using OwnP.nil, by (repeat (first | (with_reducible assumption) | (with_reducible exact Below.refl _ _) | (with_reducible refine below_drewN' ?_ _) | (with_reducible refine Below.drew ?_) | ((with_reducible refine Below.alloc ?_ ?_ _); rotate_left; focus (first | (simp; done) | (simp; omega) | omega)) | ((with_reducible refine Below.setCell ?_ ?_ _); rotate_left; focus (first | (simp; done) | (simp; omega) | omega))))⟩
  · obtain ⟨N, rfl, h1, h2, h3⟩ := sizeB_true hs
    have HF := Lib.hid (fun w => dataPlaces_any N w ⟨h1, h2, h3⟩)
    have HT : Hid ((N : Int).toNat = N) := Lib.hid (by simp)
    go_enter Try.func32, Try.ntmps32
    go_wp2_with (go_at_call 52; refine (isMatrixSize_any _ _).mono ?_; rintro e w' ⟨rfl, rfl⟩)
    (go_at_call 57; with_reducible refine (HF.out _).mono ?_; rintro e1 w1 ⟨v1, rfl, ho1, hb1⟩; obtain ⟨hc1, hf1⟩ := bcell hb1; have hB1 : Below w.heap.size w w1 := (below_then (by first | (go_grown; done) | (repeat (first | (with_reducible assumption) | (with_reducible exact Below.refl _ _) | (with_reducible refine below_drewN' ?_ _) | (with_reducible refine Below.drew ?_) | ((with_reducible refine Below.alloc ?_ ?_ _); rotate_left; focus (first | (simp; done) | (simp; omega) | omega)) | ((with_reducible refine Below.setCell ?_ ?_ _); rotate_left; focus (first | (simp; done) | (simp; omega) | omega))))) (by first | omega | (simp; done) | (simp; omega)) hb1))
    have HO := Lib.hid ho1
    clear ho1
    go_wp2_with fail
    go_returns
    exact ⟨_, rfl, by simpa [HT.out] using HO.out, hB1⟩
end Go.Proofs.Ytgokleeofcleiaa
