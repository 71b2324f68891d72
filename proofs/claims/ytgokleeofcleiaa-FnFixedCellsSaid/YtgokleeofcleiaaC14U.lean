/-
  Contracts of chapter 14: FixedGrid.
-/
import Derived.Test.YtgokleeofcleiaaC14I
import Derived.Test.YtgokleeofcleiaaC14T
namespace Go.Proofs.Ytgokleeofcleiaa
set_option linter.unusedSimpArgs false
open Go.RowKit

def fgN (n : Int) : Int := if sizeB n then n else 0
def fgC (n : Int) : Int := if sizeB n then 0 else 2
def fgL (n : Int) : List Int := if sizeB n then fixL n.toNat else []
theorem fgL_len (n : Int) : (fgL n).length ≤ 1681 := by
  unfold fgL
  split
  · rename_i h
    obtain ⟨N, rfl, h1, h2, h3⟩ := sizeB_true h
    rw [fixL_len]
    exact Nat.mul_le_mul (by omega) (by omega)
  · simp
set_option maxHeartbeats 1000000 in
theorem FixedGrid_any (n : Int) (w : World) :
    Calls Try.prog 19 #[.int .i64 n] w fun e w' => ∃ v, e = .returned (.tuple #[.agg #[.int .i64 (fgN n), .int .i64 (fgN n), v], .int .i64 (fgC n)]) ∧ Own w' w.heap.size v (fgL n) ∧ Below w.heap.size w w' := by
  unfold fgN fgC fgL
  cases hs : sizeB n
  · go_enter Try.func19, Try.ntmps19
    go_wp2_with (go_at_call 52; refine (isMatrixSize_any _ _).mono ?_; rintro e w' ⟨rfl, rfl⟩)
    go_returns
    exact ⟨.slice none 0 0, by simp, by simpa using Own.nil, by (repeat (first | (with_reducible assumption) | (with_reducible exact Below.refl _ _) | (with_reducible refine below_drewN' ?_ _) | (with_reducible refine Below.drew ?_) | ((with_reducible refine Below.alloc ?_ ?_ _); rotate_left; focus (first | (simp; done) | (simp; omega) | omega)) | ((with_reducible refine Below.setCell ?_ ?_ _); rotate_left; focus (first | (simp; done) | (simp; omega) | omega))))⟩
  · obtain ⟨N, rfl, h1, h2, h3⟩ := sizeB_true hs
    have HF := Lib.hid (fun w => fixed_any N w ⟨h1, h2, h3⟩)
    have HT : Hid ((N : Int).toNat = N) := Lib.hid (by simp)
    go_enter Try.func19, Try.ntmps19
    go_wp2_with (go_at_call 52; refine (isMatrixSize_any _ _).mono ?_; rintro e w' ⟨rfl, rfl⟩)
    (go_at_call 53; with_reducible refine (HF.out _).mono ?_; rintro e1 w1 ⟨v1, rfl, ho1, hb1⟩; obtain ⟨hc1, hf1⟩ := bcell hb1; have hB1 : Below w.heap.size w w1 := (below_then (by first | (go_grown; done) | (repeat (first | (with_reducible assumption) | (with_reducible exact Below.refl _ _) | (with_reducible refine below_drewN' ?_ _) | (with_reducible refine Below.drew ?_) | ((with_reducible refine Below.alloc ?_ ?_ _); rotate_left; focus (first | (simp; done) | (simp; omega) | omega)) | ((with_reducible refine Below.setCell ?_ ?_ _); rotate_left; focus (first | (simp; done) | (simp; omega) | omega))))) (by first | omega | (simp; done) | (simp; omega)) hb1); have hz1a : w.heap.size < w1.heap.size := (by have := hb1.size; first | omega | (simp at this; omega)))
    obtain ⟨A1, c1, rfl, hr1⟩ := ho1.shape
    have HO := Lib.hid (ho1.more (B' := w.heap.size + 1) (by simp))
    clear hr1 ho1
    have hR : w1.heap[w.heap.size]? = some (.cells #[.int .i64 0, .int .i64 0, .slice none 0 0] 28 (0, 0)) := blk_below (heap_alloc_new _ _) hb1 (by simp)
    obtain ⟨z0, z1, z2, zf⟩ := blk3 hR
    obtain ⟨s0, s1, s2⟩ := res3 hR (.int .i64 (N : Int)) (.int .i64 (N : Int)) (.slice A1 (fixL N).length c1)
    clear hR hc1 hf1 hb1
    go_wp2_with fail
    (try simp only [Exit.inBlock, Exit.then]); refine bodyPost_ret (by simp [results, Try.results19, go_sem, s0, s1, s2]; try rfl) rfl ?_
    exact ⟨_, rfl, by have := ((((HO.out.setLt (p := ⟨w.heap.size, 0, none⟩) (Nat.lt_succ_self _) (.int .i64 (N : Int))).setLt (p := ⟨w.heap.size, 1, none⟩) (Nat.lt_succ_self _) (.int .i64 (N : Int))).setLt (p := ⟨w.heap.size, 2, none⟩) (Nat.lt_succ_self _) (.slice A1 (fixL N).length c1))).more (Nat.le_succ _); simpa [HT.out] using this, ((hB1.setCell (Nat.le_refl _) _).setCell (Nat.le_refl _) _).setCell (Nat.le_refl _) _⟩

set_option maxHeartbeats 1000000 in
theorem sFixedGrid_any (n : Int) (w : World) :
    Calls Try.prog 18 #[.int .i64 n] w fun e w' => ∃ v, e = .returned (.tuple #[.agg #[.int .i64 (fgN n), .int .i64 (fgN n), v], .int .i64 (fgC n)]) ∧ Own w' w.heap.size v (fgL n) ∧ Below w.heap.size w w' := by
  unfold fgN fgC fgL
  cases hs : sizeB n
  · go_enter Try.func18, Try.ntmps18
    go_wp2_with (go_at_call 50; refine (l14Size_any _ _).mono ?_; rintro e w' ⟨rfl, rfl⟩)
    go_returns
    exact ⟨.slice none 0 0, by simp, by simpa using Own.nil, by (repeat (first | (with_reducible assumption) | (with_reducible exact Below.refl _ _) | (with_reducible refine below_drewN' ?_ _) | (with_reducible refine Below.drew ?_) | ((with_reducible refine Below.alloc ?_ ?_ _); rotate_left; focus (first | (simp; done) | (simp; omega) | omega)) | ((with_reducible refine Below.setCell ?_ ?_ _); rotate_left; focus (first | (simp; done) | (simp; omega) | omega))))⟩
  · obtain ⟨N, rfl, h1, h2, h3⟩ := sizeB_true hs
    have HF := Lib.hid (fun w => l14Grid_any N w ⟨h1, h2, h3⟩)
    have HT : Hid ((N : Int).toNat = N) := Lib.hid (by simp)
    go_enter Try.func18, Try.ntmps18
    go_wp2_with (go_at_call 50; refine (l14Size_any _ _).mono ?_; rintro e w' ⟨rfl, rfl⟩)
    (go_at_call 51; with_reducible refine (HF.out _).mono ?_; rintro e1 w1 ⟨v1, rfl, ho1, hb1⟩; obtain ⟨hc1, hf1⟩ := bcell hb1; have hB1 : Below w.heap.size w w1 := (below_then (by first | (go_grown; done) | (repeat (first | (with_reducible assumption) | (with_reducible exact Below.refl _ _) | (with_reducible refine below_drewN' ?_ _) | (with_reducible refine Below.drew ?_) | ((with_reducible refine Below.alloc ?_ ?_ _); rotate_left; focus (first | (simp; done) | (simp; omega) | omega)) | ((with_reducible refine Below.setCell ?_ ?_ _); rotate_left; focus (first | (simp; done) | (simp; omega) | omega))))) (by first | omega | (simp; done) | (simp; omega)) hb1); have hz1a : w.heap.size < w1.heap.size := (by have := hb1.size; first | omega | (simp at this; omega)))
    obtain ⟨A1, c1, rfl, hr1⟩ := ho1.shape
    have HO := Lib.hid (ho1.more (B' := w.heap.size + 1) (by simp))
    clear hr1 ho1
    have hR : w1.heap[w.heap.size]? = some (.cells #[.int .i64 0, .int .i64 0, .slice none 0 0] 28 (0, 0)) := blk_below (heap_alloc_new _ _) hb1 (by simp)
    obtain ⟨z0, z1, z2, zf⟩ := blk3 hR
    obtain ⟨s0, s1, s2⟩ := res3 hR (.int .i64 (N : Int)) (.int .i64 (N : Int)) (.slice A1 (fixL N).length c1)
    clear hR hc1 hf1 hb1
    go_wp2_with fail
    (try simp only [Exit.inBlock, Exit.then]); refine bodyPost_ret (by simp [results, Try.results18, go_sem, s0, s1, s2]; try rfl) rfl ?_
    exact ⟨_, rfl, by have := ((((HO.out.setLt (p := ⟨w.heap.size, 0, none⟩) (Nat.lt_succ_self _) (.int .i64 (N : Int))).setLt (p := ⟨w.heap.size, 1, none⟩) (Nat.lt_succ_self _) (.int .i64 (N : Int))).setLt (p := ⟨w.heap.size, 2, none⟩) (Nat.lt_succ_self _) (.slice A1 (fixL N).length c1))).more (Nat.le_succ _); simpa [HT.out] using this, ((hB1.setCell (Nat.le_refl _) _).setCell (Nat.le_refl _) _).setCell (Nat.le_refl _) _⟩

end Go.Proofs.Ytgokleeofcleiaa
