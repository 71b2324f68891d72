/-
  The row FnExactFormatShare: for every format code and every two lists the program's FormatShare returns what the reference's returns, and leaves the lists as they were; no condition.
-/
import Derived.Test.YtgokleeofcleiaaArgS
import Derived.Test.YtgokleeofcleiaaC08U
import Derived.Test.YtgokleeofcleiaaToS
namespace Go.Proofs.Ytgokleeofcleiaa
open Go.ChangeShapes Go.WideShapes Go.ChangeAt Go.RowKit

theorem FormatShare_any (d l p : Int) (A A' : Option Addr) (n c n' c' : Nat) (xs ys : List Int) (w : World) (B : Nat) (hr : RI w B A n xs) (hr' : RI w B A' n' ys) (hB : B ≤ w.heap.size) (hn : n ≤ 1000000000000000) (hn' : n' ≤ 1000000000000000) (hl : -9223372036854775808 ≤ l ∧ l ≤ 9223372036854775807) :
    Calls Try.prog 75 #[.agg #[.int .i64 d, .int .i64 l, .int .i64 p], .slice A n c, .slice A' n' c'] w fun e w' =>
      e = .returned (.tuple #[.int .i64 (shV d l p xs ys), .int .i64 (shC d l p xs ys)]) ∧ Below w.heap.size w w' := by
  cases hc : fcodeB d l p
  · have e1 : shV d l p xs ys = 0 := by unfold shV; simp [hc]
    have e2 : shC d l p xs ys = 1 := by unfold shC; simp [hc]
    rw [e1, e2]
    clear e1 e2
    set_option maxHeartbeats 1000000 in
    go_enter Try.func75, Try.ntmps75
    go_wp2_with (go_at_call 96; go_call (IsFormatCode_any _ _ _ _ hl) as e1 w1 ⟨rfl, hb1⟩; obtain ⟨hc1, hf1⟩ := bcell hb1; have hB1 : Below w.heap.size w w1 := (below_then (by first | (go_grown; done) | (repeat (first | (with_reducible assumption) | (with_reducible exact Below.refl _ _) | (with_reducible refine below_drewN' ?_ _) | (with_reducible refine Below.drew ?_) | ((with_reducible refine Below.alloc ?_ ?_ _); rotate_left; focus (first | (simp; done) | (simp; omega) | omega)) | ((with_reducible refine Below.setCell ?_ ?_ _); rotate_left; focus (first | (simp; done) | (simp; omega) | omega))))) (by first | omega | (simp; done) | (simp; omega)) hb1); have hz1a : w.heap.size < w1.heap.size := (by have := hb1.size; first | omega | (simp at this; omega)))
    go_returns
    exact ⟨rfl, hB1⟩
  · have hns := fun (w' : World) (hb : Below B w w') => nearest_ok (c := c) hc hn w' (hr.below hb) (by have := hb.size; omega)
    have hns' := fun (w' : World) (hb : Below B w w') => nearest_ok (c := c') hc hn' w' (hr'.below hb) (by have := hb.size; omega)
    unfold shV shC
    rcases nr_cases xs hc with ⟨hx, e1, e2, e3, e4⟩ | ⟨hx, e1, e2, e3, b1, b2, ⟨ho, e4⟩ | ⟨ho, e4⟩⟩ <;> rw [e1, e2, e3, e4] at hns <;>
      rcases nr_cases ys hc with ⟨hx', f1, f2, f3, f4⟩ | ⟨hx', f1, f2, f3, b1', b2', ⟨ho', f4⟩ | ⟨ho', f4⟩⟩ <;> rw [f1, f2, f3, f4] at hns'
    · have h := fs_2_2 d l p A A' n c n' c' 0 0 0 0 0 0 w B hB hl hc hns hns'
      simpa [hc, hx, hx'] using h
    · have h := fs_2_7 d l p A A' n c n' c' 0 0 0 _ _ _ w B hB hl hc hns hns'
      simpa [hc, hx, hx'] using h
    · have h := fs_2_0 d l p A A' n c n' c' 0 0 0 _ _ _ w B hB hl hc hns hns'
      simpa [hc, hx, hx'] using h
    · have h := fs_7_2 d l p A A' n c n' c' _ _ _ 0 0 0 w B hB hl hc hns hns'
      simpa [hc, hx, hx'] using h
    · have h := fs_7_7 d l p A A' n c n' c' _ _ _ _ _ _ w B hB hl hc hns hns'
      simpa [hc, hx, hx', ho, ho', pick2] using h
    · have h := fs_7_0 d l p A A' n c n' c' _ _ _ _ _ _ w B hB hl hc hns hns'
      simpa [hc, hx, hx', ho, ho', pick2] using h
    · have h := fs_0_2 d l p A A' n c n' c' _ _ _ 0 0 0 w B hB hl hc hns hns'
      simpa [hc, hx, hx'] using h
    · have h := fs_0_7 d l p A A' n c n' c' _ _ _ _ _ _ w B hB hl hc hns hns'
      simpa [hc, hx, hx', ho, ho', pick2] using h
    · have h := fs_0_0 d l p A A' n c n' c' _ _ _ _ _ _ w B hB hl hc b1 b2 b1' b2' hns hns'
      simpa [hc, hx, hx', ho, ho'] using h
end Go.Proofs.Ytgokleeofcleiaa
