/-
  Contracts of chapter 14: a grid with a format word, the program and the reference.
-/
import Derived.Test.YteghpageamehkaaC14K
import Derived.Test.YteghpageamehkaaC14S
import Derived.Test.YteghpageamehkaaC14E
import Derived.Test.YteghpageamehkaaLst
import Derived.Deep.RegionHeld3
namespace Go.Proofs.Yteghpageamehkaa
set_option linter.unusedSimpArgs false
open Go.RowKit

set_option maxHeartbeats 2000000 in
theorem gridCopy_any (r c : Int) (b o n cp : Nat) (xs : List Int) (w : World) (B : Nat) (hr : RI w B (some ⟨b, o, none⟩) n xs) (hB : B ≤ w.heap.size) (hn0 : 0 < n) (hn : n ≤ 1000000) :
    Calls Try.prog 90 #[.agg #[.int .i64 r, .int .i64 c, .slice (some ⟨b, o, none⟩) n cp]] w fun e w' => ∃ v', e = .returned (.agg #[.int .i64 r, .int .i64 c, v']) ∧ Own w' w.heap.size v' xs ∧ Below w.heap.size w w' := by
  have HR := Lib.hid (hr.more hB)
  clear hr
  have hX0 : ((w.alloc (.cells #[.int .i64 r, .int .i64 c, .slice (some ⟨b, o, none⟩) n cp] 37)).alloc (.cells #[.int .i64 0, .int .i64 0, .slice none 0 0] 37)).heap[w.heap.size]? = some (.cells #[.int .i64 r, .int .i64 c, .slice (some ⟨b, o, none⟩) n cp] 37 (0, 0)) := by (repeat (first | (with_reducible exact heap_alloc_new _ _) | (rw [heap_drew1]) | (rw [heap_drewN1]) | (rw [Below.heap_setCell _ _ _ _ (by first | omega | (simp; done) | (simp; omega))]) | (rw [Below.heap_alloc _ _ _ (by first | omega | (simp; done) | (simp; omega))]) | (exact heap_alloc_at (by first | omega | (simp; done) | (simp; omega)))))
  have hZ0 : ((w.alloc (.cells #[.int .i64 r, .int .i64 c, .slice (some ⟨b, o, none⟩) n cp] 37)).alloc (.cells #[.int .i64 0, .int .i64 0, .slice none 0 0] 37)).heap[w.heap.size + 1]? = some (.cells #[.int .i64 0, .int .i64 0, .slice none 0 0] 37 (0, 0)) := by (repeat (first | (with_reducible exact heap_alloc_new _ _) | (rw [heap_drew1]) | (rw [heap_drewN1]) | (rw [Below.heap_setCell _ _ _ _ (by first | omega | (simp; done) | (simp; omega))]) | (rw [Below.heap_alloc _ _ _ (by first | omega | (simp; done) | (simp; omega))]) | (exact heap_alloc_at (by first | omega | (simp; done) | (simp; omega)))))
  have HX0 := Lib.hid hX0
  have HZ0 := Lib.hid hZ0
  clear hX0 hZ0
  have n01 : w.heap.size ≠ w.heap.size + 1 := by omega
  go_enter Try.func90, Try.ntmps90
  go_wp2_with fail
  obtain ⟨y0, y1, y2, -⟩ := blk3 HX0.out
  go_region_held3 (fun w' => w'.cell? ⟨w.heap.size, 0, none⟩ = some (.int .i64 r) ∧ w'.cell? ⟨w.heap.size, 1, none⟩ = some (.int .i64 c) ∧ w'.cell? ⟨w.heap.size, 2, none⟩ = some (.slice (some ⟨b, o, none⟩) n cp))
    (first | (exact ⟨y0, y1, y2⟩) | (exact ⟨q0, q1, q2⟩) | (obtain ⟨q0, q1, q2, -⟩ := blk3 (blk_other (c := w.heap.size + 1) (k := 2) (u := .slice A1 xs.length c1) (blk_other (c := w.heap.size + 1) (k := 1) (u := .int .i64 c) (blk_other (c := w.heap.size + 1) (k := 0) (u := .int .i64 r) HX1.out n01) n01) n01); exact ⟨q0, q1, q2⟩) | go_keep)
    (((go_at_call 117; go_call (copyOf_any b o n cp xs _ _ (HR.out.below (by (repeat (first | (with_reducible assumption) | (with_reducible exact Below.refl _ _) | (with_reducible refine below_drewN' ?_ _) | (with_reducible refine Below.drew ?_) | ((with_reducible refine Below.alloc ?_ ?_ _); rotate_left; focus (first | (simp; done) | (simp; omega) | omega)) | ((with_reducible refine Below.setCell ?_ ?_ _); rotate_left; focus (first | (simp; done) | (simp; omega) | omega)))))) hn0 hn) as e1 w1 ⟨v1, rfl, ho1, hb1⟩; obtain ⟨hc1, hf1⟩ := bcell hb1; have hB1 : Below w.heap.size w w1 := (below_then (by first | (go_grown; done) | (repeat (first | (with_reducible assumption) | (with_reducible exact Below.refl _ _) | (with_reducible refine below_drewN' ?_ _) | (with_reducible refine Below.drew ?_) | ((with_reducible refine Below.alloc ?_ ?_ _); rotate_left; focus (first | (simp; done) | (simp; omega) | omega)) | ((with_reducible refine Below.setCell ?_ ?_ _); rotate_left; focus (first | (simp; done) | (simp; omega) | omega))))) (by first | omega | (simp; done) | (simp; omega)) hb1); have hz1a : w.heap.size < w1.heap.size := (by have := hb1.size; first | omega | (simp at this; omega)); have hz1b : w.heap.size + 1 < w1.heap.size := (by have := hb1.size; first | omega | (simp at this; omega)))
      obtain ⟨A1, c1, rfl, -⟩ := ho1.shape
      have HX1 := Lib.hid (blk_below (o := some (.cells #[.int .i64 r, .int .i64 c, .slice (some ⟨b, o, none⟩) n cp] 37 (0, 0))) (by (repeat (first | (with_reducible exact HX0.out) | (with_reducible exact heap_alloc_new _ _) | (rw [heap_drew1]) | (rw [heap_drewN1]) | (rw [Below.heap_setCell _ _ _ _ (by first | omega | (simp; done) | (simp; omega))]) | (rw [Below.heap_alloc _ _ _ (by first | omega | (simp; done) | (simp; omega))]) | (exact heap_alloc_at (by first | omega | (simp; done) | (simp; omega)))))) hb1 (by simp; omega))
      have HZ1 := Lib.hid (blk_below (o := some (.cells #[.int .i64 0, .int .i64 0, .slice none 0 0] 37 (0, 0))) (by (repeat (first | (with_reducible exact HZ0.out) | (with_reducible exact heap_alloc_new _ _) | (rw [heap_drew1]) | (rw [heap_drewN1]) | (rw [Below.heap_setCell _ _ _ _ (by first | omega | (simp; done) | (simp; omega))]) | (rw [Below.heap_alloc _ _ _ (by first | omega | (simp; done) | (simp; omega))]) | (exact heap_alloc_at (by first | omega | (simp; done) | (simp; omega)))))) hb1 (by simp))
      obtain ⟨q0, q1, q2, -⟩ := blk3 HX1.out
      obtain ⟨z0, z1, z2, zf⟩ := blk3 HZ1.out))
  go_wp2_with fail
  obtain ⟨s0, s1, s2⟩ := res3 HZ1.out (.int .i64 r) (.int .i64 c) (.slice A1 xs.length c1)
  have HO := Lib.hid (ho1.more (B' := w.heap.size + 1 + 1) (by simp))
  (try simp only [Exit.inBlock, Exit.then]); refine bodyPost_ret (by simp [results, Try.results90, go_sem, s0, s1, s2]; try rfl) rfl ?_
  exact ⟨_, rfl, ((((HO.out.setLt (p := ⟨w.heap.size + 1, 0, none⟩) (Nat.lt_succ_self _) _).setLt (p := ⟨w.heap.size + 1, 1, none⟩) (Nat.lt_succ_self _) _).setLt (p := ⟨w.heap.size + 1, 2, none⟩) (Nat.lt_succ_self _) _)).more (by omega),
    ((hB1.setCell (Nat.le_succ _) _).setCell (Nat.le_succ _) _).setCell (Nat.le_succ _) _⟩
end Go.Proofs.Yteghpageamehkaa
