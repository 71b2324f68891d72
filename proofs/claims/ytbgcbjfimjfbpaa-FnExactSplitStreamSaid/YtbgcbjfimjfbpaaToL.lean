/-
  The laws' own conversion of a layout.
-/
import Derived.Test.YtbgcbjfimjfbpaaC07
import Derived.Test.YtbgcbjfimjfbpaaBlk
import Derived.Test.YtbgcbjfimjfbpaaFrame
namespace Go.Proofs.Ytbgcbjfimjfbpaa
set_option linter.unusedSimpArgs false
open Go.RowKit Go.Deep

theorem toField_any7 (p k g : Int) (w : World) :
    Calls Try.prog 50 #[.agg #[.int .i64 p, .int .i64 k, .int .i64 g]] w fun e w' => e = .returned (.agg #[.int .i64 p, .int .i64 k, .int .i64 g]) ∧ Below w.heap.size w w' := by
  go_enter Try.func50, Try.ntmps50
  go_wp2_with fail
  (try simp only [Exit.inBlock, Exit.then]); refine bodyPost_ret (by simp [results, Try.results50, go_sem, ]; try rfl) rfl ?_
  exact ⟨rfl, by (repeat (first | (with_reducible assumption) | (with_reducible exact Below.refl _ _) | (with_reducible refine below_drewN' ?_ _) | (with_reducible refine Below.drew ?_) | ((with_reducible refine Below.alloc ?_ ?_ _); rotate_left; focus (first | (simp; done) | (simp; omega) | omega)) | ((with_reducible refine Below.setCell ?_ ?_ _); rotate_left; focus (first | (simp; done) | (simp; omega) | omega))))⟩
set_option maxHeartbeats 2000000 in
theorem toLayout_any (p k g d h c : Int) (w : World) :
    Calls Try.prog 27 #[.agg #[.int .i64 p, .int .i64 k, .int .i64 g, .int .i64 d, .int .i64 h, .int .i64 c]] w fun e w' => e = .returned (.agg #[.int .i64 p, .int .i64 k, .int .i64 g, .int .i64 d, .int .i64 h, .int .i64 c]) ∧ Below w.heap.size w w' := by
  have HE := Lib.hid (fun w => toField_any7 p k g w)
  go_enter Try.func27, Try.ntmps27
  go_wp2_with fail
  (go_at_call 50; with_reducible refine (HE.out _).mono ?_; rintro e1 w1 ⟨rfl, hb1⟩; obtain ⟨hc1, hf1⟩ := bcell hb1; have hB1 : Below w.heap.size w w1 := (below_then (by first | (go_grown; done) | (repeat (first | (with_reducible assumption) | (with_reducible exact Below.refl _ _) | (with_reducible refine below_drewN' ?_ _) | (with_reducible refine Below.drew ?_) | ((with_reducible refine Below.alloc ?_ ?_ _); rotate_left; focus (first | (simp; done) | (simp; omega) | omega)) | ((with_reducible refine Below.setCell ?_ ?_ _); rotate_left; focus (first | (simp; done) | (simp; omega) | omega))))) (by first | omega | (simp; done) | (simp; omega)) hb1); have hz1a : w.heap.size < w1.heap.size := (by have := hb1.size; first | omega | (simp at this; omega)); have hz1b : w.heap.size + 1 < w1.heap.size := (by have := hb1.size; first | omega | (simp at this; omega)); have hz1c : w.heap.size + 1 + 1 < w1.heap.size := (by have := hb1.size; first | omega | (simp at this; omega)))
  have hP1 : w1.heap[w.heap.size]? = some (.cells #[.int .i64 p, .int .i64 k, .int .i64 g, .int .i64 d, .int .i64 h, .int .i64 c] 50 (0, 0)) := by
    refine blk_below ?_ hb1 (by first | (simp; done) | (simp; omega))
    (repeat (first | (with_reducible exact heap_alloc_new _ _) | (rw [heap_drew1]) | (rw [heap_drewN1]) | (rw [Below.heap_setCell _ _ _ _ (by first | omega | (simp; done) | (simp; omega))]) | (rw [Below.heap_alloc _ _ _ (by first | omega | (simp; done) | (simp; omega))]) | (exact heap_alloc_at (by first | omega | (simp; done) | (simp; omega)))))
  have hR1 : w1.heap[w.heap.size + 1]? = some (.cells #[.int .i64 0, .int .i64 0, .int .i64 0, .int .i64 0, .int .i64 0, .int .i64 0] 30 (0, 0)) := by
    refine blk_below ?_ hb1 (by first | (simp; done) | (simp; omega))
    (repeat (first | (with_reducible exact heap_alloc_new _ _) | (rw [heap_drew1]) | (rw [heap_drewN1]) | (rw [Below.heap_setCell _ _ _ _ (by first | omega | (simp; done) | (simp; omega))]) | (rw [Below.heap_alloc _ _ _ (by first | omega | (simp; done) | (simp; omega))]) | (exact heap_alloc_at (by first | omega | (simp; done) | (simp; omega)))))
  have hT1 : w1.heap[w.heap.size + 1 + 1]? = some (.cells #[.int .i64 0, .int .i64 0, .int .i64 0, .int .i64 0, .int .i64 0, .int .i64 0] 30 (0, 0)) := by
    refine blk_below ?_ hb1 (by first | (simp; done) | (simp; omega))
    (repeat (first | (with_reducible exact heap_alloc_new _ _) | (rw [heap_drew1]) | (rw [heap_drewN1]) | (rw [Below.heap_setCell _ _ _ _ (by first | omega | (simp; done) | (simp; omega))]) | (rw [Below.heap_alloc _ _ _ (by first | omega | (simp; done) | (simp; omega))]) | (exact heap_alloc_at (by first | omega | (simp; done) | (simp; omega)))))
  obtain ⟨p0, p1, p2, p3, p4, p5, -⟩ := blk6 hP1
  obtain ⟨t0, t1, t2, t3, t4, t5, tf⟩ := blk6 hT1
  have HR1 := Lib.hid hR1
  have HT1 := Lib.hid hT1
  clear hc1 hf1 hP1 hT1 hR1
  go_upto_region 6 with (fail)
  have hQ := res6 HT1.out (.int .i64 p) (.int .i64 k) (.int .i64 g) (.int .i64 d) (.int .i64 h) (.int .i64 c)
  have hR2 : ((((((w1.setCell ⟨w.heap.size + 1 + 1, 0, none⟩ (.int .i64 p)).setCell ⟨w.heap.size + 1 + 1, 1, none⟩ (.int .i64 k)).setCell ⟨w.heap.size + 1 + 1, 2, none⟩ (.int .i64 g)).setCell ⟨w.heap.size + 1 + 1, 3, none⟩ (.int .i64 d)).setCell ⟨w.heap.size + 1 + 1, 4, none⟩ (.int .i64 h)).setCell ⟨w.heap.size + 1 + 1, 5, none⟩ (.int .i64 c)).heap[w.heap.size + 1]? = some (.cells #[.int .i64 0, .int .i64 0, .int .i64 0, .int .i64 0, .int .i64 0, .int .i64 0] 30 (0, 0)) := by (repeat (first | (with_reducible exact HR1.out) | (with_reducible exact heap_alloc_new _ _) | (rw [heap_drew1]) | (rw [heap_drewN1]) | (rw [Below.heap_setCell _ _ _ _ (by first | omega | (simp; done) | (simp; omega))]) | (rw [Below.heap_alloc _ _ _ (by first | omega | (simp; done) | (simp; omega))]) | (exact heap_alloc_at (by first | omega | (simp; done) | (simp; omega)))))
  have hB5 : Below w.heap.size w ((((((w1.setCell ⟨w.heap.size + 1 + 1, 0, none⟩ (.int .i64 p)).setCell ⟨w.heap.size + 1 + 1, 1, none⟩ (.int .i64 k)).setCell ⟨w.heap.size + 1 + 1, 2, none⟩ (.int .i64 g)).setCell ⟨w.heap.size + 1 + 1, 3, none⟩ (.int .i64 d)).setCell ⟨w.heap.size + 1 + 1, 4, none⟩ (.int .i64 h)).setCell ⟨w.heap.size + 1 + 1, 5, none⟩ (.int .i64 c)) := by (repeat (first | (with_reducible assumption) | (with_reducible exact Below.refl _ _) | (with_reducible refine below_drewN' ?_ _) | (with_reducible refine Below.drew ?_) | ((with_reducible refine Below.alloc ?_ ?_ _); rotate_left; focus (first | (simp; done) | (simp; omega) | omega)) | ((with_reducible refine Below.setCell ?_ ?_ _); rotate_left; focus (first | (simp; done) | (simp; omega) | omega))))
  have hs5 : ((((((w1.setCell ⟨w.heap.size + 1 + 1, 0, none⟩ (.int .i64 p)).setCell ⟨w.heap.size + 1 + 1, 1, none⟩ (.int .i64 k)).setCell ⟨w.heap.size + 1 + 1, 2, none⟩ (.int .i64 g)).setCell ⟨w.heap.size + 1 + 1, 3, none⟩ (.int .i64 d)).setCell ⟨w.heap.size + 1 + 1, 4, none⟩ (.int .i64 h)).setCell ⟨w.heap.size + 1 + 1, 5, none⟩ (.int .i64 c)).heap.size = w1.heap.size := by simp
  generalize ((((((w1.setCell ⟨w.heap.size + 1 + 1, 0, none⟩ (.int .i64 p)).setCell ⟨w.heap.size + 1 + 1, 1, none⟩ (.int .i64 k)).setCell ⟨w.heap.size + 1 + 1, 2, none⟩ (.int .i64 g)).setCell ⟨w.heap.size + 1 + 1, 3, none⟩ (.int .i64 d)).setCell ⟨w.heap.size + 1 + 1, 4, none⟩ (.int .i64 h)).setCell ⟨w.heap.size + 1 + 1, 5, none⟩ (.int .i64 c)) = W5 at hQ hR2 hB5 hs5 ⊢
  obtain ⟨s0, s1, s2, s3, s4, s5, -⟩ := blk6 (res6 hR2 (.int .i64 p) (.int .i64 k) (.int .i64 g) (.int .i64 d) (.int .i64 h) (.int .i64 c))
  clear p0 p1 p2 p3 p4 p5 t0 t1 t2 t3 t4 t5 tf
  obtain ⟨z0, z1, z2, z3, z4, z5, zf⟩ := blk6 hR2
  obtain ⟨q0, q1, q2, q3, q4, q5, -⟩ := blk6 hQ
  clear hQ hR2 hB1
  go_wp2_with fail
  (try simp only [Exit.inBlock, Exit.then]); refine bodyPost_ret (by simp [results, Try.results27, go_sem, s0, s1, s2, s3, s4, s5]; try rfl) rfl ?_
  exact ⟨rfl, by (repeat (first | (with_reducible assumption) | (with_reducible exact Below.refl _ _) | (with_reducible refine below_drewN' ?_ _) | (with_reducible refine Below.drew ?_) | ((with_reducible refine Below.alloc ?_ ?_ _); rotate_left; focus (first | (simp; done) | (simp; omega) | omega)) | ((with_reducible refine Below.setCell ?_ ?_ _); rotate_left; focus (first | (simp; done) | (simp; omega) | omega))))⟩
end Go.Proofs.Ytbgcbjfimjfbpaa
