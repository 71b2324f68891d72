/-
  Contracts of chapter 25: the quad of a map, the reference. Printed by gen/qos.py.
-/
import Derived.Test.YtnhhbpdjapccpaaQom
import Derived.Test.YtnhhbpdjapccpaaSpo
import Derived.Deep.RegionHeld3
namespace Go.Proofs.Ytnhhbpdjapccpaa
set_option linter.unusedSimpArgs false
open Go.RowKit

/-- What is kept while the reference walks: the blocks of the map, of the result, of the four points and of their table. -/
structure QSP (w0 : World) (tM tQ tI tT gp : Nat) (a b c d e f g h i : Int) (w : World) : Prop where
  sz : w0.heap.size + 1 < gp ∧ gp + 1 + 1 + 1 + 1 < w.heap.size
  bw : Below w0.heap.size w0 w
  kb : w.heap[w0.heap.size]? = some (.cells #[.int .i64 a, .int .i64 b, .int .i64 c, .int .i64 d, .int .i64 e, .int .i64 f, .int .i64 g, .int .i64 h, .int .i64 i] tM (0, 0))
  kz : w.heap[w0.heap.size + 1]? = some (.cells #[.int .i64 0, .int .i64 0, .int .i64 0, .int .i64 0, .int .i64 0, .int .i64 0, .int .i64 0, .int .i64 0] tQ (0, 0))
  kp0 : w.heap[gp]? = some (.cells #[.int .i64 0, .int .i64 0] tI (0, 0))
  kp1 : w.heap[gp + 1]? = some (.cells #[.int .i64 1, .int .i64 0] tI (0, 0))
  kp2 : w.heap[gp + 1 + 1]? = some (.cells #[.int .i64 1, .int .i64 1] tI (0, 0))
  kp3 : w.heap[gp + 1 + 1 + 1]? = some (.cells #[.int .i64 0, .int .i64 1] tI (0, 0))
  kt : w.heap[gp + 1 + 1 + 1 + 1]? = some (.cells #[.slice (some ⟨gp, 0, none⟩) 2 2, .slice (some ⟨gp + 1, 0, none⟩) 2 2, .slice (some ⟨gp + 1 + 1, 0, none⟩) 2 2, .slice (some ⟨gp + 1 + 1 + 1, 0, none⟩) 2 2] tT (0, 0))
theorem blk4 {w : World} {b t : Nat} {x0 x1 x2 x3 : Value} (h : w.heap[b]? = some (.cells #[x0, x1, x2, x3] t (0, 0))) :
    w.cell? ⟨b, 0, none⟩ = some x0 ∧ w.cell? ⟨b, 1, none⟩ = some x1 ∧ w.cell? ⟨b, 2, none⟩ = some x2 ∧ w.cell? ⟨b, 3, none⟩ = some x3 ∧ ∀ k, w.frozen? ⟨b, k, none⟩ = false := by
  refine ⟨?_, ?_, ?_, ?_, fun k => ?_⟩ <;> simp [World.cell?, World.frozen?, h]
theorem res4 {w : World} {b t : Nat} {x0 x1 x2 x3 : Value} (h : w.heap[b]? = some (.cells #[x0, x1, x2, x3] t (0, 0))) (y0 y1 y2 y3 : Value) :
    (w |>.setCell ⟨b, 0, none⟩ y0 |>.setCell ⟨b, 1, none⟩ y1 |>.setCell ⟨b, 2, none⟩ y2 |>.setCell ⟨b, 3, none⟩ y3).heap[b]? = some (.cells #[y0, y1, y2, y3] t (0, 0)) := by
  have h0 := blk3_set (k := 0) (u := y0) h
  have h1 := blk3_set (k := 1) (u := y1) h0
  have h2 := blk3_set (k := 2) (u := y2) h1
  have h3 := blk3_set (k := 3) (u := y3) h2
  simpa using h3
theorem OwnQ.shapeQ {w : World} {B n : Nat} {v : Value} {ps : List (Int × Int)} (h : OwnQ w B v ps) (hn : ps.length = n) : ∃ A c, v = .slice A n c := by
  subst hn
  rcases h.2 with ⟨h1, h2⟩ | ⟨g, cap, cur, h1, _⟩
  · exact ⟨none, 0, by rw [h1, h2]⟩
  · exact ⟨_, _, h1⟩
theorem cells2 {w : World} {b t : Nat} {x0 x1 : Value} (h : w.heap[b]? = some (.cells #[x0, x1] t (0, 0))) : w.cell? ⟨b, 0, none⟩ = some x0 ∧ w.cell? ⟨b, 1, none⟩ = some x1 := by
  refine ⟨?_, ?_⟩ <;> simp [World.cell?, h]
theorem cells4 {w : World} {b t : Nat} {x0 x1 x2 x3 : Value} (h : w.heap[b]? = some (.cells #[x0, x1, x2, x3] t (0, 0))) : w.cell? ⟨b, 0, none⟩ = some x0 ∧ w.cell? ⟨b, 1, none⟩ = some x1 ∧ w.cell? ⟨b, 2, none⟩ = some x2 ∧ w.cell? ⟨b, 3, none⟩ = some x3 := by
  refine ⟨?_, ?_, ?_, ?_⟩ <;> simp [World.cell?, h]
theorem cells9 {w : World} {b t : Nat} {x0 x1 x2 x3 x4 x5 x6 x7 x8 : Value} (h : w.heap[b]? = some (.cells #[x0, x1, x2, x3, x4, x5, x6, x7, x8] t (0, 0))) : w.cell? ⟨b, 0, none⟩ = some x0 ∧ w.cell? ⟨b, 1, none⟩ = some x1 ∧ w.cell? ⟨b, 2, none⟩ = some x2 ∧ w.cell? ⟨b, 3, none⟩ = some x3 ∧ w.cell? ⟨b, 4, none⟩ = some x4 ∧ w.cell? ⟨b, 5, none⟩ = some x5 ∧ w.cell? ⟨b, 6, none⟩ = some x6 ∧ w.cell? ⟨b, 7, none⟩ = some x7 ∧ w.cell? ⟨b, 8, none⟩ = some x8 := by
  refine ⟨?_, ?_, ?_, ?_, ?_, ?_, ?_, ?_, ?_⟩ <;> simp [World.cell?, h]
section
variable {w0 w w' : World} {tM tQ tI tT gp : Nat} {a b c d e f g h i : Int}
theorem QSP.below (H : QSP w0 tM tQ tI tT gp a b c d e f g h i w) (hb : Below w.heap.size w w') : QSP w0 tM tQ tI tT gp a b c d e f g h i w' := by
  obtain ⟨⟨h1, h2⟩, hB, k0, k1, k2, k3, k4, k5, k6⟩ := H
  have hs := hb.size
  exact ⟨⟨h1, by omega⟩, hB.trans (hb.mono (by omega)), (hb.block _ (by omega)).trans k0, (hb.block _ (by omega)).trans k1, (hb.block _ (by omega)).trans k2, (hb.block _ (by omega)).trans k3, (hb.block _ (by omega)).trans k4, (hb.block _ (by omega)).trans k5, (hb.block _ (by omega)).trans k6⟩
theorem QSP.alloc (H : QSP w0 tM tQ tI tT gp a b c d e f g h i w) (o : Obj) : QSP w0 tM tQ tI tT gp a b c d e f g h i (w.alloc o) := H.below ((Below.refl _ _).alloc (Nat.le_refl _) o)
theorem QSP.grown {r : Option Nat} (H : QSP w0 tM tQ tI tT gp a b c d e f g h i w) (hg : w.grownBy w' r) (hr : ∀ k, r = some k → gp + 1 + 1 + 1 + 1 < k) : QSP w0 tM tQ tI tT gp a b c d e f g h i w' := by
  obtain ⟨⟨h1, h2⟩, hB, k0, k1, k2, k3, k4, k5, k6⟩ := H
  have hs := hg.size
  have hne : ∀ j, j ≤ gp + 1 + 1 + 1 + 1 → some j ≠ r := fun j hj e => by have := hr j e.symm; omega
  exact ⟨⟨h1, by omega⟩, hB.grown hg (by omega) (fun k e => by have := hr k e; omega), (hg.block _ (by omega) (hne _ (by omega))).trans k0, (hg.block _ (by omega) (hne _ (by omega))).trans k1, (hg.block _ (by omega) (hne _ (by omega))).trans k2, (hg.block _ (by omega) (hne _ (by omega))).trans k3, (hg.block _ (by omega) (hne _ (by omega))).trans k4, (hg.block _ (by omega) (hne _ (by omega))).trans k5, (hg.block _ (by omega) (hne _ (by omega))).trans k6⟩
theorem QSP.set2 (H : QSP w0 tM tQ tI tT gp a b c d e f g h i w) {q : Nat} (hq : gp + 1 + 1 + 1 + 1 < q) (u v : Value) : QSP w0 tM tQ tI tT gp a b c d e f g h i ((w.setCell ⟨q, 0, none⟩ u).setCell ⟨q, 1, none⟩ v) := by
  obtain ⟨⟨h1, h2⟩, hB, k0, k1, k2, k3, k4, k5, k6⟩ := H
  exact ⟨⟨h1, by simpa using h2⟩, (hB.setCell (by simp; omega) _).setCell (by simp; omega) _, blk_other (blk_other k0 (by omega)) (by omega), blk_other (blk_other k1 (by omega)) (by omega), blk_other (blk_other k2 (by omega)) (by omega), blk_other (blk_other k3 (by omega)) (by omega), blk_other (blk_other k4 (by omega)) (by omega), blk_other (blk_other k5 (by omega)) (by omega), blk_other (blk_other k6 (by omega)) (by omega)⟩
theorem QSP.setm (H : QSP w0 tM tQ tI tT gp a b c d e f g h i w) {q : Nat} (hq : gp + 1 + 1 + 1 + 1 < q) (m n : Nat) (u v : Value) : QSP w0 tM tQ tI tT gp a b c d e f g h i ((w.setCell ⟨q, m, none⟩ u).setCell ⟨q, n, none⟩ v) := by
  obtain ⟨⟨h1, h2⟩, hB, k0, k1, k2, k3, k4, k5, k6⟩ := H
  exact ⟨⟨h1, by simpa using h2⟩, (hB.setCell (by simp; omega) _).setCell (by simp; omega) _, blk_other (blk_other k0 (by omega)) (by omega), blk_other (blk_other k1 (by omega)) (by omega), blk_other (blk_other k2 (by omega)) (by omega), blk_other (blk_other k3 (by omega)) (by omega), blk_other (blk_other k4 (by omega)) (by omega), blk_other (blk_other k5 (by omega)) (by omega), blk_other (blk_other k6 (by omega)) (by omega)⟩
end
theorem below_blurQ {B : Nat} {w W : World} (h : Below B w W) (hB : B ≤ W.heap.size) (z : Blur W) : Below B w (blur z) := h.trans (z.below.mono hB)

set_option maxRecDepth 100000 in
set_option maxHeartbeats 40000000 in
theorem sQuadOfMap_any (a b c d e f g h i : Int) (w : World) :
    Calls Try.prog 29 #[.agg #[.int .i64 a, .int .i64 b, .int .i64 c, .int .i64 d, .int .i64 e, .int .i64 f, .int .i64 g, .int .i64 h, .int .i64 i]] w fun e' w' => e' = .returned (.tuple #[.agg #[.int .i64 (qmV (qmC (isMapB [a, b, c, d, e, f, g, h, i]) ((decide (0 < imgI g h i 0 0 1) && (decide (0 < imgI g h i 1 0 1) && (decide (0 < imgI g h i 1 1 1) && decide (0 < imgI g h i 0 1 1))))) ((spotB (imgI a b c 0 0 1 / imgI g h i 0 0 1) (imgI d e f 0 0 1 / imgI g h i 0 0 1) && (spotB (imgI a b c 1 0 1 / imgI g h i 1 0 1) (imgI d e f 1 0 1 / imgI g h i 1 0 1) && (spotB (imgI a b c 1 1 1 / imgI g h i 1 1 1) (imgI d e f 1 1 1 / imgI g h i 1 1 1) && spotB (imgI a b c 0 1 1 / imgI g h i 0 1 1) (imgI d e f 0 1 1 / imgI g h i 0 1 1))))) (quadB (imgI a b c 0 0 1 / imgI g h i 0 0 1) (imgI d e f 0 0 1 / imgI g h i 0 0 1) (imgI a b c 1 0 1 / imgI g h i 1 0 1) (imgI d e f 1 0 1 / imgI g h i 1 0 1) (imgI a b c 1 1 1 / imgI g h i 1 1 1) (imgI d e f 1 1 1 / imgI g h i 1 1 1) (imgI a b c 0 1 1 / imgI g h i 0 1 1) (imgI d e f 0 1 1 / imgI g h i 0 1 1))) (imgI a b c 0 0 1 / imgI g h i 0 0 1)), .int .i64 (qmV (qmC (isMapB [a, b, c, d, e, f, g, h, i]) ((decide (0 < imgI g h i 0 0 1) && (decide (0 < imgI g h i 1 0 1) && (decide (0 < imgI g h i 1 1 1) && decide (0 < imgI g h i 0 1 1))))) ((spotB (imgI a b c 0 0 1 / imgI g h i 0 0 1) (imgI d e f 0 0 1 / imgI g h i 0 0 1) && (spotB (imgI a b c 1 0 1 / imgI g h i 1 0 1) (imgI d e f 1 0 1 / imgI g h i 1 0 1) && (spotB (imgI a b c 1 1 1 / imgI g h i 1 1 1) (imgI d e f 1 1 1 / imgI g h i 1 1 1) && spotB (imgI a b c 0 1 1 / imgI g h i 0 1 1) (imgI d e f 0 1 1 / imgI g h i 0 1 1))))) (quadB (imgI a b c 0 0 1 / imgI g h i 0 0 1) (imgI d e f 0 0 1 / imgI g h i 0 0 1) (imgI a b c 1 0 1 / imgI g h i 1 0 1) (imgI d e f 1 0 1 / imgI g h i 1 0 1) (imgI a b c 1 1 1 / imgI g h i 1 1 1) (imgI d e f 1 1 1 / imgI g h i 1 1 1) (imgI a b c 0 1 1 / imgI g h i 0 1 1) (imgI d e f 0 1 1 / imgI g h i 0 1 1))) (imgI d e f 0 0 1 / imgI g h i 0 0 1)), .int .i64 (qmV (qmC (isMapB [a, b, c, d, e, f, g, h, i]) ((decide (0 < imgI g h i 0 0 1) && (decide (0 < imgI g h i 1 0 1) && (decide (0 < imgI g h i 1 1 1) && decide (0 < imgI g h i 0 1 1))))) ((spotB (imgI a b c 0 0 1 / imgI g h i 0 0 1) (imgI d e f 0 0 1 / imgI g h i 0 0 1) && (spotB (imgI a b c 1 0 1 / imgI g h i 1 0 1) (imgI d e f 1 0 1 / imgI g h i 1 0 1) && (spotB (imgI a b c 1 1 1 / imgI g h i 1 1 1) (imgI d e f 1 1 1 / imgI g h i 1 1 1) && spotB (imgI a b c 0 1 1 / imgI g h i 0 1 1) (imgI d e f 0 1 1 / imgI g h i 0 1 1))))) (quadB (imgI a b c 0 0 1 / imgI g h i 0 0 1) (imgI d e f 0 0 1 / imgI g h i 0 0 1) (imgI a b c 1 0 1 / imgI g h i 1 0 1) (imgI d e f 1 0 1 / imgI g h i 1 0 1) (imgI a b c 1 1 1 / imgI g h i 1 1 1) (imgI d e f 1 1 1 / imgI g h i 1 1 1) (imgI a b c 0 1 1 / imgI g h i 0 1 1) (imgI d e f 0 1 1 / imgI g h i 0 1 1))) (imgI a b c 1 0 1 / imgI g h i 1 0 1)), .int .i64 (qmV (qmC (isMapB [a, b, c, d, e, f, g, h, i]) ((decide (0 < imgI g h i 0 0 1) && (decide (0 < imgI g h i 1 0 1) && (decide (0 < imgI g h i 1 1 1) && decide (0 < imgI g h i 0 1 1))))) ((spotB (imgI a b c 0 0 1 / imgI g h i 0 0 1) (imgI d e f 0 0 1 / imgI g h i 0 0 1) && (spotB (imgI a b c 1 0 1 / imgI g h i 1 0 1) (imgI d e f 1 0 1 / imgI g h i 1 0 1) && (spotB (imgI a b c 1 1 1 / imgI g h i 1 1 1) (imgI d e f 1 1 1 / imgI g h i 1 1 1) && spotB (imgI a b c 0 1 1 / imgI g h i 0 1 1) (imgI d e f 0 1 1 / imgI g h i 0 1 1))))) (quadB (imgI a b c 0 0 1 / imgI g h i 0 0 1) (imgI d e f 0 0 1 / imgI g h i 0 0 1) (imgI a b c 1 0 1 / imgI g h i 1 0 1) (imgI d e f 1 0 1 / imgI g h i 1 0 1) (imgI a b c 1 1 1 / imgI g h i 1 1 1) (imgI d e f 1 1 1 / imgI g h i 1 1 1) (imgI a b c 0 1 1 / imgI g h i 0 1 1) (imgI d e f 0 1 1 / imgI g h i 0 1 1))) (imgI d e f 1 0 1 / imgI g h i 1 0 1)), .int .i64 (qmV (qmC (isMapB [a, b, c, d, e, f, g, h, i]) ((decide (0 < imgI g h i 0 0 1) && (decide (0 < imgI g h i 1 0 1) && (decide (0 < imgI g h i 1 1 1) && decide (0 < imgI g h i 0 1 1))))) ((spotB (imgI a b c 0 0 1 / imgI g h i 0 0 1) (imgI d e f 0 0 1 / imgI g h i 0 0 1) && (spotB (imgI a b c 1 0 1 / imgI g h i 1 0 1) (imgI d e f 1 0 1 / imgI g h i 1 0 1) && (spotB (imgI a b c 1 1 1 / imgI g h i 1 1 1) (imgI d e f 1 1 1 / imgI g h i 1 1 1) && spotB (imgI a b c 0 1 1 / imgI g h i 0 1 1) (imgI d e f 0 1 1 / imgI g h i 0 1 1))))) (quadB (imgI a b c 0 0 1 / imgI g h i 0 0 1) (imgI d e f 0 0 1 / imgI g h i 0 0 1) (imgI a b c 1 0 1 / imgI g h i 1 0 1) (imgI d e f 1 0 1 / imgI g h i 1 0 1) (imgI a b c 1 1 1 / imgI g h i 1 1 1) (imgI d e f 1 1 1 / imgI g h i 1 1 1) (imgI a b c 0 1 1 / imgI g h i 0 1 1) (imgI d e f 0 1 1 / imgI g h i 0 1 1))) (imgI a b c 1 1 1 / imgI g h i 1 1 1)), .int .i64 (qmV (qmC (isMapB [a, b, c, d, e, f, g, h, i]) ((decide (0 < imgI g h i 0 0 1) && (decide (0 < imgI g h i 1 0 1) && (decide (0 < imgI g h i 1 1 1) && decide (0 < imgI g h i 0 1 1))))) ((spotB (imgI a b c 0 0 1 / imgI g h i 0 0 1) (imgI d e f 0 0 1 / imgI g h i 0 0 1) && (spotB (imgI a b c 1 0 1 / imgI g h i 1 0 1) (imgI d e f 1 0 1 / imgI g h i 1 0 1) && (spotB (imgI a b c 1 1 1 / imgI g h i 1 1 1) (imgI d e f 1 1 1 / imgI g h i 1 1 1) && spotB (imgI a b c 0 1 1 / imgI g h i 0 1 1) (imgI d e f 0 1 1 / imgI g h i 0 1 1))))) (quadB (imgI a b c 0 0 1 / imgI g h i 0 0 1) (imgI d e f 0 0 1 / imgI g h i 0 0 1) (imgI a b c 1 0 1 / imgI g h i 1 0 1) (imgI d e f 1 0 1 / imgI g h i 1 0 1) (imgI a b c 1 1 1 / imgI g h i 1 1 1) (imgI d e f 1 1 1 / imgI g h i 1 1 1) (imgI a b c 0 1 1 / imgI g h i 0 1 1) (imgI d e f 0 1 1 / imgI g h i 0 1 1))) (imgI d e f 1 1 1 / imgI g h i 1 1 1)), .int .i64 (qmV (qmC (isMapB [a, b, c, d, e, f, g, h, i]) ((decide (0 < imgI g h i 0 0 1) && (decide (0 < imgI g h i 1 0 1) && (decide (0 < imgI g h i 1 1 1) && decide (0 < imgI g h i 0 1 1))))) ((spotB (imgI a b c 0 0 1 / imgI g h i 0 0 1) (imgI d e f 0 0 1 / imgI g h i 0 0 1) && (spotB (imgI a b c 1 0 1 / imgI g h i 1 0 1) (imgI d e f 1 0 1 / imgI g h i 1 0 1) && (spotB (imgI a b c 1 1 1 / imgI g h i 1 1 1) (imgI d e f 1 1 1 / imgI g h i 1 1 1) && spotB (imgI a b c 0 1 1 / imgI g h i 0 1 1) (imgI d e f 0 1 1 / imgI g h i 0 1 1))))) (quadB (imgI a b c 0 0 1 / imgI g h i 0 0 1) (imgI d e f 0 0 1 / imgI g h i 0 0 1) (imgI a b c 1 0 1 / imgI g h i 1 0 1) (imgI d e f 1 0 1 / imgI g h i 1 0 1) (imgI a b c 1 1 1 / imgI g h i 1 1 1) (imgI d e f 1 1 1 / imgI g h i 1 1 1) (imgI a b c 0 1 1 / imgI g h i 0 1 1) (imgI d e f 0 1 1 / imgI g h i 0 1 1))) (imgI a b c 0 1 1 / imgI g h i 0 1 1)), .int .i64 (qmV (qmC (isMapB [a, b, c, d, e, f, g, h, i]) ((decide (0 < imgI g h i 0 0 1) && (decide (0 < imgI g h i 1 0 1) && (decide (0 < imgI g h i 1 1 1) && decide (0 < imgI g h i 0 1 1))))) ((spotB (imgI a b c 0 0 1 / imgI g h i 0 0 1) (imgI d e f 0 0 1 / imgI g h i 0 0 1) && (spotB (imgI a b c 1 0 1 / imgI g h i 1 0 1) (imgI d e f 1 0 1 / imgI g h i 1 0 1) && (spotB (imgI a b c 1 1 1 / imgI g h i 1 1 1) (imgI d e f 1 1 1 / imgI g h i 1 1 1) && spotB (imgI a b c 0 1 1 / imgI g h i 0 1 1) (imgI d e f 0 1 1 / imgI g h i 0 1 1))))) (quadB (imgI a b c 0 0 1 / imgI g h i 0 0 1) (imgI d e f 0 0 1 / imgI g h i 0 0 1) (imgI a b c 1 0 1 / imgI g h i 1 0 1) (imgI d e f 1 0 1 / imgI g h i 1 0 1) (imgI a b c 1 1 1 / imgI g h i 1 1 1) (imgI d e f 1 1 1 / imgI g h i 1 1 1) (imgI a b c 0 1 1 / imgI g h i 0 1 1) (imgI d e f 0 1 1 / imgI g h i 0 1 1))) (imgI d e f 0 1 1 / imgI g h i 0 1 1))], .int .i64 (qmC (isMapB [a, b, c, d, e, f, g, h, i]) ((decide (0 < imgI g h i 0 0 1) && (decide (0 < imgI g h i 1 0 1) && (decide (0 < imgI g h i 1 1 1) && decide (0 < imgI g h i 0 1 1))))) ((spotB (imgI a b c 0 0 1 / imgI g h i 0 0 1) (imgI d e f 0 0 1 / imgI g h i 0 0 1) && (spotB (imgI a b c 1 0 1 / imgI g h i 1 0 1) (imgI d e f 1 0 1 / imgI g h i 1 0 1) && (spotB (imgI a b c 1 1 1 / imgI g h i 1 1 1) (imgI d e f 1 1 1 / imgI g h i 1 1 1) && spotB (imgI a b c 0 1 1 / imgI g h i 0 1 1) (imgI d e f 0 1 1 / imgI g h i 0 1 1))))) (quadB (imgI a b c 0 0 1 / imgI g h i 0 0 1) (imgI d e f 0 0 1 / imgI g h i 0 0 1) (imgI a b c 1 0 1 / imgI g h i 1 0 1) (imgI d e f 1 0 1 / imgI g h i 1 0 1) (imgI a b c 1 1 1 / imgI g h i 1 1 1) (imgI d e f 1 1 1 / imgI g h i 1 1 1) (imgI a b c 0 1 1 / imgI g h i 0 1 1) (imgI d e f 0 1 1 / imgI g h i 0 1 1)))]) ∧ Below w.heap.size w w' := by
  have HI := Lib.hid (fun w => sIsMap_any a b c d e f g h i w)
  cases hm : isMapB [a, b, c, d, e, f, g, h, i]
  · rw [hm] at HI
    clear hm
    simp only [qmC, cond_false, qmV_no (show (1 : Int) ≠ 0 by decide)]
    go_enter Try.func29, Try.ntmps29
    go_wp2_with fail
    (go_at_call 15; with_reducible refine (HI.out _).mono ?_; rintro e1 w1 ⟨rfl, hb1⟩; obtain ⟨hc1, hf1⟩ := bcell hb1; have hB1 : Below w.heap.size w w1 := (below_then (by first | (go_grown; done) | (repeat (first | (with_reducible assumption) | (with_reducible exact Below.refl _ _) | (with_reducible refine below_drewN' ?_ _) | (with_reducible refine Below.drew ?_) | ((with_reducible refine Below.alloc ?_ ?_ _); rotate_left; focus (first | (simp; done) | (simp; omega) | omega)) | ((with_reducible refine Below.setCell ?_ ?_ _); rotate_left; focus (first | (simp; done) | (simp; omega) | omega))))) (by first | omega | (simp; done) | (simp; omega)) hb1); have hz1a : w.heap.size < w1.heap.size := (by have := hb1.size; first | omega | (simp at this; omega)); have hz1b : w.heap.size + 1 < w1.heap.size := (by have := hb1.size; first | omega | (simp at this; omega)))
    have HZ := Lib.hid (blk_below (heap_alloc_at (w := w.alloc (.cells #[.int .i64 a, .int .i64 b, .int .i64 c, .int .i64 d, .int .i64 e, .int .i64 f, .int .i64 g, .int .i64 h, .int .i64 i] 31)) (b := w.heap.size + 1) (o := .cells #[.int .i64 0, .int .i64 0, .int .i64 0, .int .i64 0, .int .i64 0, .int .i64 0, .int .i64 0, .int .i64 0] 48) (by simp)) hb1 (by simp))
    clear hc1 hf1 hb1
    obtain ⟨z0', z1', z2', z3', z4', z5', z6', z7', zf'⟩ := blk8 HZ.out
    go_wp2_with fail
    obtain ⟨s0, s1, s2, s3, s4, s5, s6, s7, -⟩ := blk8 (res8 HZ.out (.int .i64 0) (.int .i64 0) (.int .i64 0) (.int .i64 0) (.int .i64 0) (.int .i64 0) (.int .i64 0) (.int .i64 0))
    (try simp only [Exit.inBlock, Exit.then]); refine bodyPost_ret (by simp [results, Try.results29, go_sem, s0, s1, s2, s3, s4, s5, s6, s7]; try rfl) rfl ?_
    exact ⟨rfl, by repeat (first | with_reducible exact hB1 | with_reducible refine Below.setCell ?_ (by simp; try omega) _ | with_reducible refine Below.alloc ?_ (by simp; try omega) _)⟩
  rw [hm] at HI
  have hs0 := fun w => l25Spot_any a b c d e f g h i 0 0 1 w hm (by decide) (by decide) (by decide) (by decide) (by decide) (by decide)
  have hc0 := fun w => l25Code_any a b c d e f g h i 0 0 1 w
  have he0 : codeB [a, b, c, d, e, f, g, h, i] 0 0 1 = if imgI g h i 0 0 1 ≤ 0 then 5 else 0 := codeB_3 hm (by decide)
  rw [he0] at hc0
  clear he0
  have hs1 := fun w => l25Spot_any a b c d e f g h i 1 0 1 w hm (by decide) (by decide) (by decide) (by decide) (by decide) (by decide)
  have hc1 := fun w => l25Code_any a b c d e f g h i 1 0 1 w
  have he1 : codeB [a, b, c, d, e, f, g, h, i] 1 0 1 = if imgI g h i 1 0 1 ≤ 0 then 5 else 0 := codeB_3 hm (by decide)
  rw [he1] at hc1
  clear he1
  have hs2 := fun w => l25Spot_any a b c d e f g h i 1 1 1 w hm (by decide) (by decide) (by decide) (by decide) (by decide) (by decide)
  have hc2 := fun w => l25Code_any a b c d e f g h i 1 1 1 w
  have he2 : codeB [a, b, c, d, e, f, g, h, i] 1 1 1 = if imgI g h i 1 1 1 ≤ 0 then 5 else 0 := codeB_3 hm (by decide)
  rw [he2] at hc2
  clear he2
  have hs3 := fun w => l25Spot_any a b c d e f g h i 0 1 1 w hm (by decide) (by decide) (by decide) (by decide) (by decide) (by decide)
  have hc3 := fun w => l25Code_any a b c d e f g h i 0 1 1 w
  have he3 : codeB [a, b, c, d, e, f, g, h, i] 0 1 1 = if imgI g h i 0 1 1 ≤ 0 then 5 else 0 := codeB_3 hm (by decide)
  rw [he3] at hc3
  clear he3
  clear hm
  generalize imgI a b c 0 0 1 = X0 at *
  generalize imgI d e f 0 0 1 = Y0 at *
  generalize imgI g h i 0 0 1 = z0 at *
  generalize imgI a b c 1 0 1 = X1 at *
  generalize imgI d e f 1 0 1 = Y1 at *
  generalize imgI g h i 1 0 1 = z1 at *
  generalize imgI a b c 1 1 1 = X2 at *
  generalize imgI d e f 1 1 1 = Y2 at *
  generalize imgI g h i 1 1 1 = z2 at *
  generalize imgI a b c 0 1 1 = X3 at *
  generalize imgI d e f 0 1 1 = Y3 at *
  generalize imgI g h i 0 1 1 = z3 at *
  generalize X0 / z0 = x0 at *
  generalize Y0 / z0 = y0 at *
  generalize X1 / z1 = x1 at *
  generalize Y1 / z1 = y1 at *
  generalize X2 / z2 = x2 at *
  generalize Y2 / z2 = y2 at *
  generalize X3 / z3 = x3 at *
  generalize Y3 / z3 = y3 at *
  have HS0 := Lib.hid hs0
  have HC0 := Lib.hid hc0
  clear hs0 hc0
  have HS1 := Lib.hid hs1
  have HC1 := Lib.hid hc1
  clear hs1 hc1
  have HS2 := Lib.hid hs2
  have HC2 := Lib.hid hc2
  clear hs2 hc2
  have HS3 := Lib.hid hs3
  have HC3 := Lib.hid hc3
  clear hs3 hc3
  obtain ⟨K, hK⟩ : ∃ K, qmC true ((decide (0 < z0) && (decide (0 < z1) && (decide (0 < z2) && decide (0 < z3))))) ((spotB x0 y0 && (spotB x1 y1 && (spotB x2 y2 && spotB x3 y3)))) (quadB x0 y0 x1 y1 x2 y2 x3 y3) = K := ⟨_, rfl⟩
  rw [hK]
  have HK := Lib.hid hK
  clear hK
  have HIQ := Lib.hid (fun w => sIsQuad_any x0 y0 x1 y1 x2 y2 x3 y3 w)
  obtain ⟨iP, hi⟩ := info_own' info_spots
  have HP := Lib.hid (And.intro iP.bytes.le_refl hi)
  clear hi
  go_enter Try.func29, Try.ntmps29
  go_wp2_with fail
  (go_at_call 15; with_reducible refine (HI.out _).mono ?_; rintro e1 w1 ⟨rfl, hb1⟩; obtain ⟨hc1, hf1⟩ := bcell hb1; have hB1 : Below w.heap.size w w1 := (below_then (by first | (go_grown; done) | (repeat (first | (with_reducible assumption) | (with_reducible exact Below.refl _ _) | (with_reducible refine below_drewN' ?_ _) | (with_reducible refine Below.drew ?_) | ((with_reducible refine Below.alloc ?_ ?_ _); rotate_left; focus (first | (simp; done) | (simp; omega) | omega)) | ((with_reducible refine Below.setCell ?_ ?_ _); rotate_left; focus (first | (simp; done) | (simp; omega) | omega))))) (by first | omega | (simp; done) | (simp; omega)) hb1); have hz1a : w.heap.size < w1.heap.size := (by have := hb1.size; first | omega | (simp at this; omega)); have hz1b : w.heap.size + 1 < w1.heap.size := (by have := hb1.size; first | omega | (simp at this; omega)))
  have hkb := blk_below (blk_alloc (heap_alloc_new w (.cells #[.int .i64 a, .int .i64 b, .int .i64 c, .int .i64 d, .int .i64 e, .int .i64 f, .int .i64 g, .int .i64 h, .int .i64 i] 31)) (by simp)) hb1 (by simp; try omega)
  have hkz := blk_below (heap_alloc_at (w := w.alloc (.cells #[.int .i64 a, .int .i64 b, .int .i64 c, .int .i64 d, .int .i64 e, .int .i64 f, .int .i64 g, .int .i64 h, .int .i64 i] 31)) (b := w.heap.size + 1) (o := .cells #[.int .i64 0, .int .i64 0, .int .i64 0, .int .i64 0, .int .i64 0, .int .i64 0, .int .i64 0, .int .i64 0] 48) (by simp)) hb1 (by simp)
  have HP1 := Lib.hid (show QSP w 31 48 2 69 w1.heap.size a b c d e f g h i ((((((w1.alloc (.cells #[.int .i64 0, .int .i64 0] 2)).alloc (.cells #[.int .i64 1, .int .i64 0] 2)).alloc (.cells #[.int .i64 1, .int .i64 1] 2)).alloc (.cells #[.int .i64 0, .int .i64 1] 2)).alloc (.cells #[.slice (some ⟨w1.heap.size, 0, none⟩) 2 2, .slice (some ⟨w1.heap.size + 1, 0, none⟩) 2 2, .slice (some ⟨w1.heap.size + 1 + 1, 0, none⟩) 2 2, .slice (some ⟨w1.heap.size + 1 + 1 + 1, 0, none⟩) 2 2] 69)).alloc (.cells #[] 38)) from
    ⟨⟨hz1b, by simp⟩, by (repeat (first | (with_reducible assumption) | (with_reducible exact Below.refl _ _) | (with_reducible refine below_drewN' ?_ _) | (with_reducible refine Below.drew ?_) | ((with_reducible refine Below.alloc ?_ ?_ _); rotate_left; focus (first | (simp; done) | (simp; omega) | omega)) | ((with_reducible refine Below.setCell ?_ ?_ _); rotate_left; focus (first | (simp; done) | (simp; omega) | omega)))), by repeat (first | exact hkb | refine blk_alloc ?_ (by first | omega | (simp; done) | (simp; omega))), by repeat (first | exact hkz | refine blk_alloc ?_ (by first | omega | (simp; done) | (simp; omega))),
      by repeat (first | exact heap_alloc_at (by simp) | refine blk_alloc ?_ (by first | omega | (simp; done) | (simp; omega))), by repeat (first | exact heap_alloc_at (by simp) | refine blk_alloc ?_ (by first | omega | (simp; done) | (simp; omega))), by repeat (first | exact heap_alloc_at (by simp) | refine blk_alloc ?_ (by first | omega | (simp; done) | (simp; omega))), by repeat (first | exact heap_alloc_at (by simp) | refine blk_alloc ?_ (by first | omega | (simp; done) | (simp; omega))), by repeat (first | exact heap_alloc_at (by simp) | refine blk_alloc ?_ (by first | omega | (simp; done) | (simp; omega)))⟩)
  have HO1 : Hid (OwnQ ((((((w1.alloc (.cells #[.int .i64 0, .int .i64 0] 2)).alloc (.cells #[.int .i64 1, .int .i64 0] 2)).alloc (.cells #[.int .i64 1, .int .i64 1] 2)).alloc (.cells #[.int .i64 0, .int .i64 1] 2)).alloc (.cells #[.slice (some ⟨w1.heap.size, 0, none⟩) 2 2, .slice (some ⟨w1.heap.size + 1, 0, none⟩) 2 2, .slice (some ⟨w1.heap.size + 1 + 1, 0, none⟩) 2 2, .slice (some ⟨w1.heap.size + 1 + 1 + 1, 0, none⟩) 2 2] 69)).alloc (.cells #[] 38)) (w1.heap.size + 1 + 1 + 1 + 1 + 1) (.slice (some ⟨w1.heap.size + 1 + 1 + 1 + 1 + 1, 0, none⟩) 0 0) []) := Lib.hid (by
    have := OwnQ.empty (B := w1.heap.size + 1 + 1 + 1 + 1 + 1) (((((w1.alloc (.cells #[.int .i64 0, .int .i64 0] 2)).alloc (.cells #[.int .i64 1, .int .i64 0] 2)).alloc (.cells #[.int .i64 1, .int .i64 1] 2)).alloc (.cells #[.int .i64 0, .int .i64 1] 2)).alloc (.cells #[.slice (some ⟨w1.heap.size, 0, none⟩) 2 2, .slice (some ⟨w1.heap.size + 1, 0, none⟩) 2 2, .slice (some ⟨w1.heap.size + 1 + 1, 0, none⟩) 2 2, .slice (some ⟨w1.heap.size + 1 + 1 + 1, 0, none⟩) 2 2] 69)) (by simp)
    simpa using this)
  clear hc1 hf1 hb1 hB1 hkb hkz
  go_wp2_with fail
  generalize ((((((w1.alloc (.cells #[.int .i64 0, .int .i64 0] 2)).alloc (.cells #[.int .i64 1, .int .i64 0] 2)).alloc (.cells #[.int .i64 1, .int .i64 1] 2)).alloc (.cells #[.int .i64 0, .int .i64 1] 2)).alloc (.cells #[.slice (some ⟨w1.heap.size, 0, none⟩) 2 2, .slice (some ⟨w1.heap.size + 1, 0, none⟩) 2 2, .slice (some ⟨w1.heap.size + 1 + 1, 0, none⟩) 2 2, .slice (some ⟨w1.heap.size + 1 + 1 + 1, 0, none⟩) 2 2] 69)).alloc (.cells #[] 38)) = w2 at *
  have hsz2 := HP1.out.sz
  go_loopw [6] (fun q wr => ∃ k : Nat, k ≤ 4 ∧ q = .int .i64 k ∧ Hid (QSP w 31 48 2 69 w1.heap.size a b c d e f g h i wr ∧ Below w2.heap.size w2 wr ∧ (k = 0 ∨ (k = 1 ∧ 0 < z0) ∨ (k = 2 ∧ 0 < z0 ∧ 0 < z1) ∨ (k = 3 ∧ 0 < z0 ∧ 0 < z1 ∧ 0 < z2) ∨ (k = 4 ∧ 0 < z0 ∧ 0 < z1 ∧ 0 < z2 ∧ 0 < z3))))
    (fun q _ => 4 - (intOf q).toNat)
  case atStart => exact ⟨0, by decide, rfl, Lib.hid ⟨HP1.out, Below.refl _ _, .inl rfl⟩⟩
  case round =>
    obtain ⟨k, hk, rfl, hh⟩ := hrel
    obtain ⟨hp, hbel, hz⟩ := hh.out
    have HPk := Lib.hid hp
    have HBk := Lib.hid hbel
    clear hp hbel hh
    have hsz := HPk.out.sz
    have hsz2' := HBk.out.size
    have hz0a : w.heap.size < wr.heap.size := by omega
    have hz0b : w.heap.size + 1 < wr.heap.size := by omega
    have hz0c : w1.heap.size < wr.heap.size := by omega
    have hz0d : w1.heap.size + 1 < wr.heap.size := by omega
    have hz0e : w1.heap.size + 1 + 1 < wr.heap.size := by omega
    have hz0f : w1.heap.size + 1 + 1 + 1 < wr.heap.size := by omega
    have hz0g : w1.heap.size + 1 + 1 + 1 + 1 < wr.heap.size := by omega
    obtain ⟨m0, m1, m2, m3, m4, m5, m6, m7, m8, -⟩ := blk9 HPk.out.kb
    obtain ⟨t0, t1, t2, t3, -⟩ := blk4 HPk.out.kt
    rcases hz with rfl | ⟨rfl, g0⟩ | ⟨rfl, g0, g1⟩ | ⟨rfl, g0, g1, g2⟩ | ⟨hk4, g0, g1, g2, g3⟩
    · obtain ⟨p0, p1, -⟩ := blk2 HPk.out.kp0
      by_cases hz : 0 < z0
      · have HCk : Hid (∀ w : World, Calls Try.prog 47 #[.agg #[.int .i64 a, .int .i64 b, .int .i64 c, .int .i64 d, .int .i64 e, .int .i64 f, .int .i64 g, .int .i64 h, .int .i64 i], .int .i64 0, .int .i64 0, .int .i64 1] w fun e' w' => e' = .returned (.int .i64 0) ∧ Below w.heap.size w w') := Lib.hid (fun w => by have := HC0.out w; rwa [if_neg (by omega)] at this)
        go_wp2_with fail
        refine wp_region_qat [] 15 [] (by kernel_rfl) (by kernel_rfl) ?_
        intro hbc
        simp only [List.take_succ_cons, List.take_zero, List.drop_succ_cons, List.drop_zero]
        repeat (first
          | refine wpQ_pass rfl ?_
          | (refine wpQ_step rfl (fun K hK => ?_)
             go_simp
             first
               | (refine hK _ ?_; clear hK K)
               | (apply Exists.intro
                  refine ⟨fun z => ?_, ?_⟩
                  focus (first | (go_at_call 47; with_reducible exact HCk.out _))
                  refine hK _ ?_
                  clear hK K)))
        refine wpQ_nil ⟨?_, ?_⟩
        · exact rfl
        intro  w3 hb3 hF3
        clear hbc
        obtain ⟨hc3, hf3⟩ := bcell hb3
        have hz3a : w.heap.size < w3.heap.size := (by have := hb3.size; first | omega | (simp at this; omega))
        clear hF3
        try simp only [Act.put, List.setIfInBounds_toArray, List.set_cons_succ, List.set_cons_zero]
        have HP3 := Lib.hid (HPk.out.below hb3)
        have HB3 := Lib.hid (HBk.out.trans (hb3.mono (by omega)))
        clear hb3 hc3 hf3 m0 m1 m2 m3 m4 m5 m6 m7 m8 t0 t1 t2 t3 p0 p1
        go_wp2_with fail
        go_roundw
        case rel => exact ⟨1, by decide, by go_num, Lib.hid ⟨HP3.out, HB3.out, .inr (.inl ⟨rfl, hz⟩)⟩⟩
        case measure => simp [intOf]
      · have HCk : Hid (∀ w : World, Calls Try.prog 47 #[.agg #[.int .i64 a, .int .i64 b, .int .i64 c, .int .i64 d, .int .i64 e, .int .i64 f, .int .i64 g, .int .i64 h, .int .i64 i], .int .i64 0, .int .i64 0, .int .i64 1] w fun e' w' => e' = .returned (.int .i64 5) ∧ Below w.heap.size w w') := Lib.hid (fun w => by have := HC0.out w; rwa [if_pos (by omega)] at this)
        have HK5 : Hid (K = 5) := Lib.hid (by rw [← HK.out]; simp [qmC, hz])
        go_wp2_with fail
        refine wp_region_qat [] 15 [] (by kernel_rfl) (by kernel_rfl) ?_
        intro hbc
        simp only [List.take_succ_cons, List.take_zero, List.drop_succ_cons, List.drop_zero]
        repeat (first
          | refine wpQ_pass rfl ?_
          | (refine wpQ_step rfl (fun K hK => ?_)
             go_simp
             first
               | (refine hK _ ?_; clear hK K)
               | (apply Exists.intro
                  refine ⟨fun z => ?_, ?_⟩
                  focus (first | (go_at_call 47; with_reducible exact HCk.out _))
                  refine hK _ ?_
                  clear hK K)))
        refine wpQ_nil ⟨?_, ?_⟩
        · exact rfl
        intro  w3 hb3 hF3
        clear hbc
        obtain ⟨hc3, hf3⟩ := bcell hb3
        have hz3a : w.heap.size < w3.heap.size := (by have := hb3.size; first | omega | (simp at this; omega))
        clear hF3
        try simp only [Act.put, List.setIfInBounds_toArray, List.set_cons_succ, List.set_cons_zero]
        have HP3 := Lib.hid (HPk.out.below hb3)
        have hz3b : w.heap.size + 1 < w3.heap.size := by have := HP3.out.sz; omega
        clear hb3 hc3 hf3 m0 m1 m2 m3 m4 m5 m6 m7 m8 t0 t1 t2 t3 p0 p1
        obtain ⟨z0', z1', z2', z3', z4', z5', z6', z7', zf'⟩ := blk8 HP3.out.kz
        go_wp2_with fail
        obtain ⟨s0, s1, s2, s3, s4, s5, s6, s7, -⟩ := blk8 (res8 HP3.out.kz (.int .i64 0) (.int .i64 0) (.int .i64 0) (.int .i64 0) (.int .i64 0) (.int .i64 0) (.int .i64 0) (.int .i64 0))
        (try simp only [Exit.inBlock, Exit.then]); refine bodyPost_ret (by simp [results, Try.results29, go_sem, s0, s1, s2, s3, s4, s5, s6, s7]; try rfl) rfl ?_
        exact ⟨by rw [HK5.out]; simp only [qmV_no (show (5 : Int) ≠ 0 by decide)], by repeat (first | with_reducible exact HP3.out.bw | with_reducible refine Below.setCell ?_ (by simp; try omega) _ | with_reducible refine Below.alloc ?_ (by simp; try omega) _)⟩
    · obtain ⟨p0, p1, -⟩ := blk2 HPk.out.kp1
      by_cases hz : 0 < z1
      · have HCk : Hid (∀ w : World, Calls Try.prog 47 #[.agg #[.int .i64 a, .int .i64 b, .int .i64 c, .int .i64 d, .int .i64 e, .int .i64 f, .int .i64 g, .int .i64 h, .int .i64 i], .int .i64 1, .int .i64 0, .int .i64 1] w fun e' w' => e' = .returned (.int .i64 0) ∧ Below w.heap.size w w') := Lib.hid (fun w => by have := HC1.out w; rwa [if_neg (by omega)] at this)
        go_wp2_with fail
        refine wp_region_qat [] 15 [] (by kernel_rfl) (by kernel_rfl) ?_
        intro hbc
        simp only [List.take_succ_cons, List.take_zero, List.drop_succ_cons, List.drop_zero]
        repeat (first
          | refine wpQ_pass rfl ?_
          | (refine wpQ_step rfl (fun K hK => ?_)
             go_simp
             first
               | (refine hK _ ?_; clear hK K)
               | (apply Exists.intro
                  refine ⟨fun z => ?_, ?_⟩
                  focus (first | (go_at_call 47; with_reducible exact HCk.out _))
                  refine hK _ ?_
                  clear hK K)))
        refine wpQ_nil ⟨?_, ?_⟩
        · exact rfl
        intro  w3 hb3 hF3
        clear hbc
        obtain ⟨hc3, hf3⟩ := bcell hb3
        have hz3a : w.heap.size < w3.heap.size := (by have := hb3.size; first | omega | (simp at this; omega))
        clear hF3
        try simp only [Act.put, List.setIfInBounds_toArray, List.set_cons_succ, List.set_cons_zero]
        have HP3 := Lib.hid (HPk.out.below hb3)
        have HB3 := Lib.hid (HBk.out.trans (hb3.mono (by omega)))
        clear hb3 hc3 hf3 m0 m1 m2 m3 m4 m5 m6 m7 m8 t0 t1 t2 t3 p0 p1
        go_wp2_with fail
        go_roundw
        case rel => exact ⟨2, by decide, by go_num, Lib.hid ⟨HP3.out, HB3.out, .inr (.inr (.inl ⟨rfl, g0, hz⟩))⟩⟩
        case measure => simp [intOf]
      · have HCk : Hid (∀ w : World, Calls Try.prog 47 #[.agg #[.int .i64 a, .int .i64 b, .int .i64 c, .int .i64 d, .int .i64 e, .int .i64 f, .int .i64 g, .int .i64 h, .int .i64 i], .int .i64 1, .int .i64 0, .int .i64 1] w fun e' w' => e' = .returned (.int .i64 5) ∧ Below w.heap.size w w') := Lib.hid (fun w => by have := HC1.out w; rwa [if_pos (by omega)] at this)
        have HK5 : Hid (K = 5) := Lib.hid (by rw [← HK.out]; simp [qmC, hz])
        go_wp2_with fail
        refine wp_region_qat [] 15 [] (by kernel_rfl) (by kernel_rfl) ?_
        intro hbc
        simp only [List.take_succ_cons, List.take_zero, List.drop_succ_cons, List.drop_zero]
        repeat (first
          | refine wpQ_pass rfl ?_
          | (refine wpQ_step rfl (fun K hK => ?_)
             go_simp
             first
               | (refine hK _ ?_; clear hK K)
               | (apply Exists.intro
                  refine ⟨fun z => ?_, ?_⟩
                  focus (first | (go_at_call 47; with_reducible exact HCk.out _))
                  refine hK _ ?_
                  clear hK K)))
        refine wpQ_nil ⟨?_, ?_⟩
        · exact rfl
        intro  w3 hb3 hF3
        clear hbc
        obtain ⟨hc3, hf3⟩ := bcell hb3
        have hz3a : w.heap.size < w3.heap.size := (by have := hb3.size; first | omega | (simp at this; omega))
        clear hF3
        try simp only [Act.put, List.setIfInBounds_toArray, List.set_cons_succ, List.set_cons_zero]
        have HP3 := Lib.hid (HPk.out.below hb3)
        have hz3b : w.heap.size + 1 < w3.heap.size := by have := HP3.out.sz; omega
        clear hb3 hc3 hf3 m0 m1 m2 m3 m4 m5 m6 m7 m8 t0 t1 t2 t3 p0 p1
        obtain ⟨z0', z1', z2', z3', z4', z5', z6', z7', zf'⟩ := blk8 HP3.out.kz
        go_wp2_with fail
        obtain ⟨s0, s1, s2, s3, s4, s5, s6, s7, -⟩ := blk8 (res8 HP3.out.kz (.int .i64 0) (.int .i64 0) (.int .i64 0) (.int .i64 0) (.int .i64 0) (.int .i64 0) (.int .i64 0) (.int .i64 0))
        (try simp only [Exit.inBlock, Exit.then]); refine bodyPost_ret (by simp [results, Try.results29, go_sem, s0, s1, s2, s3, s4, s5, s6, s7]; try rfl) rfl ?_
        exact ⟨by rw [HK5.out]; simp only [qmV_no (show (5 : Int) ≠ 0 by decide)], by repeat (first | with_reducible exact HP3.out.bw | with_reducible refine Below.setCell ?_ (by simp; try omega) _ | with_reducible refine Below.alloc ?_ (by simp; try omega) _)⟩
    · obtain ⟨p0, p1, -⟩ := blk2 HPk.out.kp2
      by_cases hz : 0 < z2
      · have HCk : Hid (∀ w : World, Calls Try.prog 47 #[.agg #[.int .i64 a, .int .i64 b, .int .i64 c, .int .i64 d, .int .i64 e, .int .i64 f, .int .i64 g, .int .i64 h, .int .i64 i], .int .i64 1, .int .i64 1, .int .i64 1] w fun e' w' => e' = .returned (.int .i64 0) ∧ Below w.heap.size w w') := Lib.hid (fun w => by have := HC2.out w; rwa [if_neg (by omega)] at this)
        go_wp2_with fail
        refine wp_region_qat [] 15 [] (by kernel_rfl) (by kernel_rfl) ?_
        intro hbc
        simp only [List.take_succ_cons, List.take_zero, List.drop_succ_cons, List.drop_zero]
        repeat (first
          | refine wpQ_pass rfl ?_
          | (refine wpQ_step rfl (fun K hK => ?_)
             go_simp
             first
               | (refine hK _ ?_; clear hK K)
               | (apply Exists.intro
                  refine ⟨fun z => ?_, ?_⟩
                  focus (first | (go_at_call 47; with_reducible exact HCk.out _))
                  refine hK _ ?_
                  clear hK K)))
        refine wpQ_nil ⟨?_, ?_⟩
        · exact rfl
        intro  w3 hb3 hF3
        clear hbc
        obtain ⟨hc3, hf3⟩ := bcell hb3
        have hz3a : w.heap.size < w3.heap.size := (by have := hb3.size; first | omega | (simp at this; omega))
        clear hF3
        try simp only [Act.put, List.setIfInBounds_toArray, List.set_cons_succ, List.set_cons_zero]
        have HP3 := Lib.hid (HPk.out.below hb3)
        have HB3 := Lib.hid (HBk.out.trans (hb3.mono (by omega)))
        clear hb3 hc3 hf3 m0 m1 m2 m3 m4 m5 m6 m7 m8 t0 t1 t2 t3 p0 p1
        go_wp2_with fail
        go_roundw
        case rel => exact ⟨3, by decide, by go_num, Lib.hid ⟨HP3.out, HB3.out, .inr (.inr (.inr (.inl ⟨rfl, g0, g1, hz⟩)))⟩⟩
        case measure => simp [intOf]
      · have HCk : Hid (∀ w : World, Calls Try.prog 47 #[.agg #[.int .i64 a, .int .i64 b, .int .i64 c, .int .i64 d, .int .i64 e, .int .i64 f, .int .i64 g, .int .i64 h, .int .i64 i], .int .i64 1, .int .i64 1, .int .i64 1] w fun e' w' => e' = .returned (.int .i64 5) ∧ Below w.heap.size w w') := Lib.hid (fun w => by have := HC2.out w; rwa [if_pos (by omega)] at this)
        have HK5 : Hid (K = 5) := Lib.hid (by rw [← HK.out]; simp [qmC, hz])
        go_wp2_with fail
        refine wp_region_qat [] 15 [] (by kernel_rfl) (by kernel_rfl) ?_
        intro hbc
        simp only [List.take_succ_cons, List.take_zero, List.drop_succ_cons, List.drop_zero]
        repeat (first
          | refine wpQ_pass rfl ?_
          | (refine wpQ_step rfl (fun K hK => ?_)
             go_simp
             first
               | (refine hK _ ?_; clear hK K)
               | (apply Exists.intro
                  refine ⟨fun z => ?_, ?_⟩
                  focus (first | (go_at_call 47; with_reducible exact HCk.out _))
                  refine hK _ ?_
                  clear hK K)))
        refine wpQ_nil ⟨?_, ?_⟩
        · exact rfl
        intro  w3 hb3 hF3
        clear hbc
        obtain ⟨hc3, hf3⟩ := bcell hb3
        have hz3a : w.heap.size < w3.heap.size := (by have := hb3.size; first | omega | (simp at this; omega))
        clear hF3
        try simp only [Act.put, List.setIfInBounds_toArray, List.set_cons_succ, List.set_cons_zero]
        have HP3 := Lib.hid (HPk.out.below hb3)
        have hz3b : w.heap.size + 1 < w3.heap.size := by have := HP3.out.sz; omega
        clear hb3 hc3 hf3 m0 m1 m2 m3 m4 m5 m6 m7 m8 t0 t1 t2 t3 p0 p1
        obtain ⟨z0', z1', z2', z3', z4', z5', z6', z7', zf'⟩ := blk8 HP3.out.kz
        go_wp2_with fail
        obtain ⟨s0, s1, s2, s3, s4, s5, s6, s7, -⟩ := blk8 (res8 HP3.out.kz (.int .i64 0) (.int .i64 0) (.int .i64 0) (.int .i64 0) (.int .i64 0) (.int .i64 0) (.int .i64 0) (.int .i64 0))
        (try simp only [Exit.inBlock, Exit.then]); refine bodyPost_ret (by simp [results, Try.results29, go_sem, s0, s1, s2, s3, s4, s5, s6, s7]; try rfl) rfl ?_
        exact ⟨by rw [HK5.out]; simp only [qmV_no (show (5 : Int) ≠ 0 by decide)], by repeat (first | with_reducible exact HP3.out.bw | with_reducible refine Below.setCell ?_ (by simp; try omega) _ | with_reducible refine Below.alloc ?_ (by simp; try omega) _)⟩
    · obtain ⟨p0, p1, -⟩ := blk2 HPk.out.kp3
      by_cases hz : 0 < z3
      · have HCk : Hid (∀ w : World, Calls Try.prog 47 #[.agg #[.int .i64 a, .int .i64 b, .int .i64 c, .int .i64 d, .int .i64 e, .int .i64 f, .int .i64 g, .int .i64 h, .int .i64 i], .int .i64 0, .int .i64 1, .int .i64 1] w fun e' w' => e' = .returned (.int .i64 0) ∧ Below w.heap.size w w') := Lib.hid (fun w => by have := HC3.out w; rwa [if_neg (by omega)] at this)
        go_wp2_with fail
        refine wp_region_qat [] 15 [] (by kernel_rfl) (by kernel_rfl) ?_
        intro hbc
        simp only [List.take_succ_cons, List.take_zero, List.drop_succ_cons, List.drop_zero]
        repeat (first
          | refine wpQ_pass rfl ?_
          | (refine wpQ_step rfl (fun K hK => ?_)
             go_simp
             first
               | (refine hK _ ?_; clear hK K)
               | (apply Exists.intro
                  refine ⟨fun z => ?_, ?_⟩
                  focus (first | (go_at_call 47; with_reducible exact HCk.out _))
                  refine hK _ ?_
                  clear hK K)))
        refine wpQ_nil ⟨?_, ?_⟩
        · exact rfl
        intro  w3 hb3 hF3
        clear hbc
        obtain ⟨hc3, hf3⟩ := bcell hb3
        have hz3a : w.heap.size < w3.heap.size := (by have := hb3.size; first | omega | (simp at this; omega))
        clear hF3
        try simp only [Act.put, List.setIfInBounds_toArray, List.set_cons_succ, List.set_cons_zero]
        have HP3 := Lib.hid (HPk.out.below hb3)
        have HB3 := Lib.hid (HBk.out.trans (hb3.mono (by omega)))
        clear hb3 hc3 hf3 m0 m1 m2 m3 m4 m5 m6 m7 m8 t0 t1 t2 t3 p0 p1
        go_wp2_with fail
        go_roundw
        case rel => exact ⟨4, by decide, by go_num, Lib.hid ⟨HP3.out, HB3.out, .inr (.inr (.inr (.inr ⟨rfl, g0, g1, g2, hz⟩)))⟩⟩
        case measure => simp [intOf]
      · have HCk : Hid (∀ w : World, Calls Try.prog 47 #[.agg #[.int .i64 a, .int .i64 b, .int .i64 c, .int .i64 d, .int .i64 e, .int .i64 f, .int .i64 g, .int .i64 h, .int .i64 i], .int .i64 0, .int .i64 1, .int .i64 1] w fun e' w' => e' = .returned (.int .i64 5) ∧ Below w.heap.size w w') := Lib.hid (fun w => by have := HC3.out w; rwa [if_pos (by omega)] at this)
        have HK5 : Hid (K = 5) := Lib.hid (by rw [← HK.out]; simp [qmC, hz])
        go_wp2_with fail
        refine wp_region_qat [] 15 [] (by kernel_rfl) (by kernel_rfl) ?_
        intro hbc
        simp only [List.take_succ_cons, List.take_zero, List.drop_succ_cons, List.drop_zero]
        repeat (first
          | refine wpQ_pass rfl ?_
          | (refine wpQ_step rfl (fun K hK => ?_)
             go_simp
             first
               | (refine hK _ ?_; clear hK K)
               | (apply Exists.intro
                  refine ⟨fun z => ?_, ?_⟩
                  focus (first | (go_at_call 47; with_reducible exact HCk.out _))
                  refine hK _ ?_
                  clear hK K)))
        refine wpQ_nil ⟨?_, ?_⟩
        · exact rfl
        intro  w3 hb3 hF3
        clear hbc
        obtain ⟨hc3, hf3⟩ := bcell hb3
        have hz3a : w.heap.size < w3.heap.size := (by have := hb3.size; first | omega | (simp at this; omega))
        clear hF3
        try simp only [Act.put, List.setIfInBounds_toArray, List.set_cons_succ, List.set_cons_zero]
        have HP3 := Lib.hid (HPk.out.below hb3)
        have hz3b : w.heap.size + 1 < w3.heap.size := by have := HP3.out.sz; omega
        clear hb3 hc3 hf3 m0 m1 m2 m3 m4 m5 m6 m7 m8 t0 t1 t2 t3 p0 p1
        obtain ⟨z0', z1', z2', z3', z4', z5', z6', z7', zf'⟩ := blk8 HP3.out.kz
        go_wp2_with fail
        obtain ⟨s0, s1, s2, s3, s4, s5, s6, s7, -⟩ := blk8 (res8 HP3.out.kz (.int .i64 0) (.int .i64 0) (.int .i64 0) (.int .i64 0) (.int .i64 0) (.int .i64 0) (.int .i64 0) (.int .i64 0))
        (try simp only [Exit.inBlock, Exit.then]); refine bodyPost_ret (by simp [results, Try.results29, go_sem, s0, s1, s2, s3, s4, s5, s6, s7]; try rfl) rfl ?_
        exact ⟨by rw [HK5.out]; simp only [qmV_no (show (5 : Int) ≠ 0 by decide)], by repeat (first | with_reducible exact HP3.out.bw | with_reducible refine Below.setCell ?_ (by simp; try omega) _ | with_reducible refine Below.alloc ?_ (by simp; try omega) _)⟩
    · have HKS : Hid (qmC true true ((spotB x0 y0 && (spotB x1 y1 && (spotB x2 y2 && spotB x3 y3)))) (quadB x0 y0 x1 y1 x2 y2 x3 y3) = K) := Lib.hid (by rw [← HK.out]; simp [qmC, g0, g1, g2, g3])
      have hk4' : ¬ ((k : Int) < 4) := by omega
      have HT0 : Hid (∀ w : World, Calls Try.prog 52 #[.agg #[.int .i64 a, .int .i64 b, .int .i64 c, .int .i64 d, .int .i64 e, .int .i64 f, .int .i64 g, .int .i64 h, .int .i64 i], .int .i64 0, .int .i64 0, .int .i64 1] w fun e' w' => e' = .returned (.tuple #[.agg #[.int .i64 x0, .int .i64 y0], .bool (spotB x0 y0)]) ∧ Below w.heap.size w w') := Lib.hid (fun w => by have := HS0.out w; rwa [if_pos g0] at this)
      have HT1 : Hid (∀ w : World, Calls Try.prog 52 #[.agg #[.int .i64 a, .int .i64 b, .int .i64 c, .int .i64 d, .int .i64 e, .int .i64 f, .int .i64 g, .int .i64 h, .int .i64 i], .int .i64 1, .int .i64 0, .int .i64 1] w fun e' w' => e' = .returned (.tuple #[.agg #[.int .i64 x1, .int .i64 y1], .bool (spotB x1 y1)]) ∧ Below w.heap.size w w') := Lib.hid (fun w => by have := HS1.out w; rwa [if_pos g1] at this)
      have HT2 : Hid (∀ w : World, Calls Try.prog 52 #[.agg #[.int .i64 a, .int .i64 b, .int .i64 c, .int .i64 d, .int .i64 e, .int .i64 f, .int .i64 g, .int .i64 h, .int .i64 i], .int .i64 1, .int .i64 1, .int .i64 1] w fun e' w' => e' = .returned (.tuple #[.agg #[.int .i64 x2, .int .i64 y2], .bool (spotB x2 y2)]) ∧ Below w.heap.size w w') := Lib.hid (fun w => by have := HS2.out w; rwa [if_pos g2] at this)
      have HT3 : Hid (∀ w : World, Calls Try.prog 52 #[.agg #[.int .i64 a, .int .i64 b, .int .i64 c, .int .i64 d, .int .i64 e, .int .i64 f, .int .i64 g, .int .i64 h, .int .i64 i], .int .i64 0, .int .i64 1, .int .i64 1] w fun e' w' => e' = .returned (.tuple #[.agg #[.int .i64 x3, .int .i64 y3], .bool (spotB x3 y3)]) ∧ Below w.heap.size w w') := Lib.hid (fun w => by have := HS3.out w; rwa [if_pos g3] at this)
      clear g0 g1 g2 g3 HC0 HC1 HC2 HC3 HS0 HS1 HS2 HS3 m0 m1 m2 m3 m4 m5 m6 m7 m8 t0 t1 t2 t3
      have HOk := Lib.hid (HO1.out.keep HBk.out)
      clear HBk hz0a hz0b hz0c hz0d hz0e hz0f hz0g hsz
      rename World => wb
      go_wp2_with fail
      go_loopw [5, 7] (fun sv q wr => ∃ k : Nat, k ≤ 4 ∧ q = .int .i64 k ∧ Hid (QSP w 31 48 2 69 w1.heap.size a b c d e f g h i wr ∧ ((k = 0 ∧ OwnQ wr (w1.heap.size + 1 + 1 + 1 + 1 + 1) sv []) ∨ (k = 1 ∧ spotB x0 y0 = true ∧ OwnQ wr (w1.heap.size + 1 + 1 + 1 + 1 + 1) sv [(x0, y0)]) ∨ (k = 2 ∧ spotB x0 y0 = true ∧ spotB x1 y1 = true ∧ OwnQ wr (w1.heap.size + 1 + 1 + 1 + 1 + 1) sv [(x0, y0), (x1, y1)]) ∨ (k = 3 ∧ spotB x0 y0 = true ∧ spotB x1 y1 = true ∧ spotB x2 y2 = true ∧ OwnQ wr (w1.heap.size + 1 + 1 + 1 + 1 + 1) sv [(x0, y0), (x1, y1), (x2, y2)]) ∨ (k = 4 ∧ spotB x0 y0 = true ∧ spotB x1 y1 = true ∧ spotB x2 y2 = true ∧ spotB x3 y3 = true ∧ OwnQ wr (w1.heap.size + 1 + 1 + 1 + 1 + 1) sv [(x0, y0), (x1, y1), (x2, y2), (x3, y3)]))))
        (fun _ q _ => 4 - (intOf q).toNat)
      case atStart => exact ⟨0, by decide, rfl, Lib.hid ⟨HPk.out, .inl ⟨rfl, HOk.out⟩⟩⟩
      case round =>
        obtain ⟨k, hk, rfl, hh⟩ := hrel
        obtain ⟨hp, hz⟩ := hh.out
        clear HPk HOk
        have HPk := Lib.hid hp
        clear hp hh
        have hsz := HPk.out.sz
        have hz0a : w.heap.size < wr.heap.size := by omega
        have hz0b : w.heap.size + 1 < wr.heap.size := by omega
        have hz0c : w1.heap.size < wr.heap.size := by omega
        have hz0d : w1.heap.size + 1 < wr.heap.size := by omega
        have hz0e : w1.heap.size + 1 + 1 < wr.heap.size := by omega
        have hz0f : w1.heap.size + 1 + 1 + 1 < wr.heap.size := by omega
        have hz0g : w1.heap.size + 1 + 1 + 1 + 1 < wr.heap.size := by omega
        rcases hz with ⟨rfl, hown⟩ | ⟨rfl, g0, hown⟩ | ⟨rfl, g0, g1, hown⟩ | ⟨rfl, g0, g1, g2, hown⟩ | ⟨rfl, g0, g1, g2, g3, hown⟩
        · have HOw := Lib.hid hown
          have HRow := Lib.hid (World.ownsRow.lt hown)
          obtain ⟨m0, m1, m2, m3, m4, m5, m6, m7, m8, -⟩ := blk9 HPk.out.kb
          obtain ⟨t0, t1, t2, t3, -⟩ := blk4 HPk.out.kt
          obtain ⟨p0, p1, -⟩ := blk2 HPk.out.kp0
          cases hsp : spotB x0 y0
          · have HTk := Lib.hid HT0.out
            rw [hsp] at HTk
            have HK5 : Hid (K = 3) := Lib.hid (by rw [← HKS.out]; simp [qmC, hsp])
            clear hown
            go_wp2_with fail
            go_region_held3 (fun w' => (w'.cell? ⟨w.heap.size, 0, none⟩ = some (.int .i64 a) ∧ w'.cell? ⟨w.heap.size, 1, none⟩ = some (.int .i64 b) ∧ w'.cell? ⟨w.heap.size, 2, none⟩ = some (.int .i64 c) ∧ w'.cell? ⟨w.heap.size, 3, none⟩ = some (.int .i64 d) ∧ w'.cell? ⟨w.heap.size, 4, none⟩ = some (.int .i64 e) ∧ w'.cell? ⟨w.heap.size, 5, none⟩ = some (.int .i64 f) ∧ w'.cell? ⟨w.heap.size, 6, none⟩ = some (.int .i64 g) ∧ w'.cell? ⟨w.heap.size, 7, none⟩ = some (.int .i64 h) ∧ w'.cell? ⟨w.heap.size, 8, none⟩ = some (.int .i64 i)) ∧ (w'.cell? ⟨w1.heap.size + 1 + 1 + 1 + 1, 0, none⟩ = some (.slice (some ⟨w1.heap.size, 0, none⟩) 2 2) ∧ w'.cell? ⟨w1.heap.size + 1 + 1 + 1 + 1, 1, none⟩ = some (.slice (some ⟨w1.heap.size + 1, 0, none⟩) 2 2) ∧ w'.cell? ⟨w1.heap.size + 1 + 1 + 1 + 1, 2, none⟩ = some (.slice (some ⟨w1.heap.size + 1 + 1, 0, none⟩) 2 2) ∧ w'.cell? ⟨w1.heap.size + 1 + 1 + 1 + 1, 3, none⟩ = some (.slice (some ⟨w1.heap.size + 1 + 1 + 1, 0, none⟩) 2 2)) ∧ (w'.cell? ⟨w1.heap.size, 0, none⟩ = some (.int .i64 0) ∧ w'.cell? ⟨w1.heap.size, 1, none⟩ = some (.int .i64 0)))
              (first | exact ⟨cells9 (HP3.out.set2 (q := wr.heap.size) (by omega) _ _).kb, cells4 (HP3.out.set2 (q := wr.heap.size) (by omega) _ _).kt, cells2 (HP3.out.set2 (q := wr.heap.size) (by omega) _ _).kp0⟩ | exact ⟨cells9 HP3.out.kb, cells4 HP3.out.kt, cells2 HP3.out.kp0⟩ | exact ⟨cells9 (HP3.out.alloc _).kb, cells4 (HP3.out.alloc _).kt, cells2 (HP3.out.alloc _).kp0⟩ | exact ⟨cells9 HPk.out.kb, cells4 HPk.out.kt, cells2 HPk.out.kp0⟩ | exact ⟨cells9 (HPk.out.alloc _).kb, cells4 (HPk.out.alloc _).kt, cells2 (HPk.out.alloc _).kp0⟩ | go_keep)
              ((go_at_call 52; with_reducible refine (HTk.out _).mono ?_; rintro e3 w3 ⟨rfl, hb3⟩; have hD3 : Below wr.heap.size wr w3 := below_then (by (repeat (first | (with_reducible assumption) | (with_reducible exact Below.refl _ _) | (with_reducible refine below_drewN' ?_ _) | (with_reducible refine Below.drew ?_) | ((with_reducible refine Below.alloc ?_ ?_ _); rotate_left; focus (first | (simp; done) | (simp; omega) | omega)) | ((with_reducible refine Below.setCell ?_ ?_ _); rotate_left; focus (first | (simp; done) | (simp; omega) | omega))))) (by first | omega | (simp; done) | (simp; omega)) hb3; have HP3 := Lib.hid (HPk.out.below hD3); have sq3 := hb3.size; (first | simp at sq3 | skip); (first | (refine (fun (hg : w3.heap[wr.heap.size]? = some (.cells #[.int .i64 0, .int .i64 0] 38 (0, 0))) => ?_) ?_; rotate_left; (focus ((repeat (first | exact heap_alloc_new _ _ | rw [heap_drew1] | (refine (hb3.block _ ?_).trans ?_; (focus (first | omega | (simp; done) | (simp; omega)))))); all_goals fail)); obtain ⟨gg0, gg1, ggf⟩ := blk2 hg) | skip)))
            all_goals
              go_upto_region 15 with fail
              first
                | (have hq4 := res2 hg (.int .i64 x0) (.int .i64 y0); have HP4 := Lib.hid (HP3.out.set2 (q := wr.heap.size) (by omega) (.int .i64 x0) (.int .i64 y0)); generalize (w3.setCell ⟨wr.heap.size, 0, none⟩ (.int .i64 x0)).setCell ⟨wr.heap.size, 1, none⟩ (.int .i64 y0) = w4 at *)
                | (have hq4 := heap_alloc_new w3 (.cells #[.int .i64 x0, .int .i64 y0] 38); have HP4 := Lib.hid (HP3.out.alloc (.cells #[.int .i64 x0, .int .i64 y0] 38)); generalize w3.alloc (.cells #[.int .i64 x0, .int .i64 y0] 38) = w4 at *)
              have hz4b : w.heap.size + 1 < w4.heap.size := by have := HP4.out.sz; omega
              clear HP3
              obtain ⟨z0', z1', z2', z3', z4', z5', z6', z7', zf'⟩ := blk8 HP4.out.kz
              go_wp2_with fail
              obtain ⟨s0, s1, s2, s3, s4, s5, s6, s7, -⟩ := blk8 (res8 HP4.out.kz (.int .i64 0) (.int .i64 0) (.int .i64 0) (.int .i64 0) (.int .i64 0) (.int .i64 0) (.int .i64 0) (.int .i64 0))
              (try simp only [Exit.inBlock, Exit.then]); refine bodyPost_ret (by simp [results, Try.results29, go_sem, s0, s1, s2, s3, s4, s5, s6, s7]; try rfl) rfl ?_
              exact ⟨by rw [HK5.out]; simp only [qmV_no (show (3 : Int) ≠ 0 by decide)], by repeat (first | with_reducible exact HP4.out.bw | with_reducible refine Below.setCell ?_ (by simp; try omega) _ | with_reducible refine Below.alloc ?_ (by simp; try omega) _)⟩
          · have HTk := Lib.hid HT0.out
            rw [hsp] at HTk
            obtain ⟨Av, cv, rfl⟩ := OwnQ.shapeQ (n := 0) hown rfl
            clear hown
            go_wp2_with fail
            go_region_held3 (fun w' => (w'.cell? ⟨w.heap.size, 0, none⟩ = some (.int .i64 a) ∧ w'.cell? ⟨w.heap.size, 1, none⟩ = some (.int .i64 b) ∧ w'.cell? ⟨w.heap.size, 2, none⟩ = some (.int .i64 c) ∧ w'.cell? ⟨w.heap.size, 3, none⟩ = some (.int .i64 d) ∧ w'.cell? ⟨w.heap.size, 4, none⟩ = some (.int .i64 e) ∧ w'.cell? ⟨w.heap.size, 5, none⟩ = some (.int .i64 f) ∧ w'.cell? ⟨w.heap.size, 6, none⟩ = some (.int .i64 g) ∧ w'.cell? ⟨w.heap.size, 7, none⟩ = some (.int .i64 h) ∧ w'.cell? ⟨w.heap.size, 8, none⟩ = some (.int .i64 i)) ∧ (w'.cell? ⟨w1.heap.size + 1 + 1 + 1 + 1, 0, none⟩ = some (.slice (some ⟨w1.heap.size, 0, none⟩) 2 2) ∧ w'.cell? ⟨w1.heap.size + 1 + 1 + 1 + 1, 1, none⟩ = some (.slice (some ⟨w1.heap.size + 1, 0, none⟩) 2 2) ∧ w'.cell? ⟨w1.heap.size + 1 + 1 + 1 + 1, 2, none⟩ = some (.slice (some ⟨w1.heap.size + 1 + 1, 0, none⟩) 2 2) ∧ w'.cell? ⟨w1.heap.size + 1 + 1 + 1 + 1, 3, none⟩ = some (.slice (some ⟨w1.heap.size + 1 + 1 + 1, 0, none⟩) 2 2)) ∧ (w'.cell? ⟨w1.heap.size, 0, none⟩ = some (.int .i64 0) ∧ w'.cell? ⟨w1.heap.size, 1, none⟩ = some (.int .i64 0)))
              (first | exact ⟨cells9 (HP3.out.set2 (q := wr.heap.size) (by omega) _ _).kb, cells4 (HP3.out.set2 (q := wr.heap.size) (by omega) _ _).kt, cells2 (HP3.out.set2 (q := wr.heap.size) (by omega) _ _).kp0⟩ | exact ⟨cells9 HP3.out.kb, cells4 HP3.out.kt, cells2 HP3.out.kp0⟩ | exact ⟨cells9 (HP3.out.alloc _).kb, cells4 (HP3.out.alloc _).kt, cells2 (HP3.out.alloc _).kp0⟩ | exact ⟨cells9 HPk.out.kb, cells4 HPk.out.kt, cells2 HPk.out.kp0⟩ | exact ⟨cells9 (HPk.out.alloc _).kb, cells4 (HPk.out.alloc _).kt, cells2 (HPk.out.alloc _).kp0⟩ | go_keep)
              ((go_at_call 52; with_reducible refine (HTk.out _).mono ?_; rintro e3 w3 ⟨rfl, hb3⟩; have hD3 : Below wr.heap.size wr w3 := below_then (by (repeat (first | (with_reducible assumption) | (with_reducible exact Below.refl _ _) | (with_reducible refine below_drewN' ?_ _) | (with_reducible refine Below.drew ?_) | ((with_reducible refine Below.alloc ?_ ?_ _); rotate_left; focus (first | (simp; done) | (simp; omega) | omega)) | ((with_reducible refine Below.setCell ?_ ?_ _); rotate_left; focus (first | (simp; done) | (simp; omega) | omega))))) (by first | omega | (simp; done) | (simp; omega)) hb3; have HP3 := Lib.hid (HPk.out.below hD3); have sq3 := hb3.size; (first | simp at sq3 | skip); (first | (refine (fun (hg : w3.heap[wr.heap.size]? = some (.cells #[.int .i64 0, .int .i64 0] 38 (0, 0))) => ?_) ?_; rotate_left; (focus ((repeat (first | exact heap_alloc_new _ _ | rw [heap_drew1] | (refine (hb3.block _ ?_).trans ?_; (focus (first | omega | (simp; done) | (simp; omega)))))); all_goals fail)); obtain ⟨gg0, gg1, ggf⟩ := blk2 hg) | skip)))
            all_goals
              go_upto_region 16 with fail
              first
                | (have hq4 := res2 hg (.int .i64 x0) (.int .i64 y0); have HP4 := Lib.hid (HP3.out.set2 (q := wr.heap.size) (by omega) (.int .i64 x0) (.int .i64 y0)); have HO4 := Lib.hid (((HOw.out.keep hD3).setAt (g := wr.heap.size) (fun k e => (HRow.out k e).2) (p := ⟨wr.heap.size, 0, none⟩) rfl (.int .i64 x0)).setAt (g := wr.heap.size) (fun k e => (HRow.out k e).2) (p := ⟨wr.heap.size, 1, none⟩) rfl (.int .i64 y0)); generalize (w3.setCell ⟨wr.heap.size, 0, none⟩ (.int .i64 x0)).setCell ⟨wr.heap.size, 1, none⟩ (.int .i64 y0) = w4 at *)
                | (have hq4 := heap_alloc_new w3 (.cells #[.int .i64 x0, .int .i64 y0] 38); have HP4 := Lib.hid (HP3.out.alloc (.cells #[.int .i64 x0, .int .i64 y0] 38)); have HO4 := Lib.hid (OwnQ.alloc (HOw.out.keep hD3) (.cells #[.int .i64 x0, .int .i64 y0] 38)); generalize w3.alloc (.cells #[.int .i64 x0, .int .i64 y0] 38) = w4 at *)
              have hsz4 := HP4.out.sz
              obtain ⟨hx0, hx1, -⟩ := blk2 hq4
              clear HP3
              go_wp2_with (at_builtin; refine wpList_append_own_at _ rfl _ _ 87 rfl (w1.heap.size + 1 + 1 + 1 + 1 + 1) 38 iP (.agg #[.int .i64 0, .int .i64 0]) 2 16 Try.underlying87 HP.out.2.1 HP.out.2.2.1 HP.out.2.2.2.1 HP.out.2.2.2.2 rfl (by decide) _ _ _ rfl (OwnQ.alloc HO4.out _) ⟨w4.heap.size, 0, none⟩ 1 1 (pc [(x0, y0)]) rfl rfl (cells_news _ _ _) (pc_ok _) (own_maxQ (by simp) (by decide)) (own_bytesQ (by simp) (by decide)) (own_base (by omega)) ?_; intro va wa hown hga _ hata; have hoa := OwnQ.snoc (qs := [(x0, y0)]) hown rfl; clear hown)
              go_roundw
              case rel => exact ⟨1, by decide, by go_num, Lib.hid ⟨(HP4.out.alloc _).grown hga (fun k e => by have := HO4.out.rows k e; omega), .inr (.inl ⟨rfl, (by first | exact hsp | trivial), hoa⟩)⟩⟩
              case measure => simp [intOf]
        · have HOw := Lib.hid hown
          have HRow := Lib.hid (World.ownsRow.lt hown)
          obtain ⟨m0, m1, m2, m3, m4, m5, m6, m7, m8, -⟩ := blk9 HPk.out.kb
          obtain ⟨t0, t1, t2, t3, -⟩ := blk4 HPk.out.kt
          obtain ⟨p0, p1, -⟩ := blk2 HPk.out.kp1
          cases hsp : spotB x1 y1
          · have HTk := Lib.hid HT1.out
            rw [hsp] at HTk
            have HK5 : Hid (K = 3) := Lib.hid (by rw [← HKS.out]; simp [qmC, hsp])
            clear hown
            go_wp2_with fail
            go_region_held3 (fun w' => (w'.cell? ⟨w.heap.size, 0, none⟩ = some (.int .i64 a) ∧ w'.cell? ⟨w.heap.size, 1, none⟩ = some (.int .i64 b) ∧ w'.cell? ⟨w.heap.size, 2, none⟩ = some (.int .i64 c) ∧ w'.cell? ⟨w.heap.size, 3, none⟩ = some (.int .i64 d) ∧ w'.cell? ⟨w.heap.size, 4, none⟩ = some (.int .i64 e) ∧ w'.cell? ⟨w.heap.size, 5, none⟩ = some (.int .i64 f) ∧ w'.cell? ⟨w.heap.size, 6, none⟩ = some (.int .i64 g) ∧ w'.cell? ⟨w.heap.size, 7, none⟩ = some (.int .i64 h) ∧ w'.cell? ⟨w.heap.size, 8, none⟩ = some (.int .i64 i)) ∧ (w'.cell? ⟨w1.heap.size + 1 + 1 + 1 + 1, 0, none⟩ = some (.slice (some ⟨w1.heap.size, 0, none⟩) 2 2) ∧ w'.cell? ⟨w1.heap.size + 1 + 1 + 1 + 1, 1, none⟩ = some (.slice (some ⟨w1.heap.size + 1, 0, none⟩) 2 2) ∧ w'.cell? ⟨w1.heap.size + 1 + 1 + 1 + 1, 2, none⟩ = some (.slice (some ⟨w1.heap.size + 1 + 1, 0, none⟩) 2 2) ∧ w'.cell? ⟨w1.heap.size + 1 + 1 + 1 + 1, 3, none⟩ = some (.slice (some ⟨w1.heap.size + 1 + 1 + 1, 0, none⟩) 2 2)) ∧ (w'.cell? ⟨w1.heap.size + 1, 0, none⟩ = some (.int .i64 1) ∧ w'.cell? ⟨w1.heap.size + 1, 1, none⟩ = some (.int .i64 0)))
              (first | exact ⟨cells9 (HP3.out.set2 (q := wr.heap.size) (by omega) _ _).kb, cells4 (HP3.out.set2 (q := wr.heap.size) (by omega) _ _).kt, cells2 (HP3.out.set2 (q := wr.heap.size) (by omega) _ _).kp1⟩ | exact ⟨cells9 HP3.out.kb, cells4 HP3.out.kt, cells2 HP3.out.kp1⟩ | exact ⟨cells9 (HP3.out.alloc _).kb, cells4 (HP3.out.alloc _).kt, cells2 (HP3.out.alloc _).kp1⟩ | exact ⟨cells9 HPk.out.kb, cells4 HPk.out.kt, cells2 HPk.out.kp1⟩ | exact ⟨cells9 (HPk.out.alloc _).kb, cells4 (HPk.out.alloc _).kt, cells2 (HPk.out.alloc _).kp1⟩ | go_keep)
              ((go_at_call 52; with_reducible refine (HTk.out _).mono ?_; rintro e3 w3 ⟨rfl, hb3⟩; have hD3 : Below wr.heap.size wr w3 := below_then (by (repeat (first | (with_reducible assumption) | (with_reducible exact Below.refl _ _) | (with_reducible refine below_drewN' ?_ _) | (with_reducible refine Below.drew ?_) | ((with_reducible refine Below.alloc ?_ ?_ _); rotate_left; focus (first | (simp; done) | (simp; omega) | omega)) | ((with_reducible refine Below.setCell ?_ ?_ _); rotate_left; focus (first | (simp; done) | (simp; omega) | omega))))) (by first | omega | (simp; done) | (simp; omega)) hb3; have HP3 := Lib.hid (HPk.out.below hD3); have sq3 := hb3.size; (first | simp at sq3 | skip); (first | (refine (fun (hg : w3.heap[wr.heap.size]? = some (.cells #[.int .i64 0, .int .i64 0] 38 (0, 0))) => ?_) ?_; rotate_left; (focus ((repeat (first | exact heap_alloc_new _ _ | rw [heap_drew1] | (refine (hb3.block _ ?_).trans ?_; (focus (first | omega | (simp; done) | (simp; omega)))))); all_goals fail)); obtain ⟨gg0, gg1, ggf⟩ := blk2 hg) | skip)))
            all_goals
              go_upto_region 15 with fail
              first
                | (have hq4 := res2 hg (.int .i64 x1) (.int .i64 y1); have HP4 := Lib.hid (HP3.out.set2 (q := wr.heap.size) (by omega) (.int .i64 x1) (.int .i64 y1)); generalize (w3.setCell ⟨wr.heap.size, 0, none⟩ (.int .i64 x1)).setCell ⟨wr.heap.size, 1, none⟩ (.int .i64 y1) = w4 at *)
                | (have hq4 := heap_alloc_new w3 (.cells #[.int .i64 x1, .int .i64 y1] 38); have HP4 := Lib.hid (HP3.out.alloc (.cells #[.int .i64 x1, .int .i64 y1] 38)); generalize w3.alloc (.cells #[.int .i64 x1, .int .i64 y1] 38) = w4 at *)
              have hz4b : w.heap.size + 1 < w4.heap.size := by have := HP4.out.sz; omega
              clear HP3
              obtain ⟨z0', z1', z2', z3', z4', z5', z6', z7', zf'⟩ := blk8 HP4.out.kz
              go_wp2_with fail
              obtain ⟨s0, s1, s2, s3, s4, s5, s6, s7, -⟩ := blk8 (res8 HP4.out.kz (.int .i64 0) (.int .i64 0) (.int .i64 0) (.int .i64 0) (.int .i64 0) (.int .i64 0) (.int .i64 0) (.int .i64 0))
              (try simp only [Exit.inBlock, Exit.then]); refine bodyPost_ret (by simp [results, Try.results29, go_sem, s0, s1, s2, s3, s4, s5, s6, s7]; try rfl) rfl ?_
              exact ⟨by rw [HK5.out]; simp only [qmV_no (show (3 : Int) ≠ 0 by decide)], by repeat (first | with_reducible exact HP4.out.bw | with_reducible refine Below.setCell ?_ (by simp; try omega) _ | with_reducible refine Below.alloc ?_ (by simp; try omega) _)⟩
          · have HTk := Lib.hid HT1.out
            rw [hsp] at HTk
            obtain ⟨Av, cv, rfl⟩ := OwnQ.shapeQ (n := 1) hown rfl
            clear hown
            go_wp2_with fail
            go_region_held3 (fun w' => (w'.cell? ⟨w.heap.size, 0, none⟩ = some (.int .i64 a) ∧ w'.cell? ⟨w.heap.size, 1, none⟩ = some (.int .i64 b) ∧ w'.cell? ⟨w.heap.size, 2, none⟩ = some (.int .i64 c) ∧ w'.cell? ⟨w.heap.size, 3, none⟩ = some (.int .i64 d) ∧ w'.cell? ⟨w.heap.size, 4, none⟩ = some (.int .i64 e) ∧ w'.cell? ⟨w.heap.size, 5, none⟩ = some (.int .i64 f) ∧ w'.cell? ⟨w.heap.size, 6, none⟩ = some (.int .i64 g) ∧ w'.cell? ⟨w.heap.size, 7, none⟩ = some (.int .i64 h) ∧ w'.cell? ⟨w.heap.size, 8, none⟩ = some (.int .i64 i)) ∧ (w'.cell? ⟨w1.heap.size + 1 + 1 + 1 + 1, 0, none⟩ = some (.slice (some ⟨w1.heap.size, 0, none⟩) 2 2) ∧ w'.cell? ⟨w1.heap.size + 1 + 1 + 1 + 1, 1, none⟩ = some (.slice (some ⟨w1.heap.size + 1, 0, none⟩) 2 2) ∧ w'.cell? ⟨w1.heap.size + 1 + 1 + 1 + 1, 2, none⟩ = some (.slice (some ⟨w1.heap.size + 1 + 1, 0, none⟩) 2 2) ∧ w'.cell? ⟨w1.heap.size + 1 + 1 + 1 + 1, 3, none⟩ = some (.slice (some ⟨w1.heap.size + 1 + 1 + 1, 0, none⟩) 2 2)) ∧ (w'.cell? ⟨w1.heap.size + 1, 0, none⟩ = some (.int .i64 1) ∧ w'.cell? ⟨w1.heap.size + 1, 1, none⟩ = some (.int .i64 0)))
              (first | exact ⟨cells9 (HP3.out.set2 (q := wr.heap.size) (by omega) _ _).kb, cells4 (HP3.out.set2 (q := wr.heap.size) (by omega) _ _).kt, cells2 (HP3.out.set2 (q := wr.heap.size) (by omega) _ _).kp1⟩ | exact ⟨cells9 HP3.out.kb, cells4 HP3.out.kt, cells2 HP3.out.kp1⟩ | exact ⟨cells9 (HP3.out.alloc _).kb, cells4 (HP3.out.alloc _).kt, cells2 (HP3.out.alloc _).kp1⟩ | exact ⟨cells9 HPk.out.kb, cells4 HPk.out.kt, cells2 HPk.out.kp1⟩ | exact ⟨cells9 (HPk.out.alloc _).kb, cells4 (HPk.out.alloc _).kt, cells2 (HPk.out.alloc _).kp1⟩ | go_keep)
              ((go_at_call 52; with_reducible refine (HTk.out _).mono ?_; rintro e3 w3 ⟨rfl, hb3⟩; have hD3 : Below wr.heap.size wr w3 := below_then (by (repeat (first | (with_reducible assumption) | (with_reducible exact Below.refl _ _) | (with_reducible refine below_drewN' ?_ _) | (with_reducible refine Below.drew ?_) | ((with_reducible refine Below.alloc ?_ ?_ _); rotate_left; focus (first | (simp; done) | (simp; omega) | omega)) | ((with_reducible refine Below.setCell ?_ ?_ _); rotate_left; focus (first | (simp; done) | (simp; omega) | omega))))) (by first | omega | (simp; done) | (simp; omega)) hb3; have HP3 := Lib.hid (HPk.out.below hD3); have sq3 := hb3.size; (first | simp at sq3 | skip); (first | (refine (fun (hg : w3.heap[wr.heap.size]? = some (.cells #[.int .i64 0, .int .i64 0] 38 (0, 0))) => ?_) ?_; rotate_left; (focus ((repeat (first | exact heap_alloc_new _ _ | rw [heap_drew1] | (refine (hb3.block _ ?_).trans ?_; (focus (first | omega | (simp; done) | (simp; omega)))))); all_goals fail)); obtain ⟨gg0, gg1, ggf⟩ := blk2 hg) | skip)))
            all_goals
              go_upto_region 16 with fail
              first
                | (have hq4 := res2 hg (.int .i64 x1) (.int .i64 y1); have HP4 := Lib.hid (HP3.out.set2 (q := wr.heap.size) (by omega) (.int .i64 x1) (.int .i64 y1)); have HO4 := Lib.hid (((HOw.out.keep hD3).setAt (g := wr.heap.size) (fun k e => (HRow.out k e).2) (p := ⟨wr.heap.size, 0, none⟩) rfl (.int .i64 x1)).setAt (g := wr.heap.size) (fun k e => (HRow.out k e).2) (p := ⟨wr.heap.size, 1, none⟩) rfl (.int .i64 y1)); generalize (w3.setCell ⟨wr.heap.size, 0, none⟩ (.int .i64 x1)).setCell ⟨wr.heap.size, 1, none⟩ (.int .i64 y1) = w4 at *)
                | (have hq4 := heap_alloc_new w3 (.cells #[.int .i64 x1, .int .i64 y1] 38); have HP4 := Lib.hid (HP3.out.alloc (.cells #[.int .i64 x1, .int .i64 y1] 38)); have HO4 := Lib.hid (OwnQ.alloc (HOw.out.keep hD3) (.cells #[.int .i64 x1, .int .i64 y1] 38)); generalize w3.alloc (.cells #[.int .i64 x1, .int .i64 y1] 38) = w4 at *)
              have hsz4 := HP4.out.sz
              obtain ⟨hx0, hx1, -⟩ := blk2 hq4
              clear HP3
              go_wp2_with (at_builtin; refine wpList_append_own_at _ rfl _ _ 87 rfl (w1.heap.size + 1 + 1 + 1 + 1 + 1) 38 iP (.agg #[.int .i64 0, .int .i64 0]) 2 16 Try.underlying87 HP.out.2.1 HP.out.2.2.1 HP.out.2.2.2.1 HP.out.2.2.2.2 rfl (by decide) _ _ _ rfl (OwnQ.alloc HO4.out _) ⟨w4.heap.size, 0, none⟩ 1 1 (pc [(x1, y1)]) rfl rfl (cells_news _ _ _) (pc_ok _) (own_maxQ (by simp) (by decide)) (own_bytesQ (by simp) (by decide)) (own_base (by omega)) ?_; intro va wa hown hga _ hata; have hoa := OwnQ.snoc (qs := [(x1, y1)]) hown rfl; clear hown)
              go_roundw
              case rel => exact ⟨2, by decide, by go_num, Lib.hid ⟨(HP4.out.alloc _).grown hga (fun k e => by have := HO4.out.rows k e; omega), .inr (.inr (.inl ⟨rfl, g0, (by first | exact hsp | trivial), hoa⟩))⟩⟩
              case measure => simp [intOf]
        · have HOw := Lib.hid hown
          have HRow := Lib.hid (World.ownsRow.lt hown)
          obtain ⟨m0, m1, m2, m3, m4, m5, m6, m7, m8, -⟩ := blk9 HPk.out.kb
          obtain ⟨t0, t1, t2, t3, -⟩ := blk4 HPk.out.kt
          obtain ⟨p0, p1, -⟩ := blk2 HPk.out.kp2
          cases hsp : spotB x2 y2
          · have HTk := Lib.hid HT2.out
            rw [hsp] at HTk
            have HK5 : Hid (K = 3) := Lib.hid (by rw [← HKS.out]; simp [qmC, hsp])
            clear hown
            go_wp2_with fail
            go_region_held3 (fun w' => (w'.cell? ⟨w.heap.size, 0, none⟩ = some (.int .i64 a) ∧ w'.cell? ⟨w.heap.size, 1, none⟩ = some (.int .i64 b) ∧ w'.cell? ⟨w.heap.size, 2, none⟩ = some (.int .i64 c) ∧ w'.cell? ⟨w.heap.size, 3, none⟩ = some (.int .i64 d) ∧ w'.cell? ⟨w.heap.size, 4, none⟩ = some (.int .i64 e) ∧ w'.cell? ⟨w.heap.size, 5, none⟩ = some (.int .i64 f) ∧ w'.cell? ⟨w.heap.size, 6, none⟩ = some (.int .i64 g) ∧ w'.cell? ⟨w.heap.size, 7, none⟩ = some (.int .i64 h) ∧ w'.cell? ⟨w.heap.size, 8, none⟩ = some (.int .i64 i)) ∧ (w'.cell? ⟨w1.heap.size + 1 + 1 + 1 + 1, 0, none⟩ = some (.slice (some ⟨w1.heap.size, 0, none⟩) 2 2) ∧ w'.cell? ⟨w1.heap.size + 1 + 1 + 1 + 1, 1, none⟩ = some (.slice (some ⟨w1.heap.size + 1, 0, none⟩) 2 2) ∧ w'.cell? ⟨w1.heap.size + 1 + 1 + 1 + 1, 2, none⟩ = some (.slice (some ⟨w1.heap.size + 1 + 1, 0, none⟩) 2 2) ∧ w'.cell? ⟨w1.heap.size + 1 + 1 + 1 + 1, 3, none⟩ = some (.slice (some ⟨w1.heap.size + 1 + 1 + 1, 0, none⟩) 2 2)) ∧ (w'.cell? ⟨w1.heap.size + 1 + 1, 0, none⟩ = some (.int .i64 1) ∧ w'.cell? ⟨w1.heap.size + 1 + 1, 1, none⟩ = some (.int .i64 1)))
              (first | exact ⟨cells9 (HP3.out.set2 (q := wr.heap.size) (by omega) _ _).kb, cells4 (HP3.out.set2 (q := wr.heap.size) (by omega) _ _).kt, cells2 (HP3.out.set2 (q := wr.heap.size) (by omega) _ _).kp2⟩ | exact ⟨cells9 HP3.out.kb, cells4 HP3.out.kt, cells2 HP3.out.kp2⟩ | exact ⟨cells9 (HP3.out.alloc _).kb, cells4 (HP3.out.alloc _).kt, cells2 (HP3.out.alloc _).kp2⟩ | exact ⟨cells9 HPk.out.kb, cells4 HPk.out.kt, cells2 HPk.out.kp2⟩ | exact ⟨cells9 (HPk.out.alloc _).kb, cells4 (HPk.out.alloc _).kt, cells2 (HPk.out.alloc _).kp2⟩ | go_keep)
              ((go_at_call 52; with_reducible refine (HTk.out _).mono ?_; rintro e3 w3 ⟨rfl, hb3⟩; have hD3 : Below wr.heap.size wr w3 := below_then (by (repeat (first | (with_reducible assumption) | (with_reducible exact Below.refl _ _) | (with_reducible refine below_drewN' ?_ _) | (with_reducible refine Below.drew ?_) | ((with_reducible refine Below.alloc ?_ ?_ _); rotate_left; focus (first | (simp; done) | (simp; omega) | omega)) | ((with_reducible refine Below.setCell ?_ ?_ _); rotate_left; focus (first | (simp; done) | (simp; omega) | omega))))) (by first | omega | (simp; done) | (simp; omega)) hb3; have HP3 := Lib.hid (HPk.out.below hD3); have sq3 := hb3.size; (first | simp at sq3 | skip); (first | (refine (fun (hg : w3.heap[wr.heap.size]? = some (.cells #[.int .i64 0, .int .i64 0] 38 (0, 0))) => ?_) ?_; rotate_left; (focus ((repeat (first | exact heap_alloc_new _ _ | rw [heap_drew1] | (refine (hb3.block _ ?_).trans ?_; (focus (first | omega | (simp; done) | (simp; omega)))))); all_goals fail)); obtain ⟨gg0, gg1, ggf⟩ := blk2 hg) | skip)))
            all_goals
              go_upto_region 15 with fail
              first
                | (have hq4 := res2 hg (.int .i64 x2) (.int .i64 y2); have HP4 := Lib.hid (HP3.out.set2 (q := wr.heap.size) (by omega) (.int .i64 x2) (.int .i64 y2)); generalize (w3.setCell ⟨wr.heap.size, 0, none⟩ (.int .i64 x2)).setCell ⟨wr.heap.size, 1, none⟩ (.int .i64 y2) = w4 at *)
                | (have hq4 := heap_alloc_new w3 (.cells #[.int .i64 x2, .int .i64 y2] 38); have HP4 := Lib.hid (HP3.out.alloc (.cells #[.int .i64 x2, .int .i64 y2] 38)); generalize w3.alloc (.cells #[.int .i64 x2, .int .i64 y2] 38) = w4 at *)
              have hz4b : w.heap.size + 1 < w4.heap.size := by have := HP4.out.sz; omega
              clear HP3
              obtain ⟨z0', z1', z2', z3', z4', z5', z6', z7', zf'⟩ := blk8 HP4.out.kz
              go_wp2_with fail
              obtain ⟨s0, s1, s2, s3, s4, s5, s6, s7, -⟩ := blk8 (res8 HP4.out.kz (.int .i64 0) (.int .i64 0) (.int .i64 0) (.int .i64 0) (.int .i64 0) (.int .i64 0) (.int .i64 0) (.int .i64 0))
              (try simp only [Exit.inBlock, Exit.then]); refine bodyPost_ret (by simp [results, Try.results29, go_sem, s0, s1, s2, s3, s4, s5, s6, s7]; try rfl) rfl ?_
              exact ⟨by rw [HK5.out]; simp only [qmV_no (show (3 : Int) ≠ 0 by decide)], by repeat (first | with_reducible exact HP4.out.bw | with_reducible refine Below.setCell ?_ (by simp; try omega) _ | with_reducible refine Below.alloc ?_ (by simp; try omega) _)⟩
          · have HTk := Lib.hid HT2.out
            rw [hsp] at HTk
            obtain ⟨Av, cv, rfl⟩ := OwnQ.shapeQ (n := 2) hown rfl
            clear hown
            go_wp2_with fail
            go_region_held3 (fun w' => (w'.cell? ⟨w.heap.size, 0, none⟩ = some (.int .i64 a) ∧ w'.cell? ⟨w.heap.size, 1, none⟩ = some (.int .i64 b) ∧ w'.cell? ⟨w.heap.size, 2, none⟩ = some (.int .i64 c) ∧ w'.cell? ⟨w.heap.size, 3, none⟩ = some (.int .i64 d) ∧ w'.cell? ⟨w.heap.size, 4, none⟩ = some (.int .i64 e) ∧ w'.cell? ⟨w.heap.size, 5, none⟩ = some (.int .i64 f) ∧ w'.cell? ⟨w.heap.size, 6, none⟩ = some (.int .i64 g) ∧ w'.cell? ⟨w.heap.size, 7, none⟩ = some (.int .i64 h) ∧ w'.cell? ⟨w.heap.size, 8, none⟩ = some (.int .i64 i)) ∧ (w'.cell? ⟨w1.heap.size + 1 + 1 + 1 + 1, 0, none⟩ = some (.slice (some ⟨w1.heap.size, 0, none⟩) 2 2) ∧ w'.cell? ⟨w1.heap.size + 1 + 1 + 1 + 1, 1, none⟩ = some (.slice (some ⟨w1.heap.size + 1, 0, none⟩) 2 2) ∧ w'.cell? ⟨w1.heap.size + 1 + 1 + 1 + 1, 2, none⟩ = some (.slice (some ⟨w1.heap.size + 1 + 1, 0, none⟩) 2 2) ∧ w'.cell? ⟨w1.heap.size + 1 + 1 + 1 + 1, 3, none⟩ = some (.slice (some ⟨w1.heap.size + 1 + 1 + 1, 0, none⟩) 2 2)) ∧ (w'.cell? ⟨w1.heap.size + 1 + 1, 0, none⟩ = some (.int .i64 1) ∧ w'.cell? ⟨w1.heap.size + 1 + 1, 1, none⟩ = some (.int .i64 1)))
              (first | exact ⟨cells9 (HP3.out.set2 (q := wr.heap.size) (by omega) _ _).kb, cells4 (HP3.out.set2 (q := wr.heap.size) (by omega) _ _).kt, cells2 (HP3.out.set2 (q := wr.heap.size) (by omega) _ _).kp2⟩ | exact ⟨cells9 HP3.out.kb, cells4 HP3.out.kt, cells2 HP3.out.kp2⟩ | exact ⟨cells9 (HP3.out.alloc _).kb, cells4 (HP3.out.alloc _).kt, cells2 (HP3.out.alloc _).kp2⟩ | exact ⟨cells9 HPk.out.kb, cells4 HPk.out.kt, cells2 HPk.out.kp2⟩ | exact ⟨cells9 (HPk.out.alloc _).kb, cells4 (HPk.out.alloc _).kt, cells2 (HPk.out.alloc _).kp2⟩ | go_keep)
              ((go_at_call 52; with_reducible refine (HTk.out _).mono ?_; rintro e3 w3 ⟨rfl, hb3⟩; have hD3 : Below wr.heap.size wr w3 := below_then (by (repeat (first | (with_reducible assumption) | (with_reducible exact Below.refl _ _) | (with_reducible refine below_drewN' ?_ _) | (with_reducible refine Below.drew ?_) | ((with_reducible refine Below.alloc ?_ ?_ _); rotate_left; focus (first | (simp; done) | (simp; omega) | omega)) | ((with_reducible refine Below.setCell ?_ ?_ _); rotate_left; focus (first | (simp; done) | (simp; omega) | omega))))) (by first | omega | (simp; done) | (simp; omega)) hb3; have HP3 := Lib.hid (HPk.out.below hD3); have sq3 := hb3.size; (first | simp at sq3 | skip); (first | (refine (fun (hg : w3.heap[wr.heap.size]? = some (.cells #[.int .i64 0, .int .i64 0] 38 (0, 0))) => ?_) ?_; rotate_left; (focus ((repeat (first | exact heap_alloc_new _ _ | rw [heap_drew1] | (refine (hb3.block _ ?_).trans ?_; (focus (first | omega | (simp; done) | (simp; omega)))))); all_goals fail)); obtain ⟨gg0, gg1, ggf⟩ := blk2 hg) | skip)))
            all_goals
              go_upto_region 16 with fail
              first
                | (have hq4 := res2 hg (.int .i64 x2) (.int .i64 y2); have HP4 := Lib.hid (HP3.out.set2 (q := wr.heap.size) (by omega) (.int .i64 x2) (.int .i64 y2)); have HO4 := Lib.hid (((HOw.out.keep hD3).setAt (g := wr.heap.size) (fun k e => (HRow.out k e).2) (p := ⟨wr.heap.size, 0, none⟩) rfl (.int .i64 x2)).setAt (g := wr.heap.size) (fun k e => (HRow.out k e).2) (p := ⟨wr.heap.size, 1, none⟩) rfl (.int .i64 y2)); generalize (w3.setCell ⟨wr.heap.size, 0, none⟩ (.int .i64 x2)).setCell ⟨wr.heap.size, 1, none⟩ (.int .i64 y2) = w4 at *)
                | (have hq4 := heap_alloc_new w3 (.cells #[.int .i64 x2, .int .i64 y2] 38); have HP4 := Lib.hid (HP3.out.alloc (.cells #[.int .i64 x2, .int .i64 y2] 38)); have HO4 := Lib.hid (OwnQ.alloc (HOw.out.keep hD3) (.cells #[.int .i64 x2, .int .i64 y2] 38)); generalize w3.alloc (.cells #[.int .i64 x2, .int .i64 y2] 38) = w4 at *)
              have hsz4 := HP4.out.sz
              obtain ⟨hx0, hx1, -⟩ := blk2 hq4
              clear HP3
              go_wp2_with (at_builtin; refine wpList_append_own_at _ rfl _ _ 87 rfl (w1.heap.size + 1 + 1 + 1 + 1 + 1) 38 iP (.agg #[.int .i64 0, .int .i64 0]) 2 16 Try.underlying87 HP.out.2.1 HP.out.2.2.1 HP.out.2.2.2.1 HP.out.2.2.2.2 rfl (by decide) _ _ _ rfl (OwnQ.alloc HO4.out _) ⟨w4.heap.size, 0, none⟩ 1 1 (pc [(x2, y2)]) rfl rfl (cells_news _ _ _) (pc_ok _) (own_maxQ (by simp) (by decide)) (own_bytesQ (by simp) (by decide)) (own_base (by omega)) ?_; intro va wa hown hga _ hata; have hoa := OwnQ.snoc (qs := [(x2, y2)]) hown rfl; clear hown)
              go_roundw
              case rel => exact ⟨3, by decide, by go_num, Lib.hid ⟨(HP4.out.alloc _).grown hga (fun k e => by have := HO4.out.rows k e; omega), .inr (.inr (.inr (.inl ⟨rfl, g0, g1, (by first | exact hsp | trivial), hoa⟩)))⟩⟩
              case measure => simp [intOf]
        · have HOw := Lib.hid hown
          have HRow := Lib.hid (World.ownsRow.lt hown)
          obtain ⟨m0, m1, m2, m3, m4, m5, m6, m7, m8, -⟩ := blk9 HPk.out.kb
          obtain ⟨t0, t1, t2, t3, -⟩ := blk4 HPk.out.kt
          obtain ⟨p0, p1, -⟩ := blk2 HPk.out.kp3
          cases hsp : spotB x3 y3
          · have HTk := Lib.hid HT3.out
            rw [hsp] at HTk
            have HK5 : Hid (K = 3) := Lib.hid (by rw [← HKS.out]; simp [qmC, hsp])
            clear hown
            go_wp2_with fail
            go_region_held3 (fun w' => (w'.cell? ⟨w.heap.size, 0, none⟩ = some (.int .i64 a) ∧ w'.cell? ⟨w.heap.size, 1, none⟩ = some (.int .i64 b) ∧ w'.cell? ⟨w.heap.size, 2, none⟩ = some (.int .i64 c) ∧ w'.cell? ⟨w.heap.size, 3, none⟩ = some (.int .i64 d) ∧ w'.cell? ⟨w.heap.size, 4, none⟩ = some (.int .i64 e) ∧ w'.cell? ⟨w.heap.size, 5, none⟩ = some (.int .i64 f) ∧ w'.cell? ⟨w.heap.size, 6, none⟩ = some (.int .i64 g) ∧ w'.cell? ⟨w.heap.size, 7, none⟩ = some (.int .i64 h) ∧ w'.cell? ⟨w.heap.size, 8, none⟩ = some (.int .i64 i)) ∧ (w'.cell? ⟨w1.heap.size + 1 + 1 + 1 + 1, 0, none⟩ = some (.slice (some ⟨w1.heap.size, 0, none⟩) 2 2) ∧ w'.cell? ⟨w1.heap.size + 1 + 1 + 1 + 1, 1, none⟩ = some (.slice (some ⟨w1.heap.size + 1, 0, none⟩) 2 2) ∧ w'.cell? ⟨w1.heap.size + 1 + 1 + 1 + 1, 2, none⟩ = some (.slice (some ⟨w1.heap.size + 1 + 1, 0, none⟩) 2 2) ∧ w'.cell? ⟨w1.heap.size + 1 + 1 + 1 + 1, 3, none⟩ = some (.slice (some ⟨w1.heap.size + 1 + 1 + 1, 0, none⟩) 2 2)) ∧ (w'.cell? ⟨w1.heap.size + 1 + 1 + 1, 0, none⟩ = some (.int .i64 0) ∧ w'.cell? ⟨w1.heap.size + 1 + 1 + 1, 1, none⟩ = some (.int .i64 1)))
              (first | exact ⟨cells9 (HP3.out.set2 (q := wr.heap.size) (by omega) _ _).kb, cells4 (HP3.out.set2 (q := wr.heap.size) (by omega) _ _).kt, cells2 (HP3.out.set2 (q := wr.heap.size) (by omega) _ _).kp3⟩ | exact ⟨cells9 HP3.out.kb, cells4 HP3.out.kt, cells2 HP3.out.kp3⟩ | exact ⟨cells9 (HP3.out.alloc _).kb, cells4 (HP3.out.alloc _).kt, cells2 (HP3.out.alloc _).kp3⟩ | exact ⟨cells9 HPk.out.kb, cells4 HPk.out.kt, cells2 HPk.out.kp3⟩ | exact ⟨cells9 (HPk.out.alloc _).kb, cells4 (HPk.out.alloc _).kt, cells2 (HPk.out.alloc _).kp3⟩ | go_keep)
              ((go_at_call 52; with_reducible refine (HTk.out _).mono ?_; rintro e3 w3 ⟨rfl, hb3⟩; have hD3 : Below wr.heap.size wr w3 := below_then (by (repeat (first | (with_reducible assumption) | (with_reducible exact Below.refl _ _) | (with_reducible refine below_drewN' ?_ _) | (with_reducible refine Below.drew ?_) | ((with_reducible refine Below.alloc ?_ ?_ _); rotate_left; focus (first | (simp; done) | (simp; omega) | omega)) | ((with_reducible refine Below.setCell ?_ ?_ _); rotate_left; focus (first | (simp; done) | (simp; omega) | omega))))) (by first | omega | (simp; done) | (simp; omega)) hb3; have HP3 := Lib.hid (HPk.out.below hD3); have sq3 := hb3.size; (first | simp at sq3 | skip); (first | (refine (fun (hg : w3.heap[wr.heap.size]? = some (.cells #[.int .i64 0, .int .i64 0] 38 (0, 0))) => ?_) ?_; rotate_left; (focus ((repeat (first | exact heap_alloc_new _ _ | rw [heap_drew1] | (refine (hb3.block _ ?_).trans ?_; (focus (first | omega | (simp; done) | (simp; omega)))))); all_goals fail)); obtain ⟨gg0, gg1, ggf⟩ := blk2 hg) | skip)))
            all_goals
              go_upto_region 15 with fail
              first
                | (have hq4 := res2 hg (.int .i64 x3) (.int .i64 y3); have HP4 := Lib.hid (HP3.out.set2 (q := wr.heap.size) (by omega) (.int .i64 x3) (.int .i64 y3)); generalize (w3.setCell ⟨wr.heap.size, 0, none⟩ (.int .i64 x3)).setCell ⟨wr.heap.size, 1, none⟩ (.int .i64 y3) = w4 at *)
                | (have hq4 := heap_alloc_new w3 (.cells #[.int .i64 x3, .int .i64 y3] 38); have HP4 := Lib.hid (HP3.out.alloc (.cells #[.int .i64 x3, .int .i64 y3] 38)); generalize w3.alloc (.cells #[.int .i64 x3, .int .i64 y3] 38) = w4 at *)
              have hz4b : w.heap.size + 1 < w4.heap.size := by have := HP4.out.sz; omega
              clear HP3
              obtain ⟨z0', z1', z2', z3', z4', z5', z6', z7', zf'⟩ := blk8 HP4.out.kz
              go_wp2_with fail
              obtain ⟨s0, s1, s2, s3, s4, s5, s6, s7, -⟩ := blk8 (res8 HP4.out.kz (.int .i64 0) (.int .i64 0) (.int .i64 0) (.int .i64 0) (.int .i64 0) (.int .i64 0) (.int .i64 0) (.int .i64 0))
              (try simp only [Exit.inBlock, Exit.then]); refine bodyPost_ret (by simp [results, Try.results29, go_sem, s0, s1, s2, s3, s4, s5, s6, s7]; try rfl) rfl ?_
              exact ⟨by rw [HK5.out]; simp only [qmV_no (show (3 : Int) ≠ 0 by decide)], by repeat (first | with_reducible exact HP4.out.bw | with_reducible refine Below.setCell ?_ (by simp; try omega) _ | with_reducible refine Below.alloc ?_ (by simp; try omega) _)⟩
          · have HTk := Lib.hid HT3.out
            rw [hsp] at HTk
            obtain ⟨Av, cv, rfl⟩ := OwnQ.shapeQ (n := 3) hown rfl
            clear hown
            go_wp2_with fail
            go_region_held3 (fun w' => (w'.cell? ⟨w.heap.size, 0, none⟩ = some (.int .i64 a) ∧ w'.cell? ⟨w.heap.size, 1, none⟩ = some (.int .i64 b) ∧ w'.cell? ⟨w.heap.size, 2, none⟩ = some (.int .i64 c) ∧ w'.cell? ⟨w.heap.size, 3, none⟩ = some (.int .i64 d) ∧ w'.cell? ⟨w.heap.size, 4, none⟩ = some (.int .i64 e) ∧ w'.cell? ⟨w.heap.size, 5, none⟩ = some (.int .i64 f) ∧ w'.cell? ⟨w.heap.size, 6, none⟩ = some (.int .i64 g) ∧ w'.cell? ⟨w.heap.size, 7, none⟩ = some (.int .i64 h) ∧ w'.cell? ⟨w.heap.size, 8, none⟩ = some (.int .i64 i)) ∧ (w'.cell? ⟨w1.heap.size + 1 + 1 + 1 + 1, 0, none⟩ = some (.slice (some ⟨w1.heap.size, 0, none⟩) 2 2) ∧ w'.cell? ⟨w1.heap.size + 1 + 1 + 1 + 1, 1, none⟩ = some (.slice (some ⟨w1.heap.size + 1, 0, none⟩) 2 2) ∧ w'.cell? ⟨w1.heap.size + 1 + 1 + 1 + 1, 2, none⟩ = some (.slice (some ⟨w1.heap.size + 1 + 1, 0, none⟩) 2 2) ∧ w'.cell? ⟨w1.heap.size + 1 + 1 + 1 + 1, 3, none⟩ = some (.slice (some ⟨w1.heap.size + 1 + 1 + 1, 0, none⟩) 2 2)) ∧ (w'.cell? ⟨w1.heap.size + 1 + 1 + 1, 0, none⟩ = some (.int .i64 0) ∧ w'.cell? ⟨w1.heap.size + 1 + 1 + 1, 1, none⟩ = some (.int .i64 1)))
              (first | exact ⟨cells9 (HP3.out.set2 (q := wr.heap.size) (by omega) _ _).kb, cells4 (HP3.out.set2 (q := wr.heap.size) (by omega) _ _).kt, cells2 (HP3.out.set2 (q := wr.heap.size) (by omega) _ _).kp3⟩ | exact ⟨cells9 HP3.out.kb, cells4 HP3.out.kt, cells2 HP3.out.kp3⟩ | exact ⟨cells9 (HP3.out.alloc _).kb, cells4 (HP3.out.alloc _).kt, cells2 (HP3.out.alloc _).kp3⟩ | exact ⟨cells9 HPk.out.kb, cells4 HPk.out.kt, cells2 HPk.out.kp3⟩ | exact ⟨cells9 (HPk.out.alloc _).kb, cells4 (HPk.out.alloc _).kt, cells2 (HPk.out.alloc _).kp3⟩ | go_keep)
              ((go_at_call 52; with_reducible refine (HTk.out _).mono ?_; rintro e3 w3 ⟨rfl, hb3⟩; have hD3 : Below wr.heap.size wr w3 := below_then (by (repeat (first | (with_reducible assumption) | (with_reducible exact Below.refl _ _) | (with_reducible refine below_drewN' ?_ _) | (with_reducible refine Below.drew ?_) | ((with_reducible refine Below.alloc ?_ ?_ _); rotate_left; focus (first | (simp; done) | (simp; omega) | omega)) | ((with_reducible refine Below.setCell ?_ ?_ _); rotate_left; focus (first | (simp; done) | (simp; omega) | omega))))) (by first | omega | (simp; done) | (simp; omega)) hb3; have HP3 := Lib.hid (HPk.out.below hD3); have sq3 := hb3.size; (first | simp at sq3 | skip); (first | (refine (fun (hg : w3.heap[wr.heap.size]? = some (.cells #[.int .i64 0, .int .i64 0] 38 (0, 0))) => ?_) ?_; rotate_left; (focus ((repeat (first | exact heap_alloc_new _ _ | rw [heap_drew1] | (refine (hb3.block _ ?_).trans ?_; (focus (first | omega | (simp; done) | (simp; omega)))))); all_goals fail)); obtain ⟨gg0, gg1, ggf⟩ := blk2 hg) | skip)))
            all_goals
              go_upto_region 16 with fail
              first
                | (have hq4 := res2 hg (.int .i64 x3) (.int .i64 y3); have HP4 := Lib.hid (HP3.out.set2 (q := wr.heap.size) (by omega) (.int .i64 x3) (.int .i64 y3)); have HO4 := Lib.hid (((HOw.out.keep hD3).setAt (g := wr.heap.size) (fun k e => (HRow.out k e).2) (p := ⟨wr.heap.size, 0, none⟩) rfl (.int .i64 x3)).setAt (g := wr.heap.size) (fun k e => (HRow.out k e).2) (p := ⟨wr.heap.size, 1, none⟩) rfl (.int .i64 y3)); generalize (w3.setCell ⟨wr.heap.size, 0, none⟩ (.int .i64 x3)).setCell ⟨wr.heap.size, 1, none⟩ (.int .i64 y3) = w4 at *)
                | (have hq4 := heap_alloc_new w3 (.cells #[.int .i64 x3, .int .i64 y3] 38); have HP4 := Lib.hid (HP3.out.alloc (.cells #[.int .i64 x3, .int .i64 y3] 38)); have HO4 := Lib.hid (OwnQ.alloc (HOw.out.keep hD3) (.cells #[.int .i64 x3, .int .i64 y3] 38)); generalize w3.alloc (.cells #[.int .i64 x3, .int .i64 y3] 38) = w4 at *)
              have hsz4 := HP4.out.sz
              obtain ⟨hx0, hx1, -⟩ := blk2 hq4
              clear HP3
              go_wp2_with (at_builtin; refine wpList_append_own_at _ rfl _ _ 87 rfl (w1.heap.size + 1 + 1 + 1 + 1 + 1) 38 iP (.agg #[.int .i64 0, .int .i64 0]) 2 16 Try.underlying87 HP.out.2.1 HP.out.2.2.1 HP.out.2.2.2.1 HP.out.2.2.2.2 rfl (by decide) _ _ _ rfl (OwnQ.alloc HO4.out _) ⟨w4.heap.size, 0, none⟩ 1 1 (pc [(x3, y3)]) rfl rfl (cells_news _ _ _) (pc_ok _) (own_maxQ (by simp) (by decide)) (own_bytesQ (by simp) (by decide)) (own_base (by omega)) ?_; intro va wa hown hga _ hata; have hoa := OwnQ.snoc (qs := [(x3, y3)]) hown rfl; clear hown)
              go_roundw
              case rel => exact ⟨4, by decide, by go_num, Lib.hid ⟨(HP4.out.alloc _).grown hga (fun k e => by have := HO4.out.rows k e; omega), .inr (.inr (.inr (.inr ⟨rfl, g0, g1, g2, (by first | exact hsp | trivial), hoa⟩)))⟩⟩
              case measure => simp [intOf]
        · have HKQ : Hid (qmC true true true (quadB x0 y0 x1 y1 x2 y2 x3 y3) = K) := Lib.hid (by rw [← HKS.out]; simp [g0, g1, g2, g3])
          obtain ⟨gs, cs, rfl, hgB, hgw, hcs⟩ := hown.cells (by simp)
          have a0 := (hcs 0 (by simp)).1
          have a1 := (hcs 0 (by simp)).2
          have a2 := (hcs 1 (by simp)).1
          have a3 := (hcs 1 (by simp)).2
          have a4 := (hcs 2 (by simp)).1
          have a5 := (hcs 2 (by simp)).2
          have a6 := (hcs 3 (by simp)).1
          have a7 := (hcs 3 (by simp)).2
          simp only [nthP, List.getD_cons_zero, List.getD_cons_succ, Nat.zero_mul, Nat.zero_add, Nat.one_mul, Nat.reduceMul, Nat.reduceAdd] at a0 a1 a2 a3 a4 a5 a6 a7
          clear hcs hown
          go_wp2_with fail
          refine wp_region_qat [] 14 [Mkr.blk (fun g => .pointer (some ⟨g, 0, none⟩)) (.cells #[.int .i64 0, .int .i64 0, .int .i64 0, .int .i64 0, .int .i64 0, .int .i64 0, .int .i64 0, .int .i64 0] 48)] (by kernel_rfl) (by kernel_rfl) ?_
          intro hbc
          simp only [List.take_succ_cons, List.take_zero, List.drop_succ_cons, List.drop_zero]
          repeat (first
            | refine wpQ_pass rfl ?_
            | (refine wpQ_step rfl (fun K hK => ?_)
               go_simp
               first
                 | (refine hK _ ?_; clear hK K)))
          refine wpQ_nil ⟨?_, ?_⟩
          · refine ⟨fun z => ?_, rfl⟩
            · set_option maxRecDepth 100000 in refine makes_blk ?_
              go_simp
          intro u5a g5a hi5a hg5a hl5a n5a w5 hb5 hF5
          clear hbc
          obtain ⟨hc5, hf5⟩ := bcell hb5
          obtain ⟨_, hs5a, ⟨rfl, rfl, hF5a⟩⟩ := hF5
          have hz5a : w.heap.size < w5.heap.size := (by have := hb5.size; first | omega | (simp at this; omega))
          have hcg5a := blk_cell hF5a
          have hfg5a := blk_frozen hF5a
          try simp only [World.size_alloc] at hg5a
          clear n5a
          try simp only [Act.put, List.setIfInBounds_toArray, List.set_cons_succ, List.set_cons_zero]
          have HP5 := Lib.hid (HPk.out.below hb5)
          have hg5' : w1.heap.size + 1 + 1 + 1 + 1 < g5a := by omega
          clear a0 a1 a2 a3 a4 a5 a6 a7
          go_upto_region 18 with fail
          have hq := res8 hF5a (.int .i64 x0) (.int .i64 y0) (.int .i64 x1) (.int .i64 y1) (.int .i64 x2) (.int .i64 y2) (.int .i64 x3) (.int .i64 y3)
          have HP6 : Hid (QSP w 31 48 2 69 w1.heap.size a b c d e f g h i (w5 |>.setCell ⟨g5a, 0, none⟩ (.int .i64 x0) |>.setCell ⟨g5a, 1, none⟩ (.int .i64 y0) |>.setCell ⟨g5a, 2, none⟩ (.int .i64 x1) |>.setCell ⟨g5a, 3, none⟩ (.int .i64 y1) |>.setCell ⟨g5a, 4, none⟩ (.int .i64 x2) |>.setCell ⟨g5a, 5, none⟩ (.int .i64 y2) |>.setCell ⟨g5a, 6, none⟩ (.int .i64 x3) |>.setCell ⟨g5a, 7, none⟩ (.int .i64 y3))) := Lib.hid (((HP5.out.set2 hg5' _ _).setm hg5' 2 3 _ _).setm hg5' 4 5 _ _ |>.setm hg5' 6 7 _ _)
          generalize (w5 |>.setCell ⟨g5a, 0, none⟩ (.int .i64 x0) |>.setCell ⟨g5a, 1, none⟩ (.int .i64 y0) |>.setCell ⟨g5a, 2, none⟩ (.int .i64 x1) |>.setCell ⟨g5a, 3, none⟩ (.int .i64 y1) |>.setCell ⟨g5a, 4, none⟩ (.int .i64 x2) |>.setCell ⟨g5a, 5, none⟩ (.int .i64 y2) |>.setCell ⟨g5a, 6, none⟩ (.int .i64 x3) |>.setCell ⟨g5a, 7, none⟩ (.int .i64 y3)) = w6 at *
          have hz6a : g5a < w6.heap.size := lt_of_block hq
          have hz6b : w.heap.size + 1 < w6.heap.size := by have := HP6.out.sz; omega
          clear hb5 hc5 hf5 HP5
          obtain ⟨d0, d1, d2, d3, d4, d5, d6, d7, -⟩ := blk8 hq
          cases hqq : quadB x0 y0 x1 y1 x2 y2 x3 y3
          · rw [hqq] at HIQ
            have HK5 : Hid (K = 5) := Lib.hid (by rw [← HKQ.out, hqq]; rfl)
            go_wp2_with fail
            go_at_call 55
            with_reducible refine (HIQ.out _).mono ?_
            rintro e7 w7 ⟨rfl, hb7⟩
            have HP7 := Lib.hid (HP6.out.below hb7)
            have hz7b : w.heap.size + 1 < w7.heap.size := by have := HP7.out.sz; omega
            clear hb7 d0 d1 d2 d3 d4 d5 d6 d7
            obtain ⟨z0', z1', z2', z3', z4', z5', z6', z7', zf'⟩ := blk8 HP7.out.kz
            go_wp2_with fail
            obtain ⟨s0, s1, s2, s3, s4, s5, s6, s7, -⟩ := blk8 (res8 HP7.out.kz (.int .i64 0) (.int .i64 0) (.int .i64 0) (.int .i64 0) (.int .i64 0) (.int .i64 0) (.int .i64 0) (.int .i64 0))
            (try simp only [Exit.inBlock, Exit.then]); refine bodyPost_ret (by simp [results, Try.results29, go_sem, s0, s1, s2, s3, s4, s5, s6, s7]; try rfl) rfl ?_
            exact ⟨by rw [HK5.out]; simp only [qmV_no (show (5 : Int) ≠ 0 by decide)], by repeat (first | with_reducible exact HP7.out.bw | with_reducible refine Below.setCell ?_ (by simp; try omega) _ | with_reducible refine Below.alloc ?_ (by simp; try omega) _)⟩
          · rw [hqq] at HIQ
            have HK5 : Hid (K = 0) := Lib.hid (by rw [← HKQ.out, hqq]; rfl)
            go_wp2_with fail
            go_at_call 55
            with_reducible refine (HIQ.out _).mono ?_
            rintro e7 w7 ⟨rfl, hb7⟩
            have HP7 := Lib.hid (HP6.out.below hb7)
            have hz7b : w.heap.size + 1 < w7.heap.size := by have := HP7.out.sz; omega
            have hq7 := blk_below hq hb7 hz6a
            clear hb7 d0 d1 d2 d3 d4 d5 d6 d7
            obtain ⟨d0, d1, d2, d3, d4, d5, d6, d7, -⟩ := blk8 hq7
            obtain ⟨z0', z1', z2', z3', z4', z5', z6', z7', zf'⟩ := blk8 HP7.out.kz
            go_wp2_with fail
            obtain ⟨s0, s1, s2, s3, s4, s5, s6, s7, -⟩ := blk8 (res8 HP7.out.kz (.int .i64 x0) (.int .i64 y0) (.int .i64 x1) (.int .i64 y1) (.int .i64 x2) (.int .i64 y2) (.int .i64 x3) (.int .i64 y3))
            (try simp only [Exit.inBlock, Exit.then]); refine bodyPost_ret (by simp [results, Try.results29, go_sem, s0, s1, s2, s3, s4, s5, s6, s7]; try rfl) rfl ?_
            exact ⟨by rw [HK5.out]; simp only [qmV_0], by repeat (first | with_reducible exact HP7.out.bw | with_reducible refine Below.setCell ?_ (by simp; try omega) _ | with_reducible refine Below.alloc ?_ (by simp; try omega) _)⟩
end Go.Proofs.Ytnhhbpdjapccpaa
