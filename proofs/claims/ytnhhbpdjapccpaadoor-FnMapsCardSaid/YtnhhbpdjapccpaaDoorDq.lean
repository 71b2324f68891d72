/-
  What the laws of chapters 24 and 25 draw: spots, quads, maps, points. Printed by gen/c24d.py.
-/
import Derived.Test.YtnhhbpdjapccpaaDoorBx
import Derived.Test.YtnhhbpdjapccpaaDoorC25W
import Derived.Test.YtnhhbpdjapccpaaDoorSlice
import Derived.Deep.RegionHeld3
import Derived.Deep.RegionWith
import Derived.Deep.DeepCutAuto
namespace Go.Proofs.YtnhhbpdjapccpaaDoor
set_option linter.unusedSimpArgs false
open Go.RowKit

theorem blk2 {w : World} {b t : Nat} {x0 x1 : Value} (h : w.heap[b]? = some (.cells #[x0, x1] t (0, 0))) :
    w.cell? ⟨b, 0, none⟩ = some x0 ∧ w.cell? ⟨b, 1, none⟩ = some x1 ∧ ∀ k, w.frozen? ⟨b, k, none⟩ = false := by
  refine ⟨?_, ?_, fun k => ?_⟩ <;> simp [World.cell?, World.frozen?, h]
theorem res2 {w : World} {b t : Nat} {x0 x1 : Value} (h : w.heap[b]? = some (.cells #[x0, x1] t (0, 0))) (y0 y1 : Value) :
    (w |>.setCell ⟨b, 0, none⟩ y0 |>.setCell ⟨b, 1, none⟩ y1).heap[b]? = some (.cells #[y0, y1] t (0, 0)) := by
  have h0 := blk3_set (k := 0) (u := y0) h
  have h1 := blk3_set (k := 1) (u := y1) h0
  simpa using h1
theorem blk8 {w : World} {b t : Nat} {x0 x1 x2 x3 x4 x5 x6 x7 : Value} (h : w.heap[b]? = some (.cells #[x0, x1, x2, x3, x4, x5, x6, x7] t (0, 0))) :
    w.cell? ⟨b, 0, none⟩ = some x0 ∧ w.cell? ⟨b, 1, none⟩ = some x1 ∧ w.cell? ⟨b, 2, none⟩ = some x2 ∧ w.cell? ⟨b, 3, none⟩ = some x3 ∧ w.cell? ⟨b, 4, none⟩ = some x4 ∧ w.cell? ⟨b, 5, none⟩ = some x5 ∧ w.cell? ⟨b, 6, none⟩ = some x6 ∧ w.cell? ⟨b, 7, none⟩ = some x7 ∧ ∀ k, w.frozen? ⟨b, k, none⟩ = false := by
  refine ⟨?_, ?_, ?_, ?_, ?_, ?_, ?_, ?_, fun k => ?_⟩ <;> simp [World.cell?, World.frozen?, h]
theorem res8 {w : World} {b t : Nat} {x0 x1 x2 x3 x4 x5 x6 x7 : Value} (h : w.heap[b]? = some (.cells #[x0, x1, x2, x3, x4, x5, x6, x7] t (0, 0))) (y0 y1 y2 y3 y4 y5 y6 y7 : Value) :
    (w |>.setCell ⟨b, 0, none⟩ y0 |>.setCell ⟨b, 1, none⟩ y1 |>.setCell ⟨b, 2, none⟩ y2 |>.setCell ⟨b, 3, none⟩ y3 |>.setCell ⟨b, 4, none⟩ y4 |>.setCell ⟨b, 5, none⟩ y5 |>.setCell ⟨b, 6, none⟩ y6 |>.setCell ⟨b, 7, none⟩ y7).heap[b]? = some (.cells #[y0, y1, y2, y3, y4, y5, y6, y7] t (0, 0)) := by
  have h0 := blk3_set (k := 0) (u := y0) h
  have h1 := blk3_set (k := 1) (u := y1) h0
  have h2 := blk3_set (k := 2) (u := y2) h1
  have h3 := blk3_set (k := 3) (u := y3) h2
  have h4 := blk3_set (k := 4) (u := y4) h3
  have h5 := blk3_set (k := 5) (u := y5) h4
  have h6 := blk3_set (k := 6) (u := y6) h5
  have h7 := blk3_set (k := 7) (u := y7) h6
  simpa using h7
theorem blk9 {w : World} {b t : Nat} {x0 x1 x2 x3 x4 x5 x6 x7 x8 : Value} (h : w.heap[b]? = some (.cells #[x0, x1, x2, x3, x4, x5, x6, x7, x8] t (0, 0))) :
    w.cell? ⟨b, 0, none⟩ = some x0 ∧ w.cell? ⟨b, 1, none⟩ = some x1 ∧ w.cell? ⟨b, 2, none⟩ = some x2 ∧ w.cell? ⟨b, 3, none⟩ = some x3 ∧ w.cell? ⟨b, 4, none⟩ = some x4 ∧ w.cell? ⟨b, 5, none⟩ = some x5 ∧ w.cell? ⟨b, 6, none⟩ = some x6 ∧ w.cell? ⟨b, 7, none⟩ = some x7 ∧ w.cell? ⟨b, 8, none⟩ = some x8 ∧ ∀ k, w.frozen? ⟨b, k, none⟩ = false := by
  refine ⟨?_, ?_, ?_, ?_, ?_, ?_, ?_, ?_, ?_, fun k => ?_⟩ <;> simp [World.cell?, World.frozen?, h]
theorem res9 {w : World} {b t : Nat} {x0 x1 x2 x3 x4 x5 x6 x7 x8 : Value} (h : w.heap[b]? = some (.cells #[x0, x1, x2, x3, x4, x5, x6, x7, x8] t (0, 0))) (y0 y1 y2 y3 y4 y5 y6 y7 y8 : Value) :
    (w |>.setCell ⟨b, 0, none⟩ y0 |>.setCell ⟨b, 1, none⟩ y1 |>.setCell ⟨b, 2, none⟩ y2 |>.setCell ⟨b, 3, none⟩ y3 |>.setCell ⟨b, 4, none⟩ y4 |>.setCell ⟨b, 5, none⟩ y5 |>.setCell ⟨b, 6, none⟩ y6 |>.setCell ⟨b, 7, none⟩ y7 |>.setCell ⟨b, 8, none⟩ y8).heap[b]? = some (.cells #[y0, y1, y2, y3, y4, y5, y6, y7, y8] t (0, 0)) := by
  have h0 := blk3_set (k := 0) (u := y0) h
  have h1 := blk3_set (k := 1) (u := y1) h0
  have h2 := blk3_set (k := 2) (u := y2) h1
  have h3 := blk3_set (k := 3) (u := y3) h2
  have h4 := blk3_set (k := 4) (u := y4) h3
  have h5 := blk3_set (k := 5) (u := y5) h4
  have h6 := blk3_set (k := 6) (u := y6) h5
  have h7 := blk3_set (k := 7) (u := y7) h6
  have h8 := blk3_set (k := 8) (u := y8) h7
  simpa using h8
/-- While draws go on: a block g0 that stays as it is, a block g1 of numbers xs. -/
structure QP (s : SP) (w0 : World) (g0 g1 : Nat) (o0 : Obj) (t1 : Nat) (xs : List Int) (w : World) : Prop where
  sz : s.b < w0.heap.size ∧ w0.heap.size ≤ g0 ∧ g0 < g1 ∧ g1 < w.heap.size
  bx : BX s w0.heap.size w0 w
  inv : s.I w
  k0 : w.heap[g0]? = some o0
  k1 : RowAt w g1 t1 xs
section
variable {s : SP} {w0 w w' : World} {g0 g1 : Nat} {o0 : Obj} {t1 : Nat} {xs : List Int}
theorem QP.step (h : QP s w0 g0 g1 o0 t1 xs w) (hb : BX s w.heap.size w w') : QP s w0 g0 g1 o0 t1 xs w' := by
  obtain ⟨⟨h1, h2, h3, h4⟩, hB, hi, k0, k1⟩ := h
  have hs := hb.size
  exact ⟨⟨h1, h2, h3, by omega⟩, hB.trans (hb.mono (by omega)), hb.inv hi, (hb.block _ (by omega) (by omega)).trans k0, RowAt.of (hb.block _ (by omega) (by omega)) k1⟩
theorem QP.below (h : QP s w0 g0 g1 o0 t1 xs w) (hb : Below w.heap.size w w') : QP s w0 g0 g1 o0 t1 xs w' :=
  h.step (BX.of_below hb (by have := h.sz; omega))
theorem QP.drew (h : QP s w0 g0 g1 o0 t1 xs w) : QP s w0 g0 g1 o0 t1 xs w.drew := h.below (Below.refl _ _).drew
theorem QP.alloc (h : QP s w0 g0 g1 o0 t1 xs w) (o : Obj) : QP s w0 g0 g1 o0 t1 xs (w.alloc o) := h.below ((Below.refl _ _).alloc (Nat.le_refl _) o)
theorem QP.set (h : QP s w0 g0 g1 o0 t1 xs w) (k : Nat) (u : Int) : QP s w0 g0 g1 o0 t1 (xs.set k u) (w.setCell ⟨g1, k, none⟩ (.int .i64 u)) := by
  obtain ⟨⟨h1, h2, h3, h4⟩, hB, hi, k0, k1⟩ := h
  exact ⟨⟨h1, h2, h3, by simpa using h4⟩, hB.setCell (by simp; omega) (by simp; omega) _, s.st ((Below.refl _ _).setCell (by simp; omega) _) hi, blk_other k0 (by omega), k1.set u⟩
theorem QP.ints (h : QP s w0 g0 g1 o0 t1 xs w) {k : Nat} (hk : k < xs.length) : w.cell? ⟨g1, k, none⟩ = some (.int .i64 (nth xs k)) := h.k1.cell hk
theorem QP.to {ys : List Int} (h : QP s w0 g0 g1 o0 t1 xs w) (e : xs = ys) : QP s w0 g0 g1 o0 t1 ys w := e ▸ h
end
/-- The number in a cell. -/
def cellI (w : World) (g k : Nat) : Int := match w.cell? ⟨g, k, none⟩ with | some (.int .i64 v) => v | _ => 0
theorem cellI_ok {w : World} {g k : Nat} {v : Int} (h : w.cell? ⟨g, k, none⟩ = some (.int .i64 v)) : w.cell? ⟨g, k, none⟩ = some (.int .i64 (cellI w g k)) := by
  unfold cellI; rw [h]
/-- As QP, the numbers not told, how many alone. -/
def QX (s : SP) (w0 : World) (g0 g1 : Nat) (o0 : Obj) (t1 n : Nat) (w : World) : Prop := ∃ xs : List Int, xs.length = n ∧ QP s w0 g0 g1 o0 t1 xs w
section
variable {s : SP} {w0 w w' : World} {g0 g1 : Nat} {o0 : Obj} {t1 n : Nat} {xs : List Int}
theorem QP.x (h : QP s w0 g0 g1 o0 t1 xs w) (hn : xs.length = n) : QX s w0 g0 g1 o0 t1 n w := ⟨xs, hn, h⟩
theorem QX.step (h : QX s w0 g0 g1 o0 t1 n w) (hb : BX s w.heap.size w w') : QX s w0 g0 g1 o0 t1 n w' := by obtain ⟨xs, hn, h⟩ := h; exact ⟨xs, hn, h.step hb⟩
theorem QX.drew (h : QX s w0 g0 g1 o0 t1 n w) : QX s w0 g0 g1 o0 t1 n w.drew := by obtain ⟨xs, hn, h⟩ := h; exact ⟨xs, hn, h.drew⟩
theorem QX.set (h : QX s w0 g0 g1 o0 t1 n w) (k : Nat) (u : Int) : QX s w0 g0 g1 o0 t1 n (w.setCell ⟨g1, k, none⟩ (.int .i64 u)) := by obtain ⟨xs, hn, h⟩ := h; exact ⟨_, by rw [List.length_set]; exact hn, h.set k u⟩
theorem QX.inv (h : QX s w0 g0 g1 o0 t1 n w) : s.I w := by obtain ⟨xs, hn, h⟩ := h; exact h.inv
theorem QX.ci (h : QX s w0 g0 g1 o0 t1 n w) {k : Nat} (hk : k < n) : w.cell? ⟨g1, k, none⟩ = some (.int .i64 (cellI w g1 k)) := by obtain ⟨xs, hn, h⟩ := h; exact cellI_ok (h.ints (by omega))
theorem QX.free (h : QX s w0 g0 g1 o0 t1 n w) (k : Nat) : w.frozen? ⟨g1, k, none⟩ = false := by obtain ⟨xs, hn, h⟩ := h; exact h.k1.free k
theorem QX.eight (h : QX s w0 g0 g1 o0 t1 8 w) : ∃ x0 x1 x2 x3 x4 x5 x6 x7 : Int, QP s w0 g0 g1 o0 t1 [x0, x1, x2, x3, x4, x5, x6, x7] w := by
  obtain ⟨xs, hn, h⟩ := h
  match xs, hn with
  | [a, b, c, d, e, f, g, i], _ => exact ⟨a, b, c, d, e, f, g, i, h⟩
theorem QX.nine (h : QX s w0 g0 g1 o0 t1 9 w) : ∃ x0 x1 x2 x3 x4 x5 x6 x7 x8 : Int, QP s w0 g0 g1 o0 t1 [x0, x1, x2, x3, x4, x5, x6, x7, x8] w := by
  obtain ⟨xs, hn, h⟩ := h
  match xs, hn with
  | [a, b, c, d, e, f, g, i, j], _ => exact ⟨a, b, c, d, e, f, g, i, j, h⟩
end
theorem bxset {t b n c B K g k : Nat} {A : Option Addr} {bs : List Int} {a w : World} {u : Value} (h : BX (srcP t b A n c bs B) K a w) (hb : b < g) (hK : K ≤ g) : BX (srcP t b A n c bs B) K a (w.setCell ⟨g, k, none⟩ u) := BX.setCell (p := ⟨g, k, none⟩) h hK hb u
set_option maxHeartbeats 2000000 in
theorem l24Draw_any (b : Nat) (A : Option Addr) (n c : Nat) (bs : List Int) (B : Nat) (w : World) (hI : (srcP 67 b A n c bs B).I w) :
    Calls Tryd.prog 38 #[.pointer (some ⟨b, 0, none⟩)] w fun e w' =>
      ∃ u, e = .returned u ∧ (∃ x y : Int, u = .agg #[.int .i64 x, .int .i64 y]) ∧ BX (srcP 67 b A n c bs B) w.heap.size w w' := by
  have hbw := srcP_lt hI
  have HI := Lib.hid hI
  clear hI
  go_enter Tryd.func38, Tryd.ntmps38
  go_wp2_with fail
  (go_at_call 37; with_reducible refine (draw_any b A n c bs B (30) _ (bxinv (B := w.heap.size) ?_ HI) (by omega)).mono ?_; (focus (repeat (first | (with_reducible assumption) | (with_reducible exact BX.refl _ _ _) | (with_reducible refine BX.drewN ?_ _) | (with_reducible refine BX.drew ?_) | ((with_reducible refine BX.alloc ?_ ?_ _); rotate_left; (focus (first | (simp; done) | omega | (simp; omega) | (simp [srcP]; done) | (simp [srcP]; omega)))) | ((with_reducible refine BX.setCell ?_ ?_ ?_ _); rotate_left; (focus (first | (simp; done) | omega | (simp; omega) | (simp [srcP]; done) | (simp [srcP]; omega))); (focus (first | (simp; done) | omega | (simp; omega) | (simp [srcP]; done) | (simp [srcP]; omega))))))); rintro e1 w1 ⟨u1, rfl, ⟨r1, rfl, hr1a, hr1b⟩, hb1⟩; have hB1 : BX (srcP 67 b A n c bs B) w.heap.size w w1 := BX.then (by (repeat (first | (with_reducible assumption) | (with_reducible exact BX.refl _ _ _) | (with_reducible refine BX.drewN ?_ _) | (with_reducible refine BX.drew ?_) | ((with_reducible refine BX.alloc ?_ ?_ _); rotate_left; (focus (first | (simp; done) | omega | (simp; omega) | (simp [srcP]; done) | (simp [srcP]; omega)))) | ((with_reducible refine BX.setCell ?_ ?_ ?_ _); rotate_left; (focus (first | (simp; done) | omega | (simp; omega) | (simp [srcP]; done) | (simp [srcP]; omega))); (focus (first | (simp; done) | omega | (simp; omega) | (simp [srcP]; done) | (simp [srcP]; omega))))))) (by first | omega | (simp; done) | (simp; omega)) hb1; have hc1 := bxcell hb1; have hf1 := bxfrozen hb1; simp only [srcP_b] at hc1 hf1; have hz1a : w.heap.size < w1.heap.size := (by have := hb1.size; first | omega | (simp at this; omega)))
  (have hh1 := Lib.hid (show w1.heap[w.heap.size]? = some (.cells #[.int .i64 0, .int .i64 0] 31 (0, 0)) from (hb1.block (w.heap.size) (by first | omega | (simp; done) | (simp; omega) | (simp [srcP]; omega)) (by first | omega | (simp; done) | (simp; omega) | (simp [srcP]; omega))).trans (by repeat (first | (with_reducible exact rfl) | (with_reducible exact heap_alloc_new _ _) | (rw [heap_drew1]) | (rw [heap_drewN1]) | (rw [Below.heap_setCell _ _ _ _ (by first | omega | (simp; done) | (simp; omega) | (simp [srcP]; omega))]) | (rw [Below.heap_alloc _ _ _ (by first | omega | (simp; done) | (simp; omega) | (simp [srcP]; omega))])))))
  have hs1 := hb1.size
  simp only [World.size_alloc] at hs1
  have hbw1 : b < w1.heap.size := by omega
  have hbw2 : b < w1.heap.size + 1 := by omega
  clear hc1 hf1
  by_cases h1 : r1 = 0
  · subst h1
    go_wp2_with fail
    (go_at_call 37; with_reducible refine (draw_any b A n c bs B (3) _ (bxinv (B := w.heap.size) ?_ HI) (by omega)).mono ?_; (focus (repeat (first | (with_reducible assumption) | (with_reducible exact BX.refl _ _ _) | (with_reducible refine BX.drewN ?_ _) | (with_reducible refine BX.drew ?_) | ((with_reducible refine BX.alloc ?_ ?_ _); rotate_left; (focus (first | (simp; done) | omega | (simp; omega) | (simp [srcP]; done) | (simp [srcP]; omega)))) | ((with_reducible refine BX.setCell ?_ ?_ ?_ _); rotate_left; (focus (first | (simp; done) | omega | (simp; omega) | (simp [srcP]; done) | (simp [srcP]; omega))); (focus (first | (simp; done) | omega | (simp; omega) | (simp [srcP]; done) | (simp [srcP]; omega))))))); rintro e2 w2 ⟨u2, rfl, ⟨r2, rfl, hr2a, hr2b⟩, hb2⟩; have hB2 : BX (srcP 67 b A n c bs B) w.heap.size w w2 := BX.then (by (repeat (first | (with_reducible assumption) | (with_reducible exact BX.refl _ _ _) | (with_reducible refine BX.drewN ?_ _) | (with_reducible refine BX.drew ?_) | ((with_reducible refine BX.alloc ?_ ?_ _); rotate_left; (focus (first | (simp; done) | omega | (simp; omega) | (simp [srcP]; done) | (simp [srcP]; omega)))) | ((with_reducible refine BX.setCell ?_ ?_ ?_ _); rotate_left; (focus (first | (simp; done) | omega | (simp; omega) | (simp [srcP]; done) | (simp [srcP]; omega))); (focus (first | (simp; done) | omega | (simp; omega) | (simp [srcP]; done) | (simp [srcP]; omega))))))) (by first | omega | (simp; done) | (simp; omega)) hb2; have hc2 := bxcell hb2; have hf2 := bxfrozen hb2; simp only [srcP_b] at hc2 hf2; have hz2a : w.heap.size < w2.heap.size := (by have := hb2.size; first | omega | (simp at this; omega)))
    (have hh2 := Lib.hid (show w2.heap[w.heap.size]? = some (.cells #[.int .i64 0, .int .i64 0] 31 (0, 0)) from (hb2.block (w.heap.size) (by first | omega | (simp; done) | (simp; omega) | (simp [srcP]; omega)) (by first | omega | (simp; done) | (simp; omega) | (simp [srcP]; omega))).trans (by repeat (first | (with_reducible exact hh1.out) | (with_reducible exact heap_alloc_new _ _) | (rw [heap_drew1]) | (rw [heap_drewN1]) | (rw [Below.heap_setCell _ _ _ _ (by first | omega | (simp; done) | (simp; omega) | (simp [srcP]; omega))]) | (rw [Below.heap_alloc _ _ _ (by first | omega | (simp; done) | (simp; omega) | (simp [srcP]; omega))])))))
    have hh3 : w2.heap[w1.heap.size]? = some (.cells ([4000, 4001, -4001].map (Value.int .i64)).toArray 2 (0, 0)) := (hb2.block w1.heap.size (by simp) (by simp; omega)).trans (heap_alloc_new _ _)
    have h3 : r2 = 0 ∨ r2 = 1 ∨ r2 = 2 := by omega
    obtain ⟨y0, y1, yf⟩ := blk2 hh2.out
    obtain ⟨v, hv, hck⟩ : ∃ (v : Int) (k : Nat), r2 = k ∧ k < 3 ∧ w2.cell? ⟨w1.heap.size, k, none⟩ = some (.int .i64 v) := by
      rcases h3 with rfl | rfl | rfl
      · exact ⟨4000, 0, rfl, by decide, (blk_cell hh3 0).trans rfl⟩
      · exact ⟨4001, 1, rfl, by decide, (blk_cell hh3 1).trans rfl⟩
      · exact ⟨-4001, 2, rfl, by decide, (blk_cell hh3 2).trans rfl⟩
    obtain ⟨rfl, hk3, hck⟩ := hck
    obtain ⟨s0, s1, -⟩ := blk2 (res2 hh2.out (.int .i64 v) (.int .i64 3))
    clear hc2 hf2 hh3 h3
    go_wp2_with fail
    (try simp only [Exit.inBlock, Exit.then]); refine bodyPost_ret (by simp [results, Tryd.results38, go_sem, s0, s1]; try rfl) rfl ?_
    exact ⟨_, rfl, ⟨_, _, rfl⟩, by (repeat (first | (with_reducible assumption) | (with_reducible exact BX.refl _ _ _) | (with_reducible refine BX.drewN ?_ _) | (with_reducible refine BX.drew ?_) | ((with_reducible refine BX.alloc ?_ ?_ _); rotate_left; (focus (first | (simp; done) | omega | (simp; omega) | (simp [srcP]; done) | (simp [srcP]; omega)))) | ((with_reducible refine BX.setCell ?_ ?_ ?_ _); rotate_left; (focus (first | (simp; done) | omega | (simp; omega) | (simp [srcP]; done) | (simp [srcP]; omega))); (focus (first | (simp; done) | omega | (simp; omega) | (simp [srcP]; done) | (simp [srcP]; omega))))))⟩
  · have h1' : (r1 == 0) = false := by simpa using h1
    go_wp2_with fail
    (go_at_call 37; with_reducible refine (draw_any b A n c bs B (300) _ (bxinv (B := w.heap.size) ?_ HI) (by omega)).mono ?_; (focus (repeat (first | (with_reducible assumption) | (with_reducible exact BX.refl _ _ _) | (with_reducible refine BX.drewN ?_ _) | (with_reducible refine BX.drew ?_) | ((with_reducible refine BX.alloc ?_ ?_ _); rotate_left; (focus (first | (simp; done) | omega | (simp; omega) | (simp [srcP]; done) | (simp [srcP]; omega)))) | ((with_reducible refine BX.setCell ?_ ?_ ?_ _); rotate_left; (focus (first | (simp; done) | omega | (simp; omega) | (simp [srcP]; done) | (simp [srcP]; omega))); (focus (first | (simp; done) | omega | (simp; omega) | (simp [srcP]; done) | (simp [srcP]; omega))))))); rintro e2 w2 ⟨u2, rfl, ⟨r2, rfl, hr2a, hr2b⟩, hb2⟩; have hB2 : BX (srcP 67 b A n c bs B) w.heap.size w w2 := BX.then (by (repeat (first | (with_reducible assumption) | (with_reducible exact BX.refl _ _ _) | (with_reducible refine BX.drewN ?_ _) | (with_reducible refine BX.drew ?_) | ((with_reducible refine BX.alloc ?_ ?_ _); rotate_left; (focus (first | (simp; done) | omega | (simp; omega) | (simp [srcP]; done) | (simp [srcP]; omega)))) | ((with_reducible refine BX.setCell ?_ ?_ ?_ _); rotate_left; (focus (first | (simp; done) | omega | (simp; omega) | (simp [srcP]; done) | (simp [srcP]; omega))); (focus (first | (simp; done) | omega | (simp; omega) | (simp [srcP]; done) | (simp [srcP]; omega))))))) (by first | omega | (simp; done) | (simp; omega)) hb2; have hc2 := bxcell hb2; have hf2 := bxfrozen hb2; simp only [srcP_b] at hc2 hf2; have hz2a : w.heap.size < w2.heap.size := (by have := hb2.size; first | omega | (simp at this; omega)))
    (have hh2 := Lib.hid (show w2.heap[w.heap.size]? = some (.cells #[.int .i64 0, .int .i64 0] 31 (0, 0)) from (hb2.block (w.heap.size) (by first | omega | (simp; done) | (simp; omega) | (simp [srcP]; omega)) (by first | omega | (simp; done) | (simp; omega) | (simp [srcP]; omega))).trans (by repeat (first | (with_reducible exact hh1.out) | (with_reducible exact heap_alloc_new _ _) | (rw [heap_drew1]) | (rw [heap_drewN1]) | (rw [Below.heap_setCell _ _ _ _ (by first | omega | (simp; done) | (simp; omega) | (simp [srcP]; omega))]) | (rw [Below.heap_alloc _ _ _ (by first | omega | (simp; done) | (simp; omega) | (simp [srcP]; omega))])))))
    have hbw3 : b < w2.heap.size := by have := hb2.size; omega
    clear hc2 hf2
    go_wp2_with fail
    (go_at_call 37; with_reducible refine (draw_any b A n c bs B (300) _ (bxinv (B := w.heap.size) ?_ HI) (by omega)).mono ?_; (focus (repeat (first | (with_reducible assumption) | (with_reducible exact BX.refl _ _ _) | (with_reducible refine BX.drewN ?_ _) | (with_reducible refine BX.drew ?_) | ((with_reducible refine BX.alloc ?_ ?_ _); rotate_left; (focus (first | (simp; done) | omega | (simp; omega) | (simp [srcP]; done) | (simp [srcP]; omega)))) | ((with_reducible refine BX.setCell ?_ ?_ ?_ _); rotate_left; (focus (first | (simp; done) | omega | (simp; omega) | (simp [srcP]; done) | (simp [srcP]; omega))); (focus (first | (simp; done) | omega | (simp; omega) | (simp [srcP]; done) | (simp [srcP]; omega))))))); rintro e3 w3 ⟨u3, rfl, ⟨r3, rfl, hr3a, hr3b⟩, hb3⟩; have hB3 : BX (srcP 67 b A n c bs B) w.heap.size w w3 := BX.then (by (repeat (first | (with_reducible assumption) | (with_reducible exact BX.refl _ _ _) | (with_reducible refine BX.drewN ?_ _) | (with_reducible refine BX.drew ?_) | ((with_reducible refine BX.alloc ?_ ?_ _); rotate_left; (focus (first | (simp; done) | omega | (simp; omega) | (simp [srcP]; done) | (simp [srcP]; omega)))) | ((with_reducible refine BX.setCell ?_ ?_ ?_ _); rotate_left; (focus (first | (simp; done) | omega | (simp; omega) | (simp [srcP]; done) | (simp [srcP]; omega))); (focus (first | (simp; done) | omega | (simp; omega) | (simp [srcP]; done) | (simp [srcP]; omega))))))) (by first | omega | (simp; done) | (simp; omega)) hb3; have hc3 := bxcell hb3; have hf3 := bxfrozen hb3; simp only [srcP_b] at hc3 hf3; have hz3a : w.heap.size < w3.heap.size := (by have := hb3.size; first | omega | (simp at this; omega)))
    (have hh3 := Lib.hid (show w3.heap[w.heap.size]? = some (.cells #[.int .i64 0, .int .i64 0] 31 (0, 0)) from (hb3.block (w.heap.size) (by first | omega | (simp; done) | (simp; omega) | (simp [srcP]; omega)) (by first | omega | (simp; done) | (simp; omega) | (simp [srcP]; omega))).trans (by repeat (first | (with_reducible exact hh2.out) | (with_reducible exact heap_alloc_new _ _) | (rw [heap_drew1]) | (rw [heap_drewN1]) | (rw [Below.heap_setCell _ _ _ _ (by first | omega | (simp; done) | (simp; omega) | (simp [srcP]; omega))]) | (rw [Below.heap_alloc _ _ _ (by first | omega | (simp; done) | (simp; omega) | (simp [srcP]; omega))])))))
    obtain ⟨y0, y1, yf⟩ := blk2 hh3.out
    obtain ⟨s0, s1, -⟩ := blk2 (res2 hh3.out (.int .i64 r2) (.int .i64 r3))
    clear hc3 hf3
    go_wp2_with fail
    (try simp only [Exit.inBlock, Exit.then]); refine bodyPost_ret (by simp [results, Tryd.results38, go_sem, s0, s1]; try rfl) rfl ?_
    exact ⟨_, rfl, ⟨_, _, rfl⟩, by (repeat (first | (with_reducible assumption) | (with_reducible exact BX.refl _ _ _) | (with_reducible refine BX.drewN ?_ _) | (with_reducible refine BX.drew ?_) | ((with_reducible refine BX.alloc ?_ ?_ _); rotate_left; (focus (first | (simp; done) | omega | (simp; omega) | (simp [srcP]; done) | (simp [srcP]; omega)))) | ((with_reducible refine BX.setCell ?_ ?_ ?_ _); rotate_left; (focus (first | (simp; done) | omega | (simp; omega) | (simp [srcP]; done) | (simp [srcP]; omega))); (focus (first | (simp; done) | omega | (simp; omega) | (simp [srcP]; done) | (simp [srcP]; omega))))))⟩
set_option maxRecDepth 20000 in
set_option maxHeartbeats 4000000 in
theorem l24DrawQuad_any (b : Nat) (A : Option Addr) (n c : Nat) (bs : List Int) (B : Nat) (w : World) (hI : (srcP 67 b A n c bs B).I w) :
    Calls Tryd.prog 21 #[.pointer (some ⟨b, 0, none⟩)] w fun e w' =>
      ∃ u, e = .returned u ∧ (∃ x0 x1 x2 x3 x4 x5 x6 x7 : Int, u = .agg #[.int .i64 x0, .int .i64 x1, .int .i64 x2, .int .i64 x3, .int .i64 x4, .int .i64 x5, .int .i64 x6, .int .i64 x7]) ∧ BX (srcP 67 b A n c bs B) w.heap.size w w' := by
  have hbw := srcP_lt hI
  have HI := Lib.hid hI
  clear hI
  go_enter Tryd.func21, Tryd.ntmps21
  go_wp2_with fail
  (go_at_call 37; with_reducible refine (draw_any b A n c bs B (60) _ (bxinv (B := w.heap.size) ?_ HI) (by omega)).mono ?_; (focus (repeat (first | (with_reducible assumption) | (with_reducible exact BX.refl _ _ _) | (with_reducible refine BX.drewN ?_ _) | (with_reducible refine BX.drew ?_) | ((with_reducible refine BX.alloc ?_ ?_ _); rotate_left; (focus (first | (simp; done) | omega | (simp; omega) | (simp [srcP]; done) | (simp [srcP]; omega)))) | ((with_reducible refine BX.setCell ?_ ?_ ?_ _); rotate_left; (focus (first | (simp; done) | omega | (simp; omega) | (simp [srcP]; done) | (simp [srcP]; omega))); (focus (first | (simp; done) | omega | (simp; omega) | (simp [srcP]; done) | (simp [srcP]; omega))))))); rintro e1 w1 ⟨u1, rfl, ⟨r1, rfl, hr1a, hr1b⟩, hb1⟩; have hB1 : BX (srcP 67 b A n c bs B) w.heap.size w w1 := BX.then (by (repeat (first | (with_reducible assumption) | (with_reducible exact BX.refl _ _ _) | (with_reducible refine BX.drewN ?_ _) | (with_reducible refine BX.drew ?_) | ((with_reducible refine BX.alloc ?_ ?_ _); rotate_left; (focus (first | (simp; done) | omega | (simp; omega) | (simp [srcP]; done) | (simp [srcP]; omega)))) | ((with_reducible refine BX.setCell ?_ ?_ ?_ _); rotate_left; (focus (first | (simp; done) | omega | (simp; omega) | (simp [srcP]; done) | (simp [srcP]; omega))); (focus (first | (simp; done) | omega | (simp; omega) | (simp [srcP]; done) | (simp [srcP]; omega))))))) (by first | omega | (simp; done) | (simp; omega)) hb1; have hc1 := bxcell hb1; have hf1 := bxfrozen hb1; simp only [srcP_b] at hc1 hf1; have hz1a : w.heap.size < w1.heap.size := (by have := hb1.size; first | omega | (simp at this; omega)))
  (have hh1 := Lib.hid (show w1.heap[w.heap.size]? = some (.cells #[.int .i64 0, .int .i64 0, .int .i64 0, .int .i64 0, .int .i64 0, .int .i64 0, .int .i64 0, .int .i64 0] 33 (0, 0)) from (hb1.block (w.heap.size) (by first | omega | (simp; done) | (simp; omega) | (simp [srcP]; omega)) (by first | omega | (simp; done) | (simp; omega) | (simp [srcP]; omega))).trans (by repeat (first | (with_reducible exact rfl) | (with_reducible exact heap_alloc_new _ _) | (rw [heap_drew1]) | (rw [heap_drewN1]) | (rw [Below.heap_setCell _ _ _ _ (by first | omega | (simp; done) | (simp; omega) | (simp [srcP]; omega))]) | (rw [Below.heap_alloc _ _ _ (by first | omega | (simp; done) | (simp; omega) | (simp [srcP]; omega))])))))
  have hbw1 : b < w1.heap.size := by omega
  clear hc1 hf1
  go_wp2_with fail
  (go_at_call 37; with_reducible refine (draw_any b A n c bs B (60) _ (bxinv (B := w.heap.size) ?_ HI) (by omega)).mono ?_; (focus (repeat (first | (with_reducible assumption) | (with_reducible exact BX.refl _ _ _) | (with_reducible refine BX.drewN ?_ _) | (with_reducible refine BX.drew ?_) | ((with_reducible refine BX.alloc ?_ ?_ _); rotate_left; (focus (first | (simp; done) | omega | (simp; omega) | (simp [srcP]; done) | (simp [srcP]; omega)))) | ((with_reducible refine BX.setCell ?_ ?_ ?_ _); rotate_left; (focus (first | (simp; done) | omega | (simp; omega) | (simp [srcP]; done) | (simp [srcP]; omega))); (focus (first | (simp; done) | omega | (simp; omega) | (simp [srcP]; done) | (simp [srcP]; omega))))))); rintro e2 w2 ⟨u2, rfl, ⟨r2, rfl, hr2a, hr2b⟩, hb2⟩; have hB2 : BX (srcP 67 b A n c bs B) w.heap.size w w2 := BX.then (by (repeat (first | (with_reducible assumption) | (with_reducible exact BX.refl _ _ _) | (with_reducible refine BX.drewN ?_ _) | (with_reducible refine BX.drew ?_) | ((with_reducible refine BX.alloc ?_ ?_ _); rotate_left; (focus (first | (simp; done) | omega | (simp; omega) | (simp [srcP]; done) | (simp [srcP]; omega)))) | ((with_reducible refine BX.setCell ?_ ?_ ?_ _); rotate_left; (focus (first | (simp; done) | omega | (simp; omega) | (simp [srcP]; done) | (simp [srcP]; omega))); (focus (first | (simp; done) | omega | (simp; omega) | (simp [srcP]; done) | (simp [srcP]; omega))))))) (by first | omega | (simp; done) | (simp; omega)) hb2; have hc2 := bxcell hb2; have hf2 := bxfrozen hb2; simp only [srcP_b] at hc2 hf2; have hz2a : w.heap.size < w2.heap.size := (by have := hb2.size; first | omega | (simp at this; omega)))
  (have hh2 := Lib.hid (show w2.heap[w.heap.size]? = some (.cells #[.int .i64 0, .int .i64 0, .int .i64 0, .int .i64 0, .int .i64 0, .int .i64 0, .int .i64 0, .int .i64 0] 33 (0, 0)) from (hb2.block (w.heap.size) (by first | omega | (simp; done) | (simp; omega) | (simp [srcP]; omega)) (by first | omega | (simp; done) | (simp; omega) | (simp [srcP]; omega))).trans (by repeat (first | (with_reducible exact hh1.out) | (with_reducible exact heap_alloc_new _ _) | (rw [heap_drew1]) | (rw [heap_drewN1]) | (rw [Below.heap_setCell _ _ _ _ (by first | omega | (simp; done) | (simp; omega) | (simp [srcP]; omega))]) | (rw [Below.heap_alloc _ _ _ (by first | omega | (simp; done) | (simp; omega) | (simp [srcP]; omega))])))))
  have hbw2 : b < w2.heap.size := by omega
  clear hc2 hf2
  go_wp2_with fail
  (go_at_call 37; with_reducible refine (draw_any b A n c bs B (100) _ (bxinv (B := w.heap.size) ?_ HI) (by omega)).mono ?_; (focus (repeat (first | (with_reducible assumption) | (with_reducible exact BX.refl _ _ _) | (with_reducible refine BX.drewN ?_ _) | (with_reducible refine BX.drew ?_) | ((with_reducible refine BX.alloc ?_ ?_ _); rotate_left; (focus (first | (simp; done) | omega | (simp; omega) | (simp [srcP]; done) | (simp [srcP]; omega)))) | ((with_reducible refine BX.setCell ?_ ?_ ?_ _); rotate_left; (focus (first | (simp; done) | omega | (simp; omega) | (simp [srcP]; done) | (simp [srcP]; omega))); (focus (first | (simp; done) | omega | (simp; omega) | (simp [srcP]; done) | (simp [srcP]; omega))))))); rintro e3 w3 ⟨u3, rfl, ⟨r3, rfl, hr3a, hr3b⟩, hb3⟩; have hB3 : BX (srcP 67 b A n c bs B) w.heap.size w w3 := BX.then (by (repeat (first | (with_reducible assumption) | (with_reducible exact BX.refl _ _ _) | (with_reducible refine BX.drewN ?_ _) | (with_reducible refine BX.drew ?_) | ((with_reducible refine BX.alloc ?_ ?_ _); rotate_left; (focus (first | (simp; done) | omega | (simp; omega) | (simp [srcP]; done) | (simp [srcP]; omega)))) | ((with_reducible refine BX.setCell ?_ ?_ ?_ _); rotate_left; (focus (first | (simp; done) | omega | (simp; omega) | (simp [srcP]; done) | (simp [srcP]; omega))); (focus (first | (simp; done) | omega | (simp; omega) | (simp [srcP]; done) | (simp [srcP]; omega))))))) (by first | omega | (simp; done) | (simp; omega)) hb3; have hc3 := bxcell hb3; have hf3 := bxfrozen hb3; simp only [srcP_b] at hc3 hf3; have hz3a : w.heap.size < w3.heap.size := (by have := hb3.size; first | omega | (simp at this; omega)))
  (have hh3 := Lib.hid (show w3.heap[w.heap.size]? = some (.cells #[.int .i64 0, .int .i64 0, .int .i64 0, .int .i64 0, .int .i64 0, .int .i64 0, .int .i64 0, .int .i64 0] 33 (0, 0)) from (hb3.block (w.heap.size) (by first | omega | (simp; done) | (simp; omega) | (simp [srcP]; omega)) (by first | omega | (simp; done) | (simp; omega) | (simp [srcP]; omega))).trans (by repeat (first | (with_reducible exact hh2.out) | (with_reducible exact heap_alloc_new _ _) | (rw [heap_drew1]) | (rw [heap_drewN1]) | (rw [Below.heap_setCell _ _ _ _ (by first | omega | (simp; done) | (simp; omega) | (simp [srcP]; omega))]) | (rw [Below.heap_alloc _ _ _ (by first | omega | (simp; done) | (simp; omega) | (simp [srcP]; omega))])))))
  have hbw3 : b < w3.heap.size := by omega
  clear hc3 hf3
  go_wp2_with fail
  (go_at_call 37; with_reducible refine (draw_any b A n c bs B (100) _ (bxinv (B := w.heap.size) ?_ HI) (by omega)).mono ?_; (focus (repeat (first | (with_reducible assumption) | (with_reducible exact BX.refl _ _ _) | (with_reducible refine BX.drewN ?_ _) | (with_reducible refine BX.drew ?_) | ((with_reducible refine BX.alloc ?_ ?_ _); rotate_left; (focus (first | (simp; done) | omega | (simp; omega) | (simp [srcP]; done) | (simp [srcP]; omega)))) | ((with_reducible refine BX.setCell ?_ ?_ ?_ _); rotate_left; (focus (first | (simp; done) | omega | (simp; omega) | (simp [srcP]; done) | (simp [srcP]; omega))); (focus (first | (simp; done) | omega | (simp; omega) | (simp [srcP]; done) | (simp [srcP]; omega))))))); rintro e4 w4 ⟨u4, rfl, ⟨r4, rfl, hr4a, hr4b⟩, hb4⟩; have hB4 : BX (srcP 67 b A n c bs B) w.heap.size w w4 := BX.then (by (repeat (first | (with_reducible assumption) | (with_reducible exact BX.refl _ _ _) | (with_reducible refine BX.drewN ?_ _) | (with_reducible refine BX.drew ?_) | ((with_reducible refine BX.alloc ?_ ?_ _); rotate_left; (focus (first | (simp; done) | omega | (simp; omega) | (simp [srcP]; done) | (simp [srcP]; omega)))) | ((with_reducible refine BX.setCell ?_ ?_ ?_ _); rotate_left; (focus (first | (simp; done) | omega | (simp; omega) | (simp [srcP]; done) | (simp [srcP]; omega))); (focus (first | (simp; done) | omega | (simp; omega) | (simp [srcP]; done) | (simp [srcP]; omega))))))) (by first | omega | (simp; done) | (simp; omega)) hb4; have hc4 := bxcell hb4; have hf4 := bxfrozen hb4; simp only [srcP_b] at hc4 hf4; have hz4a : w.heap.size < w4.heap.size := (by have := hb4.size; first | omega | (simp at this; omega)))
  (have hh4 := Lib.hid (show w4.heap[w.heap.size]? = some (.cells #[.int .i64 0, .int .i64 0, .int .i64 0, .int .i64 0, .int .i64 0, .int .i64 0, .int .i64 0, .int .i64 0] 33 (0, 0)) from (hb4.block (w.heap.size) (by first | omega | (simp; done) | (simp; omega) | (simp [srcP]; omega)) (by first | omega | (simp; done) | (simp; omega) | (simp [srcP]; omega))).trans (by repeat (first | (with_reducible exact hh3.out) | (with_reducible exact heap_alloc_new _ _) | (rw [heap_drew1]) | (rw [heap_drewN1]) | (rw [Below.heap_setCell _ _ _ _ (by first | omega | (simp; done) | (simp; omega) | (simp [srcP]; omega))]) | (rw [Below.heap_alloc _ _ _ (by first | omega | (simp; done) | (simp; omega) | (simp [srcP]; omega))])))))
  clear hc4 hf4
  have HP4 : Hid (QP (srcP 67 b A n c bs B) w w.heap.size w4.heap.size (.cells #[.int .i64 0, .int .i64 0, .int .i64 0, .int .i64 0, .int .i64 0, .int .i64 0, .int .i64 0, .int .i64 0] 33 (0, 0)) 33 [r1, r2, r1 + (40 + r3), r2, r1 + (40 + r3), r2 + (40 + r4), r1, r2 + (40 + r4)] (w4.alloc (.cells #[.int .i64 r1, .int .i64 r2, .int .i64 (r1 + (40 + r3)), .int .i64 r2, .int .i64 (r1 + (40 + r3)), .int .i64 (r2 + (40 + r4)), .int .i64 r1, .int .i64 (r2 + (40 + r4))] 33))) :=
    Lib.hid ⟨⟨hbw, Nat.le_refl _, hz4a, by simp⟩, hB4.alloc (Nat.le_of_lt hz4a) _, hB4.alloc (Nat.le_of_lt hz4a) _ |>.inv HI.out, blk_alloc hh4.out hz4a, heap_alloc_new _ _⟩
  clear hB1 hB2 hB3 hB4 hb1 hb2 hb3 hb4 hh1 hh2 hh3 hh4
  go_wp2_with fail
  obtain ⟨g1, hg1⟩ : ∃ g1, w4.heap.size = g1 := ⟨_, rfl⟩
  rw [hg1] at HP4

  generalize w4.alloc (.cells #[.int .i64 (r1), .int .i64 (r2), .int .i64 (r1 + (40 + r3)), .int .i64 (r2), .int .i64 (r1 + (40 + r3)), .int .i64 (r2 + (40 + r4)), .int .i64 (r1), .int .i64 (r2 + (40 + r4))] 33) = w5 at *
  have HX4 := Lib.hid (HP4.out.x (n := 8) rfl)
  clear HP4
  go_at_call 37; with_reducible refine (draw_any b A n c bs B 2 _ ?_ (by omega)).mono ?_; (focus (first | exact HX4.out.inv | exact HX4.out.drew.inv)); rintro e6 w6 ⟨u6, rfl, ⟨r6, rfl, hr6a, hr6b⟩, hb6⟩; (first | have HP6 := Lib.hid (HX4.out.step hb6) | have HP6 := Lib.hid (HX4.out.drew.step hb6)); clear hb6
  by_cases h6 : r6 = 0
  · subst h6
    go_wp2_with fail
    have fb7 := HP6.out.free 2
    have fd7 := HP6.out.ci (k := 2) (by decide)
    go_cut [] (fun wx => Hid (QX (srcP 67 b A n c bs B) w w.heap.size g1 (.cells #[.int .i64 0, .int .i64 0, .int .i64 0, .int .i64 0, .int .i64 0, .int .i64 0, .int .i64 0, .int .i64 0] 33 (0, 0)) 33 8 wx))
    case first =>
      go_region_with (go_at_call 37; with_reducible refine (draw_any b A n c bs B 20 _ ?_ (by omega)).mono ?_; (focus (first | exact HP6.out.inv | exact HP6.out.drew.inv)); rintro e7 w7 ⟨u7, rfl, ⟨r7, rfl, hr7a, hr7b⟩, hb7⟩; (first | have HP7 := Lib.hid (HP6.out.step hb7) | have HP7 := Lib.hid (HP6.out.drew.step hb7)); clear hb7; have ff7 := HP7.out.free 2; have fc7 := HP7.out.ci (k := 2) (by decide))
      all_goals
        go_wp2_with fail
        go_meet
        case rel => exact Lib.hid (HP7.out.set 2 _)
    rename World => v7
    have HS7 := hcut
    clear hcut fb7 fd7
    go_wp2_with fail
    have fb8 := HS7.out.free 5
    have fd8 := HS7.out.ci (k := 5) (by decide)
    go_cut [] (fun wx => Hid (QX (srcP 67 b A n c bs B) w w.heap.size g1 (.cells #[.int .i64 0, .int .i64 0, .int .i64 0, .int .i64 0, .int .i64 0, .int .i64 0, .int .i64 0, .int .i64 0] 33 (0, 0)) 33 8 wx))
    case first =>
      go_region_with (go_at_call 37; with_reducible refine (draw_any b A n c bs B 20 _ ?_ (by omega)).mono ?_; (focus (first | exact HS7.out.inv | exact HS7.out.drew.inv)); rintro e8 w8 ⟨u8, rfl, ⟨r8, rfl, hr8a, hr8b⟩, hb8⟩; (first | have HP8 := Lib.hid (HS7.out.step hb8) | have HP8 := Lib.hid (HS7.out.drew.step hb8)); clear hb8; have ff8 := HP8.out.free 5; have fc8 := HP8.out.ci (k := 5) (by decide))
      all_goals
        go_wp2_with fail
        go_meet
        case rel => exact Lib.hid (HP8.out.set 5 _)
    rename World => v8
    have HS8 := hcut
    clear hcut fb8 fd8
    go_wp2_with fail
    have fb9 := HS8.out.free 6
    have fd9 := HS8.out.ci (k := 6) (by decide)
    go_cut [] (fun wx => Hid (QX (srcP 67 b A n c bs B) w w.heap.size g1 (.cells #[.int .i64 0, .int .i64 0, .int .i64 0, .int .i64 0, .int .i64 0, .int .i64 0, .int .i64 0, .int .i64 0] 33 (0, 0)) 33 8 wx))
    case first =>
      go_region_with (go_at_call 37; with_reducible refine (draw_any b A n c bs B 20 _ ?_ (by omega)).mono ?_; (focus (first | exact HS8.out.inv | exact HS8.out.drew.inv)); rintro e9 w9 ⟨u9, rfl, ⟨r9, rfl, hr9a, hr9b⟩, hb9⟩; (first | have HP9 := Lib.hid (HS8.out.step hb9) | have HP9 := Lib.hid (HS8.out.drew.step hb9)); clear hb9; have ff9 := HP9.out.free 6; have fc9 := HP9.out.ci (k := 6) (by decide))
      all_goals
        go_wp2_with fail
        go_meet
        case rel => exact Lib.hid (HP9.out.set 6 _)
    rename World => v9
    have HS9 := hcut
    clear hcut fb9 fd9
    go_wp2_with fail
    have fb10 := HS9.out.free 1
    have fd10 := HS9.out.ci (k := 1) (by decide)
    go_cut [] (fun wx => Hid (QX (srcP 67 b A n c bs B) w w.heap.size g1 (.cells #[.int .i64 0, .int .i64 0, .int .i64 0, .int .i64 0, .int .i64 0, .int .i64 0, .int .i64 0, .int .i64 0] 33 (0, 0)) 33 8 wx))
    case first =>
      go_region_with (go_at_call 37; with_reducible refine (draw_any b A n c bs B 20 _ ?_ (by omega)).mono ?_; (focus (first | exact HS9.out.inv | exact HS9.out.drew.inv)); rintro e10 w10 ⟨u10, rfl, ⟨r10, rfl, hr10a, hr10b⟩, hb10⟩; (first | have HP10 := Lib.hid (HS9.out.step hb10) | have HP10 := Lib.hid (HS9.out.drew.step hb10)); clear hb10; have ff10 := HP10.out.free 1; have fc10 := HP10.out.ci (k := 1) (by decide))
      all_goals
        go_wp2_with fail
        go_meet
        case rel => exact Lib.hid (HP10.out.set 1 _)
    rename World => v10
    have HS10 := hcut
    clear hcut fb10 fd10
    go_wp2_with fail
    go_at_call 37; with_reducible refine (draw_any b A n c bs B 24 _ ?_ (by omega)).mono ?_; (focus (first | exact HS10.out.inv | exact HS10.out.drew.inv)); rintro e11 w11 ⟨u11, rfl, ⟨r11, rfl, hr11a, hr11b⟩, hb11⟩; (first | have HP11 := Lib.hid (HS10.out.step hb11) | have HP11 := Lib.hid (HS10.out.drew.step hb11)); clear hb11
    obtain ⟨x0, x1, x2, x3, x4, x5, x6, x7, hqp⟩ := HP11.out.eight
    have HQ := Lib.hid hqp
    clear hqp
    rcases (show r11 = 0 ∨ r11 = 1 ∨ (¬ r11 = 0 ∧ ¬ r11 = 1) by omega) with rfl | rfl | ⟨n0, n1⟩
    · go_wp2_with fail
      go_at_call 38
      with_reducible refine (l24Draw_any b A n c bs B _ ?_).mono ?_
      (focus (first | exact HQ.out.inv | exact HQ.out.drew.inv))
      rintro e20 w20 ⟨u20, rfl, ⟨x, y, rfl⟩, hb20⟩
      have HP20 := Lib.hid (HQ.out.step hb20)
      clear hb20
      have ff20 := HP20.out.k1.free
      have hgz := HP20.out.sz.2.2.2
      have hk0 := HP20.out.ints (k := 0) (by simp)
      have hk1 := HP20.out.ints (k := 1) (by simp)
      have hk2 := HP20.out.ints (k := 2) (by simp)
      have hk3 := HP20.out.ints (k := 3) (by simp)
      have hk4 := HP20.out.ints (k := 4) (by simp)
      have hk5 := HP20.out.ints (k := 5) (by simp)
      have hk6 := HP20.out.ints (k := 6) (by simp)
      have hk7 := HP20.out.ints (k := 7) (by simp)
      simp only [nth, List.getD_cons_zero, List.getD_cons_succ] at hk0 hk1 hk2 hk3 hk4 hk5 hk6 hk7
      go_upto_region 14 with fail
      have HPz := Lib.hid (QP.to (ys := [x0, x1, x2, x3, x, y, x6, x7]) ((HP20.out.set 4 x).set 5 y) rfl)
      generalize ((w20.setCell ⟨g1, 4, none⟩ (.int .i64 x)).setCell ⟨g1, 5, none⟩ (.int .i64 y)) = wz at *
      clear hk0 hk1 hk2 hk3 hk4 hk5 hk6 hk7 ff20 hgz
      obtain ⟨d0, d1, d2, d3, d4, d5, d6, d7, -⟩ := blk8 (show wz.heap[g1]? = some (.cells #[.int .i64 (x0), .int .i64 (x1), .int .i64 (x2), .int .i64 (x3), .int .i64 (x), .int .i64 (y), .int .i64 (x6), .int .i64 (x7)] 33 (0, 0)) from HPz.out.k1)
      obtain ⟨z0, z1, z2, z3, z4, z5, z6, z7, zf⟩ := blk8 HPz.out.k0
      go_wp2_with fail
      obtain ⟨s0, s1, s2, s3, s4, s5, s6, s7, -⟩ := blk8 (res8 HPz.out.k0 (.int .i64 (x0)) (.int .i64 (x1)) (.int .i64 (x2)) (.int .i64 (x3)) (.int .i64 (x)) (.int .i64 (y)) (.int .i64 (x6)) (.int .i64 (x7)))
      (try simp only [Exit.inBlock, Exit.then]); refine bodyPost_ret (by simp [results, Tryd.results21, go_sem, s0, s1, s2, s3, s4, s5, s6, s7]; try rfl) rfl ?_
      exact ⟨_, rfl, ⟨_, _, _, _, _, _, _, _, rfl⟩, by repeat (first | with_reducible exact HPz.out.bx | with_reducible refine bxset ?_ hbw (Nat.le_refl _))⟩
    · have ff20 := HQ.out.k1.free
      have hgz := HQ.out.sz.2.2.2
      have hk0 := HQ.out.ints (k := 0) (by simp)
      have hk1 := HQ.out.ints (k := 1) (by simp)
      have hk2 := HQ.out.ints (k := 2) (by simp)
      have hk3 := HQ.out.ints (k := 3) (by simp)
      have hk4 := HQ.out.ints (k := 4) (by simp)
      have hk5 := HQ.out.ints (k := 5) (by simp)
      have hk6 := HQ.out.ints (k := 6) (by simp)
      have hk7 := HQ.out.ints (k := 7) (by simp)
      simp only [nth, List.getD_cons_zero, List.getD_cons_succ] at hk0 hk1 hk2 hk3 hk4 hk5 hk6 hk7
      go_upto_region 14 with fail
      have HPz := Lib.hid (QP.to (ys := [x0, x1, x6, x7, x4, x5, x6, x7]) ((HQ.out.set 2 x6).set 3 x7) rfl)
      generalize ((w11.setCell ⟨g1, 2, none⟩ (.int .i64 x6)).setCell ⟨g1, 3, none⟩ (.int .i64 x7)) = wz at *
      clear hk0 hk1 hk2 hk3 hk4 hk5 hk6 hk7 ff20 hgz
      obtain ⟨d0, d1, d2, d3, d4, d5, d6, d7, -⟩ := blk8 (show wz.heap[g1]? = some (.cells #[.int .i64 (x0), .int .i64 (x1), .int .i64 (x6), .int .i64 (x7), .int .i64 (x4), .int .i64 (x5), .int .i64 (x6), .int .i64 (x7)] 33 (0, 0)) from HPz.out.k1)
      obtain ⟨z0, z1, z2, z3, z4, z5, z6, z7, zf⟩ := blk8 HPz.out.k0
      go_wp2_with fail
      obtain ⟨s0, s1, s2, s3, s4, s5, s6, s7, -⟩ := blk8 (res8 HPz.out.k0 (.int .i64 (x0)) (.int .i64 (x1)) (.int .i64 (x6)) (.int .i64 (x7)) (.int .i64 (x4)) (.int .i64 (x5)) (.int .i64 (x6)) (.int .i64 (x7)))
      (try simp only [Exit.inBlock, Exit.then]); refine bodyPost_ret (by simp [results, Tryd.results21, go_sem, s0, s1, s2, s3, s4, s5, s6, s7]; try rfl) rfl ?_
      exact ⟨_, rfl, ⟨_, _, _, _, _, _, _, _, rfl⟩, by repeat (first | with_reducible exact HPz.out.bx | with_reducible refine bxset ?_ hbw (Nat.le_refl _))⟩
    · go_upto_region 14 with fail
      have HPz := Lib.hid (QP.to (ys := [x0, x1, x2, x3, x4, x5, x6, x7]) HQ.out rfl)
      obtain ⟨d0, d1, d2, d3, d4, d5, d6, d7, -⟩ := blk8 (show w11.heap[g1]? = some (.cells #[.int .i64 (x0), .int .i64 (x1), .int .i64 (x2), .int .i64 (x3), .int .i64 (x4), .int .i64 (x5), .int .i64 (x6), .int .i64 (x7)] 33 (0, 0)) from HPz.out.k1)
      obtain ⟨z0, z1, z2, z3, z4, z5, z6, z7, zf⟩ := blk8 HPz.out.k0
      go_wp2_with fail
      obtain ⟨s0, s1, s2, s3, s4, s5, s6, s7, -⟩ := blk8 (res8 HPz.out.k0 (.int .i64 (x0)) (.int .i64 (x1)) (.int .i64 (x2)) (.int .i64 (x3)) (.int .i64 (x4)) (.int .i64 (x5)) (.int .i64 (x6)) (.int .i64 (x7)))
      (try simp only [Exit.inBlock, Exit.then]); refine bodyPost_ret (by simp [results, Tryd.results21, go_sem, s0, s1, s2, s3, s4, s5, s6, s7]; try rfl) rfl ?_
      exact ⟨_, rfl, ⟨_, _, _, _, _, _, _, _, rfl⟩, by repeat (first | with_reducible exact HPz.out.bx | with_reducible refine bxset ?_ hbw (Nat.le_refl _))⟩
  · have h6' : (r6 == 0) = false := by simpa using h6
    go_wp2_with fail
    go_at_call 37; with_reducible refine (draw_any b A n c bs B 24 _ ?_ (by omega)).mono ?_; (focus (first | exact HP6.out.inv | exact HP6.out.drew.inv)); rintro e11 w11 ⟨u11, rfl, ⟨r11, rfl, hr11a, hr11b⟩, hb11⟩; (first | have HP11 := Lib.hid (HP6.out.step hb11) | have HP11 := Lib.hid (HP6.out.drew.step hb11)); clear hb11
    obtain ⟨x0, x1, x2, x3, x4, x5, x6, x7, hqp⟩ := HP11.out.eight
    have HQ := Lib.hid hqp
    clear hqp
    rcases (show r11 = 0 ∨ r11 = 1 ∨ (¬ r11 = 0 ∧ ¬ r11 = 1) by omega) with rfl | rfl | ⟨n0, n1⟩
    · go_wp2_with fail
      go_at_call 38
      with_reducible refine (l24Draw_any b A n c bs B _ ?_).mono ?_
      (focus (first | exact HQ.out.inv | exact HQ.out.drew.inv))
      rintro e20 w20 ⟨u20, rfl, ⟨x, y, rfl⟩, hb20⟩
      have HP20 := Lib.hid (HQ.out.step hb20)
      clear hb20
      have ff20 := HP20.out.k1.free
      have hgz := HP20.out.sz.2.2.2
      have hk0 := HP20.out.ints (k := 0) (by simp)
      have hk1 := HP20.out.ints (k := 1) (by simp)
      have hk2 := HP20.out.ints (k := 2) (by simp)
      have hk3 := HP20.out.ints (k := 3) (by simp)
      have hk4 := HP20.out.ints (k := 4) (by simp)
      have hk5 := HP20.out.ints (k := 5) (by simp)
      have hk6 := HP20.out.ints (k := 6) (by simp)
      have hk7 := HP20.out.ints (k := 7) (by simp)
      simp only [nth, List.getD_cons_zero, List.getD_cons_succ] at hk0 hk1 hk2 hk3 hk4 hk5 hk6 hk7
      go_upto_region 14 with fail
      have HPz := Lib.hid (QP.to (ys := [x0, x1, x2, x3, x, y, x6, x7]) ((HP20.out.set 4 x).set 5 y) rfl)
      generalize ((w20.setCell ⟨g1, 4, none⟩ (.int .i64 x)).setCell ⟨g1, 5, none⟩ (.int .i64 y)) = wz at *
      clear hk0 hk1 hk2 hk3 hk4 hk5 hk6 hk7 ff20 hgz
      obtain ⟨d0, d1, d2, d3, d4, d5, d6, d7, -⟩ := blk8 (show wz.heap[g1]? = some (.cells #[.int .i64 (x0), .int .i64 (x1), .int .i64 (x2), .int .i64 (x3), .int .i64 (x), .int .i64 (y), .int .i64 (x6), .int .i64 (x7)] 33 (0, 0)) from HPz.out.k1)
      obtain ⟨z0, z1, z2, z3, z4, z5, z6, z7, zf⟩ := blk8 HPz.out.k0
      go_wp2_with fail
      obtain ⟨s0, s1, s2, s3, s4, s5, s6, s7, -⟩ := blk8 (res8 HPz.out.k0 (.int .i64 (x0)) (.int .i64 (x1)) (.int .i64 (x2)) (.int .i64 (x3)) (.int .i64 (x)) (.int .i64 (y)) (.int .i64 (x6)) (.int .i64 (x7)))
      (try simp only [Exit.inBlock, Exit.then]); refine bodyPost_ret (by simp [results, Tryd.results21, go_sem, s0, s1, s2, s3, s4, s5, s6, s7]; try rfl) rfl ?_
      exact ⟨_, rfl, ⟨_, _, _, _, _, _, _, _, rfl⟩, by repeat (first | with_reducible exact HPz.out.bx | with_reducible refine bxset ?_ hbw (Nat.le_refl _))⟩
    · have ff20 := HQ.out.k1.free
      have hgz := HQ.out.sz.2.2.2
      have hk0 := HQ.out.ints (k := 0) (by simp)
      have hk1 := HQ.out.ints (k := 1) (by simp)
      have hk2 := HQ.out.ints (k := 2) (by simp)
      have hk3 := HQ.out.ints (k := 3) (by simp)
      have hk4 := HQ.out.ints (k := 4) (by simp)
      have hk5 := HQ.out.ints (k := 5) (by simp)
      have hk6 := HQ.out.ints (k := 6) (by simp)
      have hk7 := HQ.out.ints (k := 7) (by simp)
      simp only [nth, List.getD_cons_zero, List.getD_cons_succ] at hk0 hk1 hk2 hk3 hk4 hk5 hk6 hk7
      go_upto_region 14 with fail
      have HPz := Lib.hid (QP.to (ys := [x0, x1, x6, x7, x4, x5, x6, x7]) ((HQ.out.set 2 x6).set 3 x7) rfl)
      generalize ((w11.setCell ⟨g1, 2, none⟩ (.int .i64 x6)).setCell ⟨g1, 3, none⟩ (.int .i64 x7)) = wz at *
      clear hk0 hk1 hk2 hk3 hk4 hk5 hk6 hk7 ff20 hgz
      obtain ⟨d0, d1, d2, d3, d4, d5, d6, d7, -⟩ := blk8 (show wz.heap[g1]? = some (.cells #[.int .i64 (x0), .int .i64 (x1), .int .i64 (x6), .int .i64 (x7), .int .i64 (x4), .int .i64 (x5), .int .i64 (x6), .int .i64 (x7)] 33 (0, 0)) from HPz.out.k1)
      obtain ⟨z0, z1, z2, z3, z4, z5, z6, z7, zf⟩ := blk8 HPz.out.k0
      go_wp2_with fail
      obtain ⟨s0, s1, s2, s3, s4, s5, s6, s7, -⟩ := blk8 (res8 HPz.out.k0 (.int .i64 (x0)) (.int .i64 (x1)) (.int .i64 (x6)) (.int .i64 (x7)) (.int .i64 (x4)) (.int .i64 (x5)) (.int .i64 (x6)) (.int .i64 (x7)))
      (try simp only [Exit.inBlock, Exit.then]); refine bodyPost_ret (by simp [results, Tryd.results21, go_sem, s0, s1, s2, s3, s4, s5, s6, s7]; try rfl) rfl ?_
      exact ⟨_, rfl, ⟨_, _, _, _, _, _, _, _, rfl⟩, by repeat (first | with_reducible exact HPz.out.bx | with_reducible refine bxset ?_ hbw (Nat.le_refl _))⟩
    · go_upto_region 14 with fail
      have HPz := Lib.hid (QP.to (ys := [x0, x1, x2, x3, x4, x5, x6, x7]) HQ.out rfl)
      obtain ⟨d0, d1, d2, d3, d4, d5, d6, d7, -⟩ := blk8 (show w11.heap[g1]? = some (.cells #[.int .i64 (x0), .int .i64 (x1), .int .i64 (x2), .int .i64 (x3), .int .i64 (x4), .int .i64 (x5), .int .i64 (x6), .int .i64 (x7)] 33 (0, 0)) from HPz.out.k1)
      obtain ⟨z0, z1, z2, z3, z4, z5, z6, z7, zf⟩ := blk8 HPz.out.k0
      go_wp2_with fail
      obtain ⟨s0, s1, s2, s3, s4, s5, s6, s7, -⟩ := blk8 (res8 HPz.out.k0 (.int .i64 (x0)) (.int .i64 (x1)) (.int .i64 (x2)) (.int .i64 (x3)) (.int .i64 (x4)) (.int .i64 (x5)) (.int .i64 (x6)) (.int .i64 (x7)))
      (try simp only [Exit.inBlock, Exit.then]); refine bodyPost_ret (by simp [results, Tryd.results21, go_sem, s0, s1, s2, s3, s4, s5, s6, s7]; try rfl) rfl ?_
      exact ⟨_, rfl, ⟨_, _, _, _, _, _, _, _, rfl⟩, by repeat (first | with_reducible exact HPz.out.bx | with_reducible refine bxset ?_ hbw (Nat.le_refl _))⟩

end Go.Proofs.YtnhhbpdjapccpaaDoor
