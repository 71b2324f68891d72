/-
  What the law of corners draws. Printed by gen/dco.py.
-/
import Derived.Test.YtnhhbpdjapccpaaKb
import Derived.Test.YtnhhbpdjapccpaaLst
import Derived.Test.YtnhhbpdjapccpaaBlk
import Derived.Deep.RegionHeld3
import Derived.Deep.RegionWith
import Derived.Deep.DeepCutAuto
namespace Go.Proofs.Ytnhhbpdjapccpaa
set_option linter.unusedSimpArgs false
open Go.RowKit

theorem blk2 {w : World} {b t : Nat} {x0 x1 : Value} (h : w.heap[b]? = some (.cells #[x0, x1] t (0, 0))) :
    w.cell? ⟨b, 0, none⟩ = some x0 ∧ w.cell? ⟨b, 1, none⟩ = some x1 ∧ ∀ k, w.frozen? ⟨b, k, none⟩ = false := by
  refine ⟨?_, ?_, fun k => ?_⟩ <;> simp [World.cell?, World.frozen?, h]
theorem res2 {w : World} {b t : Nat} {x0 x1 : Value} (h : w.heap[b]? = some (.cells #[x0, x1] t (0, 0))) (y0 y1 : Value) :
    (w |>.setCell ⟨b, 0, none⟩ y0 |>.setCell ⟨b, 1, none⟩ y1).heap[b]? = some (.cells #[y0, y1] t (0, 0)) := by
  have h0 := blk3_set (k := 0) (u := y0) h
  have h1 := blk3_set (k := 1) (u := y1) h0
  simpa using h1
theorem pick_lit {W : World} {g t k : Nat} {cs : Array Value} {v : Value} (hh : W.heap[g]? = some (.cells cs t (0, 0))) (h : cs[k]? = some v) : W.cell? ⟨g, k, none⟩ = some v := (blk_cell hh k).trans h
theorem pick_in {xs : List Int} {lo hi : Int} (hx : allIn lo hi xs = true) {r : Int} (h0 : 0 ≤ r) (h1 : r < xs.length) : ∃ (R : Nat) (v : Int), r = R ∧ R < xs.length ∧ (xs.map (Value.int .i64)).toArray[R]? = some (.int .i64 v) ∧ lo ≤ v ∧ v ≤ hi := by
  obtain ⟨R, rfl⟩ := Int.eq_ofNat_of_zero_le h0
  have hR : R < xs.length := by omega
  have := allIn_nth hx hR
  exact ⟨R, nth xs R, rfl, hR, by simpa using nth_map xs R hR, this.1, this.2⟩
set_option maxHeartbeats 2000000 in
theorem l14DrawSize_any (b : Nat) (A : Option Addr) (n c : Nat) (bs : List Int) (B : Nat) (w : World) (hI : (srcP 110 b A n c bs B).I w) :
    Calls Try.prog 63 #[.pointer (some ⟨b, 0, none⟩)] w fun e w' =>
      ∃ u, e = .returned u ∧ (∃ v : Int, u = .int .i64 v ∧ -100 ≤ v ∧ v ≤ 100) ∧ BX (srcP 110 b A n c bs B) w.heap.size w w' := by
  have hbw := srcP_lt hI
  have HI := Lib.hid hI
  clear hI
  go_enter Try.func63, Try.ntmps63
  go_wp2_with fail
  (go_at_call 62; with_reducible refine (draw_any b A n c bs B (16) _ (bxinv (B := w.heap.size) ?_ HI) (by omega)).mono ?_; (focus (repeat (first | (with_reducible assumption) | (with_reducible exact BX.refl _ _ _) | (with_reducible refine BX.drewN ?_ _) | (with_reducible refine BX.drew ?_) | ((with_reducible refine BX.alloc ?_ ?_ _); rotate_left; (focus (first | (simp; done) | omega | (simp; omega) | (simp [srcP]; done) | (simp [srcP]; omega)))) | ((with_reducible refine BX.setCell ?_ ?_ ?_ _); rotate_left; (focus (first | (simp; done) | omega | (simp; omega) | (simp [srcP]; done) | (simp [srcP]; omega))); (focus (first | (simp; done) | omega | (simp; omega) | (simp [srcP]; done) | (simp [srcP]; omega))))))); rintro e1 w1 ⟨u1, rfl, ⟨r1, rfl, hr1a, hr1b⟩, hb1⟩; have hB1 : BX (srcP 110 b A n c bs B) w.heap.size w w1 := BX.then (by (repeat (first | (with_reducible assumption) | (with_reducible exact BX.refl _ _ _) | (with_reducible refine BX.drewN ?_ _) | (with_reducible refine BX.drew ?_) | ((with_reducible refine BX.alloc ?_ ?_ _); rotate_left; (focus (first | (simp; done) | omega | (simp; omega) | (simp [srcP]; done) | (simp [srcP]; omega)))) | ((with_reducible refine BX.setCell ?_ ?_ ?_ _); rotate_left; (focus (first | (simp; done) | omega | (simp; omega) | (simp [srcP]; done) | (simp [srcP]; omega))); (focus (first | (simp; done) | omega | (simp; omega) | (simp [srcP]; done) | (simp [srcP]; omega))))))) (by first | omega | (simp; done) | (simp; omega)) hb1; have hc1 := bxcell hb1; have hf1 := bxfrozen hb1; simp only [srcP_b] at hc1 hf1)
  have hs1 := hb1.size
  have hbw1 : b < w1.heap.size := by omega
  have hbw2 : b < w1.heap.size + 1 := by omega
  by_cases h1 : r1 = 0
  · subst h1
    go_wp2_with fail
    (go_at_call 62; with_reducible refine (draw_any b A n c bs B (7) _ (bxinv (B := w.heap.size) ?_ HI) (by omega)).mono ?_; (focus (repeat (first | (with_reducible assumption) | (with_reducible exact BX.refl _ _ _) | (with_reducible refine BX.drewN ?_ _) | (with_reducible refine BX.drew ?_) | ((with_reducible refine BX.alloc ?_ ?_ _); rotate_left; (focus (first | (simp; done) | omega | (simp; omega) | (simp [srcP]; done) | (simp [srcP]; omega)))) | ((with_reducible refine BX.setCell ?_ ?_ ?_ _); rotate_left; (focus (first | (simp; done) | omega | (simp; omega) | (simp [srcP]; done) | (simp [srcP]; omega))); (focus (first | (simp; done) | omega | (simp; omega) | (simp [srcP]; done) | (simp [srcP]; omega))))))); rintro e2 w2 ⟨u2, rfl, ⟨r2, rfl, hr2a, hr2b⟩, hb2⟩; have hB2 : BX (srcP 110 b A n c bs B) w.heap.size w w2 := BX.then (by (repeat (first | (with_reducible assumption) | (with_reducible exact BX.refl _ _ _) | (with_reducible refine BX.drewN ?_ _) | (with_reducible refine BX.drew ?_) | ((with_reducible refine BX.alloc ?_ ?_ _); rotate_left; (focus (first | (simp; done) | omega | (simp; omega) | (simp [srcP]; done) | (simp [srcP]; omega)))) | ((with_reducible refine BX.setCell ?_ ?_ ?_ _); rotate_left; (focus (first | (simp; done) | omega | (simp; omega) | (simp [srcP]; done) | (simp [srcP]; omega))); (focus (first | (simp; done) | omega | (simp; omega) | (simp [srcP]; done) | (simp [srcP]; omega))))))) (by first | omega | (simp; done) | (simp; omega)) hb2; have hc2 := bxcell hb2; have hf2 := bxfrozen hb2; simp only [srcP_b] at hc2 hf2)
    have hh2 : w2.heap[w1.heap.size]? = some (.cells ([0, 13, 16, 18, 19, 45, -17].map (Value.int .i64)).toArray 2 (0, 0)) := (hb2.block w1.heap.size (by simp) (by simp; omega)).trans (heap_alloc_new _ _)
    obtain ⟨R, v, rfl, hR, hv, hv1, hv2⟩ := pick_in (xs := [0, 13, 16, 18, 19, 45, -17]) (lo := -100) (hi := 100) (by decide) hr2a (by simp; omega)
    have hck := pick_lit hh2 hv
    have hR' : R < 7 := hR
    clear hh2 hv hc2 hf2
    go_wp2_with fail
    go_ret
    exact ⟨_, rfl, ⟨v, rfl, hv1, hv2⟩, by (repeat (first | (with_reducible assumption) | (with_reducible exact BX.refl _ _ _) | (with_reducible refine BX.drewN ?_ _) | (with_reducible refine BX.drew ?_) | ((with_reducible refine BX.alloc ?_ ?_ _); rotate_left; (focus (first | (simp; done) | omega | (simp; omega) | (simp [srcP]; done) | (simp [srcP]; omega)))) | ((with_reducible refine BX.setCell ?_ ?_ ?_ _); rotate_left; (focus (first | (simp; done) | omega | (simp; omega) | (simp [srcP]; done) | (simp [srcP]; omega))); (focus (first | (simp; done) | omega | (simp; omega) | (simp [srcP]; done) | (simp [srcP]; omega))))))⟩
  · have h1' : (r1 == 0) = false := by simpa using h1
    go_wp2_with fail
    (go_at_call 62; with_reducible refine (draw_any b A n c bs B (6) _ (bxinv (B := w.heap.size) ?_ HI) (by omega)).mono ?_; (focus (repeat (first | (with_reducible assumption) | (with_reducible exact BX.refl _ _ _) | (with_reducible refine BX.drewN ?_ _) | (with_reducible refine BX.drew ?_) | ((with_reducible refine BX.alloc ?_ ?_ _); rotate_left; (focus (first | (simp; done) | omega | (simp; omega) | (simp [srcP]; done) | (simp [srcP]; omega)))) | ((with_reducible refine BX.setCell ?_ ?_ ?_ _); rotate_left; (focus (first | (simp; done) | omega | (simp; omega) | (simp [srcP]; done) | (simp [srcP]; omega))); (focus (first | (simp; done) | omega | (simp; omega) | (simp [srcP]; done) | (simp [srcP]; omega))))))); rintro e2 w2 ⟨u2, rfl, ⟨r2, rfl, hr2a, hr2b⟩, hb2⟩; have hB2 : BX (srcP 110 b A n c bs B) w.heap.size w w2 := BX.then (by (repeat (first | (with_reducible assumption) | (with_reducible exact BX.refl _ _ _) | (with_reducible refine BX.drewN ?_ _) | (with_reducible refine BX.drew ?_) | ((with_reducible refine BX.alloc ?_ ?_ _); rotate_left; (focus (first | (simp; done) | omega | (simp; omega) | (simp [srcP]; done) | (simp [srcP]; omega)))) | ((with_reducible refine BX.setCell ?_ ?_ ?_ _); rotate_left; (focus (first | (simp; done) | omega | (simp; omega) | (simp [srcP]; done) | (simp [srcP]; omega))); (focus (first | (simp; done) | omega | (simp; omega) | (simp [srcP]; done) | (simp [srcP]; omega))))))) (by first | omega | (simp; done) | (simp; omega)) hb2; have hc2 := bxcell hb2; have hf2 := bxfrozen hb2; simp only [srcP_b] at hc2 hf2)
    have hh2 : w2.heap[w1.heap.size]? = some (.cells ([17, 21, 25, 29, 17, 41].map (Value.int .i64)).toArray 2 (0, 0)) := (hb2.block w1.heap.size (by simp) (by simp; omega)).trans (heap_alloc_new _ _)
    obtain ⟨R, v, rfl, hR, hv, hv1, hv2⟩ := pick_in (xs := [17, 21, 25, 29, 17, 41]) (lo := -100) (hi := 100) (by decide) hr2a (by simp; omega)
    have hck := pick_lit hh2 hv
    have hR' : R < 6 := hR
    clear hh2 hv hc2 hf2
    go_wp2_with fail
    go_ret
    exact ⟨_, rfl, ⟨v, rfl, hv1, hv2⟩, by (repeat (first | (with_reducible assumption) | (with_reducible exact BX.refl _ _ _) | (with_reducible refine BX.drewN ?_ _) | (with_reducible refine BX.drew ?_) | ((with_reducible refine BX.alloc ?_ ?_ _); rotate_left; (focus (first | (simp; done) | omega | (simp; omega) | (simp [srcP]; done) | (simp [srcP]; omega)))) | ((with_reducible refine BX.setCell ?_ ?_ ?_ _); rotate_left; (focus (first | (simp; done) | omega | (simp; omega) | (simp [srcP]; done) | (simp [srcP]; omega))); (focus (first | (simp; done) | omega | (simp; omega) | (simp [srcP]; done) | (simp [srcP]; omega))))))⟩
set_option maxHeartbeats 2000000 in
theorem l24Draw_any (b : Nat) (A : Option Addr) (n c : Nat) (bs : List Int) (B : Nat) (w : World) (hI : (srcP 110 b A n c bs B).I w) :
    Calls Try.prog 64 #[.pointer (some ⟨b, 0, none⟩)] w fun e w' =>
      ∃ u, e = .returned u ∧ (∃ x y : Int, u = .agg #[.int .i64 x, .int .i64 y]) ∧ BX (srcP 110 b A n c bs B) w.heap.size w w' := by
  have hbw := srcP_lt hI
  have HI := Lib.hid hI
  clear hI
  go_enter Try.func64, Try.ntmps64
  go_wp2_with fail
  (go_at_call 62; with_reducible refine (draw_any b A n c bs B (30) _ (bxinv (B := w.heap.size) ?_ HI) (by omega)).mono ?_; (focus (repeat (first | (with_reducible assumption) | (with_reducible exact BX.refl _ _ _) | (with_reducible refine BX.drewN ?_ _) | (with_reducible refine BX.drew ?_) | ((with_reducible refine BX.alloc ?_ ?_ _); rotate_left; (focus (first | (simp; done) | omega | (simp; omega) | (simp [srcP]; done) | (simp [srcP]; omega)))) | ((with_reducible refine BX.setCell ?_ ?_ ?_ _); rotate_left; (focus (first | (simp; done) | omega | (simp; omega) | (simp [srcP]; done) | (simp [srcP]; omega))); (focus (first | (simp; done) | omega | (simp; omega) | (simp [srcP]; done) | (simp [srcP]; omega))))))); rintro e1 w1 ⟨u1, rfl, ⟨r1, rfl, hr1a, hr1b⟩, hb1⟩; have hB1 : BX (srcP 110 b A n c bs B) w.heap.size w w1 := BX.then (by (repeat (first | (with_reducible assumption) | (with_reducible exact BX.refl _ _ _) | (with_reducible refine BX.drewN ?_ _) | (with_reducible refine BX.drew ?_) | ((with_reducible refine BX.alloc ?_ ?_ _); rotate_left; (focus (first | (simp; done) | omega | (simp; omega) | (simp [srcP]; done) | (simp [srcP]; omega)))) | ((with_reducible refine BX.setCell ?_ ?_ ?_ _); rotate_left; (focus (first | (simp; done) | omega | (simp; omega) | (simp [srcP]; done) | (simp [srcP]; omega))); (focus (first | (simp; done) | omega | (simp; omega) | (simp [srcP]; done) | (simp [srcP]; omega))))))) (by first | omega | (simp; done) | (simp; omega)) hb1; have hc1 := bxcell hb1; have hf1 := bxfrozen hb1; simp only [srcP_b] at hc1 hf1; have hz1a : w.heap.size < w1.heap.size := (by have := hb1.size; first | omega | (simp at this; omega)))
  (have hh1 := Lib.hid (show w1.heap[w.heap.size]? = some (.cells #[.int .i64 0, .int .i64 0] 38 (0, 0)) from (hb1.block (w.heap.size) (by first | omega | (simp; done) | (simp; omega) | (simp [srcP]; omega)) (by first | omega | (simp; done) | (simp; omega) | (simp [srcP]; omega))).trans (by repeat (first | (with_reducible exact rfl) | (with_reducible exact heap_alloc_new _ _) | (rw [heap_drew1]) | (rw [heap_drewN1]) | (rw [Below.heap_setCell _ _ _ _ (by first | omega | (simp; done) | (simp; omega) | (simp [srcP]; omega))]) | (rw [Below.heap_alloc _ _ _ (by first | omega | (simp; done) | (simp; omega) | (simp [srcP]; omega))])))))
  have hs1 := hb1.size
  simp only [World.size_alloc] at hs1
  have hbw1 : b < w1.heap.size := by omega
  have hbw2 : b < w1.heap.size + 1 := by omega
  clear hc1 hf1
  by_cases h1 : r1 = 0
  · subst h1
    go_wp2_with fail
    (go_at_call 62; with_reducible refine (draw_any b A n c bs B (3) _ (bxinv (B := w.heap.size) ?_ HI) (by omega)).mono ?_; (focus (repeat (first | (with_reducible assumption) | (with_reducible exact BX.refl _ _ _) | (with_reducible refine BX.drewN ?_ _) | (with_reducible refine BX.drew ?_) | ((with_reducible refine BX.alloc ?_ ?_ _); rotate_left; (focus (first | (simp; done) | omega | (simp; omega) | (simp [srcP]; done) | (simp [srcP]; omega)))) | ((with_reducible refine BX.setCell ?_ ?_ ?_ _); rotate_left; (focus (first | (simp; done) | omega | (simp; omega) | (simp [srcP]; done) | (simp [srcP]; omega))); (focus (first | (simp; done) | omega | (simp; omega) | (simp [srcP]; done) | (simp [srcP]; omega))))))); rintro e2 w2 ⟨u2, rfl, ⟨r2, rfl, hr2a, hr2b⟩, hb2⟩; have hB2 : BX (srcP 110 b A n c bs B) w.heap.size w w2 := BX.then (by (repeat (first | (with_reducible assumption) | (with_reducible exact BX.refl _ _ _) | (with_reducible refine BX.drewN ?_ _) | (with_reducible refine BX.drew ?_) | ((with_reducible refine BX.alloc ?_ ?_ _); rotate_left; (focus (first | (simp; done) | omega | (simp; omega) | (simp [srcP]; done) | (simp [srcP]; omega)))) | ((with_reducible refine BX.setCell ?_ ?_ ?_ _); rotate_left; (focus (first | (simp; done) | omega | (simp; omega) | (simp [srcP]; done) | (simp [srcP]; omega))); (focus (first | (simp; done) | omega | (simp; omega) | (simp [srcP]; done) | (simp [srcP]; omega))))))) (by first | omega | (simp; done) | (simp; omega)) hb2; have hc2 := bxcell hb2; have hf2 := bxfrozen hb2; simp only [srcP_b] at hc2 hf2; have hz2a : w.heap.size < w2.heap.size := (by have := hb2.size; first | omega | (simp at this; omega)))
    (have hh2 := Lib.hid (show w2.heap[w.heap.size]? = some (.cells #[.int .i64 0, .int .i64 0] 38 (0, 0)) from (hb2.block (w.heap.size) (by first | omega | (simp; done) | (simp; omega) | (simp [srcP]; omega)) (by first | omega | (simp; done) | (simp; omega) | (simp [srcP]; omega))).trans (by repeat (first | (with_reducible exact hh1.out) | (with_reducible exact heap_alloc_new _ _) | (rw [heap_drew1]) | (rw [heap_drewN1]) | (rw [Below.heap_setCell _ _ _ _ (by first | omega | (simp; done) | (simp; omega) | (simp [srcP]; omega))]) | (rw [Below.heap_alloc _ _ _ (by first | omega | (simp; done) | (simp; omega) | (simp [srcP]; omega))])))))
    have hh3 : w2.heap[w1.heap.size]? = some (.cells ([4000, 4001, -4001].map (Value.int .i64)).toArray 2 (0, 0)) := (hb2.block w1.heap.size (by simp) (by simp; omega)).trans (heap_alloc_new _ _)
    have h3 : r2 = 0 ∨ r2 = 1 ∨ r2 = 2 := by omega
    obtain ⟨y0, y1, yf⟩ := blk2 hh2.out
    obtain ⟨v, hv, hck⟩ : ∃ (v : Int) (k : Nat), r2 = k ∧ k < 3 ∧ w2.cell? ⟨w1.heap.size, k, none⟩ = some (.int .i64 v) := by
      rcases h3 with rfl | rfl | rfl
      · exact ⟨4000, 0, rfl, by decide, (blk_cell hh3 0).trans rfl⟩
      · exact ⟨4001, 1, rfl, by decide, (blk_cell hh3 1).trans rfl⟩
      · exact ⟨-4001, 2, rfl, by decide, (blk_cell hh3 2).trans rfl⟩
    obtain ⟨rfl, hk3, hck⟩ := hck
    obtain ⟨s0, s1, -⟩ := blk2 (res2 hh2.out (.int .i64 v) (.int .i64 3))
    clear hc2 hf2 hh3 h3
    go_wp2_with fail
    (try simp only [Exit.inBlock, Exit.then]); refine bodyPost_ret (by simp [results, Try.results64, go_sem, s0, s1]; try rfl) rfl ?_
    exact ⟨_, rfl, ⟨_, _, rfl⟩, by (repeat (first | (with_reducible assumption) | (with_reducible exact BX.refl _ _ _) | (with_reducible refine BX.drewN ?_ _) | (with_reducible refine BX.drew ?_) | ((with_reducible refine BX.alloc ?_ ?_ _); rotate_left; (focus (first | (simp; done) | omega | (simp; omega) | (simp [srcP]; done) | (simp [srcP]; omega)))) | ((with_reducible refine BX.setCell ?_ ?_ ?_ _); rotate_left; (focus (first | (simp; done) | omega | (simp; omega) | (simp [srcP]; done) | (simp [srcP]; omega))); (focus (first | (simp; done) | omega | (simp; omega) | (simp [srcP]; done) | (simp [srcP]; omega))))))⟩
  · have h1' : (r1 == 0) = false := by simpa using h1
    go_wp2_with fail
    (go_at_call 62; with_reducible refine (draw_any b A n c bs B (300) _ (bxinv (B := w.heap.size) ?_ HI) (by omega)).mono ?_; (focus (repeat (first | (with_reducible assumption) | (with_reducible exact BX.refl _ _ _) | (with_reducible refine BX.drewN ?_ _) | (with_reducible refine BX.drew ?_) | ((with_reducible refine BX.alloc ?_ ?_ _); rotate_left; (focus (first | (simp; done) | omega | (simp; omega) | (simp [srcP]; done) | (simp [srcP]; omega)))) | ((with_reducible refine BX.setCell ?_ ?_ ?_ _); rotate_left; (focus (first | (simp; done) | omega | (simp; omega) | (simp [srcP]; done) | (simp [srcP]; omega))); (focus (first | (simp; done) | omega | (simp; omega) | (simp [srcP]; done) | (simp [srcP]; omega))))))); rintro e2 w2 ⟨u2, rfl, ⟨r2, rfl, hr2a, hr2b⟩, hb2⟩; have hB2 : BX (srcP 110 b A n c bs B) w.heap.size w w2 := BX.then (by (repeat (first | (with_reducible assumption) | (with_reducible exact BX.refl _ _ _) | (with_reducible refine BX.drewN ?_ _) | (with_reducible refine BX.drew ?_) | ((with_reducible refine BX.alloc ?_ ?_ _); rotate_left; (focus (first | (simp; done) | omega | (simp; omega) | (simp [srcP]; done) | (simp [srcP]; omega)))) | ((with_reducible refine BX.setCell ?_ ?_ ?_ _); rotate_left; (focus (first | (simp; done) | omega | (simp; omega) | (simp [srcP]; done) | (simp [srcP]; omega))); (focus (first | (simp; done) | omega | (simp; omega) | (simp [srcP]; done) | (simp [srcP]; omega))))))) (by first | omega | (simp; done) | (simp; omega)) hb2; have hc2 := bxcell hb2; have hf2 := bxfrozen hb2; simp only [srcP_b] at hc2 hf2; have hz2a : w.heap.size < w2.heap.size := (by have := hb2.size; first | omega | (simp at this; omega)))
    (have hh2 := Lib.hid (show w2.heap[w.heap.size]? = some (.cells #[.int .i64 0, .int .i64 0] 38 (0, 0)) from (hb2.block (w.heap.size) (by first | omega | (simp; done) | (simp; omega) | (simp [srcP]; omega)) (by first | omega | (simp; done) | (simp; omega) | (simp [srcP]; omega))).trans (by repeat (first | (with_reducible exact hh1.out) | (with_reducible exact heap_alloc_new _ _) | (rw [heap_drew1]) | (rw [heap_drewN1]) | (rw [Below.heap_setCell _ _ _ _ (by first | omega | (simp; done) | (simp; omega) | (simp [srcP]; omega))]) | (rw [Below.heap_alloc _ _ _ (by first | omega | (simp; done) | (simp; omega) | (simp [srcP]; omega))])))))
    have hbw3 : b < w2.heap.size := by have := hb2.size; omega
    clear hc2 hf2
    go_wp2_with fail
    (go_at_call 62; with_reducible refine (draw_any b A n c bs B (300) _ (bxinv (B := w.heap.size) ?_ HI) (by omega)).mono ?_; (focus (repeat (first | (with_reducible assumption) | (with_reducible exact BX.refl _ _ _) | (with_reducible refine BX.drewN ?_ _) | (with_reducible refine BX.drew ?_) | ((with_reducible refine BX.alloc ?_ ?_ _); rotate_left; (focus (first | (simp; done) | omega | (simp; omega) | (simp [srcP]; done) | (simp [srcP]; omega)))) | ((with_reducible refine BX.setCell ?_ ?_ ?_ _); rotate_left; (focus (first | (simp; done) | omega | (simp; omega) | (simp [srcP]; done) | (simp [srcP]; omega))); (focus (first | (simp; done) | omega | (simp; omega) | (simp [srcP]; done) | (simp [srcP]; omega))))))); rintro e3 w3 ⟨u3, rfl, ⟨r3, rfl, hr3a, hr3b⟩, hb3⟩; have hB3 : BX (srcP 110 b A n c bs B) w.heap.size w w3 := BX.then (by (repeat (first | (with_reducible assumption) | (with_reducible exact BX.refl _ _ _) | (with_reducible refine BX.drewN ?_ _) | (with_reducible refine BX.drew ?_) | ((with_reducible refine BX.alloc ?_ ?_ _); rotate_left; (focus (first | (simp; done) | omega | (simp; omega) | (simp [srcP]; done) | (simp [srcP]; omega)))) | ((with_reducible refine BX.setCell ?_ ?_ ?_ _); rotate_left; (focus (first | (simp; done) | omega | (simp; omega) | (simp [srcP]; done) | (simp [srcP]; omega))); (focus (first | (simp; done) | omega | (simp; omega) | (simp [srcP]; done) | (simp [srcP]; omega))))))) (by first | omega | (simp; done) | (simp; omega)) hb3; have hc3 := bxcell hb3; have hf3 := bxfrozen hb3; simp only [srcP_b] at hc3 hf3; have hz3a : w.heap.size < w3.heap.size := (by have := hb3.size; first | omega | (simp at this; omega)))
    (have hh3 := Lib.hid (show w3.heap[w.heap.size]? = some (.cells #[.int .i64 0, .int .i64 0] 38 (0, 0)) from (hb3.block (w.heap.size) (by first | omega | (simp; done) | (simp; omega) | (simp [srcP]; omega)) (by first | omega | (simp; done) | (simp; omega) | (simp [srcP]; omega))).trans (by repeat (first | (with_reducible exact hh2.out) | (with_reducible exact heap_alloc_new _ _) | (rw [heap_drew1]) | (rw [heap_drewN1]) | (rw [Below.heap_setCell _ _ _ _ (by first | omega | (simp; done) | (simp; omega) | (simp [srcP]; omega))]) | (rw [Below.heap_alloc _ _ _ (by first | omega | (simp; done) | (simp; omega) | (simp [srcP]; omega))])))))
    obtain ⟨y0, y1, yf⟩ := blk2 hh3.out
    obtain ⟨s0, s1, -⟩ := blk2 (res2 hh3.out (.int .i64 r2) (.int .i64 r3))
    clear hc3 hf3
    go_wp2_with fail
    (try simp only [Exit.inBlock, Exit.then]); refine bodyPost_ret (by simp [results, Try.results64, go_sem, s0, s1]; try rfl) rfl ?_
    exact ⟨_, rfl, ⟨_, _, rfl⟩, by (repeat (first | (with_reducible assumption) | (with_reducible exact BX.refl _ _ _) | (with_reducible refine BX.drewN ?_ _) | (with_reducible refine BX.drew ?_) | ((with_reducible refine BX.alloc ?_ ?_ _); rotate_left; (focus (first | (simp; done) | omega | (simp; omega) | (simp [srcP]; done) | (simp [srcP]; omega)))) | ((with_reducible refine BX.setCell ?_ ?_ ?_ _); rotate_left; (focus (first | (simp; done) | omega | (simp; omega) | (simp [srcP]; done) | (simp [srcP]; omega))); (focus (first | (simp; done) | omega | (simp; omega) | (simp [srcP]; done) | (simp [srcP]; omega))))))⟩

set_option maxRecDepth 20000 in
set_option maxHeartbeats 8000000 in
theorem DrawCornersOf_any (A : Option Addr) (n c : Nat) (bs : List Int) (B : Nat) (w0 : World) (hb : RB w0 B A n bs) (hB0 : B ≤ w0.heap.size) (hn : n ≤ 4096) :
    Calls Try.prog 34 #[.slice A n c] w0 fun e w' =>
      ∃ u, e = .returned u ∧ (∃ ax ay bx bY cx cy m : Int, u = .tuple #[.agg #[.int .i64 ax, .int .i64 ay], .agg #[.int .i64 bx, .int .i64 bY], .agg #[.int .i64 cx, .int .i64 cy], .int .i64 m]) ∧ Below w0.heap.size w0 w' := by
  have HRB := Lib.hid hb
  clear hb
  go_enter Try.func34, Try.ntmps34
  go_wp2_with fail
  (go_at_call 60; go_call (l01From_any A n c bs _ B (HRB.out.below (((Below.refl B w0).alloc hB0 _).alloc (by simp; omega) _ |>.alloc (by simp; omega) _)) (by simp; omega) hn) as e w ⟨rfl, hs, hb0⟩)
  have hI : (srcP 110 (w0.heap.size + 1 + 1 + 1) A n c bs B).I w := ⟨by simpa using hs, (HRB.out.below (((Below.refl B w0).alloc hB0 _).alloc (by simp; omega) _ |>.alloc (by simp; omega) _)).below (hb0.mono (by simp; omega)), by omega, hn⟩
  have hB0w : Below w0.heap.size w0 w := (((Below.refl _ _).alloc (Nat.le_refl _) _).alloc (by simp) _ |>.alloc (by simp; omega) _).trans (hb0.mono (by simp; omega))
  have hh0 := blk_below (blk_alloc (u := .cells #[.int .i64 0, .int .i64 0] 38) (blk_alloc (u := .cells #[.int .i64 0, .int .i64 0] 38) (heap_alloc_new w0 (.cells #[.int .i64 0, .int .i64 0] 38)) (by simp)) (by simp; omega)) hb0 (by simp; omega)
  have hh1 := blk_below (blk_alloc (u := .cells #[.int .i64 0, .int .i64 0] 38) (heap_alloc_at (w := w0.alloc (.cells #[.int .i64 0, .int .i64 0] 38)) (b := w0.heap.size + 1) (o := .cells #[.int .i64 0, .int .i64 0] 38) (by simp)) (by simp; try omega)) hb0 (by simp; try omega)
  have hh2 := blk_below (heap_alloc_at (w := (w0.alloc (.cells #[.int .i64 0, .int .i64 0] 38)).alloc (.cells #[.int .i64 0, .int .i64 0] 38)) (b := w0.heap.size + 1 + 1) (o := .cells #[.int .i64 0, .int .i64 0] 38) (by simp)) hb0 (by simp; try omega)
  simp only [World.size_alloc]
  obtain ⟨b, hbd⟩ : ∃ b, w0.heap.size + 1 + 1 + 1 = b := ⟨_, rfl⟩
  rw [hbd] at hI ⊢
  have hbw := srcP_lt hI
  have hK0 : KB (srcP 110 b A n c bs B) w0 [(w0.heap.size, .cells #[.int .i64 0, .int .i64 0] 38 (0, 0)), (w0.heap.size + 1, .cells #[.int .i64 0, .int .i64 0] 38 (0, 0)), (w0.heap.size + 1 + 1, .cells #[.int .i64 0, .int .i64 0] 38 (0, 0))] w := by
    refine ⟨⟨hB0w.os, hB0w.tape, hB0w.output, hB0w.size, fun k hk _ => hB0w.block k hk, fun _ => hI⟩, hI, fun p hp => ?_⟩
    simp only [List.mem_cons, List.not_mem_nil, or_false] at hp
    rcases hp with rfl | rfl | rfl
    · exact ⟨hh0, by simp; omega⟩
    · exact ⟨hh1, by simp; omega⟩
    · exact ⟨hh2, by simp; omega⟩
  have HK0 := Lib.hid hK0
  clear hI hh0 hh1 hh2 hs hb0 hB0w hK0
  go_wp2_with fail
  go_at_call 63
  with_reducible refine (l14DrawSize_any b A n c bs B _ HK0.out.inv).mono ?_
  rintro e1 w1 ⟨u1, rfl, ⟨m, rfl, -, -⟩, hb1⟩
  have HK1 := Lib.hid (HK0.out.step hb1)
  clear hb1 HK0
  go_wp2_with fail
  go_at_call 64
  with_reducible refine (l24Draw_any b A n c bs B _ HK1.out.inv).mono ?_
  rintro e2 w2 ⟨u2, rfl, ⟨ax, ay, rfl⟩, hb2⟩
  have HK2 := Lib.hid (HK1.out.step hb2)
  clear hb2 HK1
  have HK3 := Lib.hid (HK2.out.push #[.int .i64 ax, .int .i64 ay] 38 rfl)
  have hz3 : w2.heap.size < (w2.alloc (.cells #[.int .i64 ax, .int .i64 ay] 38)).heap.size := by simp
  have hz2 : w0.heap.size + 1 + 1 + 1 ≤ w2.heap.size := by have := HK2.out.bx.size; have := HK2.out.lt (g := w0.heap.size + 1 + 1) (o := .cells #[.int .i64 0, .int .i64 0] 38 (0, 0)) (by simp); omega
  have hbz : b < w2.heap.size := srcP_lt HK2.out.inv
  go_wp2_with fail
  generalize w2.alloc (.cells #[.int .i64 ax, .int .i64 ay] 38) = w3 at *
  obtain ⟨g8, hg8⟩ : ∃ g, w2.heap.size = g := ⟨_, rfl⟩
  rw [hg8] at HK3 hz3 hz2 hbz ⊢
  clear hg8 HK2
  go_at_call 62
  with_reducible refine (draw_any b A n c bs B 60 _ HK3.out.inv (by omega)).mono ?_
  rintro e4 w4 ⟨u4, rfl, ⟨r4, rfl, hr4a, hr4b⟩, hb4⟩
  have HK4 := Lib.hid (HK3.out.step hb4)
  have hz4 : g8 < w4.heap.size := by have := hb4.size; omega
  clear hb4 HK3 hz3
  obtain ⟨a0, a1⟩ := KB.two HK4.out List.mem_cons_self
  go_upto_region 5 with fail

  go_cut [10] (fun t wx => ∃ (g : Nat) (x y : Int), t = .pointer (some ⟨g, 0, none⟩) ∧ Hid (KB (srcP 110 b A n c bs B) w0 ((g, .cells #[.int .i64 x, .int .i64 y] 38 (0, 0)) :: [(g8, .cells #[.int .i64 ax, .int .i64 ay] 38 (0, 0)), (w0.heap.size, .cells #[.int .i64 0, .int .i64 0] 38 (0, 0)), (w0.heap.size + 1, .cells #[.int .i64 0, .int .i64 0] 38 (0, 0)), (w0.heap.size + 1 + 1, .cells #[.int .i64 0, .int .i64 0] 38 (0, 0))]) wx ∧ w4.heap.size ≤ g))
  case first =>
    go_region_held3 (fun w' => w'.cell? ⟨g8, 0, none⟩ = some (.int .i64 ax) ∧ w'.cell? ⟨g8, 1, none⟩ = some (.int .i64 ay))
      (first | exact KB.two HK4.out.drew List.mem_cons_self | exact KB.two HK4.out List.mem_cons_self | exact KB.two (HK4.out.push #[.int .i64 0, .int .i64 0] 38 rfl) (List.mem_cons_of_mem _ List.mem_cons_self) | exact KB.two HQ5.out List.mem_cons_self | exact KB.two HQ5.out (List.mem_cons_of_mem _ List.mem_cons_self) | exact KB.two (HQ5.out.push #[.int .i64 0, .int .i64 0] 38 rfl) (List.mem_cons_of_mem _ List.mem_cons_self) | exact KB.two (HQ5.out.push _ _ rfl) (List.mem_cons_of_mem _ List.mem_cons_self) | exact KB.two (HQ5.out.push _ _ rfl).drew (List.mem_cons_of_mem _ List.mem_cons_self) | exact KB.two (HE5.out _ _) (List.mem_cons_of_mem _ List.mem_cons_self) | go_keep)
      ((go_at_call 62
        with_reducible refine (draw_any b A n c bs B 13 _ ?_ (by omega)).mono ?_
        (focus (first | exact HK4.out.inv | exact HK4.out.drew.inv | exact (HK4.out.push _ _ rfl).inv | exact (HK4.out.push _ _ rfl).drew.inv | exact (HK4.out.drew.push _ _ rfl).inv))
        rintro e5 w5 ⟨u5, rfl, ⟨r5, rfl, hr5a, hr5b⟩, hb5⟩
        have hq5 := hb5.size
        (first | have HQ5 := Lib.hid (HK4.out.step hb5) | have HQ5 := Lib.hid (HK4.out.drew.step hb5) | have HQ5 := Lib.hid ((HK4.out.push #[.int .i64 0, .int .i64 0] 38 rfl).step hb5) | have HQ5 := Lib.hid ((HK4.out.push #[.int .i64 0, .int .i64 0] 38 rfl).drew.step hb5))
        have HE5 := Lib.hid (fun x y : Int => KB.set2 (x := .int .i64 x) (y := .int .i64 y) HQ5.out (by first | omega | (simp at hq5 ⊢; omega)) (by first | (simp; omega) | (simp at hq5 ⊢; omega)) (by first | (simp; omega) | (simp at hq5 ⊢; omega)))
        (first | (refine (fun (hgg : w5.heap[w4.heap.size]? = some (.cells #[.int .i64 0, .int .i64 0] 38 (0, 0))) => ?_) ?_; rotate_left; (focus (exact HQ5.out.get List.mem_cons_self)); obtain ⟨gg0, gg1, ggf⟩ := blk2 hgg) | skip)
        clear hb5))
    all_goals
      go_wp2_with fail
      go_meet
      case rel =>
        first
          | exact ⟨_, _, _, rfl, Lib.hid ⟨HQ5.out.push _ _ rfl, by have := HQ5.out.bx.size; first | omega | (have := hq5; simp at *; omega)⟩⟩
          | exact ⟨_, _, _, rfl, Lib.hid ⟨(HQ5.out.push _ _ rfl).drew, by have := HQ5.out.bx.size; first | omega | (have := hq5; simp at *; omega)⟩⟩
          | exact ⟨_, _, _, rfl, Lib.hid ⟨HE5.out _ _, Nat.le_refl _⟩⟩
          | exact ⟨_, _, _, rfl, Lib.hid ⟨(HE5.out _ _).drew, Nat.le_refl _⟩⟩
  obtain ⟨g10, x5, y5, rfl, hcut⟩ := hcut
  rename World => v5
  have HK5 := Lib.hid hcut.out.1
  have hg5 := hcut.out.2
  clear hcut

  have hz5 : g8 < v5.heap.size := HK5.out.lt (List.mem_cons_of_mem _ List.mem_cons_self)
  have hz10 : g10 < v5.heap.size := HK5.out.lt List.mem_cons_self
  clear a0 a1 HK4
  obtain ⟨a0, a1⟩ := KB.two HK5.out (List.mem_cons_of_mem _ List.mem_cons_self)
  go_upto_region 6 with fail

  go_cut [11] (fun t wx => ∃ (g : Nat) (x y : Int), t = .pointer (some ⟨g, 0, none⟩) ∧ Hid (KB (srcP 110 b A n c bs B) w0 ((g, .cells #[.int .i64 x, .int .i64 y] 38 (0, 0)) :: (g10, .cells #[.int .i64 x5, .int .i64 y5] 38 (0, 0)) :: [(g8, .cells #[.int .i64 ax, .int .i64 ay] 38 (0, 0)), (w0.heap.size, .cells #[.int .i64 0, .int .i64 0] 38 (0, 0)), (w0.heap.size + 1, .cells #[.int .i64 0, .int .i64 0] 38 (0, 0)), (w0.heap.size + 1 + 1, .cells #[.int .i64 0, .int .i64 0] 38 (0, 0))]) wx ∧ v5.heap.size ≤ g))
  case first =>
    go_region_held3 (fun w' => w'.cell? ⟨g8, 0, none⟩ = some (.int .i64 ax) ∧ w'.cell? ⟨g8, 1, none⟩ = some (.int .i64 ay))
      (first | exact KB.two HK5.out.drew (List.mem_cons_of_mem _ List.mem_cons_self) | exact KB.two HK5.out (List.mem_cons_of_mem _ List.mem_cons_self) | exact KB.two (HK5.out.push #[.int .i64 0, .int .i64 0] 38 rfl) (List.mem_cons_of_mem _ (List.mem_cons_of_mem _ List.mem_cons_self)) | exact KB.two HQ6.out (List.mem_cons_of_mem _ List.mem_cons_self) | exact KB.two HQ6.out (List.mem_cons_of_mem _ (List.mem_cons_of_mem _ List.mem_cons_self)) | exact KB.two (HQ6.out.push #[.int .i64 0, .int .i64 0] 38 rfl) (List.mem_cons_of_mem _ (List.mem_cons_of_mem _ List.mem_cons_self)) | exact KB.two (HQ6.out.push _ _ rfl) (List.mem_cons_of_mem _ (List.mem_cons_of_mem _ List.mem_cons_self)) | exact KB.two (HQ6.out.push _ _ rfl).drew (List.mem_cons_of_mem _ (List.mem_cons_of_mem _ List.mem_cons_self)) | exact KB.two (HE6.out _ _) (List.mem_cons_of_mem _ (List.mem_cons_of_mem _ List.mem_cons_self)) | go_keep)
      ((go_at_call 62
        with_reducible refine (draw_any b A n c bs B 13 _ ?_ (by omega)).mono ?_
        (focus (first | exact HK5.out.inv | exact HK5.out.drew.inv | exact (HK5.out.push _ _ rfl).inv | exact (HK5.out.push _ _ rfl).drew.inv | exact (HK5.out.drew.push _ _ rfl).inv))
        rintro e6 w6 ⟨u6, rfl, ⟨r6, rfl, hr6a, hr6b⟩, hb6⟩
        have hq6 := hb6.size
        (first | have HQ6 := Lib.hid (HK5.out.step hb6) | have HQ6 := Lib.hid (HK5.out.drew.step hb6) | have HQ6 := Lib.hid ((HK5.out.push #[.int .i64 0, .int .i64 0] 38 rfl).step hb6) | have HQ6 := Lib.hid ((HK5.out.push #[.int .i64 0, .int .i64 0] 38 rfl).drew.step hb6))
        have HE6 := Lib.hid (fun x y : Int => KB.set2 (x := .int .i64 x) (y := .int .i64 y) HQ6.out (by first | omega | (simp at hq6 ⊢; omega)) (by first | (simp; omega) | (simp at hq6 ⊢; omega)) (by first | (simp; omega) | (simp at hq6 ⊢; omega)))
        (first | (refine (fun (hgg : w6.heap[v5.heap.size]? = some (.cells #[.int .i64 0, .int .i64 0] 38 (0, 0))) => ?_) ?_; rotate_left; (focus (exact HQ6.out.get List.mem_cons_self)); obtain ⟨gg0, gg1, ggf⟩ := blk2 hgg) | skip)
        clear hb6))
    all_goals
      go_wp2_with fail
      go_meet
      case rel =>
        first
          | exact ⟨_, _, _, rfl, Lib.hid ⟨HQ6.out.push _ _ rfl, by have := HQ6.out.bx.size; first | omega | (have := hq6; simp at *; omega)⟩⟩
          | exact ⟨_, _, _, rfl, Lib.hid ⟨(HQ6.out.push _ _ rfl).drew, by have := HQ6.out.bx.size; first | omega | (have := hq6; simp at *; omega)⟩⟩
          | exact ⟨_, _, _, rfl, Lib.hid ⟨HE6.out _ _, Nat.le_refl _⟩⟩
          | exact ⟨_, _, _, rfl, Lib.hid ⟨(HE6.out _ _).drew, Nat.le_refl _⟩⟩
  obtain ⟨g11, x6, y6, rfl, hcut⟩ := hcut
  rename World => v6
  have HK6 := Lib.hid hcut.out.1
  have hg6 := hcut.out.2
  clear hcut

  clear a0 a1
  clear HK5
  go_wp2_with fail
  go_at_call 62
  with_reducible refine (draw_any b A n c bs B 12 _ HK6.out.inv (by omega)).mono ?_
  rintro e7 w7 ⟨u7, rfl, ⟨r7, rfl, hr7a, hr7b⟩, hb7⟩
  have HK7 := Lib.hid (HK6.out.step hb7)
  have hz11 : g11 < w7.heap.size := HK7.out.lt List.mem_cons_self
  have hz10' : g10 < w7.heap.size := HK7.out.lt (List.mem_cons_of_mem _ List.mem_cons_self)
  have hz8' : g8 < w7.heap.size := HK7.out.lt (List.mem_cons_of_mem _ (List.mem_cons_of_mem _ List.mem_cons_self))
  clear hb7 HK6

  by_cases h0 : r7 = 0
  · subst h0
    obtain ⟨d0, d1⟩ := KB.two HK7.out (List.mem_cons_of_mem _ List.mem_cons_self)
    have cf := KB.free HK7.out List.mem_cons_self
    obtain ⟨c0, c1⟩ := KB.two HK7.out List.mem_cons_self
    go_upto_region 9 with fail
    have HK8 := Lib.hid (KB.set2 (x := .int .i64 x5) (y := .int .i64 y5) HK7.out (by omega) (by simp; omega) (by simp; omega))
    generalize (w7.setCell ⟨g11, 0, none⟩ (.int .i64 x5)).setCell ⟨g11, 1, none⟩ (.int .i64 y5) = w8 at *
    clear d0 d1 c0 c1 cf
    obtain ⟨c0, c1⟩ := KB.two HK8.out List.mem_cons_self
    obtain ⟨d0, d1⟩ := KB.two HK8.out (List.mem_cons_of_mem _ List.mem_cons_self)
    obtain ⟨a0, a1⟩ := KB.two HK8.out (List.mem_cons_of_mem _ (List.mem_cons_of_mem _ List.mem_cons_self))
    obtain ⟨z0, z1⟩ := KB.two HK8.out (List.mem_cons_of_mem _ (List.mem_cons_of_mem _ (List.mem_cons_of_mem _ List.mem_cons_self)))
    have zf := KB.free HK8.out (List.mem_cons_of_mem _ (List.mem_cons_of_mem _ (List.mem_cons_of_mem _ List.mem_cons_self)))
    obtain ⟨y0, y1⟩ := KB.two HK8.out (List.mem_cons_of_mem _ (List.mem_cons_of_mem _ (List.mem_cons_of_mem _ (List.mem_cons_of_mem _ List.mem_cons_self))))
    have yf := KB.free HK8.out (List.mem_cons_of_mem _ (List.mem_cons_of_mem _ (List.mem_cons_of_mem _ (List.mem_cons_of_mem _ List.mem_cons_self))))
    obtain ⟨x0, x1⟩ := KB.two HK8.out (List.mem_cons_of_mem _ (List.mem_cons_of_mem _ (List.mem_cons_of_mem _ (List.mem_cons_of_mem _ (List.mem_cons_of_mem _ List.mem_cons_self)))))
    have xf := KB.free HK8.out (List.mem_cons_of_mem _ (List.mem_cons_of_mem _ (List.mem_cons_of_mem _ (List.mem_cons_of_mem _ (List.mem_cons_of_mem _ List.mem_cons_self)))))
    have hzr : w0.heap.size + 1 + 1 < w8.heap.size := by have := HK8.out.lt List.mem_cons_self; omega
    have HBF := Lib.hid (HK8.out.bx.below (show w0.heap.size ≤ b by omega))
    go_region
    go_wp2_with fail
    (try simp only [Exit.inBlock, Exit.then]); refine bodyPost_ret (by simp [results, Try.results34, go_sem, x0, x1, y0, y1, z0, z1]; try rfl) rfl ?_
    exact ⟨_, rfl, ⟨_, _, _, _, _, _, _, rfl⟩, (Below.setCell (p := ⟨w0.heap.size + 1 + 1, 1, none⟩) (Below.setCell (p := ⟨w0.heap.size + 1 + 1, 0, none⟩) (Below.setCell (p := ⟨w0.heap.size + 1, 1, none⟩) (Below.setCell (p := ⟨w0.heap.size + 1, 0, none⟩) (Below.setCell (p := ⟨w0.heap.size, 1, none⟩) (Below.setCell (p := ⟨w0.heap.size, 0, none⟩) HBF.out (Nat.le_refl _) _) (Nat.le_refl _) _) (by simp) _) (by simp) _) (by simp; omega) _) (by simp; omega) _).drew⟩
  · have h0' : (r7 == 0) = false := by simpa using h0
    go_upto_region 9 with fail
    obtain ⟨c0, c1⟩ := KB.two HK7.out List.mem_cons_self
    obtain ⟨d0, d1⟩ := KB.two HK7.out (List.mem_cons_of_mem _ List.mem_cons_self)
    obtain ⟨a0, a1⟩ := KB.two HK7.out (List.mem_cons_of_mem _ (List.mem_cons_of_mem _ List.mem_cons_self))
    obtain ⟨z0, z1⟩ := KB.two HK7.out (List.mem_cons_of_mem _ (List.mem_cons_of_mem _ (List.mem_cons_of_mem _ List.mem_cons_self)))
    have zf := KB.free HK7.out (List.mem_cons_of_mem _ (List.mem_cons_of_mem _ (List.mem_cons_of_mem _ List.mem_cons_self)))
    obtain ⟨y0, y1⟩ := KB.two HK7.out (List.mem_cons_of_mem _ (List.mem_cons_of_mem _ (List.mem_cons_of_mem _ (List.mem_cons_of_mem _ List.mem_cons_self))))
    have yf := KB.free HK7.out (List.mem_cons_of_mem _ (List.mem_cons_of_mem _ (List.mem_cons_of_mem _ (List.mem_cons_of_mem _ List.mem_cons_self))))
    obtain ⟨x0, x1⟩ := KB.two HK7.out (List.mem_cons_of_mem _ (List.mem_cons_of_mem _ (List.mem_cons_of_mem _ (List.mem_cons_of_mem _ (List.mem_cons_of_mem _ List.mem_cons_self)))))
    have xf := KB.free HK7.out (List.mem_cons_of_mem _ (List.mem_cons_of_mem _ (List.mem_cons_of_mem _ (List.mem_cons_of_mem _ (List.mem_cons_of_mem _ List.mem_cons_self)))))
    have hzr : w0.heap.size + 1 + 1 < w7.heap.size := by omega
    have HBF := Lib.hid (HK7.out.bx.below (show w0.heap.size ≤ b by omega))
    go_region
    go_wp2_with fail
    (try simp only [Exit.inBlock, Exit.then]); refine bodyPost_ret (by simp [results, Try.results34, go_sem, x0, x1, y0, y1, z0, z1]; try rfl) rfl ?_
    exact ⟨_, rfl, ⟨_, _, _, _, _, _, _, rfl⟩, (Below.setCell (p := ⟨w0.heap.size + 1 + 1, 1, none⟩) (Below.setCell (p := ⟨w0.heap.size + 1 + 1, 0, none⟩) (Below.setCell (p := ⟨w0.heap.size + 1, 1, none⟩) (Below.setCell (p := ⟨w0.heap.size + 1, 0, none⟩) (Below.setCell (p := ⟨w0.heap.size, 1, none⟩) (Below.setCell (p := ⟨w0.heap.size, 0, none⟩) HBF.out (Nat.le_refl _) _) (Nat.le_refl _) _) (by simp) _) (by simp) _) (by simp; omega) _) (by simp; omega) _).drew⟩
end Go.Proofs.Ytnhhbpdjapccpaa
