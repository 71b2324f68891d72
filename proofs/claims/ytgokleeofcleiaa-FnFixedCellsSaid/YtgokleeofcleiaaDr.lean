/-
  What the laws of the placement draw: sizes, widths, elements, places.
-/
import Derived.Test.YtgokleeofcleiaaBx
import Derived.Test.YtgokleeofcleiaaDat
import Derived.Test.YtgokleeofcleiaaC15P
import Derived.Test.YtgokleeofcleiaaC14A
import Derived.Deep.RegionHeld3
namespace Go.Proofs.Ytgokleeofcleiaa
set_option linter.unusedSimpArgs false
open Go.RowKit
theorem pick_lit {W : World} {g t k : Nat} {cs : Array Value} {v : Value} (hh : W.heap[g]? = some (.cells cs t (0, 0))) (h : cs[k]? = some v) : W.cell? ⟨g, k, none⟩ = some v := (blk_cell hh k).trans h
theorem Own.bx {s : SP} {B : Nat} {v : Value} {xs : List Int} {w w' : World} (h : Own w B v xs) (hb : BX s w.heap.size w w') (hs : s.b < B) : Own w' B v xs := by
  refine ⟨h.1, ?_⟩
  rcases h.2 with h' | ⟨g, cap, cur, rfl, hB, hg, hr⟩
  · exact .inl h'
  · exact .inr ⟨g, cap, cur, rfl, hB, (hb.block g (lt_of_block hg) (by omega)).trans hg, hr⟩
theorem OwnP.bx {s : SP} {B : Nat} {v : Value} {xs : List (Int × Int)} {w w' : World} (h : OwnP w B v xs) (hb : BX s w.heap.size w w') (hs : s.b < B) : OwnP w' B v xs := by
  refine ⟨h.1, ?_⟩
  rcases h.2 with h' | ⟨g, cap, cur, rfl, hB, hg, hr⟩
  · exact .inl h'
  · exact .inr ⟨g, cap, cur, rfl, hB, (hb.block g (lt_of_block hg) (by omega)).trans hg, hr⟩
theorem blk2d {w : World} {b t : Nat} {x y : Value} (h : w.heap[b]? = some (.cells #[x, y] t (0, 0))) :
    w.cell? ⟨b, 0, none⟩ = some x ∧ w.cell? ⟨b, 1, none⟩ = some y ∧ ∀ k, w.frozen? ⟨b, k, none⟩ = false := by
  refine ⟨?_, ?_, fun k => ?_⟩ <;> simp [World.cell?, World.frozen?, h]
theorem res2d {w : World} {b t : Nat} {a a' : Value} (h : w.heap[b]? = some (.cells #[a, a'] t (0, 0))) (x y : Value) :
    ((w.setCell ⟨b, 0, none⟩ x).setCell ⟨b, 1, none⟩ y).cell? ⟨b, 0, none⟩ = some x ∧ ((w.setCell ⟨b, 0, none⟩ x).setCell ⟨b, 1, none⟩ y).cell? ⟨b, 1, none⟩ = some y := by
  have h0 : (w.setCell ⟨b, 0, none⟩ x).heap[b]? = some (.cells #[x, a'] t (0, 0)) := by simpa using blk3_set (k := 0) (u := x) h
  have h1 : ((w.setCell ⟨b, 0, none⟩ x).setCell ⟨b, 1, none⟩ y).heap[b]? = some (.cells #[x, y] t (0, 0)) := by simpa using blk3_set (k := 1) (u := y) h0
  exact ⟨(blk2d h1).1, (blk2d h1).2.1⟩
theorem cellsAll {w : World} {B g c n : Nat} {ps : List (Int × Int)} (h : OwnP w B (.slice (some ⟨g, 0, none⟩) n c) ps) (hl : ps.length = n) (h0 : 0 < n) :
    (∀ k, k < n → w.cell? ⟨g, k * 2, none⟩ = some (.int .i64 (nthP ps k).1)) ∧ (∀ k, k < n → w.cell? ⟨g, k * 2 + 1, none⟩ = some (.int .i64 (nthP ps k).2)) := by
  obtain ⟨g', c', e', -, -, hcc⟩ := h.cells (by omega)
  simp only [Value.slice.injEq, Option.some.injEq, Addr.mk.injEq, and_true] at e'
  obtain ⟨rfl, -, -⟩ := e'
  exact ⟨fun k hk => (hcc k (by omega)).1, fun k hk => (hcc k (by omega)).2⟩
theorem pick_in {xs : List Int} {lo hi : Int} (hx : allIn lo hi xs = true) {r : Int} (h0 : 0 ≤ r) (h1 : r < xs.length) : ∃ (R : Nat) (v : Int), r = R ∧ R < xs.length ∧ (xs.map (Value.int .i64)).toArray[R]? = some (.int .i64 v) ∧ lo ≤ v ∧ v ≤ hi := by
  obtain ⟨R, rfl⟩ := Int.eq_ofNat_of_zero_le h0
  have hR : R < xs.length := by omega
  have := allIn_nth hx hR
  exact ⟨R, nth xs R, rfl, hR, by simpa using nth_map xs R hR, this.1, this.2⟩
set_option maxHeartbeats 2000000 in
theorem l14DrawSize_any (b : Nat) (A : Option Addr) (n c : Nat) (bs : List Int) (B : Nat) (w : World) (hI : (srcP 99 b A n c bs B).I w) :
    Calls Try.prog 65 #[.pointer (some ⟨b, 0, none⟩)] w fun e w' =>
      ∃ u, e = .returned u ∧ (∃ v : Int, u = .int .i64 v ∧ -100 ≤ v ∧ v ≤ 100) ∧ BX (srcP 99 b A n c bs B) w.heap.size w w' := by
  have hbw := srcP_lt hI
  have HI := Lib.hid hI
  clear hI
  go_enter Try.func65, Try.ntmps65
  go_wp2_with fail
  (go_at_call 92; with_reducible refine (draw_any b A n c bs B (16) _ (bxinv (B := w.heap.size) ?_ HI) (by omega)).mono ?_; (focus (repeat (first | (with_reducible assumption) | (with_reducible exact BX.refl _ _ _) | (with_reducible refine BX.drewN ?_ _) | (with_reducible refine BX.drew ?_) | ((with_reducible refine BX.alloc ?_ ?_ _); rotate_left; (focus (first | (simp; done) | omega | (simp; omega) | (simp [srcP]; done) | (simp [srcP]; omega)))) | ((with_reducible refine BX.setCell ?_ ?_ ?_ _); rotate_left; (focus (first | (simp; done) | omega | (simp; omega) | (simp [srcP]; done) | (simp [srcP]; omega))); (focus (first | (simp; done) | omega | (simp; omega) | (simp [srcP]; done) | (simp [srcP]; omega))))))); rintro e1 w1 ⟨u1, rfl, ⟨r1, rfl, hr1a, hr1b⟩, hb1⟩; have hB1 : BX (srcP 99 b A n c bs B) w.heap.size w w1 := BX.then (by (repeat (first | (with_reducible assumption) | (with_reducible exact BX.refl _ _ _) | (with_reducible refine BX.drewN ?_ _) | (with_reducible refine BX.drew ?_) | ((with_reducible refine BX.alloc ?_ ?_ _); rotate_left; (focus (first | (simp; done) | omega | (simp; omega) | (simp [srcP]; done) | (simp [srcP]; omega)))) | ((with_reducible refine BX.setCell ?_ ?_ ?_ _); rotate_left; (focus (first | (simp; done) | omega | (simp; omega) | (simp [srcP]; done) | (simp [srcP]; omega))); (focus (first | (simp; done) | omega | (simp; omega) | (simp [srcP]; done) | (simp [srcP]; omega))))))) (by first | omega | (simp; done) | (simp; omega)) hb1; have hc1 := bxcell hb1; have hf1 := bxfrozen hb1; simp only [srcP_b] at hc1 hf1)
  have hs1 := hb1.size
  have hbw1 : b < w1.heap.size := by omega
  have hbw2 : b < w1.heap.size + 1 := by omega
  by_cases h1 : r1 = 0
  · subst h1
    go_wp2_with fail
    (go_at_call 92; with_reducible refine (draw_any b A n c bs B (7) _ (bxinv (B := w.heap.size) ?_ HI) (by omega)).mono ?_; (focus (repeat (first | (with_reducible assumption) | (with_reducible exact BX.refl _ _ _) | (with_reducible refine BX.drewN ?_ _) | (with_reducible refine BX.drew ?_) | ((with_reducible refine BX.alloc ?_ ?_ _); rotate_left; (focus (first | (simp; done) | omega | (simp; omega) | (simp [srcP]; done) | (simp [srcP]; omega)))) | ((with_reducible refine BX.setCell ?_ ?_ ?_ _); rotate_left; (focus (first | (simp; done) | omega | (simp; omega) | (simp [srcP]; done) | (simp [srcP]; omega))); (focus (first | (simp; done) | omega | (simp; omega) | (simp [srcP]; done) | (simp [srcP]; omega))))))); rintro e2 w2 ⟨u2, rfl, ⟨r2, rfl, hr2a, hr2b⟩, hb2⟩; have hB2 : BX (srcP 99 b A n c bs B) w.heap.size w w2 := BX.then (by (repeat (first | (with_reducible assumption) | (with_reducible exact BX.refl _ _ _) | (with_reducible refine BX.drewN ?_ _) | (with_reducible refine BX.drew ?_) | ((with_reducible refine BX.alloc ?_ ?_ _); rotate_left; (focus (first | (simp; done) | omega | (simp; omega) | (simp [srcP]; done) | (simp [srcP]; omega)))) | ((with_reducible refine BX.setCell ?_ ?_ ?_ _); rotate_left; (focus (first | (simp; done) | omega | (simp; omega) | (simp [srcP]; done) | (simp [srcP]; omega))); (focus (first | (simp; done) | omega | (simp; omega) | (simp [srcP]; done) | (simp [srcP]; omega))))))) (by first | omega | (simp; done) | (simp; omega)) hb2; have hc2 := bxcell hb2; have hf2 := bxfrozen hb2; simp only [srcP_b] at hc2 hf2)
    have hh2 : w2.heap[w1.heap.size]? = some (.cells ([0, 13, 16, 18, 19, 45, -17].map (Value.int .i64)).toArray 2 (0, 0)) := (hb2.block w1.heap.size (by simp) (by simp; omega)).trans (heap_alloc_new _ _)
    obtain ⟨R, v, rfl, hR, hv, hv1, hv2⟩ := pick_in (xs := [0, 13, 16, 18, 19, 45, -17]) (lo := -100) (hi := 100) (by decide) hr2a (by simp; omega)
    have hck := pick_lit hh2 hv
    have hR' : R < 7 := hR
    clear hh2 hv hc2 hf2
    go_wp2_with fail
    go_ret
    exact ⟨_, rfl, ⟨v, rfl, hv1, hv2⟩, by (repeat (first | (with_reducible assumption) | (with_reducible exact BX.refl _ _ _) | (with_reducible refine BX.drewN ?_ _) | (with_reducible refine BX.drew ?_) | ((with_reducible refine BX.alloc ?_ ?_ _); rotate_left; (focus (first | (simp; done) | omega | (simp; omega) | (simp [srcP]; done) | (simp [srcP]; omega)))) | ((with_reducible refine BX.setCell ?_ ?_ ?_ _); rotate_left; (focus (first | (simp; done) | omega | (simp; omega) | (simp [srcP]; done) | (simp [srcP]; omega))); (focus (first | (simp; done) | omega | (simp; omega) | (simp [srcP]; done) | (simp [srcP]; omega))))))⟩
  · have h1' : (r1 == 0) = false := by simpa using h1
    go_wp2_with fail
    (go_at_call 92; with_reducible refine (draw_any b A n c bs B (6) _ (bxinv (B := w.heap.size) ?_ HI) (by omega)).mono ?_; (focus (repeat (first | (with_reducible assumption) | (with_reducible exact BX.refl _ _ _) | (with_reducible refine BX.drewN ?_ _) | (with_reducible refine BX.drew ?_) | ((with_reducible refine BX.alloc ?_ ?_ _); rotate_left; (focus (first | (simp; done) | omega | (simp; omega) | (simp [srcP]; done) | (simp [srcP]; omega)))) | ((with_reducible refine BX.setCell ?_ ?_ ?_ _); rotate_left; (focus (first | (simp; done) | omega | (simp; omega) | (simp [srcP]; done) | (simp [srcP]; omega))); (focus (first | (simp; done) | omega | (simp; omega) | (simp [srcP]; done) | (simp [srcP]; omega))))))); rintro e2 w2 ⟨u2, rfl, ⟨r2, rfl, hr2a, hr2b⟩, hb2⟩; have hB2 : BX (srcP 99 b A n c bs B) w.heap.size w w2 := BX.then (by (repeat (first | (with_reducible assumption) | (with_reducible exact BX.refl _ _ _) | (with_reducible refine BX.drewN ?_ _) | (with_reducible refine BX.drew ?_) | ((with_reducible refine BX.alloc ?_ ?_ _); rotate_left; (focus (first | (simp; done) | omega | (simp; omega) | (simp [srcP]; done) | (simp [srcP]; omega)))) | ((with_reducible refine BX.setCell ?_ ?_ ?_ _); rotate_left; (focus (first | (simp; done) | omega | (simp; omega) | (simp [srcP]; done) | (simp [srcP]; omega))); (focus (first | (simp; done) | omega | (simp; omega) | (simp [srcP]; done) | (simp [srcP]; omega))))))) (by first | omega | (simp; done) | (simp; omega)) hb2; have hc2 := bxcell hb2; have hf2 := bxfrozen hb2; simp only [srcP_b] at hc2 hf2)
    have hh2 : w2.heap[w1.heap.size]? = some (.cells ([17, 21, 25, 29, 17, 41].map (Value.int .i64)).toArray 2 (0, 0)) := (hb2.block w1.heap.size (by simp) (by simp; omega)).trans (heap_alloc_new _ _)
    obtain ⟨R, v, rfl, hR, hv, hv1, hv2⟩ := pick_in (xs := [17, 21, 25, 29, 17, 41]) (lo := -100) (hi := 100) (by decide) hr2a (by simp; omega)
    have hck := pick_lit hh2 hv
    have hR' : R < 6 := hR
    clear hh2 hv hc2 hf2
    go_wp2_with fail
    go_ret
    exact ⟨_, rfl, ⟨v, rfl, hv1, hv2⟩, by (repeat (first | (with_reducible assumption) | (with_reducible exact BX.refl _ _ _) | (with_reducible refine BX.drewN ?_ _) | (with_reducible refine BX.drew ?_) | ((with_reducible refine BX.alloc ?_ ?_ _); rotate_left; (focus (first | (simp; done) | omega | (simp; omega) | (simp [srcP]; done) | (simp [srcP]; omega)))) | ((with_reducible refine BX.setCell ?_ ?_ ?_ _); rotate_left; (focus (first | (simp; done) | omega | (simp; omega) | (simp [srcP]; done) | (simp [srcP]; omega))); (focus (first | (simp; done) | omega | (simp; omega) | (simp [srcP]; done) | (simp [srcP]; omega))))))⟩
end Go.Proofs.Ytgokleeofcleiaa
