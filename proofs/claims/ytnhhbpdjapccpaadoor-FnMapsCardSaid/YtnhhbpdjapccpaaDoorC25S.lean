/-
  Contracts of chapter 25: the spot to which a map takes a point.
-/
import Derived.Test.YtnhhbpdjapccpaaDoorC25P
namespace Go.Proofs.YtnhhbpdjapccpaaDoor
open Go.RowKit

theorem img_bd {a b c d e f g h i u v n : Int} (hm : isMapB [a, b, c, d, e, f, g, h, i] = true) (hu : -200000 ≤ u) (hu' : u ≤ 200000) (hv : -200000 ≤ v) (hv' : v ≤ 200000) (hn : -100000 ≤ n) (hn' : n ≤ 100000) :
    (-5000000000000000000 ≤ imgI a b c u v n ∧ imgI a b c u v n ≤ 5000000000000000000) ∧ (-5000000000000000000 ≤ imgI d e f u v n ∧ imgI d e f u v n ≤ 5000000000000000000) ∧ (-5000000000000000000 ≤ imgI g h i u v n ∧ imgI g h i u v n ≤ 5000000000000000000) := by
  obtain ⟨⟨a1, a2⟩, ⟨b1, b2⟩, ⟨c1, c2⟩, ⟨d1, d2⟩, ⟨e1, e2⟩, ⟨f1, f2⟩, ⟨g1, g2⟩, ⟨h1, h2⟩, i1, i2⟩ := map_rg hm
  have X := imgI_rg a1 a2 b1 b2 c1 c2 hu hu' hv hv' hn hn'
  have Y := imgI_rg d1 d2 e1 e2 f1 f2 hu hu' hv hv' hn hn'
  have Z := imgI_rg g1 g2 h1 h2 (by omega) i2 hu hu' hv hv' hn hn'
  unfold imgI
  omega
set_option maxRecDepth 100000 in
set_option maxHeartbeats 1000000 in
theorem spot_any (a b c d e f g h i u v n : Int) (w : World) (hm : isMapB [a, b, c, d, e, f, g, h, i] = true) (hu : -200000 ≤ u) (hu' : u ≤ 200000) (hv : -200000 ≤ v) (hv' : v ≤ 200000) (hn : -100000 ≤ n) (hn' : n ≤ 100000) :
    Calls Tryd.prog 29 #[.agg #[.int .i64 a, .int .i64 b, .int .i64 c, .int .i64 d, .int .i64 e, .int .i64 f, .int .i64 g, .int .i64 h, .int .i64 i], .int .i64 u, .int .i64 v, .int .i64 n] w fun e' w' => e' = .returned (.tuple (if 0 < (imgI g h i u v n) then #[.agg #[.int .i64 ((imgI a b c u v n) / (imgI g h i u v n)), .int .i64 ((imgI d e f u v n) / (imgI g h i u v n))], .bool true] else #[.agg #[.int .i64 0, .int .i64 0], .bool false])) ∧ Below w.heap.size w w' := by
  obtain ⟨⟨X1, X2⟩, ⟨Y1, Y2⟩, Z1, Z2⟩ := img_bd hm hu hu' hv hv' hn hn'
  have HIM := Lib.hid (fun w => image_any a b c d e f g h i u v n w hm hu hu' hv hv' hn hn')
  clear hm hu hu' hv hv' hn hn'
  generalize imgI a b c u v n = X at *
  generalize imgI d e f u v n = Y at *
  generalize imgI g h i u v n = Z at *
  rcases Int.lt_or_le 0 Z with hz | hz
  · rw [if_pos hz]
    have HF1 := Lib.hid (fun w => floorDiv_any X Z w hz (by omega) (by omega) (by omega))
    have HF2 := Lib.hid (fun w => floorDiv_any Y Z w hz (by omega) (by omega) (by omega))
    go_enter Tryd.func29, Tryd.ntmps29
    go_wp2_with first | (go_at_call 45; with_reducible refine (HIM.out _).mono ?_; rintro e1 w1 ⟨rfl, hb1⟩; obtain ⟨hc1, hf1⟩ := bcell hb1; have hB1 : Below w.heap.size w w1 := (below_then (by first | (go_grown; done) | (repeat (first | (with_reducible assumption) | (with_reducible exact Below.refl _ _) | (with_reducible refine below_drewN' ?_ _) | (with_reducible refine Below.drew ?_) | ((with_reducible refine Below.alloc ?_ ?_ _); rotate_left; focus (first | (simp; done) | (simp; omega) | omega)) | ((with_reducible refine Below.setCell ?_ ?_ _); rotate_left; focus (first | (simp; done) | (simp; omega) | omega))))) (by first | omega | (simp; done) | (simp; omega)) hb1); have hz1a : w.heap.size < w1.heap.size := (by have := hb1.size; first | omega | (simp at this; omega)); have hz1b : w.heap.size + 1 < w1.heap.size := (by have := hb1.size; first | omega | (simp at this; omega)); have hk1a : w1.cell? ⟨w.heap.size + 1, 0, none⟩ = some (.int .i64 0) := (hc1 _ _ (by first | (simp; done) | omega | (simp; omega))).trans (by first | assumption | (go_simp; done) | (go_simp; assumption)); have hk1b : w1.cell? ⟨w.heap.size + 1, 1, none⟩ = some (.int .i64 0) := (hc1 _ _ (by first | (simp; done) | omega | (simp; omega))).trans (by first | assumption | (go_simp; done) | (go_simp; assumption))) | (go_at_call 46; with_reducible refine (HF1.out _).mono ?_; rintro e w' ⟨rfl, rfl⟩) | (go_at_call 46; with_reducible refine (HF2.out _).mono ?_; rintro e w' ⟨rfl, rfl⟩)
    (try simp only [Exit.inBlock, Exit.then]); refine bodyPost_ret (by simp [results, Tryd.results29, go_sem, hk1a, hk1b]; try rfl) rfl ?_
    exact ⟨rfl, by (repeat (first | (with_reducible assumption) | (with_reducible exact Below.refl _ _) | (with_reducible refine below_drewN' ?_ _) | (with_reducible refine Below.drew ?_) | ((with_reducible refine Below.alloc ?_ ?_ _); rotate_left; focus (first | (simp; done) | (simp; omega) | omega)) | ((with_reducible refine Below.setCell ?_ ?_ _); rotate_left; focus (first | (simp; done) | (simp; omega) | omega))))⟩
  · rw [if_neg (by omega)]
    go_enter Tryd.func29, Tryd.ntmps29
    go_wp2_with first | (go_at_call 45; with_reducible refine (HIM.out _).mono ?_; rintro e1 w1 ⟨rfl, hb1⟩; obtain ⟨hc1, hf1⟩ := bcell hb1; have hB1 : Below w.heap.size w w1 := (below_then (by first | (go_grown; done) | (repeat (first | (with_reducible assumption) | (with_reducible exact Below.refl _ _) | (with_reducible refine below_drewN' ?_ _) | (with_reducible refine Below.drew ?_) | ((with_reducible refine Below.alloc ?_ ?_ _); rotate_left; focus (first | (simp; done) | (simp; omega) | omega)) | ((with_reducible refine Below.setCell ?_ ?_ _); rotate_left; focus (first | (simp; done) | (simp; omega) | omega))))) (by first | omega | (simp; done) | (simp; omega)) hb1); have hz1a : w.heap.size < w1.heap.size := (by have := hb1.size; first | omega | (simp at this; omega)); have hz1b : w.heap.size + 1 < w1.heap.size := (by have := hb1.size; first | omega | (simp at this; omega)); have hk1a : w1.cell? ⟨w.heap.size + 1, 0, none⟩ = some (.int .i64 0) := (hc1 _ _ (by first | (simp; done) | omega | (simp; omega))).trans (by first | assumption | (go_simp; done) | (go_simp; assumption)); have hk1b : w1.cell? ⟨w.heap.size + 1, 1, none⟩ = some (.int .i64 0) := (hc1 _ _ (by first | (simp; done) | omega | (simp; omega))).trans (by first | assumption | (go_simp; done) | (go_simp; assumption)))
    (try simp only [Exit.inBlock, Exit.then]); refine bodyPost_ret (by simp [results, Tryd.results29, go_sem, hk1a, hk1b]; try rfl) rfl ?_
    exact ⟨rfl, by (repeat (first | (with_reducible assumption) | (with_reducible exact Below.refl _ _) | (with_reducible refine below_drewN' ?_ _) | (with_reducible refine Below.drew ?_) | ((with_reducible refine Below.alloc ?_ ?_ _); rotate_left; focus (first | (simp; done) | (simp; omega) | omega)) | ((with_reducible refine Below.setCell ?_ ?_ _); rotate_left; focus (first | (simp; done) | (simp; omega) | omega))))⟩
/-- The code of MapSpot, and the coordinates of what it returns. -/
def spotC (c x y w : Int) : Int := if c = 0 then (if spotB (x / w) (y / w) then 0 else 3) else c
def spotV (c x y w z : Int) : Int := if c = 0 then (if spotB (x / w) (y / w) then z / w else 0) else 0
end Go.Proofs.YtnhhbpdjapccpaaDoor
