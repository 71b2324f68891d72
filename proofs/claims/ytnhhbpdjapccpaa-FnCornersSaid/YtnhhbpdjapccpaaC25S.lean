/-
  Contracts of chapter 25: the spot to which a map takes a point.
-/
import Derived.Test.YtnhhbpdjapccpaaC25P
namespace Go.Proofs.Ytnhhbpdjapccpaa
open Go.RowKit

theorem img_bd {a b c d e f g h i u v n : Int} (hm : isMapB [a, b, c, d, e, f, g, h, i] = true) (hu : -200000 ≤ u) (hu' : u ≤ 200000) (hv : -200000 ≤ v) (hv' : v ≤ 200000) (hn : -100000 ≤ n) (hn' : n ≤ 100000) :
    (-5000000000000000000 ≤ imgI a b c u v n ∧ imgI a b c u v n ≤ 5000000000000000000) ∧ (-5000000000000000000 ≤ imgI d e f u v n ∧ imgI d e f u v n ≤ 5000000000000000000) ∧ (-5000000000000000000 ≤ imgI g h i u v n ∧ imgI g h i u v n ≤ 5000000000000000000) := by
  obtain ⟨⟨a1, a2⟩, ⟨b1, b2⟩, ⟨c1, c2⟩, ⟨d1, d2⟩, ⟨e1, e2⟩, ⟨f1, f2⟩, ⟨g1, g2⟩, ⟨h1, h2⟩, i1, i2⟩ := map_rg hm
  have X := imgI_rg a1 a2 b1 b2 c1 c2 hu hu' hv hv' hn hn'
  have Y := imgI_rg d1 d2 e1 e2 f1 f2 hu hu' hv hv' hn hn'
  have Z := imgI_rg g1 g2 h1 h2 (by omega) i2 hu hu' hv hv' hn hn'
  unfold imgI
  omega
set_option maxRecDepth 100000 in
set_option maxHeartbeats 1000000 in
theorem spot_any (a b c d e f g h i u v n : Int) (w : World) (hm : isMapB [a, b, c, d, e, f, g, h, i] = true) (hu : -200000 ≤ u) (hu' : u ≤ 200000) (hv : -200000 ≤ v) (hv' : v ≤ 200000) (hn : -100000 ≤ n) (hn' : n ≤ 100000) :
    Calls Try.prog 53 #[.agg #[.int .i64 a, .int .i64 b, .int .i64 c, .int .i64 d, .int .i64 e, .int .i64 f, .int .i64 g, .int .i64 h, .int .i64 i], .int .i64 u, .int .i64 v, .int .i64 n] w fun e' w' => e' = .returned (.tuple (if 0 < (imgI g h i u v n) then #[.agg #[.int .i64 ((imgI a b c u v n) / (imgI g h i u v n)), .int .i64 ((imgI d e f u v n) / (imgI g h i u v n))], .bool true] else #[.agg #[.int .i64 0, .int .i64 0], .bool false])) ∧ Below w.heap.size w w' := by
  obtain ⟨⟨X1, X2⟩, ⟨Y1, Y2⟩, Z1, Z2⟩ := img_bd hm hu hu' hv hv' hn hn'
  have HIM := Lib.hid (fun w => image_any a b c d e f g h i u v n w hm hu hu' hv hv' hn hn')
  clear hm hu hu' hv hv' hn hn'
  generalize imgI a b c u v n = X at *
  generalize imgI d e f u v n = Y at *
  generalize imgI g h i u v n = Z at *
  rcases Int.lt_or_le 0 Z with hz | hz
  · rw [if_pos hz]
    have HF1 := Lib.hid (fun w => floorDiv_any X Z w hz (by omega) (by omega) (by omega))
    have HF2 := Lib.hid (fun w => floorDiv_any Y Z w hz (by omega) (by omega) (by omega))
    go_enter Try.func53, Try.ntmps53
    go_wp2_with first | (go_at_call 50; with_reducible refine (HIM.out _).mono ?_; rintro e1 w1 ⟨rfl, hb1⟩; obtain ⟨hc1, hf1⟩ := bcell hb1; have hB1 : Below w.heap.size w w1 := (below_then (by first | (go_grown; done) | (repeat (first | (with_reducible assumption) | (with_reducible exact Below.refl _ _) | (with_reducible refine below_drewN' ?_ _) | (with_reducible refine Below.drew ?_) | ((with_reducible refine Below.alloc ?_ ?_ _); rotate_left; focus (first | (simp; done) | (simp; omega) | omega)) | ((with_reducible refine Below.setCell ?_ ?_ _); rotate_left; focus (first | (simp; done) | (simp; omega) | omega))))) (by first | omega | (simp; done) | (simp; omega)) hb1); have hz1a : w.heap.size < w1.heap.size := (by have := hb1.size; first | omega | (simp at this; omega)); have hz1b : w.heap.size + 1 < w1.heap.size := (by have := hb1.size; first | omega | (simp at this; omega)); have hk1a : w1.cell? ⟨w.heap.size + 1, 0, none⟩ = some (.int .i64 0) := (hc1 _ _ (by first | (simp; done) | omega | (simp; omega))).trans (by first | assumption | (go_simp; done) | (go_simp; assumption)); have hk1b : w1.cell? ⟨w.heap.size + 1, 1, none⟩ = some (.int .i64 0) := (hc1 _ _ (by first | (simp; done) | omega | (simp; omega))).trans (by first | assumption | (go_simp; done) | (go_simp; assumption))) | (go_at_call 75; with_reducible refine (HF1.out _).mono ?_; rintro e w' ⟨rfl, rfl⟩) | (go_at_call 75; with_reducible refine (HF2.out _).mono ?_; rintro e w' ⟨rfl, rfl⟩)
    (try simp only [Exit.inBlock, Exit.then]); refine bodyPost_ret (by simp [results, Try.results53, go_sem, hk1a, hk1b]; try rfl) rfl ?_
    exact ⟨rfl, by (repeat (first | (with_reducible assumption) | (with_reducible exact Below.refl _ _) | (with_reducible refine below_drewN' ?_ _) | (with_reducible refine Below.drew ?_) | ((with_reducible refine Below.alloc ?_ ?_ _); rotate_left; focus (first | (simp; done) | (simp; omega) | omega)) | ((with_reducible refine Below.setCell ?_ ?_ _); rotate_left; focus (first | (simp; done) | (simp; omega) | omega))))⟩
  · rw [if_neg (by omega)]
    go_enter Try.func53, Try.ntmps53
    go_wp2_with first | (go_at_call 50; with_reducible refine (HIM.out _).mono ?_; rintro e1 w1 ⟨rfl, hb1⟩; obtain ⟨hc1, hf1⟩ := bcell hb1; have hB1 : Below w.heap.size w w1 := (below_then (by first | (go_grown; done) | (repeat (first | (with_reducible assumption) | (with_reducible exact Below.refl _ _) | (with_reducible refine below_drewN' ?_ _) | (with_reducible refine Below.drew ?_) | ((with_reducible refine Below.alloc ?_ ?_ _); rotate_left; focus (first | (simp; done) | (simp; omega) | omega)) | ((with_reducible refine Below.setCell ?_ ?_ _); rotate_left; focus (first | (simp; done) | (simp; omega) | omega))))) (by first | omega | (simp; done) | (simp; omega)) hb1); have hz1a : w.heap.size < w1.heap.size := (by have := hb1.size; first | omega | (simp at this; omega)); have hz1b : w.heap.size + 1 < w1.heap.size := (by have := hb1.size; first | omega | (simp at this; omega)); have hk1a : w1.cell? ⟨w.heap.size + 1, 0, none⟩ = some (.int .i64 0) := (hc1 _ _ (by first | (simp; done) | omega | (simp; omega))).trans (by first | assumption | (go_simp; done) | (go_simp; assumption)); have hk1b : w1.cell? ⟨w.heap.size + 1, 1, none⟩ = some (.int .i64 0) := (hc1 _ _ (by first | (simp; done) | omega | (simp; omega))).trans (by first | assumption | (go_simp; done) | (go_simp; assumption)))
    (try simp only [Exit.inBlock, Exit.then]); refine bodyPost_ret (by simp [results, Try.results53, go_sem, hk1a, hk1b]; try rfl) rfl ?_
    exact ⟨rfl, by (repeat (first | (with_reducible assumption) | (with_reducible exact Below.refl _ _) | (with_reducible refine below_drewN' ?_ _) | (with_reducible refine Below.drew ?_) | ((with_reducible refine Below.alloc ?_ ?_ _); rotate_left; focus (first | (simp; done) | (simp; omega) | omega)) | ((with_reducible refine Below.setCell ?_ ?_ _); rotate_left; focus (first | (simp; done) | (simp; omega) | omega))))⟩
set_option maxRecDepth 100000 in
set_option maxHeartbeats 1000000 in
theorem l25Spot_any (a b c d e f g h i u v n : Int) (w : World) (hm : isMapB [a, b, c, d, e, f, g, h, i] = true) (hu : -200000 ≤ u) (hu' : u ≤ 200000) (hv : -200000 ≤ v) (hv' : v ≤ 200000) (hn : -100000 ≤ n) (hn' : n ≤ 100000) :
    Calls Try.prog 52 #[.agg #[.int .i64 a, .int .i64 b, .int .i64 c, .int .i64 d, .int .i64 e, .int .i64 f, .int .i64 g, .int .i64 h, .int .i64 i], .int .i64 u, .int .i64 v, .int .i64 n] w fun e' w' => e' = .returned (.tuple (if 0 < (imgI g h i u v n) then #[.agg #[.int .i64 ((imgI a b c u v n) / (imgI g h i u v n)), .int .i64 ((imgI d e f u v n) / (imgI g h i u v n))], .bool (spotB (imgI a b c u v n / imgI g h i u v n) (imgI d e f u v n / imgI g h i u v n))] else #[.agg #[.int .i64 0, .int .i64 0], .bool false])) ∧ Below w.heap.size w w' := by
  obtain ⟨⟨X1, X2⟩, ⟨Y1, Y2⟩, Z1, Z2⟩ := img_bd hm hu hu' hv hv' hn hn'
  have HIM := Lib.hid (fun w => l25At_any a b c d e f g h i u v n w hm hu hu' hv hv' hn hn')
  clear hm hu hu' hv hv' hn hn'
  generalize imgI a b c u v n = X at *
  generalize imgI d e f u v n = Y at *
  generalize imgI g h i u v n = Z at *
  rcases Int.lt_or_le 0 Z with hz | hz
  · rw [if_pos hz]
    have hg := gcd3_pos (x := X) (y := Y) hz
    obtain ⟨d1, d2, d3⟩ := gcd3_dvd (x := X) (y := Y) (w := Z)
    have hz' := tdiv_pos' hz hg d3
    have r1 := tdiv_rg (b := (gcdL [X, Y, Z] : Int)) 5000000000000000000 (by omega) (by omega) (a := X)
    have r2 := tdiv_rg (b := (gcdL [X, Y, Z] : Int)) 5000000000000000000 (by omega) (by omega) (a := Y)
    have r3 := tdiv_rg (b := (gcdL [X, Y, Z] : Int)) 5000000000000000000 (by omega) (by omega) (a := Z)
    have q1 := div_common hg d1 d3
    have q2 := div_common hg d2 d3
    generalize (gcdL [X, Y, Z] : Int) = G at *
    have HF1 := Lib.hid (fun w => l24Floor_any (X.tdiv G) (Z.tdiv G) w hz' (by omega) (by omega) (by omega))
    have HF2 := Lib.hid (fun w => l24Floor_any (Y.tdiv G) (Z.tdiv G) w hz' (by omega) (by omega) (by omega))
    rw [q1] at HF1
    rw [q2] at HF2
    clear q1 q2 r1 r2 r3 d1 d2 d3 hg
    generalize X.tdiv G = X' at *
    generalize Y.tdiv G = Y' at *
    generalize Z.tdiv G = Z' at *
    generalize X / Z = XQ at *
    generalize Y / Z = YQ at *
    go_enter Try.func52, Try.ntmps52
    go_wp2_with first | (go_at_call 48; with_reducible refine (HIM.out _).mono ?_; rintro e1 w1 ⟨rfl, hb1⟩; obtain ⟨hc1, hf1⟩ := bcell hb1; have hB1 : Below w.heap.size w w1 := (below_then (by first | (go_grown; done) | (repeat (first | (with_reducible assumption) | (with_reducible exact Below.refl _ _) | (with_reducible refine below_drewN' ?_ _) | (with_reducible refine Below.drew ?_) | ((with_reducible refine Below.alloc ?_ ?_ _); rotate_left; focus (first | (simp; done) | (simp; omega) | omega)) | ((with_reducible refine Below.setCell ?_ ?_ _); rotate_left; focus (first | (simp; done) | (simp; omega) | omega))))) (by first | omega | (simp; done) | (simp; omega)) hb1); have hz1a : w.heap.size < w1.heap.size := (by have := hb1.size; first | omega | (simp at this; omega)); have hz1b : w.heap.size + 1 < w1.heap.size := (by have := hb1.size; first | omega | (simp at this; omega)); have hk1a : w1.cell? ⟨w.heap.size + 1, 0, none⟩ = some (.int .i64 0) := (hc1 _ _ (by first | (simp; done) | omega | (simp; omega))).trans (by first | assumption | (go_simp; done) | (go_simp; assumption)); have hk1b : w1.cell? ⟨w.heap.size + 1, 1, none⟩ = some (.int .i64 0) := (hc1 _ _ (by first | (simp; done) | omega | (simp; omega))).trans (by first | assumption | (go_simp; done) | (go_simp; assumption))) | (go_at_call 74; with_reducible refine (HF1.out _).mono ?_; rintro e w' ⟨rfl, rfl⟩) | (go_at_call 74; with_reducible refine (HF2.out _).mono ?_; rintro e w' ⟨rfl, rfl⟩)
    refine wp_region_qat [] 3 [] (by kernel_rfl) (by kernel_rfl) ?_
    intro hbc
    simp only [List.take_succ_cons, List.take_zero, List.drop_succ_cons, List.drop_zero]
    repeat (first
      | refine wpQ_pass rfl ?_
      | (refine wpQ_step rfl (fun K hK => ?_)
         go_simp
         first
           | (refine hK _ ?_; clear hK K)
           | (apply Exists.intro
              refine ⟨fun z => ?_, ?_⟩
              focus (first | (go_at_call 67; exact sIsSpot_any _ _ _))
              refine hK _ ?_
              clear hK K)))
    refine wpQ_nil ⟨?_, ?_⟩
    · exact rfl
    intro  w2 hb2 hF2
    clear hbc
    obtain ⟨hc2, hf2⟩ := bcell hb2
    have hB2 : Below w.heap.size w w2 := below_then (by first | (go_grown; done) | (repeat (first | (with_reducible assumption) | (with_reducible exact Below.refl _ _) | (with_reducible refine below_drewN' ?_ _) | (with_reducible refine Below.drew ?_) | ((with_reducible refine Below.alloc ?_ ?_ _); rotate_left; focus (first | (simp; done) | (simp; omega) | omega)) | ((with_reducible refine Below.setCell ?_ ?_ _); rotate_left; focus (first | (simp; done) | (simp; omega) | omega))))) (by first | (simp; done) | (simp; omega) | omega) hb2
    have hz2a : w.heap.size + 1 < w2.heap.size := (by have := hb2.size; first | omega | (simp at this; omega))
    clear hF2
    try simp only [Act.put, List.setIfInBounds_toArray, List.set_cons_succ, List.set_cons_zero]
    have hk2a : w2.cell? ⟨w.heap.size + 1, 0, none⟩ = some (.int .i64 0) := (hc2 _ _ (by first | omega | (simp; omega))).trans (by first | exact hk1a | (simp [hk1a]; done) | (go_simp; exact hk1a) | go_simp)
    have hk2b : w2.cell? ⟨w.heap.size + 1, 1, none⟩ = some (.int .i64 0) := (hc2 _ _ (by first | omega | (simp; omega))).trans (by first | exact hk1b | (simp [hk1b]; done) | (go_simp; exact hk1b) | go_simp)
    go_wp2
    (try simp only [Exit.inBlock, Exit.then]); refine bodyPost_ret (by simp [results, Try.results52, go_sem, hk2a, hk2b]; try rfl) rfl ?_
    exact ⟨rfl, by (repeat (first | (with_reducible assumption) | (with_reducible exact Below.refl _ _) | (with_reducible refine below_drewN' ?_ _) | (with_reducible refine Below.drew ?_) | ((with_reducible refine Below.alloc ?_ ?_ _); rotate_left; focus (first | (simp; done) | (simp; omega) | omega)) | ((with_reducible refine Below.setCell ?_ ?_ _); rotate_left; focus (first | (simp; done) | (simp; omega) | omega))))⟩
  · rw [if_neg (by omega)]
    have hz' := tdiv_nonpos' (n := gcdL [X, Y, Z]) hz
    generalize (gcdL [X, Y, Z] : Int) = G at *
    generalize X.tdiv G = X' at *
    generalize Y.tdiv G = Y' at *
    generalize Z.tdiv G = Z' at *
    go_enter Try.func52, Try.ntmps52
    go_wp2_with first | (go_at_call 48; with_reducible refine (HIM.out _).mono ?_; rintro e1 w1 ⟨rfl, hb1⟩; obtain ⟨hc1, hf1⟩ := bcell hb1; have hB1 : Below w.heap.size w w1 := (below_then (by first | (go_grown; done) | (repeat (first | (with_reducible assumption) | (with_reducible exact Below.refl _ _) | (with_reducible refine below_drewN' ?_ _) | (with_reducible refine Below.drew ?_) | ((with_reducible refine Below.alloc ?_ ?_ _); rotate_left; focus (first | (simp; done) | (simp; omega) | omega)) | ((with_reducible refine Below.setCell ?_ ?_ _); rotate_left; focus (first | (simp; done) | (simp; omega) | omega))))) (by first | omega | (simp; done) | (simp; omega)) hb1); have hz1a : w.heap.size < w1.heap.size := (by have := hb1.size; first | omega | (simp at this; omega)); have hz1b : w.heap.size + 1 < w1.heap.size := (by have := hb1.size; first | omega | (simp at this; omega)); have hk1a : w1.cell? ⟨w.heap.size + 1, 0, none⟩ = some (.int .i64 0) := (hc1 _ _ (by first | (simp; done) | omega | (simp; omega))).trans (by first | assumption | (go_simp; done) | (go_simp; assumption)); have hk1b : w1.cell? ⟨w.heap.size + 1, 1, none⟩ = some (.int .i64 0) := (hc1 _ _ (by first | (simp; done) | omega | (simp; omega))).trans (by first | assumption | (go_simp; done) | (go_simp; assumption)))
    (try simp only [Exit.inBlock, Exit.then]); refine bodyPost_ret (by simp [results, Try.results52, go_sem, hk1a, hk1b]; try rfl) rfl ?_
    exact ⟨rfl, by (repeat (first | (with_reducible assumption) | (with_reducible exact Below.refl _ _) | (with_reducible refine below_drewN' ?_ _) | (with_reducible refine Below.drew ?_) | ((with_reducible refine Below.alloc ?_ ?_ _); rotate_left; focus (first | (simp; done) | (simp; omega) | omega)) | ((with_reducible refine Below.setCell ?_ ?_ _); rotate_left; focus (first | (simp; done) | (simp; omega) | omega))))⟩
/-- The code of MapSpot, and the coordinates of what it returns. -/
def spotC (c x y w : Int) : Int := if c = 0 then (if spotB (x / w) (y / w) then 0 else 3) else c
def spotV (c x y w z : Int) : Int := if c = 0 then (if spotB (x / w) (y / w) then z / w else 0) else 0
set_option maxRecDepth 100000 in
set_option maxHeartbeats 1000000 in
theorem sMapSpot_any (a b c d e f g h i u v n : Int) (w : World) :
    Calls Try.prog 22 #[.agg #[.int .i64 a, .int .i64 b, .int .i64 c, .int .i64 d, .int .i64 e, .int .i64 f, .int .i64 g, .int .i64 h, .int .i64 i], .int .i64 u, .int .i64 v, .int .i64 n] w fun e' w' => e' = .returned (.tuple #[.agg #[.int .i64 (spotV (codeB [a, b, c, d, e, f, g, h, i] u v n) (imgI a b c u v n) (imgI d e f u v n) (imgI g h i u v n) (imgI a b c u v n)), .int .i64 (spotV (codeB [a, b, c, d, e, f, g, h, i] u v n) (imgI a b c u v n) (imgI d e f u v n) (imgI g h i u v n) (imgI d e f u v n))], .int .i64 (spotC (codeB [a, b, c, d, e, f, g, h, i] u v n) (imgI a b c u v n) (imgI d e f u v n) (imgI g h i u v n))]) ∧ Below w.heap.size w w' := by
  have HC := Lib.hid (fun w => l25Code_any a b c d e f g h i u v n w)
  by_cases h0 : (codeB [a, b, c, d, e, f, g, h, i] u v n) = 0
  · obtain ⟨hm, ⟨u1, u2⟩, ⟨v1, v2⟩, ⟨n1, n2⟩, hw⟩ := codeB_0 h0
    have hs := fun w => l25Spot_any a b c d e f g h i u v n w hm u1 u2 v1 v2 (by omega) n2
    rw [if_pos hw] at hs
    rw [h0] at HC ⊢
    unfold spotC spotV
    rw [if_pos rfl, if_pos rfl, if_pos rfl]
    generalize (imgI a b c u v n) / (imgI g h i u v n) = XQ at *
    generalize (imgI d e f u v n) / (imgI g h i u v n) = YQ at *
    have HS := Lib.hid hs
    clear hs hw h0 hm u1 u2 v1 v2 n1 n2
    cases hb : spotB XQ YQ
    · rw [if_neg (by simp), if_neg (by simp), if_neg (by simp)]
      rw [hb] at HS
      go_enter Try.func22, Try.ntmps22
      go_wp2_with first | (go_at_call 47; with_reducible refine (HC.out _).mono ?_; rintro e1 w1 ⟨rfl, hb1⟩; obtain ⟨hc1, hf1⟩ := bcell hb1; have hB1 : Below w.heap.size w w1 := (below_then (by first | (go_grown; done) | (repeat (first | (with_reducible assumption) | (with_reducible exact Below.refl _ _) | (with_reducible refine below_drewN' ?_ _) | (with_reducible refine Below.drew ?_) | ((with_reducible refine Below.alloc ?_ ?_ _); rotate_left; focus (first | (simp; done) | (simp; omega) | omega)) | ((with_reducible refine Below.setCell ?_ ?_ _); rotate_left; focus (first | (simp; done) | (simp; omega) | omega))))) (by first | omega | (simp; done) | (simp; omega)) hb1); have hz1a : w.heap.size < w1.heap.size := (by have := hb1.size; first | omega | (simp at this; omega)); have hz1b : w.heap.size + 1 < w1.heap.size := (by have := hb1.size; first | omega | (simp at this; omega)); have hk1a : w1.cell? ⟨w.heap.size + 1, 0, none⟩ = some (.int .i64 0) := (hc1 _ _ (by first | (simp; done) | omega | (simp; omega))).trans (by first | assumption | (go_simp; done) | (go_simp; assumption)); have hk1b : w1.cell? ⟨w.heap.size + 1, 1, none⟩ = some (.int .i64 0) := (hc1 _ _ (by first | (simp; done) | omega | (simp; omega))).trans (by first | assumption | (go_simp; done) | (go_simp; assumption))) | ((go_at_call 52; with_reducible refine (HS.out _).mono ?_; rintro e2 w2 ⟨rfl, hb2⟩; obtain ⟨hc2, hf2⟩ := bcell hb2; have hB2 : Below w.heap.size w w2 := (below_then (by first | (go_grown; done) | (repeat (first | (with_reducible assumption) | (with_reducible exact Below.refl _ _) | (with_reducible refine below_drewN' ?_ _) | (with_reducible refine Below.drew ?_) | ((with_reducible refine Below.alloc ?_ ?_ _); rotate_left; focus (first | (simp; done) | (simp; omega) | omega)) | ((with_reducible refine Below.setCell ?_ ?_ _); rotate_left; focus (first | (simp; done) | (simp; omega) | omega))))) (by first | omega | (simp; done) | (simp; omega)) hb2); have hz2a : w.heap.size < w2.heap.size := (by have := hb2.size; first | omega | (simp at this; omega)); have hz2b : w.heap.size + 1 < w2.heap.size := (by have := hb2.size; first | omega | (simp at this; omega))); have hk2a : w2.cell? ⟨w.heap.size + 1, 0, none⟩ = some (.int .i64 0) := (hc2 _ _ (by omega)).trans hk1a; have hk2b : w2.cell? ⟨w.heap.size + 1, 1, none⟩ = some (.int .i64 0) := (hc2 _ _ (by omega)).trans hk1b)
      (try simp only [Exit.inBlock, Exit.then]); refine bodyPost_ret (by simp [results, Try.results22, go_sem, hk2a, hk2b, hz2b]; try rfl) rfl ?_
      exact ⟨rfl, by (repeat (first | (with_reducible assumption) | (with_reducible exact Below.refl _ _) | (with_reducible refine below_drewN' ?_ _) | (with_reducible refine Below.drew ?_) | ((with_reducible refine Below.alloc ?_ ?_ _); rotate_left; focus (first | (simp; done) | (simp; omega) | omega)) | ((with_reducible refine Below.setCell ?_ ?_ _); rotate_left; focus (first | (simp; done) | (simp; omega) | omega))))⟩
    · rw [if_pos rfl, if_pos rfl, if_pos rfl]
      rw [hb] at HS
      go_enter Try.func22, Try.ntmps22
      go_wp2_with first | (go_at_call 47; with_reducible refine (HC.out _).mono ?_; rintro e1 w1 ⟨rfl, hb1⟩; obtain ⟨hc1, hf1⟩ := bcell hb1; have hB1 : Below w.heap.size w w1 := (below_then (by first | (go_grown; done) | (repeat (first | (with_reducible assumption) | (with_reducible exact Below.refl _ _) | (with_reducible refine below_drewN' ?_ _) | (with_reducible refine Below.drew ?_) | ((with_reducible refine Below.alloc ?_ ?_ _); rotate_left; focus (first | (simp; done) | (simp; omega) | omega)) | ((with_reducible refine Below.setCell ?_ ?_ _); rotate_left; focus (first | (simp; done) | (simp; omega) | omega))))) (by first | omega | (simp; done) | (simp; omega)) hb1); have hz1a : w.heap.size < w1.heap.size := (by have := hb1.size; first | omega | (simp at this; omega)); have hz1b : w.heap.size + 1 < w1.heap.size := (by have := hb1.size; first | omega | (simp at this; omega)); have hk1a : w1.cell? ⟨w.heap.size + 1, 0, none⟩ = some (.int .i64 0) := (hc1 _ _ (by first | (simp; done) | omega | (simp; omega))).trans (by first | assumption | (go_simp; done) | (go_simp; assumption)); have hk1b : w1.cell? ⟨w.heap.size + 1, 1, none⟩ = some (.int .i64 0) := (hc1 _ _ (by first | (simp; done) | omega | (simp; omega))).trans (by first | assumption | (go_simp; done) | (go_simp; assumption))) | ((go_at_call 52; with_reducible refine (HS.out _).mono ?_; rintro e2 w2 ⟨rfl, hb2⟩; obtain ⟨hc2, hf2⟩ := bcell hb2; have hB2 : Below w.heap.size w w2 := (below_then (by first | (go_grown; done) | (repeat (first | (with_reducible assumption) | (with_reducible exact Below.refl _ _) | (with_reducible refine below_drewN' ?_ _) | (with_reducible refine Below.drew ?_) | ((with_reducible refine Below.alloc ?_ ?_ _); rotate_left; focus (first | (simp; done) | (simp; omega) | omega)) | ((with_reducible refine Below.setCell ?_ ?_ _); rotate_left; focus (first | (simp; done) | (simp; omega) | omega))))) (by first | omega | (simp; done) | (simp; omega)) hb2); have hz2a : w.heap.size < w2.heap.size := (by have := hb2.size; first | omega | (simp at this; omega)); have hz2b : w.heap.size + 1 < w2.heap.size := (by have := hb2.size; first | omega | (simp at this; omega))); have hk2a : w2.cell? ⟨w.heap.size + 1, 0, none⟩ = some (.int .i64 0) := (hc2 _ _ (by omega)).trans hk1a; have hk2b : w2.cell? ⟨w.heap.size + 1, 1, none⟩ = some (.int .i64 0) := (hc2 _ _ (by omega)).trans hk1b)
      (try simp only [Exit.inBlock, Exit.then]); refine bodyPost_ret (by simp [results, Try.results22, go_sem, hk2a, hk2b, hz2b]; try rfl) rfl ?_
      exact ⟨rfl, by (repeat (first | (with_reducible assumption) | (with_reducible exact Below.refl _ _) | (with_reducible refine below_drewN' ?_ _) | (with_reducible refine Below.drew ?_) | ((with_reducible refine Below.alloc ?_ ?_ _); rotate_left; focus (first | (simp; done) | (simp; omega) | omega)) | ((with_reducible refine Below.setCell ?_ ?_ _); rotate_left; focus (first | (simp; done) | (simp; omega) | omega))))⟩
  · unfold spotC spotV
    rw [if_neg h0, if_neg h0, if_neg h0]
    generalize (codeB [a, b, c, d, e, f, g, h, i] u v n) = K at *
    have hcb : (K != 0) = true := by simpa using h0
    go_enter Try.func22, Try.ntmps22
    go_wp2_with first | (go_at_call 47; with_reducible refine (HC.out _).mono ?_; rintro e1 w1 ⟨rfl, hb1⟩; obtain ⟨hc1, hf1⟩ := bcell hb1; have hB1 : Below w.heap.size w w1 := (below_then (by first | (go_grown; done) | (repeat (first | (with_reducible assumption) | (with_reducible exact Below.refl _ _) | (with_reducible refine below_drewN' ?_ _) | (with_reducible refine Below.drew ?_) | ((with_reducible refine Below.alloc ?_ ?_ _); rotate_left; focus (first | (simp; done) | (simp; omega) | omega)) | ((with_reducible refine Below.setCell ?_ ?_ _); rotate_left; focus (first | (simp; done) | (simp; omega) | omega))))) (by first | omega | (simp; done) | (simp; omega)) hb1); have hz1a : w.heap.size < w1.heap.size := (by have := hb1.size; first | omega | (simp at this; omega)); have hz1b : w.heap.size + 1 < w1.heap.size := (by have := hb1.size; first | omega | (simp at this; omega)); have hk1a : w1.cell? ⟨w.heap.size + 1, 0, none⟩ = some (.int .i64 0) := (hc1 _ _ (by first | (simp; done) | omega | (simp; omega))).trans (by first | assumption | (go_simp; done) | (go_simp; assumption)); have hk1b : w1.cell? ⟨w.heap.size + 1, 1, none⟩ = some (.int .i64 0) := (hc1 _ _ (by first | (simp; done) | omega | (simp; omega))).trans (by first | assumption | (go_simp; done) | (go_simp; assumption)))
    (try simp only [Exit.inBlock, Exit.then]); refine bodyPost_ret (by simp [results, Try.results22, go_sem, hk1a, hk1b]; try rfl) rfl ?_
    exact ⟨rfl, by (repeat (first | (with_reducible assumption) | (with_reducible exact Below.refl _ _) | (with_reducible refine below_drewN' ?_ _) | (with_reducible refine Below.drew ?_) | ((with_reducible refine Below.alloc ?_ ?_ _); rotate_left; focus (first | (simp; done) | (simp; omega) | omega)) | ((with_reducible refine Below.setCell ?_ ?_ _); rotate_left; focus (first | (simp; done) | (simp; omega) | omega))))⟩
set_option maxRecDepth 100000 in
set_option maxHeartbeats 1000000 in
theorem MapSpot_any (a b c d e f g h i u v n : Int) (w : World) :
    Calls Try.prog 23 #[.agg #[.int .i64 a, .int .i64 b, .int .i64 c, .int .i64 d, .int .i64 e, .int .i64 f, .int .i64 g, .int .i64 h, .int .i64 i], .int .i64 u, .int .i64 v, .int .i64 n] w fun e' w' => e' = .returned (.tuple #[.agg #[.int .i64 (spotV (codeB [a, b, c, d, e, f, g, h, i] u v n) (imgI a b c u v n) (imgI d e f u v n) (imgI g h i u v n) (imgI a b c u v n)), .int .i64 (spotV (codeB [a, b, c, d, e, f, g, h, i] u v n) (imgI a b c u v n) (imgI d e f u v n) (imgI g h i u v n) (imgI d e f u v n))], .int .i64 (spotC (codeB [a, b, c, d, e, f, g, h, i] u v n) (imgI a b c u v n) (imgI d e f u v n) (imgI g h i u v n))]) ∧ Below w.heap.size w w' := by
  have HC := Lib.hid (fun w => pointCode_any a b c d e f g h i u v n w)
  by_cases h0 : (codeB [a, b, c, d, e, f, g, h, i] u v n) = 0
  · obtain ⟨hm, ⟨u1, u2⟩, ⟨v1, v2⟩, ⟨n1, n2⟩, hw⟩ := codeB_0 h0
    have hs := fun w => spot_any a b c d e f g h i u v n w hm u1 u2 v1 v2 (by omega) n2
    rw [if_pos hw] at hs
    rw [h0] at HC ⊢
    unfold spotC spotV
    rw [if_pos rfl, if_pos rfl, if_pos rfl]
    generalize (imgI a b c u v n) / (imgI g h i u v n) = XQ at *
    generalize (imgI d e f u v n) / (imgI g h i u v n) = YQ at *
    have HS := Lib.hid hs
    clear hs hw h0 hm u1 u2 v1 v2 n1 n2
    cases hb : spotB XQ YQ
    · rw [if_neg (by simp), if_neg (by simp), if_neg (by simp)]
      skip
      go_enter Try.func23, Try.ntmps23
      go_wp2_with first | (go_at_call 49; with_reducible refine (HC.out _).mono ?_; rintro e1 w1 ⟨rfl, hb1⟩; obtain ⟨hc1, hf1⟩ := bcell hb1; have hB1 : Below w.heap.size w w1 := (below_then (by first | (go_grown; done) | (repeat (first | (with_reducible assumption) | (with_reducible exact Below.refl _ _) | (with_reducible refine below_drewN' ?_ _) | (with_reducible refine Below.drew ?_) | ((with_reducible refine Below.alloc ?_ ?_ _); rotate_left; focus (first | (simp; done) | (simp; omega) | omega)) | ((with_reducible refine Below.setCell ?_ ?_ _); rotate_left; focus (first | (simp; done) | (simp; omega) | omega))))) (by first | omega | (simp; done) | (simp; omega)) hb1); have hz1a : w.heap.size < w1.heap.size := (by have := hb1.size; first | omega | (simp at this; omega)); have hz1b : w.heap.size + 1 < w1.heap.size := (by have := hb1.size; first | omega | (simp at this; omega)); have hk1a : w1.cell? ⟨w.heap.size + 1, 0, none⟩ = some (.int .i64 0) := (hc1 _ _ (by first | (simp; done) | omega | (simp; omega))).trans (by first | assumption | (go_simp; done) | (go_simp; assumption)); have hk1b : w1.cell? ⟨w.heap.size + 1, 1, none⟩ = some (.int .i64 0) := (hc1 _ _ (by first | (simp; done) | omega | (simp; omega))).trans (by first | assumption | (go_simp; done) | (go_simp; assumption))) | ((go_at_call 53; with_reducible refine (HS.out _).mono ?_; rintro e2 w2 ⟨rfl, hb2⟩; obtain ⟨hc2, hf2⟩ := bcell hb2; have hB2 : Below w.heap.size w w2 := (below_then (by first | (go_grown; done) | (repeat (first | (with_reducible assumption) | (with_reducible exact Below.refl _ _) | (with_reducible refine below_drewN' ?_ _) | (with_reducible refine Below.drew ?_) | ((with_reducible refine Below.alloc ?_ ?_ _); rotate_left; focus (first | (simp; done) | (simp; omega) | omega)) | ((with_reducible refine Below.setCell ?_ ?_ _); rotate_left; focus (first | (simp; done) | (simp; omega) | omega))))) (by first | omega | (simp; done) | (simp; omega)) hb2); have hz2a : w.heap.size < w2.heap.size := (by have := hb2.size; first | omega | (simp at this; omega)); have hz2b : w.heap.size + 1 < w2.heap.size := (by have := hb2.size; first | omega | (simp at this; omega))); have hk2a : w2.cell? ⟨w.heap.size + 1, 0, none⟩ = some (.int .i64 0) := (hc2 _ _ (by omega)).trans hk1a; have hk2b : w2.cell? ⟨w.heap.size + 1, 1, none⟩ = some (.int .i64 0) := (hc2 _ _ (by omega)).trans hk1b) | ((go_at_call 54; go_call (IsSpot_any XQ YQ _) as e3 w3 ⟨rfl, hb3⟩; obtain ⟨hc3, hf3⟩ := bcell hb3; have hB3 : Below w.heap.size w w3 := (below_then (by first | (go_grown; done) | (repeat (first | (with_reducible assumption) | (with_reducible exact Below.refl _ _) | (with_reducible refine below_drewN' ?_ _) | (with_reducible refine Below.drew ?_) | ((with_reducible refine Below.alloc ?_ ?_ _); rotate_left; focus (first | (simp; done) | (simp; omega) | omega)) | ((with_reducible refine Below.setCell ?_ ?_ _); rotate_left; focus (first | (simp; done) | (simp; omega) | omega))))) (by first | omega | (simp; done) | (simp; omega)) hb3); have hz3a : w.heap.size < w3.heap.size := (by have := hb3.size; first | omega | (simp at this; omega)); have hz3b : w.heap.size + 1 < w3.heap.size := (by have := hb3.size; first | omega | (simp at this; omega))); have hk3a : w3.cell? ⟨w.heap.size + 1, 0, none⟩ = some (.int .i64 0) := (hc3 _ _ (by simp; omega)).trans (by first | exact hk2a | (go_simp; exact hk2a) | (simp [hk2a]; done) | go_simp); have hk3b : w3.cell? ⟨w.heap.size + 1, 1, none⟩ = some (.int .i64 0) := (hc3 _ _ (by simp; omega)).trans (by first | exact hk2b | (go_simp; exact hk2b) | (simp [hk2b]; done) | go_simp))
      (try simp only [Exit.inBlock, Exit.then]); refine bodyPost_ret (by simp [results, Try.results23, go_sem, hk3a, hk3b]; try rfl) rfl ?_
      exact ⟨rfl, by (repeat (first | (with_reducible assumption) | (with_reducible exact Below.refl _ _) | (with_reducible refine below_drewN' ?_ _) | (with_reducible refine Below.drew ?_) | ((with_reducible refine Below.alloc ?_ ?_ _); rotate_left; focus (first | (simp; done) | (simp; omega) | omega)) | ((with_reducible refine Below.setCell ?_ ?_ _); rotate_left; focus (first | (simp; done) | (simp; omega) | omega))))⟩
    · rw [if_pos rfl, if_pos rfl, if_pos rfl]
      skip
      go_enter Try.func23, Try.ntmps23
      go_wp2_with first | (go_at_call 49; with_reducible refine (HC.out _).mono ?_; rintro e1 w1 ⟨rfl, hb1⟩; obtain ⟨hc1, hf1⟩ := bcell hb1; have hB1 : Below w.heap.size w w1 := (below_then (by first | (go_grown; done) | (repeat (first | (with_reducible assumption) | (with_reducible exact Below.refl _ _) | (with_reducible refine below_drewN' ?_ _) | (with_reducible refine Below.drew ?_) | ((with_reducible refine Below.alloc ?_ ?_ _); rotate_left; focus (first | (simp; done) | (simp; omega) | omega)) | ((with_reducible refine Below.setCell ?_ ?_ _); rotate_left; focus (first | (simp; done) | (simp; omega) | omega))))) (by first | omega | (simp; done) | (simp; omega)) hb1); have hz1a : w.heap.size < w1.heap.size := (by have := hb1.size; first | omega | (simp at this; omega)); have hz1b : w.heap.size + 1 < w1.heap.size := (by have := hb1.size; first | omega | (simp at this; omega)); have hk1a : w1.cell? ⟨w.heap.size + 1, 0, none⟩ = some (.int .i64 0) := (hc1 _ _ (by first | (simp; done) | omega | (simp; omega))).trans (by first | assumption | (go_simp; done) | (go_simp; assumption)); have hk1b : w1.cell? ⟨w.heap.size + 1, 1, none⟩ = some (.int .i64 0) := (hc1 _ _ (by first | (simp; done) | omega | (simp; omega))).trans (by first | assumption | (go_simp; done) | (go_simp; assumption))) | ((go_at_call 53; with_reducible refine (HS.out _).mono ?_; rintro e2 w2 ⟨rfl, hb2⟩; obtain ⟨hc2, hf2⟩ := bcell hb2; have hB2 : Below w.heap.size w w2 := (below_then (by first | (go_grown; done) | (repeat (first | (with_reducible assumption) | (with_reducible exact Below.refl _ _) | (with_reducible refine below_drewN' ?_ _) | (with_reducible refine Below.drew ?_) | ((with_reducible refine Below.alloc ?_ ?_ _); rotate_left; focus (first | (simp; done) | (simp; omega) | omega)) | ((with_reducible refine Below.setCell ?_ ?_ _); rotate_left; focus (first | (simp; done) | (simp; omega) | omega))))) (by first | omega | (simp; done) | (simp; omega)) hb2); have hz2a : w.heap.size < w2.heap.size := (by have := hb2.size; first | omega | (simp at this; omega)); have hz2b : w.heap.size + 1 < w2.heap.size := (by have := hb2.size; first | omega | (simp at this; omega))); have hk2a : w2.cell? ⟨w.heap.size + 1, 0, none⟩ = some (.int .i64 0) := (hc2 _ _ (by omega)).trans hk1a; have hk2b : w2.cell? ⟨w.heap.size + 1, 1, none⟩ = some (.int .i64 0) := (hc2 _ _ (by omega)).trans hk1b) | ((go_at_call 54; go_call (IsSpot_any XQ YQ _) as e3 w3 ⟨rfl, hb3⟩; obtain ⟨hc3, hf3⟩ := bcell hb3; have hB3 : Below w.heap.size w w3 := (below_then (by first | (go_grown; done) | (repeat (first | (with_reducible assumption) | (with_reducible exact Below.refl _ _) | (with_reducible refine below_drewN' ?_ _) | (with_reducible refine Below.drew ?_) | ((with_reducible refine Below.alloc ?_ ?_ _); rotate_left; focus (first | (simp; done) | (simp; omega) | omega)) | ((with_reducible refine Below.setCell ?_ ?_ _); rotate_left; focus (first | (simp; done) | (simp; omega) | omega))))) (by first | omega | (simp; done) | (simp; omega)) hb3); have hz3a : w.heap.size < w3.heap.size := (by have := hb3.size; first | omega | (simp at this; omega)); have hz3b : w.heap.size + 1 < w3.heap.size := (by have := hb3.size; first | omega | (simp at this; omega))); have hk3a : w3.cell? ⟨w.heap.size + 1, 0, none⟩ = some (.int .i64 0) := (hc3 _ _ (by simp; omega)).trans (by first | exact hk2a | (go_simp; exact hk2a) | (simp [hk2a]; done) | go_simp); have hk3b : w3.cell? ⟨w.heap.size + 1, 1, none⟩ = some (.int .i64 0) := (hc3 _ _ (by simp; omega)).trans (by first | exact hk2b | (go_simp; exact hk2b) | (simp [hk2b]; done) | go_simp))
      (try simp only [Exit.inBlock, Exit.then]); refine bodyPost_ret (by simp [results, Try.results23, go_sem, hk3a, hk3b]; try rfl) rfl ?_
      exact ⟨rfl, by (repeat (first | (with_reducible assumption) | (with_reducible exact Below.refl _ _) | (with_reducible refine below_drewN' ?_ _) | (with_reducible refine Below.drew ?_) | ((with_reducible refine Below.alloc ?_ ?_ _); rotate_left; focus (first | (simp; done) | (simp; omega) | omega)) | ((with_reducible refine Below.setCell ?_ ?_ _); rotate_left; focus (first | (simp; done) | (simp; omega) | omega))))⟩
  · unfold spotC spotV
    rw [if_neg h0, if_neg h0, if_neg h0]
    generalize (codeB [a, b, c, d, e, f, g, h, i] u v n) = K at *
    have hcb : (K != 0) = true := by simpa using h0
    go_enter Try.func23, Try.ntmps23
    go_wp2_with first | (go_at_call 49; with_reducible refine (HC.out _).mono ?_; rintro e1 w1 ⟨rfl, hb1⟩; obtain ⟨hc1, hf1⟩ := bcell hb1; have hB1 : Below w.heap.size w w1 := (below_then (by first | (go_grown; done) | (repeat (first | (with_reducible assumption) | (with_reducible exact Below.refl _ _) | (with_reducible refine below_drewN' ?_ _) | (with_reducible refine Below.drew ?_) | ((with_reducible refine Below.alloc ?_ ?_ _); rotate_left; focus (first | (simp; done) | (simp; omega) | omega)) | ((with_reducible refine Below.setCell ?_ ?_ _); rotate_left; focus (first | (simp; done) | (simp; omega) | omega))))) (by first | omega | (simp; done) | (simp; omega)) hb1); have hz1a : w.heap.size < w1.heap.size := (by have := hb1.size; first | omega | (simp at this; omega)); have hz1b : w.heap.size + 1 < w1.heap.size := (by have := hb1.size; first | omega | (simp at this; omega)); have hk1a : w1.cell? ⟨w.heap.size + 1, 0, none⟩ = some (.int .i64 0) := (hc1 _ _ (by first | (simp; done) | omega | (simp; omega))).trans (by first | assumption | (go_simp; done) | (go_simp; assumption)); have hk1b : w1.cell? ⟨w.heap.size + 1, 1, none⟩ = some (.int .i64 0) := (hc1 _ _ (by first | (simp; done) | omega | (simp; omega))).trans (by first | assumption | (go_simp; done) | (go_simp; assumption)))
    (try simp only [Exit.inBlock, Exit.then]); refine bodyPost_ret (by simp [results, Try.results23, go_sem, hk1a, hk1b]; try rfl) rfl ?_
    exact ⟨rfl, by (repeat (first | (with_reducible assumption) | (with_reducible exact Below.refl _ _) | (with_reducible refine below_drewN' ?_ _) | (with_reducible refine Below.drew ?_) | ((with_reducible refine Below.alloc ?_ ?_ _); rotate_left; focus (first | (simp; done) | (simp; omega) | omega)) | ((with_reducible refine Below.setCell ?_ ?_ _); rotate_left; focus (first | (simp; done) | (simp; omega) | omega))))⟩
end Go.Proofs.Ytnhhbpdjapccpaa
