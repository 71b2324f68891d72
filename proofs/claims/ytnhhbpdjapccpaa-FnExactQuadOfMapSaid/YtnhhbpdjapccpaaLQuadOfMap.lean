/-
  The row FnExactQuadOfMap: for every map the program's QuadOfMap returns what the reference's returns; no condition. Printed by gen/lqom.py.
-/
import Derived.Test.YtnhhbpdjapccpaaFrame
import Derived.Test.YtnhhbpdjapccpaaQos
namespace Go.Proofs.Ytnhhbpdjapccpaa
set_option linter.unusedSimpArgs false
open Go.ChangeShapes Go.WideShapes Go.ChangeAt Go.RowKit

set_option maxHeartbeats 400000 in
theorem eqSpot_sameQ (x y : Int) (w : World) :
    Calls Try.prog 24 #[.agg #[.int .i64 x, .int .i64 y], .agg #[.int .i64 x, .int .i64 y]] w fun e' w' => e' = .returned (.bool true) ∧ Below w.heap.size w w' := by
  have hx : (x != x) = false := by simp
  have hy : (y != y) = false := by simp
  go_enter Try.func24, Try.ntmps24
  go_wp2_with fail
  repeat (first | (go_quiet (fail); go_wp2_with fail))
  go_ret
  exact ⟨rfl, by (repeat (first | (with_reducible assumption) | (with_reducible exact Below.refl _ _) | (with_reducible refine below_drewN' ?_ _) | (with_reducible refine Below.drew ?_) | ((with_reducible refine Below.alloc ?_ ?_ _); rotate_left; focus (first | (simp; done) | (simp; omega) | omega)) | ((with_reducible refine Below.setCell ?_ ?_ _); rotate_left; focus (first | (simp; done) | (simp; omega) | omega))))⟩
set_option maxRecDepth 100000 in
set_option maxHeartbeats 4000000 in
theorem eqQuad_same (q0 q1 q2 q3 q4 q5 q6 q7 : Int) (w : World) :
    Calls Try.prog 31 #[.agg #[.int .i64 q0, .int .i64 q1, .int .i64 q2, .int .i64 q3, .int .i64 q4, .int .i64 q5, .int .i64 q6, .int .i64 q7], .agg #[.int .i64 q0, .int .i64 q1, .int .i64 q2, .int .i64 q3, .int .i64 q4, .int .i64 q5, .int .i64 q6, .int .i64 q7]] w fun e' w' => e' = .returned (.bool true) ∧ Below w.heap.size w w' := by
  have hA0 : Hid (((w.alloc (.cells #[.int .i64 q0, .int .i64 q1, .int .i64 q2, .int .i64 q3, .int .i64 q4, .int .i64 q5, .int .i64 q6, .int .i64 q7] 48)).alloc (.cells #[.int .i64 q0, .int .i64 q1, .int .i64 q2, .int .i64 q3, .int .i64 q4, .int .i64 q5, .int .i64 q6, .int .i64 q7] 48)).heap[w.heap.size]? = some (.cells #[.int .i64 q0, .int .i64 q1, .int .i64 q2, .int .i64 q3, .int .i64 q4, .int .i64 q5, .int .i64 q6, .int .i64 q7] 48 (0, 0))) := Lib.hid (blk_alloc (heap_alloc_new _ _) (by simp))
  have hB0 : Hid (((w.alloc (.cells #[.int .i64 q0, .int .i64 q1, .int .i64 q2, .int .i64 q3, .int .i64 q4, .int .i64 q5, .int .i64 q6, .int .i64 q7] 48)).alloc (.cells #[.int .i64 q0, .int .i64 q1, .int .i64 q2, .int .i64 q3, .int .i64 q4, .int .i64 q5, .int .i64 q6, .int .i64 q7] 48)).heap[w.heap.size + 1]? = some (.cells #[.int .i64 q0, .int .i64 q1, .int .i64 q2, .int .i64 q3, .int .i64 q4, .int .i64 q5, .int .i64 q6, .int .i64 q7] 48 (0, 0))) := Lib.hid (heap_alloc_at (by simp))
  go_enter Try.func31, Try.ntmps31
  go_wp2_with fail
  go_at_call 24
  with_reducible refine (eqSpot_sameQ q0 q1 _).mono ?_
  rintro e1 w1 ⟨rfl, hb1⟩
  have hA1 := Lib.hid (blk_below hA0.out hb1 (by simp; omega))
  have hB1 := Lib.hid (blk_below hB0.out hb1 (by simp))
  have hD1 : Below w.heap.size w w1 := below_then (by go_grown) (by simp; omega) hb1
  have hz1a : w.heap.size < w1.heap.size := by have := hb1.size; simp at this; omega
  have hz1b : w.heap.size + 1 < w1.heap.size := by have := hb1.size; simp at this; omega
  clear hb1
  obtain ⟨x0, x1, x2, x3, x4, x5, x6, x7, -⟩ := blk8 hA1.out
  obtain ⟨y0, y1, y2, y3, y4, y5, y6, y7, -⟩ := blk8 hB1.out
  go_wp2_with fail
  go_at_call 24
  with_reducible refine (eqSpot_sameQ q2 q3 _).mono ?_
  rintro e2 w2 ⟨rfl, hb2⟩
  have hA2 := Lib.hid (blk_below hA1.out hb2 (by omega))
  have hB2 := Lib.hid (blk_below hB1.out hb2 (by omega))
  have hD2 : Below w.heap.size w w2 := hD1.trans (hb2.mono (by omega))
  have hz2a : w.heap.size < w2.heap.size := by have := hb2.size; omega
  have hz2b : w.heap.size + 1 < w2.heap.size := by have := hb2.size; omega
  clear hb2 x0 y0 x1 y1 x2 y2 x3 y3 x4 y4 x5 y5 x6 y6 x7 y7
  obtain ⟨x0, x1, x2, x3, x4, x5, x6, x7, -⟩ := blk8 hA2.out
  obtain ⟨y0, y1, y2, y3, y4, y5, y6, y7, -⟩ := blk8 hB2.out
  go_wp2_with fail
  go_at_call 24
  with_reducible refine (eqSpot_sameQ q4 q5 _).mono ?_
  rintro e3 w3 ⟨rfl, hb3⟩
  have hA3 := Lib.hid (blk_below hA2.out hb3 (by omega))
  have hB3 := Lib.hid (blk_below hB2.out hb3 (by omega))
  have hD3 : Below w.heap.size w w3 := hD2.trans (hb3.mono (by omega))
  have hz3a : w.heap.size < w3.heap.size := by have := hb3.size; omega
  have hz3b : w.heap.size + 1 < w3.heap.size := by have := hb3.size; omega
  clear hb3 x0 y0 x1 y1 x2 y2 x3 y3 x4 y4 x5 y5 x6 y6 x7 y7
  obtain ⟨x0, x1, x2, x3, x4, x5, x6, x7, -⟩ := blk8 hA3.out
  obtain ⟨y0, y1, y2, y3, y4, y5, y6, y7, -⟩ := blk8 hB3.out
  go_wp2_with fail
  go_at_call 24
  with_reducible refine (eqSpot_sameQ q6 q7 _).mono ?_
  rintro e4 w4 ⟨rfl, hb4⟩
  have hA4 := Lib.hid (blk_below hA3.out hb4 (by omega))
  have hB4 := Lib.hid (blk_below hB3.out hb4 (by omega))
  have hD4 : Below w.heap.size w w4 := hD3.trans (hb4.mono (by omega))
  have hz4a : w.heap.size < w4.heap.size := by have := hb4.size; omega
  have hz4b : w.heap.size + 1 < w4.heap.size := by have := hb4.size; omega
  clear hb4 x0 y0 x1 y1 x2 y2 x3 y3 x4 y4 x5 y5 x6 y6 x7 y7
  obtain ⟨x0, x1, x2, x3, x4, x5, x6, x7, -⟩ := blk8 hA4.out
  obtain ⟨y0, y1, y2, y3, y4, y5, y6, y7, -⟩ := blk8 hB4.out
  go_wp2_with fail
  go_ret
  exact ⟨rfl, hD4⟩
set_option maxRecDepth 100000 in
set_option maxHeartbeats 4000000 in
theorem lawQuadOfMap (a b c d e f g h i : Int) (w : World) :
    Calls Try.prog 9 #[.agg #[.int .i64 a, .int .i64 b, .int .i64 c, .int .i64 d, .int .i64 e, .int .i64 f, .int .i64 g, .int .i64 h, .int .i64 i]] w fun e' w' => e' = .returned (.bool true) ∧ Below w.heap.size w w' := by
  have s1 := sQuadOfMap_any a b c d e f g h i
  have s2 := QuadOfMap_any a b c d e f g h i
  generalize qmC (isMapB [a, b, c, d, e, f, g, h, i]) ((decide (0 < imgI g h i 0 0 1) && (decide (0 < imgI g h i 1 0 1) && (decide (0 < imgI g h i 1 1 1) && decide (0 < imgI g h i 0 1 1))))) ((spotB (imgI a b c 0 0 1 / imgI g h i 0 0 1) (imgI d e f 0 0 1 / imgI g h i 0 0 1) && (spotB (imgI a b c 1 0 1 / imgI g h i 1 0 1) (imgI d e f 1 0 1 / imgI g h i 1 0 1) && (spotB (imgI a b c 1 1 1 / imgI g h i 1 1 1) (imgI d e f 1 1 1 / imgI g h i 1 1 1) && spotB (imgI a b c 0 1 1 / imgI g h i 0 1 1) (imgI d e f 0 1 1 / imgI g h i 0 1 1))))) (quadB (imgI a b c 0 0 1 / imgI g h i 0 0 1) (imgI d e f 0 0 1 / imgI g h i 0 0 1) (imgI a b c 1 0 1 / imgI g h i 1 0 1) (imgI d e f 1 0 1 / imgI g h i 1 0 1) (imgI a b c 1 1 1 / imgI g h i 1 1 1) (imgI d e f 1 1 1 / imgI g h i 1 1 1) (imgI a b c 0 1 1 / imgI g h i 0 1 1) (imgI d e f 0 1 1 / imgI g h i 0 1 1)) = KK at s1 s2
  generalize qmV KK (imgI a b c 0 0 1 / imgI g h i 0 0 1) = q0 at s1 s2
  generalize qmV KK (imgI d e f 0 0 1 / imgI g h i 0 0 1) = q1 at s1 s2
  generalize qmV KK (imgI a b c 1 0 1 / imgI g h i 1 0 1) = q2 at s1 s2
  generalize qmV KK (imgI d e f 1 0 1 / imgI g h i 1 0 1) = q3 at s1 s2
  generalize qmV KK (imgI a b c 1 1 1 / imgI g h i 1 1 1) = q4 at s1 s2
  generalize qmV KK (imgI d e f 1 1 1 / imgI g h i 1 1 1) = q5 at s1 s2
  generalize qmV KK (imgI a b c 0 1 1 / imgI g h i 0 1 1) = q6 at s1 s2
  generalize qmV KK (imgI d e f 0 1 1 / imgI g h i 0 1 1) = q7 at s1 s2
  have S1 := Lib.hid s1
  have S2 := Lib.hid s2
  clear s1 s2
  have hk : (KK != KK) = false := by simp
  have HT := Lib.hid (fun w => toMap_any a b c d e f g h i w)
  have HQ := Lib.hid (fun w => eqQuad_same q0 q1 q2 q3 q4 q5 q6 q7 w)
  go_enter Try.func9, Try.ntmps9
  go_wp2_with fail
  (go_at_call 16; with_reducible refine (HT.out _).mono ?_; rintro e1 w1 ⟨rfl, hb1⟩; obtain ⟨hc1, hf1⟩ := bcell hb1; have hB1 : Below w.heap.size w w1 := (below_then (by first | (go_grown; done) | (repeat (first | (with_reducible assumption) | (with_reducible exact Below.refl _ _) | (with_reducible refine below_drewN' ?_ _) | (with_reducible refine Below.drew ?_) | ((with_reducible refine Below.alloc ?_ ?_ _); rotate_left; focus (first | (simp; done) | (simp; omega) | omega)) | ((with_reducible refine Below.setCell ?_ ?_ _); rotate_left; focus (first | (simp; done) | (simp; omega) | omega))))) (by first | omega | (simp; done) | (simp; omega)) hb1); have hz1a : w.heap.size < w1.heap.size := (by have := hb1.size; first | omega | (simp at this; omega)))
  have HM1 := Lib.hid (blk_below (heap_alloc_new w (.cells #[.int .i64 a, .int .i64 b, .int .i64 c, .int .i64 d, .int .i64 e, .int .i64 f, .int .i64 g, .int .i64 h, .int .i64 i] 29)) hb1 (by simp))
  clear hc1 hf1 hb1
  go_wp2_with fail
  (go_at_call 29; with_reducible refine (S1.out _).mono ?_; rintro e2 w2 ⟨rfl, hb2⟩; obtain ⟨hc2, hf2⟩ := bcell hb2; have hB2 : Below w.heap.size w w2 := (below_then (by first | (go_grown; done) | (repeat (first | (with_reducible assumption) | (with_reducible exact Below.refl _ _) | (with_reducible refine below_drewN' ?_ _) | (with_reducible refine Below.drew ?_) | ((with_reducible refine Below.alloc ?_ ?_ _); rotate_left; focus (first | (simp; done) | (simp; omega) | omega)) | ((with_reducible refine Below.setCell ?_ ?_ _); rotate_left; focus (first | (simp; done) | (simp; omega) | omega))))) (by first | omega | (simp; done) | (simp; omega)) hb2); have hz2a : w.heap.size < w2.heap.size := (by have := hb2.size; first | omega | (simp at this; omega)))
  have HM2 := Lib.hid (blk_below HM1.out hb2 hz1a)
  clear hc2 hf2 hb2
  obtain ⟨m0, m1, m2, m3, m4, m5, m6, m7, m8, -⟩ := blk9 HM2.out
  go_wp2_with fail
  (go_at_call 16; with_reducible refine (HT.out _).mono ?_; rintro e3 w3 ⟨rfl, hb3⟩; obtain ⟨hc3, hf3⟩ := bcell hb3; have hB3 : Below w.heap.size w w3 := (below_then (by first | (go_grown; done) | (repeat (first | (with_reducible assumption) | (with_reducible exact Below.refl _ _) | (with_reducible refine below_drewN' ?_ _) | (with_reducible refine Below.drew ?_) | ((with_reducible refine Below.alloc ?_ ?_ _); rotate_left; focus (first | (simp; done) | (simp; omega) | omega)) | ((with_reducible refine Below.setCell ?_ ?_ _); rotate_left; focus (first | (simp; done) | (simp; omega) | omega))))) (by first | omega | (simp; done) | (simp; omega)) hb3); have hz3a : w.heap.size < w3.heap.size := (by have := hb3.size; first | omega | (simp at this; omega)); have hz3b : w2.heap.size < w3.heap.size := (by have := hb3.size; first | omega | (simp at this; omega)))
  have HA3 := Lib.hid (blk_below (heap_alloc_new w2 (.cells #[.int .i64 q0, .int .i64 q1, .int .i64 q2, .int .i64 q3, .int .i64 q4, .int .i64 q5, .int .i64 q6, .int .i64 q7] 48)) hb3 (by simp))
  clear hc3 hf3 hb3 m0 m1 m2 m3 m4 m5 m6 m7 m8
  go_wp2_with fail
  (go_at_call 30; with_reducible refine (S2.out _).mono ?_; rintro e4 w4 ⟨rfl, hb4⟩; obtain ⟨hc4, hf4⟩ := bcell hb4; have hB4 : Below w.heap.size w w4 := (below_then (by first | (go_grown; done) | (repeat (first | (with_reducible assumption) | (with_reducible exact Below.refl _ _) | (with_reducible refine below_drewN' ?_ _) | (with_reducible refine Below.drew ?_) | ((with_reducible refine Below.alloc ?_ ?_ _); rotate_left; focus (first | (simp; done) | (simp; omega) | omega)) | ((with_reducible refine Below.setCell ?_ ?_ _); rotate_left; focus (first | (simp; done) | (simp; omega) | omega))))) (by first | omega | (simp; done) | (simp; omega)) hb4); have hz4a : w.heap.size < w4.heap.size := (by have := hb4.size; first | omega | (simp at this; omega)); have hz4b : w2.heap.size < w4.heap.size := (by have := hb4.size; first | omega | (simp at this; omega)))
  have HA4 := Lib.hid (blk_below HA3.out hb4 hz3b)
  clear hc4 hf4 hb4
  obtain ⟨d0, d1, d2, d3, d4, d5, d6, d7, -⟩ := blk8 HA4.out
  go_wp2_with fail
  (go_at_call 31; with_reducible refine (HQ.out _).mono ?_; rintro e5 w5 ⟨rfl, hb5⟩; obtain ⟨hc5, hf5⟩ := bcell hb5; have hB5 : Below w.heap.size w w5 := (below_then (by first | (go_grown; done) | (repeat (first | (with_reducible assumption) | (with_reducible exact Below.refl _ _) | (with_reducible refine below_drewN' ?_ _) | (with_reducible refine Below.drew ?_) | ((with_reducible refine Below.alloc ?_ ?_ _); rotate_left; focus (first | (simp; done) | (simp; omega) | omega)) | ((with_reducible refine Below.setCell ?_ ?_ _); rotate_left; focus (first | (simp; done) | (simp; omega) | omega))))) (by first | omega | (simp; done) | (simp; omega)) hb5); have hz5a : w.heap.size < w5.heap.size := (by have := hb5.size; first | omega | (simp at this; omega)))
  go_wp2_with fail
  go_ret
  exact ⟨rfl, hB5⟩
set_option maxRecDepth 100000 in
theorem lifted_FnExactQuadOfMap (os : Os) (started : os.Started) (H : Type) (enc : TypeId × Value → H) :
    ReturnsInHanded {} Try.checked os 9 .any (Rows.fnExactQuadOfMapSpec.pre6 enc Try.prog Try.f9 Rows.fnExactQuadOfMapRow.domain false) (Rows.fnExactQuadOfMapSpec.post enc Try.prog Try.f9 false true false false) := by
  refine law_lifted (C := Try.checked) (tb := 4) own started (by kernel_rfl) Try.func9
    (ChangeSpec.witness6 (enc := enc) (C := Try.checked) false ⟨#[], #[.agg #[.int .i64 0, .int .i64 0, .int .i64 0, .int .i64 0, .int .i64 0, .int .i64 0, .int .i64 0, .int .i64 0, .int .i64 0]], []⟩ 8 (by kernel_rfl) (by kernel_rfl) (by kernel_rfl) (by kernel_rfl))
    laidOut (by kernel_rfl) rfl rfl Try.underlying4 ?_ ?_
  · intro ds hd
    match ds, hd with
    | [e0], _ => rfl
  · intro W base args ds p hval hA hlt hsz
    have hval1 : ∀ (j : Nat) t v, Try.f9.params[j]? = some t → args[j]? = some v → Value.okWide Try.prog W .any base t v := hval
    have hA1 : DataW.TrodAll enc Try.prog W 0 (fun _ => true) true Try.f9.params.toList args.toList ds p := hA
    have hsz1 : (DataW.weightsEach Try.prog Try.f9.params.toList ds).all (· ≤ reachBytes) = true := hsz
    rw [Try.params9] at hval1 hA1 hsz1
    clear hval hA hsz
    obtain ⟨v0, d0, rfl, rfl, h0⟩ := trodAll_one hA1
    obtain ⟨xs, hl, rfl, _⟩ := ok_agg_ints (n := 9) (e := 2) Try.underlying29 (by kernel_rfl) (by kernel_rfl) Try.underlying2 (hval1 0 29 v0 rfl rfl)
    match xs, hl with
    | [a, b, c, d, e, f, g, h, i], _ => exact lawQuadOfMap a b c d e f g h i W
theorem holds_FnExactQuadOfMap : Rows.FnExactQuadOfMapSaid :=
  OpenClaim.holds_of_wide 9 Try.f9 rfl rfl rfl rfl rfl rfl rfl ⟨rfl, rfl, rfl, rfl, rfl⟩ rfl rfl rfl rfl rfl (by kernel_rfl) Try.func9 (by kernel_rfl)
    (of_decide_eq_true (by kernel_rfl)) (by unfold Func.isWrapper; first | (rw [if_pos (by decide +kernel)]; kernel_rfl) | (rw [if_neg (by decide +kernel)]; exact ⟨rfl, rfl⟩))
    (fun os started H enc _ => lifted_FnExactQuadOfMap os started H enc)

end Go.Proofs.Ytnhhbpdjapccpaa
