/-
  The row FnExactMapSpot: for every map and every point the program's MapSpot returns what the reference's returns; no condition.
-/
import Derived.Test.YtnhhbpdjapccpaaFrame
import Derived.Test.YtnhhbpdjapccpaaC25S
namespace Go.Proofs.Ytnhhbpdjapccpaa
open Go.ChangeShapes Go.WideShapes Go.ChangeAt Go.RowKit

set_option maxHeartbeats 400000 in
theorem eqSpot_same (x y : Int) (w : World) :
    Calls Try.prog 24 #[.agg #[.int .i64 x, .int .i64 y], .agg #[.int .i64 x, .int .i64 y]] w fun e' w' => e' = .returned (.bool true) ∧ Below w.heap.size w w' := by
  have hx : (x != x) = false := by simp
  have hy : (y != y) = false := by simp
  go_enter Try.func24, Try.ntmps24
  go_wp2_with fail
  repeat (first | (go_quiet (fail); go_wp2_with fail))
  go_ret
  exact ⟨rfl, by (repeat (first | assumption | exact Below.refl _ _ | refine below_drewN' ?_ _ | refine Below.drew ?_ | refine Below.alloc ?_ (by first | (simp; done) | (simp; omega) | omega) _ | refine Below.setCell ?_ (by first | (simp; done) | (simp; omega) | omega) _))⟩
set_option maxHeartbeats 1000000 in
theorem lawMapSpot (a b c d e f g h i u v n : Int) (w : World) :
    Calls Try.prog 7 #[.agg #[.int .i64 a, .int .i64 b, .int .i64 c, .int .i64 d, .int .i64 e, .int .i64 f, .int .i64 g, .int .i64 h, .int .i64 i], .int .i64 u, .int .i64 v, .int .i64 n] w fun e' w' =>
      e' = .returned (.bool true) ∧ Below w.heap.size w w' := by
  have s1 := sMapSpot_any a b c d e f g h i u v n
  have s2 := MapSpot_any a b c d e f g h i u v n
  generalize codeB [a, b, c, d, e, f, g, h, i] u v n = K at s1 s2
  generalize spotC K (imgI a b c u v n) (imgI d e f u v n) (imgI g h i u v n) = C at s1 s2
  generalize spotV K (imgI a b c u v n) (imgI d e f u v n) (imgI g h i u v n) (imgI a b c u v n) = X at s1 s2
  generalize spotV K (imgI a b c u v n) (imgI d e f u v n) (imgI g h i u v n) (imgI d e f u v n) = Y at s1 s2
  have S1 := Lib.hid s1
  have S2 := Lib.hid s2
  clear s1 s2
  have hk : (C != C) = false := by simp
  go_enter Try.func7, Try.ntmps7
  go_wp2_with fail
  refine (toMap_any a b c d e f g h i _).mono ?_
  rintro e1 w1 ⟨rfl, hb1⟩
  obtain ⟨hc1, hf1⟩ := bcell hb1
  have hB1 : Below w.heap.size w w1 := below_then (by go_grown) (by simp) hb1
  have hz1 : w.heap.size < w1.heap.size := (by have := hb1.size; simp at this; omega)
  go_wp2_with fail
  refine (S1.out _).mono ?_
  rintro e2 w2 ⟨rfl, hb2⟩
  obtain ⟨hc2, hf2⟩ := bcell hb2
  have hB2 : Below w.heap.size w w2 := below_then (by go_grown) (by go_size) hb2
  have hz2 : w.heap.size < w2.heap.size := (by have := hb2.size; omega)
  go_wp2_with fail
  refine (toMap_any a b c d e f g h i _).mono ?_
  rintro e3 w3 ⟨rfl, hb3⟩
  obtain ⟨hc3, hf3⟩ := bcell hb3
  have hB3 : Below w.heap.size w w3 := below_then (by go_grown) (by have := hB2.size; go_size) hb3
  go_wp2_with fail
  refine (S2.out _).mono ?_
  rintro e4 w4 ⟨rfl, hb4⟩
  obtain ⟨hc4, hf4⟩ := bcell hb4
  have hB4 : Below w.heap.size w w4 := below_then (by go_grown) (by have := hB3.size; go_size) hb4
  have hz3 : w2.heap.size < w3.heap.size := (by have := hb3.size; simp at this; omega)
  have hz4 : w2.heap.size < w4.heap.size := (by have := hb4.size; omega)
  go_wp2_with fail
  refine (eqSpot_same X Y _).mono ?_
  rintro e5 w5 ⟨rfl, hb5⟩
  have hB5 : Below w.heap.size w w5 := below_then (by go_grown) (by have := hB4.size; go_size) hb5
  go_wp2_with fail
  go_ret
  exact ⟨rfl, hB5⟩
set_option maxRecDepth 100000 in
theorem lifted_FnExactMapSpot (os : Os) (started : os.Started) (H : Type) (enc : TypeId × Value → H) :
    ReturnsInHanded {} Try.checked os 7 .any (Rows.fnExactMapSpotSpec.pre6 enc Try.prog Try.f7 Rows.fnExactMapSpotRow.domain false) (Rows.fnExactMapSpotSpec.post enc Try.prog Try.f7 false true false false) := by
  refine law_lifted (C := Try.checked) (tb := 4) own started (by kernel_rfl) Try.func7
    (ChangeSpec.witness6 (enc := enc) (C := Try.checked) false ⟨#[], #[.agg #[.int .i64 0, .int .i64 0, .int .i64 0, .int .i64 0, .int .i64 0, .int .i64 0, .int .i64 0, .int .i64 0, .int .i64 0], .int .i64 0, .int .i64 0, .int .i64 0], []⟩ 8 (by kernel_rfl) (by kernel_rfl) (by kernel_rfl) (by kernel_rfl))
    laidOut (by kernel_rfl) rfl rfl Try.underlying4 ?_ ?_
  · intro ds hd
    match ds, hd with
    | [e0, e1, e2, e3], _ => rfl
  · intro W base args ds p hval hA hlt hsz
    have hval1 : ∀ (j : Nat) t v, Try.f7.params[j]? = some t → args[j]? = some v → Value.okWide Try.prog W .any base t v := hval
    have hA1 : DataW.TrodAll enc Try.prog W 0 (fun _ => true) true Try.f7.params.toList args.toList ds p := hA
    have hsz1 : (DataW.weightsEach Try.prog Try.f7.params.toList ds).all (· ≤ reachBytes) = true := hsz
    rw [Try.params7] at hval1 hA1 hsz1
    clear hval hA hsz
    obtain ⟨v0, v1, v2, v3, d0, d1, d2, d3, p0, p1, p2, p3, rfl, rfl, rfl, h0, h1, h2, h3⟩ := trodAll_four hA1
    obtain ⟨xs, hl, rfl, _⟩ := ok_agg_ints (n := 9) (e := 2) Try.underlying29 (by kernel_rfl) (by kernel_rfl) Try.underlying2 (hval1 0 29 v0 rfl rfl)
    obtain ⟨u, rfl, _⟩ := ok_int Try.underlying2 (hval1 1 2 v1 rfl rfl)
    obtain ⟨v, rfl, _⟩ := ok_int Try.underlying2 (hval1 2 2 v2 rfl rfl)
    obtain ⟨n, rfl, _⟩ := ok_int Try.underlying2 (hval1 3 2 v3 rfl rfl)
    match xs, hl with
    | [a, b, c, d, e, f, g, h, i], _ => exact lawMapSpot a b c d e f g h i u v n W
theorem holds_FnExactMapSpot : Rows.FnExactMapSpotSaid :=
  OpenClaim.holds_of_wide 7 Try.f7 rfl rfl rfl rfl rfl rfl rfl ⟨rfl, rfl, rfl, rfl, rfl⟩ rfl rfl rfl rfl rfl (by kernel_rfl) Try.func7 (by kernel_rfl)
    (of_decide_eq_true (by kernel_rfl)) (by unfold Func.isWrapper; first | (rw [if_pos (by decide +kernel)]; kernel_rfl) | (rw [if_neg (by decide +kernel)]; exact ⟨rfl, rfl⟩))
    (fun os started H enc _ => lifted_FnExactMapSpot os started H enc)

end Go.Proofs.Ytnhhbpdjapccpaa
