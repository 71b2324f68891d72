/-
  The row FnExactTouchesPixel: for every damage and every pixel the program's TouchesPixel returns what the reference's returns; no condition.
-/
import Derived.Test.YtffcjmnldmjocaaFrame
import Derived.Test.YtffcjmnldmjocaaC27T
namespace Go.Proofs.Ytffcjmnldmjocaa
open Go.ChangeShapes Go.WideShapes Go.ChangeAt Go.RowKit

set_option maxHeartbeats 400000 in
theorem toDamage_any (k r c t v g : Int) (w : World) :
    Calls Try.prog 8 #[.agg #[.int .i64 k, .int .i64 r, .int .i64 c, .int .i64 t, .int .i64 v, .int .i64 g]] w fun e' w' => e' = .returned (.agg #[.int .i64 k, .int .i64 r, .int .i64 c, .int .i64 t, .int .i64 v, .int .i64 g]) ∧ Below w.heap.size w w' := by
  go_enter Try.func8, Try.ntmps8
  go_wp2
  go_returns
  exact ⟨rfl, by go_grown⟩
set_option maxHeartbeats 400000 in
theorem lawTouchesPixel (k r c t v g y x : Int) (w : World) :
    Calls Try.prog 4 #[.agg #[.int .i64 k, .int .i64 r, .int .i64 c, .int .i64 t, .int .i64 v, .int .i64 g], .int .i64 y, .int .i64 x] w fun e' w' =>
      e' = .returned (.bool true) ∧ Below w.heap.size w w' := by
  go_enter Try.func4, Try.ntmps4
  go_wp2_with fail
  refine (toDamage_any k r c t v g _).mono ?_
  rintro e1 w1 ⟨rfl, hb1⟩
  obtain ⟨hc1, hf1⟩ := bcell hb1
  have hB1 : Below w.heap.size w w1 := below_then (by go_grown) (by simp) hb1
  have hz1 : w.heap.size < w1.heap.size := (by have := hb1.size; simp at this; omega)
  go_wp2_with fail
  refine (sTouchesPixel_any k r c t v g y x _).mono ?_
  rintro e2 w2 ⟨rfl, hb2⟩
  obtain ⟨hc2, hf2⟩ := bcell hb2
  have hB2 : Below w.heap.size w w2 := below_then (by go_grown) (by go_size) hb2
  have hz2 : w.heap.size < w2.heap.size := (by have := hb2.size; omega)
  go_wp2_with fail
  refine (toDamage_any k r c t v g _).mono ?_
  rintro e3 w3 ⟨rfl, hb3⟩
  have hB3 : Below w.heap.size w w3 := below_then (by go_grown) (by go_size) hb3
  go_wp2_with fail
  refine (TouchesPixel_any k r c t v g y x _).mono ?_
  rintro e4 w4 ⟨rfl, hb4⟩
  have hB4 : Below w.heap.size w w4 := below_then (by go_grown) (by have := hB3.size; go_size) hb4
  have hne : ((pixelB k r c t v g y x) != (pixelB k r c t v g y x)) = false := by simp
  generalize (pixelB k r c t v g y x) = q at *
  go_wp2_with fail
  go_ret
  exact ⟨rfl, hB4⟩
set_option maxRecDepth 100000 in
theorem lifted_FnExactTouchesPixel (os : Os) (started : os.Started) (H : Type) (enc : TypeId × Value → H) :
    ReturnsInHanded {} Try.checked os 4 .any (Rows.fnExactTouchesPixelSpec.pre6 enc Try.prog Try.f4 Rows.fnExactTouchesPixelRow.domain false) (Rows.fnExactTouchesPixelSpec.post enc Try.prog Try.f4 false true false false) := by
  refine law_lifted (C := Try.checked) (tb := 4) own started (by kernel_rfl) Try.func4
    (ChangeSpec.witness6 (enc := enc) (C := Try.checked) false ⟨#[], #[.agg #[.int .i64 0, .int .i64 0, .int .i64 0, .int .i64 0, .int .i64 0, .int .i64 0], .int .i64 0, .int .i64 0], []⟩ 8 (by kernel_rfl) (by kernel_rfl) (by kernel_rfl) (by kernel_rfl))
    laidOut (by kernel_rfl) rfl rfl Try.underlying4 ?_ ?_
  · intro ds hd
    match ds, hd with
    | [e0, e1, e2], _ => rfl
  · intro W base args ds p hval hA hlt hsz
    have hval1 : ∀ (j : Nat) t v, Try.f4.params[j]? = some t → args[j]? = some v → Value.okWide Try.prog W .any base t v := hval
    have hA1 : DataW.TrodAll enc Try.prog W 0 (fun _ => true) true Try.f4.params.toList args.toList ds p := hA
    have hsz1 : (DataW.weightsEach Try.prog Try.f4.params.toList ds).all (· ≤ reachBytes) = true := hsz
    rw [Try.params4] at hval1 hA1 hsz1
    clear hval hA hsz
    obtain ⟨v0, v1, v2, d0, d1, d2, p0, p1, p2, rfl, rfl, rfl, h0, h1, h2⟩ := trodAll_three hA1
    obtain ⟨xs, hl, rfl, _⟩ := ok_agg_ints (n := 6) (e := 2) Try.underlying23 (by kernel_rfl) (by kernel_rfl) Try.underlying2 (hval1 0 23 v0 rfl rfl)
    obtain ⟨y, rfl, _⟩ := ok_int Try.underlying2 (hval1 1 2 v1 rfl rfl)
    obtain ⟨x, rfl, _⟩ := ok_int Try.underlying2 (hval1 2 2 v2 rfl rfl)
    match xs, hl with
    | [k, r, c, t, v, g], _ => exact lawTouchesPixel k r c t v g y x W
theorem holds_FnExactTouchesPixel : Rows.FnExactTouchesPixelSaid :=
  OpenClaim.holds_of_wide 4 Try.f4 rfl rfl rfl rfl rfl rfl rfl ⟨rfl, rfl, rfl, rfl, rfl⟩ rfl rfl rfl rfl rfl (by kernel_rfl) Try.func4 (by kernel_rfl)
    (of_decide_eq_true (by kernel_rfl)) (by unfold Func.isWrapper; first | (rw [if_pos (by decide +kernel)]; kernel_rfl) | (rw [if_neg (by decide +kernel)]; exact ⟨rfl, rfl⟩))
    (fun os started H enc _ => lifted_FnExactTouchesPixel os started H enc)

end Go.Proofs.Ytffcjmnldmjocaa
