/-
  The row FnExactMapOfQuad: for every quad the program's MapOfQuad returns what the reference's returns; no condition.
-/
import Derived.Test.YtnhhbpdjapccpaaFrame
import Derived.Test.YtnhhbpdjapccpaaC25W
namespace Go.Proofs.Ytnhhbpdjapccpaa
open Go.ChangeShapes Go.WideShapes Go.ChangeAt Go.RowKit

set_option maxHeartbeats 1000000 in
theorem eqMap_same (x0 x1 x2 x3 x4 x5 x6 x7 x8 : Int) (w : World) :
    Calls Try.prog 28 #[.agg #[.int .i64 x0, .int .i64 x1, .int .i64 x2, .int .i64 x3, .int .i64 x4, .int .i64 x5, .int .i64 x6, .int .i64 x7, .int .i64 x8], .agg #[.int .i64 x0, .int .i64 x1, .int .i64 x2, .int .i64 x3, .int .i64 x4, .int .i64 x5, .int .i64 x6, .int .i64 x7, .int .i64 x8]] w fun e' w' => e' = .returned (.bool true) ∧ Below w.heap.size w w' := by
  have h0 : (x0 != x0) = false := by simp
  have h1 : (x1 != x1) = false := by simp
  have h2 : (x2 != x2) = false := by simp
  have h3 : (x3 != x3) = false := by simp
  have h4 : (x4 != x4) = false := by simp
  have h5 : (x5 != x5) = false := by simp
  have h6 : (x6 != x6) = false := by simp
  have h7 : (x7 != x7) = false := by simp
  have h8 : (x8 != x8) = false := by simp
  go_enter Try.func28, Try.ntmps28
  go_wp2_with fail
  repeat (first | (go_quiet (fail); go_wp2_with fail))
  go_ret
  exact ⟨rfl, by (repeat (first | with_reducible assumption | with_reducible exact Below.refl _ _ | refine below_drewN' ?_ _ | refine Below.drew ?_ | refine Below.alloc ?_ (by first | (simp; done) | (simp; omega) | omega) _ | refine Below.setCell ?_ (by first | (simp; done) | (simp; omega) | omega) _))⟩
set_option maxRecDepth 100000 in
set_option maxHeartbeats 2000000 in
theorem lawMapOfQuad (ax ay bx bY cx cy dx dy : Int) (w : World) :
    Calls Try.prog 8 #[.agg #[.int .i64 ax, .int .i64 ay, .int .i64 bx, .int .i64 bY, .int .i64 cx, .int .i64 cy, .int .i64 dx, .int .i64 dy]] w fun e' w' => e' = .returned (.bool true) ∧ Below w.heap.size w w' := by
  have s1 := sMapOfQuad_any ax ay bx bY cx cy dx dy
  have s2 := MapOfQuad_any ax ay bx bY cx cy dx dy
  generalize mqL ax ay bx bY cx cy dx dy = L at s1 s2
  generalize mqC ax ay bx bY cx cy dx dy = C at s1 s2
  generalize nth L 0 = x0 at s1 s2
  generalize nth L 1 = x1 at s1 s2
  generalize nth L 2 = x2 at s1 s2
  generalize nth L 3 = x3 at s1 s2
  generalize nth L 4 = x4 at s1 s2
  generalize nth L 5 = x5 at s1 s2
  generalize nth L 6 = x6 at s1 s2
  generalize nth L 7 = x7 at s1 s2
  generalize nth L 8 = x8 at s1 s2
  have S1 := Lib.hid s1
  have S2 := Lib.hid s2
  clear s1 s2
  have hk : (C != C) = false := by simp
  go_enter Try.func8, Try.ntmps8
  go_wp2_with fail
  (go_at_call 26; go_call (toQuad_any ax ay bx bY cx cy dx dy _) as e1 w1 ⟨rfl, hb1⟩; obtain ⟨hc1, hf1⟩ := bcell hb1; have hB1 : Below w.heap.size w w1 := (below_then (by first | (go_grown; done) | (repeat (first | with_reducible assumption | with_reducible exact Below.refl _ _ | refine below_drewN' ?_ _ | refine Below.drew ?_ | refine Below.alloc ?_ (by first | (simp; done) | (simp; omega) | omega) _ | refine Below.setCell ?_ (by first | (simp; done) | (simp; omega) | omega) _))) (by first | omega | (simp; done) | (simp; omega)) hb1); have hz1a : w.heap.size < w1.heap.size := (by have := hb1.size; first | omega | (simp at this; omega)))
  go_wp2_with fail
  (go_at_call 25; with_reducible refine (S1.out _).mono ?_; rintro e2 w2 ⟨rfl, hb2⟩; obtain ⟨hc2, hf2⟩ := bcell hb2; have hB2 : Below w.heap.size w w2 := (below_then (by first | (go_grown; done) | (repeat (first | with_reducible assumption | with_reducible exact Below.refl _ _ | refine below_drewN' ?_ _ | refine Below.drew ?_ | refine Below.alloc ?_ (by first | (simp; done) | (simp; omega) | omega) _ | refine Below.setCell ?_ (by first | (simp; done) | (simp; omega) | omega) _))) (by first | omega | (simp; done) | (simp; omega)) hb2); have hz2a : w.heap.size < w2.heap.size := (by have := hb2.size; first | omega | (simp at this; omega)))
  go_wp2_with fail
  (go_at_call 26; go_call (toQuad_any ax ay bx bY cx cy dx dy _) as e3 w3 ⟨rfl, hb3⟩; obtain ⟨hc3, hf3⟩ := bcell hb3; have hB3 : Below w.heap.size w w3 := (below_then (by first | (go_grown; done) | (repeat (first | with_reducible assumption | with_reducible exact Below.refl _ _ | refine below_drewN' ?_ _ | refine Below.drew ?_ | refine Below.alloc ?_ (by first | (simp; done) | (simp; omega) | omega) _ | refine Below.setCell ?_ (by first | (simp; done) | (simp; omega) | omega) _))) (by first | omega | (simp; done) | (simp; omega)) hb3); have hz3a : w.heap.size < w3.heap.size := (by have := hb3.size; first | omega | (simp at this; omega)); have hz3b : w2.heap.size < w3.heap.size := (by have := hb3.size; first | omega | (simp at this; omega)))
  go_wp2_with fail
  (go_at_call 27; with_reducible refine (S2.out _).mono ?_; rintro e4 w4 ⟨rfl, hb4⟩; obtain ⟨hc4, hf4⟩ := bcell hb4; have hB4 : Below w.heap.size w w4 := (below_then (by first | (go_grown; done) | (repeat (first | with_reducible assumption | with_reducible exact Below.refl _ _ | refine below_drewN' ?_ _ | refine Below.drew ?_ | refine Below.alloc ?_ (by first | (simp; done) | (simp; omega) | omega) _ | refine Below.setCell ?_ (by first | (simp; done) | (simp; omega) | omega) _))) (by first | omega | (simp; done) | (simp; omega)) hb4); have hz4a : w.heap.size < w4.heap.size := (by have := hb4.size; first | omega | (simp at this; omega)); have hz4b : w2.heap.size < w4.heap.size := (by have := hb4.size; first | omega | (simp at this; omega)))
  go_wp2_with fail
  (go_at_call 28; go_call (eqMap_same x0 x1 x2 x3 x4 x5 x6 x7 x8 _) as e5 w5 ⟨rfl, hb5⟩; obtain ⟨hc5, hf5⟩ := bcell hb5; have hB5 : Below w.heap.size w w5 := (below_then (by first | (go_grown; done) | (repeat (first | with_reducible assumption | with_reducible exact Below.refl _ _ | refine below_drewN' ?_ _ | refine Below.drew ?_ | refine Below.alloc ?_ (by first | (simp; done) | (simp; omega) | omega) _ | refine Below.setCell ?_ (by first | (simp; done) | (simp; omega) | omega) _))) (by first | omega | (simp; done) | (simp; omega)) hb5); have hz5a : w.heap.size < w5.heap.size := (by have := hb5.size; first | omega | (simp at this; omega)))
  go_wp2_with fail
  go_ret
  exact ⟨rfl, hB5⟩
set_option maxRecDepth 100000 in
theorem lifted_FnExactMapOfQuad (os : Os) (started : os.Started) (H : Type) (enc : TypeId × Value → H) :
    ReturnsInHanded {} Try.checked os 8 .any (Rows.fnExactMapOfQuadSpec.pre6 enc Try.prog Try.f8 Rows.fnExactMapOfQuadRow.domain false) (Rows.fnExactMapOfQuadSpec.post enc Try.prog Try.f8 false true false false) := by
  refine law_lifted (C := Try.checked) (tb := 4) own started (by kernel_rfl) Try.func8
    (ChangeSpec.witness6 (enc := enc) (C := Try.checked) false ⟨#[], #[.agg #[.int .i64 0, .int .i64 0, .int .i64 0, .int .i64 0, .int .i64 0, .int .i64 0, .int .i64 0, .int .i64 0]], []⟩ 8 (by kernel_rfl) (by kernel_rfl) (by kernel_rfl) (by kernel_rfl))
    laidOut (by kernel_rfl) rfl rfl Try.underlying4 ?_ ?_
  · intro ds hd
    match ds, hd with
    | [e0], _ => rfl
  · intro W base args ds p hval hA hlt hsz
    have hval1 : ∀ (j : Nat) t v, Try.f8.params[j]? = some t → args[j]? = some v → Value.okWide Try.prog W .any base t v := hval
    have hA1 : DataW.TrodAll enc Try.prog W 0 (fun _ => true) true Try.f8.params.toList args.toList ds p := hA
    have hsz1 : (DataW.weightsEach Try.prog Try.f8.params.toList ds).all (· ≤ reachBytes) = true := hsz
    rw [Try.params8] at hval1 hA1 hsz1
    clear hval hA hsz
    obtain ⟨v0, d0, rfl, rfl, h0⟩ := trodAll_one hA1
    obtain ⟨xs, hl, rfl, _⟩ := ok_agg_ints (n := 8) (e := 2) Try.underlying44 (by kernel_rfl) (by kernel_rfl) Try.underlying2 (hval1 0 44 v0 rfl rfl)
    match xs, hl with
    | [ax, ay, bx, bY, cx, cy, dx, dy], _ => exact lawMapOfQuad ax ay bx bY cx cy dx dy W
theorem holds_FnExactMapOfQuad : Rows.FnExactMapOfQuadSaid :=
  OpenClaim.holds_of_wide 8 Try.f8 rfl rfl rfl rfl rfl rfl rfl ⟨rfl, rfl, rfl, rfl, rfl⟩ rfl rfl rfl rfl rfl (by kernel_rfl) Try.func8 (by kernel_rfl)
    (of_decide_eq_true (by kernel_rfl)) (by unfold Func.isWrapper; first | (rw [if_pos (by decide +kernel)]; kernel_rfl) | (rw [if_neg (by decide +kernel)]; exact ⟨rfl, rfl⟩))
    (fun os started H enc _ => lifted_FnExactMapOfQuad os started H enc)

end Go.Proofs.Ytnhhbpdjapccpaa
