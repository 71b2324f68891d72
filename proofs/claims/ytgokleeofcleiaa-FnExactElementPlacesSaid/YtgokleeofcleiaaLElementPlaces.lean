/-
  The row FnExactElementPlaces: for all arguments the program's ElementPlaces returns what the reference's returns, in memory of its own; no condition.
-/
import Derived.Test.YtgokleeofcleiaaC15L
import Derived.Test.YtgokleeofcleiaaPlW
import Derived.Test.YtgokleeofcleiaaArgG
namespace Go.Proofs.Ytgokleeofcleiaa
set_option linter.unusedSimpArgs false
open Go.ChangeShapes Go.WideShapes Go.ChangeAt Go.RowKit Go.Deep

set_option maxHeartbeats 2000000 in
theorem lawElementPlaces (n d e : Int) (w : World) :
    Calls Try.prog 12 #[.int .i64 n, .int .i64 d, .int .i64 e] w fun e' w' => e' = .returned (.bool true) ∧ Below w.heap.size w w' := by
  have S1 := Lib.hid (fun w => sElementPlaces_any n d e w)
  have S2 := Lib.hid (fun w => ElementPlaces_any n d e w)
  have hle := epR_le n d e
  generalize epR n d e = ps at S1 S2 hle
  generalize epC n d e = C at S1 S2
  have HL := Lib.hid (show ps.length ≤ 100000 by omega)
  have h1 : (C != C) = false := by simp
  have h3 : ((1 + 2 * (ps.length : Int)) != (1 + 2 * (ps.length : Int))) = false := by simp
  have h4 : ¬ (1 + 2 * (ps.length : Int)) < 0 := by omega
  have hml := Lib.hid (marksP_len 1 ps.length)
  go_enter Try.func12, Try.ntmps12
  go_wp2_with fail
  (go_at_call 43; with_reducible refine (S1.out _).mono ?_; rintro e1 w1 ⟨v1, rfl, ho1, hb1⟩; obtain ⟨hc1, hf1⟩ := bcell hb1; have hB1 : Below w.heap.size w w1 := (below_then (by first | (go_grown; done) | (repeat (first | (with_reducible assumption) | (with_reducible exact Below.refl _ _) | (with_reducible refine below_drewN' ?_ _) | (with_reducible refine Below.drew ?_) | ((with_reducible refine Below.alloc ?_ ?_ _); rotate_left; focus (first | (simp; done) | (simp; omega) | omega)) | ((with_reducible refine Below.setCell ?_ ?_ _); rotate_left; focus (first | (simp; done) | (simp; omega) | omega))))) (by first | omega | (simp; done) | (simp; omega)) hb1))
  have hs1 := hb1.size
  have HO1 := Lib.hid ho1
  clear ho1 hc1 hf1
  go_wp2_with fail
  (go_at_call 44; with_reducible refine (S2.out _).mono ?_; rintro e2 w2 ⟨v2, rfl, ho2, hb2⟩; obtain ⟨hc2, hf2⟩ := bcell hb2; have hB2 : Below w.heap.size w w2 := (below_then (by first | (go_grown; done) | (repeat (first | (with_reducible assumption) | (with_reducible exact Below.refl _ _) | (with_reducible refine below_drewN' ?_ _) | (with_reducible refine Below.drew ?_) | ((with_reducible refine Below.alloc ?_ ?_ _); rotate_left; focus (first | (simp; done) | (simp; omega) | omega)) | ((with_reducible refine Below.setCell ?_ ?_ _); rotate_left; focus (first | (simp; done) | (simp; omega) | omega))))) (by first | omega | (simp; done) | (simp; omega)) hb2))
  have hs2 := hb2.size
  have HO2 := Lib.hid ho2
  have HO12 := Lib.hid (HO1.out.keep hb2)
  clear ho2 hc2 hf2
  go_wp2_with fail
  (go_at_call 37; go_call (eqPlaceS_same v2 v1 ps _ _ _ HO2.out HO12.out HL.out) as e3 w3 ⟨rfl, hb3⟩; obtain ⟨hc3, hf3⟩ := bcell hb3; have hB3 : Below w.heap.size w w3 := (below_then (by first | (go_grown; done) | (repeat (first | (with_reducible assumption) | (with_reducible exact Below.refl _ _) | (with_reducible refine below_drewN' ?_ _) | (with_reducible refine Below.drew ?_) | ((with_reducible refine Below.alloc ?_ ?_ _); rotate_left; focus (first | (simp; done) | (simp; omega) | omega)) | ((with_reducible refine Below.setCell ?_ ?_ _); rotate_left; focus (first | (simp; done) | (simp; omega) | omega))))) (by first | omega | (simp; done) | (simp; omega)) hb3))
  have hs3 := hb3.size
  have HO23 := Lib.hid (HO2.out.keep hb3)
  have HO13 := Lib.hid (HO12.out.keep hb3)
  clear hc3 hf3
  go_wp2_with fail
  go_at_call 38
  with_reducible refine (markPlaceS_any v2 ps 1 _ _ HO23.out HL.out (by omega) (by omega)).mono ?_
  rintro e4 w4 ⟨rfl, ho4, hg4⟩
  have hs4 := hg4.size
  have HO4 := Lib.hid ho4
  have HO14 := Lib.hid (show OwnP w4 w.heap.size v1 ps from World.ownsRow.kept HO13.out hg4 (by
    cases h : v1.ownBlock with
    | none => exact .inl rfl
    | some k =>
      refine .inr fun e => ?_
      have a := (World.ownsRow.lt HO1.out k h).2
      have b := (World.ownsRow.lt HO2.out k e.symm).1
      omega))
  have hB4 : Below w.heap.size w w4 := hB3.grown hg4 (by omega) (fun k hk => by have := (World.ownsRow.lt HO2.out k hk).1; omega)
  clear ho4
  go_wp2_with fail
  go_at_call 39
  with_reducible refine (heldPlaceS_any v2 ps.length 1 _ _ HO4.out HL.out (by omega) (by omega)).mono ?_
  rintro e5 w5 ⟨rfl, rfl⟩
  go_wp2_with fail
  (go_at_call 44; with_reducible refine (S2.out _).mono ?_; rintro e6 w6 ⟨v6, rfl, ho6, hb6⟩; obtain ⟨hc6, hf6⟩ := bcell hb6; have hB6 : Below w.heap.size w w6 := (below_then (by first | (go_grown; done) | (repeat (first | (with_reducible assumption) | (with_reducible exact Below.refl _ _) | (with_reducible refine below_drewN' ?_ _) | (with_reducible refine Below.drew ?_) | ((with_reducible refine Below.alloc ?_ ?_ _); rotate_left; focus (first | (simp; done) | (simp; omega) | omega)) | ((with_reducible refine Below.setCell ?_ ?_ _); rotate_left; focus (first | (simp; done) | (simp; omega) | omega))))) (by first | omega | (simp; done) | (simp; omega)) hb6))
  have hs6 := hb6.size
  have HO6 := Lib.hid ho6
  have HO16 := Lib.hid (HO14.out.keep hb6)
  have HO46 := Lib.hid (HO4.out.keep hb6)
  clear ho6 hc6 hf6
  go_wp2_with fail
  (go_at_call 37; go_call (eqPlaceS_same v6 v1 ps _ _ _ HO6.out HO16.out HL.out) as e7 w7 ⟨rfl, hb7⟩; obtain ⟨hc7, hf7⟩ := bcell hb7; have hB7 : Below w.heap.size w w7 := (below_then (by first | (go_grown; done) | (repeat (first | (with_reducible assumption) | (with_reducible exact Below.refl _ _) | (with_reducible refine below_drewN' ?_ _) | (with_reducible refine Below.drew ?_) | ((with_reducible refine Below.alloc ?_ ?_ _); rotate_left; focus (first | (simp; done) | (simp; omega) | omega)) | ((with_reducible refine Below.setCell ?_ ?_ _); rotate_left; focus (first | (simp; done) | (simp; omega) | omega))))) (by first | omega | (simp; done) | (simp; omega)) hb7))
  have HO47 := Lib.hid (HO46.out.keep hb7)
  clear hc7 hf7
  go_wp2_with fail
  go_at_call 39
  with_reducible refine (heldPlaceS_any v2 ps.length 1 _ _ HO47.out HL.out (by omega) (by omega)).mono ?_
  rintro e8 w8 ⟨rfl, rfl⟩
  go_wp2_with fail
  go_ret
  exact ⟨rfl, hB7⟩
set_option maxRecDepth 100000 in
theorem lifted_FnExactElementPlaces (os : Os) (started : os.Started) (H : Type) (enc : TypeId × Value → H) :
    ReturnsInHanded {} Try.checked os 12 .any (Rows.fnExactElementPlacesSpec.pre6 enc Try.prog Try.f12 Rows.fnExactElementPlacesRow.domain false) (Rows.fnExactElementPlacesSpec.post enc Try.prog Try.f12 false true false false) := by
  refine law_lifted (C := Try.checked) (tb := 4) own started (by kernel_rfl) Try.func12
    (ChangeSpec.witness6 (enc := enc) (C := Try.checked) false ⟨#[], #[.int .i64 0, .int .i64 0, .int .i64 0], []⟩ 8 (by kernel_rfl) (by kernel_rfl) (by kernel_rfl) (by kernel_rfl))
    laidOut (by kernel_rfl) rfl rfl Try.underlying4 ?_ ?_
  · intro ds hd
    match ds, hd with
    | [e0, e1, e2], _ => rfl
  · intro W base args ds p hval hA hlt hsz
    have hval1 : ∀ (j : Nat) t v, Try.f12.params[j]? = some t → args[j]? = some v → Value.okWide Try.prog W .any base t v := hval
    have hA1 : DataW.TrodAll enc Try.prog W 0 (fun _ => true) true Try.f12.params.toList args.toList ds p := hA
    have hsz1 : (DataW.weightsEach Try.prog Try.f12.params.toList ds).all (· ≤ reachBytes) = true := hsz
    rw [Try.params12] at hval1 hA1 hsz1
    clear hval hA hsz
    obtain ⟨v0, v1, v2, d0, d1, d2, p0, p1, p2, rfl, rfl, rfl, h0, h1, h2⟩ := trodAll_three hA1
    obtain ⟨n, rfl, _, _⟩ := ok_int Try.underlying2 (hval1 0 2 v0 rfl rfl)
    obtain ⟨d, rfl, _, _⟩ := ok_int Try.underlying2 (hval1 1 2 v1 rfl rfl)
    obtain ⟨e, rfl, _, _⟩ := ok_int Try.underlying2 (hval1 2 2 v2 rfl rfl)
    exact lawElementPlaces n d e W
theorem holds_FnExactElementPlaces : Rows.FnExactElementPlacesSaid :=
  OpenClaim.holds_of_wide 12 Try.f12 rfl rfl rfl rfl rfl rfl rfl ⟨rfl, rfl, rfl, rfl, rfl⟩ rfl rfl rfl rfl rfl (by kernel_rfl) Try.func12 (by kernel_rfl)
    (of_decide_eq_true (by kernel_rfl)) (by unfold Func.isWrapper; first | (rw [if_pos (by decide +kernel)]; kernel_rfl) | (rw [if_neg (by decide +kernel)]; exact ⟨rfl, rfl⟩))
    (fun os started H enc _ => lifted_FnExactElementPlaces os started H enc)

end Go.Proofs.Ytgokleeofcleiaa
