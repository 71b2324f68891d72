/-
  The row FnExactFixedGrid: for every number the program's FixedGrid returns what the reference's returns, in memory of its own; no condition.
-/
import Derived.Test.YtgokleeofcleiaaArgG
import Derived.Test.YtgokleeofcleiaaC14U
namespace Go.Proofs.Ytgokleeofcleiaa
open Go.ChangeShapes Go.WideShapes Go.ChangeAt Go.RowKit Go.Deep

set_option maxHeartbeats 2000000 in
theorem lawFixedGrid (n : Int) (w : World) :
    Calls Try.prog 4 #[.int .i64 n] w fun e' w' => e' = .returned (.bool true) ∧ Below w.heap.size w w' := by
  have S1 := Lib.hid (fun w => sFixedGrid_any n w)
  have S2 := Lib.hid (fun w => FixedGrid_any n w)
  obtain ⟨L, hL⟩ : ∃ L, (fgL n).length = L := ⟨_, rfl⟩
  have hL2 : L ≤ 1681 := hL ▸ fgL_len n
  generalize fgL n = xs at S1 S2 hL
  generalize fgN n = N at S1 S2
  generalize fgC n = C at S1 S2
  have h1 : (C != C) = false := by simp
  have HL := Lib.hid hL
  clear hL
  go_enter Try.func4, Try.ntmps4
  go_wp2_with fail
  (go_at_call 18; with_reducible refine (S1.out _).mono ?_; rintro e1 w1 ⟨v1, rfl, ho1, hb1⟩; obtain ⟨hc1, hf1⟩ := bcell hb1; have hB1 : Below w.heap.size w w1 := (below_then (by first | (go_grown; done) | (repeat (first | (with_reducible assumption) | (with_reducible exact Below.refl _ _) | (with_reducible refine below_drewN' ?_ _) | (with_reducible refine Below.drew ?_) | ((with_reducible refine Below.alloc ?_ ?_ _); rotate_left; focus (first | (simp; done) | (simp; omega) | omega)) | ((with_reducible refine Below.setCell ?_ ?_ _); rotate_left; focus (first | (simp; done) | (simp; omega) | omega))))) (by first | omega | (simp; done) | (simp; omega)) hb1))
  have hw01 := hB1.size
  obtain ⟨A1, c1, rfl, hr1⟩ := ho1.shape
  rw [HL.out] at hr1 ⊢
  have HR1 := Lib.hid hr1
  clear ho1 hr1
  go_wp2_with fail
  (go_at_call 19; with_reducible refine (S2.out _).mono ?_; rintro e2 w2 ⟨v2, rfl, ho2, hb2⟩; obtain ⟨hc2, hf2⟩ := bcell hb2; have hB2 : Below w.heap.size w w2 := (below_then (by first | (go_grown; done) | (repeat (first | (with_reducible assumption) | (with_reducible exact Below.refl _ _) | (with_reducible refine below_drewN' ?_ _) | (with_reducible refine Below.drew ?_) | ((with_reducible refine Below.alloc ?_ ?_ _); rotate_left; focus (first | (simp; done) | (simp; omega) | omega)) | ((with_reducible refine Below.setCell ?_ ?_ _); rotate_left; focus (first | (simp; done) | (simp; omega) | omega))))) (by first | omega | (simp; done) | (simp; omega)) hb2); have hz2a : w1.heap.size < w2.heap.size := (by have := hb2.size; first | omega | (simp at this; omega)))
  obtain ⟨A2, c2, hv2, hr2⟩ := ho2.shape
  subst hv2
  rw [HL.out] at ho2 hr2 ⊢
  have HO2 := Lib.hid ho2
  have HR2 := Lib.hid hr2
  clear ho2 hr2
  have HA2 : Hid (w2.heap[w1.heap.size]? = some (.cells #[.int .i64 N, .int .i64 N, .slice A1 L c1] 28 (0, 0))) := Lib.hid (blk_below (heap_alloc_new _ _) hb2 (by simp))
  have HR1b := Lib.hid (HR1.out.below ((by go_grown : Below w1.heap.size w1 _).trans (hb2.mono (by simp))))
  obtain ⟨a0, a1, a2, -⟩ := blk3 HA2.out
  clear hc1 hf1 hb1 hc2 hf2
  go_wp2_with fail
  (go_at_call 17; go_call (eqGrid_same N N A2 A1 L c2 c1 xs _ _ _ (HR2.out.alloc (Nat.le_refl _) _) (HR1b.out.alloc (by omega) _) (by simp) (by simp; omega) (by omega)) as e3 w3 ⟨rfl, hb3⟩; obtain ⟨hc3, hf3⟩ := bcell hb3; have hB3 : Below w.heap.size w w3 := (below_then (by first | (go_grown; done) | (repeat (first | (with_reducible assumption) | (with_reducible exact Below.refl _ _) | (with_reducible refine below_drewN' ?_ _) | (with_reducible refine Below.drew ?_) | ((with_reducible refine Below.alloc ?_ ?_ _); rotate_left; focus (first | (simp; done) | (simp; omega) | omega)) | ((with_reducible refine Below.setCell ?_ ?_ _); rotate_left; focus (first | (simp; done) | (simp; omega) | omega))))) (by first | omega | (simp; done) | (simp; omega)) hb3); have hz3a : w1.heap.size < w3.heap.size := (by have := hb3.size; first | omega | (simp at this; omega)); have hz3b : w2.heap.size < w3.heap.size := (by have := hb3.size; first | omega | (simp at this; omega)))
  have hs3 : Below w2.heap.size w2 w3 := below_then (by (repeat (first | (with_reducible assumption) | (with_reducible exact Below.refl _ _) | (with_reducible refine below_drewN' ?_ _) | (with_reducible refine Below.drew ?_) | ((with_reducible refine Below.alloc ?_ ?_ _); rotate_left; focus (first | (simp; done) | (simp; omega) | omega)) | ((with_reducible refine Below.setCell ?_ ?_ _); rotate_left; focus (first | (simp; done) | (simp; omega) | omega))))) (by first | omega | (simp; done) | (simp; omega)) hb3
  have HA3 := Lib.hid (blk_below HA2.out hs3 (by omega))
  have HB3 : Hid (w3.heap[w2.heap.size]? = some (.cells #[.int .i64 N, .int .i64 N, .slice A2 L c2] 28 (0, 0))) := Lib.hid (blk_below (heap_alloc_new _ _) hb3 (by simp))
  have HO3 := Lib.hid (HO2.out.keep hs3)
  have HR1c := Lib.hid (HR1b.out.below (hs3.mono (by omega)))
  have HOL := Lib.hid (World.ownsRow.lt HO2.out)
  clear a0 a1 a2 hc3 hf3 hb3
  obtain ⟨a0, a1, a2, -⟩ := blk3 HA3.out
  obtain ⟨b0, b1, b2, -⟩ := blk3 HB3.out
  go_wp2_with fail
  go_at_call 20
  refine (markGrid_any N N _ xs 1 _ _ HO3.out (by rw [HL.out]; omega) (by omega) (by omega)).mono ?_
  rintro e4 w4 ⟨rfl, ho4, hg4⟩
  rw [HL.out] at ho4 ⊢
  have HO4 := Lib.hid ho4
  have hs4 := hg4.size
  have HA4 := Lib.hid ((hg4.block w1.heap.size (by omega) (fun e => by have := (HOL.out _ e.symm).1; simp at this; omega)).trans HA3.out)
  have HB4 := Lib.hid ((hg4.block w2.heap.size (by omega) (fun e => by have := (HOL.out _ e.symm).2; omega)).trans HB3.out)
  have HR1d := Lib.hid (HR1c.out.grown hg4 (by omega) (fun k e => by have := (HOL.out _ e).1; simp at this; omega))
  have hB4 : Below w.heap.size w w4 := hB3.grown hg4 (by omega) (fun k e => by have := (HOL.out _ e).1; simp at this; omega)
  clear a0 a1 a2 b0 b1 b2 ho4 hg4 HA3 HB3 HO3 HR1c
  obtain ⟨a0, a1, a2, -⟩ := blk3 HA4.out
  obtain ⟨b0, b1, b2, -⟩ := blk3 HB4.out
  go_wp2_with fail
  (go_at_call 21; go_call (heldGrid_any N N _ L 1 _ _ HO4.out (by omega) (by omega) (by omega)) as e5 w5 ⟨rfl, hb5⟩; obtain ⟨hc5, hf5⟩ := bcell hb5; have hB5 : Below w.heap.size w w5 := (below_then (by first | (go_grown; done) | (repeat (first | (with_reducible assumption) | (with_reducible exact Below.refl _ _) | (with_reducible refine below_drewN' ?_ _) | (with_reducible refine Below.drew ?_) | ((with_reducible refine Below.alloc ?_ ?_ _); rotate_left; focus (first | (simp; done) | (simp; omega) | omega)) | ((with_reducible refine Below.setCell ?_ ?_ _); rotate_left; focus (first | (simp; done) | (simp; omega) | omega))))) (by first | omega | (simp; done) | (simp; omega)) hb5); have hz5a : w1.heap.size < w5.heap.size := (by have := hb5.size; first | omega | (simp at this; omega)); have hz5b : w2.heap.size < w5.heap.size := (by have := hb5.size; first | omega | (simp at this; omega)))
  go_wp2_with fail
  (go_at_call 19; with_reducible refine (S2.out _).mono ?_; rintro e6 w6 ⟨v6, rfl, ho6, hb6⟩; obtain ⟨hc6, hf6⟩ := bcell hb6; have hB6 : Below w.heap.size w w6 := (below_then (by first | (go_grown; done) | (repeat (first | (with_reducible assumption) | (with_reducible exact Below.refl _ _) | (with_reducible refine below_drewN' ?_ _) | (with_reducible refine Below.drew ?_) | ((with_reducible refine Below.alloc ?_ ?_ _); rotate_left; focus (first | (simp; done) | (simp; omega) | omega)) | ((with_reducible refine Below.setCell ?_ ?_ _); rotate_left; focus (first | (simp; done) | (simp; omega) | omega))))) (by first | omega | (simp; done) | (simp; omega)) hb6); have hz6a : w1.heap.size < w6.heap.size := (by have := hb6.size; first | omega | (simp at this; omega)); have hz6b : w2.heap.size < w6.heap.size := (by have := hb6.size; first | omega | (simp at this; omega)))
  obtain ⟨A6, c6, hv6, hr6⟩ := ho6.shape
  subst hv6
  rw [HL.out] at hr6 ⊢
  have hz5 := hb5.size
  have hs6 : Below w4.heap.size w4 w6 := below_then (by (repeat (first | (with_reducible assumption) | (with_reducible exact Below.refl _ _) | (with_reducible refine below_drewN' ?_ _) | (with_reducible refine Below.drew ?_) | ((with_reducible refine Below.alloc ?_ ?_ _); rotate_left; focus (first | (simp; done) | (simp; omega) | omega)) | ((with_reducible refine Below.setCell ?_ ?_ _); rotate_left; focus (first | (simp; done) | (simp; omega) | omega))))) (by first | omega | (simp; done) | (simp; omega)) hb6
  have HA6 := Lib.hid (blk_below HA4.out hs6 (by omega))
  have HB6 := Lib.hid (blk_below HB4.out hs6 (by omega))
  have HR1e := Lib.hid (HR1d.out.below (hs6.mono (by omega)))
  have HR6 := Lib.hid hr6
  have hz6 := hs6.size
  clear a0 a1 a2 b0 b1 b2 ho6 hr6 hc5 hf5 hb5 hc6 hf6
  obtain ⟨a0, a1, a2, -⟩ := blk3 HA6.out
  obtain ⟨b0, b1, b2, -⟩ := blk3 HB6.out
  go_wp2_with fail
  (go_at_call 17; go_call (eqGrid_same N N A6 A1 L c6 c1 xs _ _ _ (HR6.out.alloc (Nat.le_refl _) _) (HR1e.out.alloc (by omega) _) (by simp) (by simp; omega) (by omega)) as e7 w7 ⟨rfl, hb7⟩; obtain ⟨hc7, hf7⟩ := bcell hb7; have hB7 : Below w.heap.size w w7 := (below_then (by first | (go_grown; done) | (repeat (first | (with_reducible assumption) | (with_reducible exact Below.refl _ _) | (with_reducible refine below_drewN' ?_ _) | (with_reducible refine Below.drew ?_) | ((with_reducible refine Below.alloc ?_ ?_ _); rotate_left; focus (first | (simp; done) | (simp; omega) | omega)) | ((with_reducible refine Below.setCell ?_ ?_ _); rotate_left; focus (first | (simp; done) | (simp; omega) | omega))))) (by first | omega | (simp; done) | (simp; omega)) hb7); have hz7a : w1.heap.size < w7.heap.size := (by have := hb7.size; first | omega | (simp at this; omega)); have hz7b : w2.heap.size < w7.heap.size := (by have := hb7.size; first | omega | (simp at this; omega)))
  have hs7 : Below w4.heap.size w4 w7 := below_then (by (repeat (first | (with_reducible assumption) | (with_reducible exact Below.refl _ _) | (with_reducible refine below_drewN' ?_ _) | (with_reducible refine Below.drew ?_) | ((with_reducible refine Below.alloc ?_ ?_ _); rotate_left; focus (first | (simp; done) | (simp; omega) | omega)) | ((with_reducible refine Below.setCell ?_ ?_ _); rotate_left; focus (first | (simp; done) | (simp; omega) | omega))))) (by first | omega | (simp; done) | (simp; omega)) hb7
  have HB7 := Lib.hid (blk_below HB4.out hs7 (by omega))
  clear a0 a1 a2 b0 b1 b2 hc7 hf7 hb7
  obtain ⟨b0, b1, b2, -⟩ := blk3 HB7.out
  have HO7 := Lib.hid (HO4.out.keep hs7)
  go_wp2_with fail
  (go_at_call 21; go_call (heldGrid_any N N _ L 1 _ _ HO7.out (by omega) (by omega) (by omega)) as e8 w8 ⟨rfl, hb8⟩; obtain ⟨hc8, hf8⟩ := bcell hb8; have hB8 : Below w.heap.size w w8 := (below_then (by first | (go_grown; done) | (repeat (first | (with_reducible assumption) | (with_reducible exact Below.refl _ _) | (with_reducible refine below_drewN' ?_ _) | (with_reducible refine Below.drew ?_) | ((with_reducible refine Below.alloc ?_ ?_ _); rotate_left; focus (first | (simp; done) | (simp; omega) | omega)) | ((with_reducible refine Below.setCell ?_ ?_ _); rotate_left; focus (first | (simp; done) | (simp; omega) | omega))))) (by first | omega | (simp; done) | (simp; omega)) hb8))
  go_wp2_with fail
  go_ret
  exact ⟨rfl, hB8⟩
set_option maxRecDepth 100000 in
theorem lifted_FnExactFixedGrid (os : Os) (started : os.Started) (H : Type) (enc : TypeId × Value → H) :
    ReturnsInHanded {} Try.checked os 4 .any (Rows.fnExactFixedGridSpec.pre6 enc Try.prog Try.f4 Rows.fnExactFixedGridRow.domain false) (Rows.fnExactFixedGridSpec.post enc Try.prog Try.f4 false true false false) := by
  refine law_lifted (C := Try.checked) (tb := 4) own started (by kernel_rfl) Try.func4
    (ChangeSpec.witness6 (enc := enc) (C := Try.checked) false ⟨#[], #[.int .i64 0], []⟩ 8 (by kernel_rfl) (by kernel_rfl) (by kernel_rfl) (by kernel_rfl))
    laidOut (by kernel_rfl) rfl rfl Try.underlying4 ?_ ?_
  · intro ds hd
    match ds, hd with
    | [e0], _ => rfl
  · intro W base args ds p hval hA hlt hsz
    have hval1 : ∀ (j : Nat) t v, Try.f4.params[j]? = some t → args[j]? = some v → Value.okWide Try.prog W .any base t v := hval
    have hA1 : DataW.TrodAll enc Try.prog W 0 (fun _ => true) true Try.f4.params.toList args.toList ds p := hA
    have hsz1 : (DataW.weightsEach Try.prog Try.f4.params.toList ds).all (· ≤ reachBytes) = true := hsz
    rw [Try.params4] at hval1 hA1 hsz1
    clear hval hA hsz
    obtain ⟨v0, d0, rfl, rfl, h0⟩ := trodAll_one hA1
    obtain ⟨n, rfl, _, _⟩ := ok_int Try.underlying2 (hval1 0 2 v0 rfl rfl)
    exact lawFixedGrid n W
theorem holds_FnExactFixedGrid : Rows.FnExactFixedGridSaid :=
  OpenClaim.holds_of_wide 4 Try.f4 rfl rfl rfl rfl rfl rfl rfl ⟨rfl, rfl, rfl, rfl, rfl⟩ rfl rfl rfl rfl rfl (by kernel_rfl) Try.func4 (by kernel_rfl)
    (of_decide_eq_true (by kernel_rfl)) (by unfold Func.isWrapper; first | (rw [if_pos (by decide +kernel)]; kernel_rfl) | (rw [if_neg (by decide +kernel)]; exact ⟨rfl, rfl⟩))
    (fun os started H enc _ => lifted_FnExactFixedGrid os started H enc)

end Go.Proofs.Ytgokleeofcleiaa
