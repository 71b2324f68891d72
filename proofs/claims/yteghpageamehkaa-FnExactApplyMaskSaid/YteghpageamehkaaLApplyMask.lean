/-
  The row FnExactApplyMask: for every grid and number the program's ApplyMask returns what the reference's returns, in memory of its own, and leaves the grid as it was; no condition.
-/
import Derived.Test.YteghpageamehkaaArgG
import Derived.Test.YteghpageamehkaaC16P
namespace Go.Proofs.Yteghpageamehkaa
set_option linter.unusedSimpArgs false
open Go.ChangeShapes Go.WideShapes Go.ChangeAt Go.RowKit Go.Deep

set_option maxRecDepth 20000 in
set_option maxHeartbeats 4000000 in
theorem lawApplyMask (r c : Int) (A : Option Addr) (n cp : Nat) (xs : List Int) (v : Int) (w : World) (hr : RI w w.heap.size A n xs) (hn2 : n ≤ 9223372036854775807) :
    Calls Try.prog 7 #[.agg #[.int .i64 r, .int .i64 c, .slice A n cp], .int .i64 v] w fun e' w' => e' = .returned (.bool true) ∧ Below w.heap.size w w' := by
  have HLN := Lib.hid hr.len
  have HR := Lib.hid hr
  clear hr
  by_cases hbig : n ≤ 1048576
  · have s1 := fun (A : Option Addr) (cp : Nat) (w : World) (B : Nat) (hr : RI w B A n xs) (hB : B ≤ w.heap.size) => sApplyMask_any r c A n cp xs v w B hr hB (by omega)
    have s2 := fun (A : Option Addr) (cp : Nat) (w : World) (B : Nat) (hr : RI w B A n xs) (hB : B ≤ w.heap.size) => ApplyMask_any r c A n cp xs v w B hr hB (by omega)
    have hle := amL_le r c xs v
    generalize amL r c xs v = ps at s1 s2 hle
    generalize amN r c xs v = N at s1 s2
    generalize amC r c xs v = C at s1 s2
    obtain ⟨L, hL⟩ : ∃ L, ps.length = L := ⟨_, rfl⟩
    rw [hL] at hle
    have HL := Lib.hid hL
    have S1 := Lib.hid s1
    have S2 := Lib.hid s2
    clear s1 s2 hL
    have h1 : (C != C) = false := by simp
    have HT := Lib.hid (fun w' (hb : Below w.heap.size w w') => toGrid_any r c A n cp xs w' w.heap.size (HR.out.below hb) hb.size (by omega))
    go_enter Try.func7, Try.ntmps7
    go_wp2_with (go_at_call 33; go_call (szGrid_ok _ _ _ _ _ 1048576 _ hbig (by omega)) as e0 w0 ⟨rfl, hb0⟩; obtain ⟨hc0, hf0⟩ := bcell hb0; have hB0 : Below w.heap.size w w0 := (below_then (by first | (go_grown; done) | (repeat (first | (with_reducible assumption) | (with_reducible exact Below.refl _ _) | (with_reducible refine below_drewN' ?_ _) | (with_reducible refine Below.drew ?_) | ((with_reducible refine Below.alloc ?_ ?_ _); rotate_left; focus (first | (simp; done) | (simp; omega) | omega)) | ((with_reducible refine Below.setCell ?_ ?_ _); rotate_left; focus (first | (simp; done) | (simp; omega) | omega))))) (by first | omega | (simp; done) | (simp; omega)) hb0); have hz0a : w.heap.size < w0.heap.size := (by have := hb0.size; first | omega | (simp at this; omega)))
    have HT20 := Lib.hid (blk_below (heap_alloc_new w (.cells #[.int .i64 r, .int .i64 c, .slice A n cp] 54)) hb0 (by simp))
    obtain ⟨t0, t1, t2, -⟩ := blk3 HT20.out
    clear hc0 hf0
    (go_at_call 35; go_call (HT.out _ hB0) as e1 w1 ⟨v1, rfl, ho1, hb1⟩; obtain ⟨hc1, hf1⟩ := bcell hb1; have hB1 : Below w.heap.size w w1 := (below_then (by first | (go_grown; done) | (repeat (first | (with_reducible assumption) | (with_reducible exact Below.refl _ _) | (with_reducible refine below_drewN' ?_ _) | (with_reducible refine Below.drew ?_) | ((with_reducible refine Below.alloc ?_ ?_ _); rotate_left; focus (first | (simp; done) | (simp; omega) | omega)) | ((with_reducible refine Below.setCell ?_ ?_ _); rotate_left; focus (first | (simp; done) | (simp; omega) | omega))))) (by first | omega | (simp; done) | (simp; omega)) hb1); have hz1a : w.heap.size < w1.heap.size := (by have := hb1.size; first | omega | (simp at this; omega)))
    obtain ⟨A1, c1, rfl, hr1⟩ := ho1.shape
    rw [HLN.out] at hr1 ⊢
    have HR1 := Lib.hid hr1
    have HT21 := Lib.hid (blk_below HT20.out hb1 hz0a)
    clear ho1 hr1 hc1 hf1 t0 t1 t2
    go_wp2_with fail
    (go_at_call 37; go_call (S1.out _ _ _ _ HR1.out (Nat.le_refl _)) as e2 w2 ⟨u2, rfl, ho2, hb2⟩; obtain ⟨hc2, hf2⟩ := bcell hb2; have hB2 : Below w.heap.size w w2 := (below_then (by first | (go_grown; done) | (repeat (first | (with_reducible assumption) | (with_reducible exact Below.refl _ _) | (with_reducible refine below_drewN' ?_ _) | (with_reducible refine Below.drew ?_) | ((with_reducible refine Below.alloc ?_ ?_ _); rotate_left; focus (first | (simp; done) | (simp; omega) | omega)) | ((with_reducible refine Below.setCell ?_ ?_ _); rotate_left; focus (first | (simp; done) | (simp; omega) | omega))))) (by first | omega | (simp; done) | (simp; omega)) hb2); have hz2a : w.heap.size < w2.heap.size := (by have := hb2.size; first | omega | (simp at this; omega)))
    obtain ⟨A2, c2, rfl, hr2⟩ := ho2.shape
    rw [HL.out] at hr2 ⊢
    have HR2 := Lib.hid hr2
    have HT22 := Lib.hid (blk_below HT21.out hb2 hz1a)
    clear ho2 hr2 hc2 hf2
    obtain ⟨t0, t1, t2, -⟩ := blk3 HT22.out
    go_wp2_with fail
    (go_at_call 35; go_call (HT.out _ (by (repeat (first | (with_reducible assumption) | (with_reducible exact Below.refl _ _) | (with_reducible refine below_drewN' ?_ _) | (with_reducible refine Below.drew ?_) | ((with_reducible refine Below.alloc ?_ ?_ _); rotate_left; focus (first | (simp; done) | (simp; omega) | omega)) | ((with_reducible refine Below.setCell ?_ ?_ _); rotate_left; focus (first | (simp; done) | (simp; omega) | omega)))))) as e3 w3 ⟨v3, rfl, ho3, hb3⟩; obtain ⟨hc3, hf3⟩ := bcell hb3; have hB3 : Below w.heap.size w w3 := (below_then (by first | (go_grown; done) | (repeat (first | (with_reducible assumption) | (with_reducible exact Below.refl _ _) | (with_reducible refine below_drewN' ?_ _) | (with_reducible refine Below.drew ?_) | ((with_reducible refine Below.alloc ?_ ?_ _); rotate_left; focus (first | (simp; done) | (simp; omega) | omega)) | ((with_reducible refine Below.setCell ?_ ?_ _); rotate_left; focus (first | (simp; done) | (simp; omega) | omega))))) (by first | omega | (simp; done) | (simp; omega)) hb3); have hz3a : w.heap.size < w3.heap.size := (by have := hb3.size; first | omega | (simp at this; omega)); have hz3b : w2.heap.size < w3.heap.size := (by have := hb3.size; first | omega | (simp at this; omega)))
    obtain ⟨A3, c3, rfl, hr3⟩ := ho3.shape
    rw [HLN.out] at ho3 hr3 ⊢
    have HR3 := Lib.hid hr3
    have HO3 := Lib.hid ho3
    have HG63 := Lib.hid (blk_below (heap_alloc_new w2 (.cells #[.int .i64 N, .int .i64 N, .slice A2 L c2] 37)) hb3 (by simp))
    have HT23 := Lib.hid (blk_below (blk_alloc HT22.out hz2a) hb3 (by first | omega | (simp; done) | (simp; omega)))
    have HR23 := Lib.hid ((HR2.out.alloc (Nat.le_refl _) (.cells #[.int .i64 N, .int .i64 N, .slice A2 L c2] 37)).below (hb3.mono (by simp)))
    clear ho3 hr3 hc3 hf3 t0 t1 t2
    go_wp2_with fail
    (go_at_call 38; go_call (S2.out _ _ _ _ (HR3.out.alloc (Nat.le_refl _) _) (by simp)) as e4 w4 ⟨u4, rfl, ho4, hb4⟩; obtain ⟨hc4, hf4⟩ := bcell hb4; have hB4 : Below w.heap.size w w4 := (below_then (by first | (go_grown; done) | (repeat (first | (with_reducible assumption) | (with_reducible exact Below.refl _ _) | (with_reducible refine below_drewN' ?_ _) | (with_reducible refine Below.drew ?_) | ((with_reducible refine Below.alloc ?_ ?_ _); rotate_left; focus (first | (simp; done) | (simp; omega) | omega)) | ((with_reducible refine Below.setCell ?_ ?_ _); rotate_left; focus (first | (simp; done) | (simp; omega) | omega))))) (by first | omega | (simp; done) | (simp; omega)) hb4); have hz4a : w.heap.size < w4.heap.size := (by have := hb4.size; first | omega | (simp at this; omega)); have hz4b : w2.heap.size < w4.heap.size := (by have := hb4.size; first | omega | (simp at this; omega)); have hz4c : w3.heap.size < w4.heap.size := (by have := hb4.size; first | omega | (simp at this; omega)))
    obtain ⟨A4, c4, rfl, hr4⟩ := ho4.shape
    rw [HL.out] at ho4 hr4 ⊢
    have HR4 := Lib.hid hr4
    have HO4 := Lib.hid ho4
    have HG84 := Lib.hid (blk_below (heap_alloc_new w3 (.cells #[.int .i64 r, .int .i64 c, .slice A3 n c3] 37)) hb4 (by simp))
    have HG64 := Lib.hid (blk_below (blk_alloc HG63.out hz3b) hb4 (by first | omega | (simp; done) | (simp; omega)))
    have HT24 := Lib.hid (blk_below (blk_alloc HT23.out hz3a) hb4 (by first | omega | (simp; done) | (simp; omega)))
    have HR24 := Lib.hid ((HR23.out.alloc (Nat.le_of_lt hz3b) (.cells #[.int .i64 r, .int .i64 c, .slice A3 n c3] 37)).below (hb4.mono (by simp; omega)))
    have HO34 := Lib.hid ((HO3.out.keep ((Below.refl _ _).alloc (Nat.le_refl _) (.cells #[.int .i64 r, .int .i64 c, .slice A3 n c3] 37))).keep (hb4.mono (by simp)))
    clear ho4 hr4 hc4 hf4
    obtain ⟨a0, a1, a2, -⟩ := blk3 HG64.out
    go_wp2_with fail
    (go_at_call 21; go_call (eqGrid_same N N A4 A2 L c4 c2 ps _ w4.heap.size w2.heap.size (HR4.out.alloc (Nat.le_refl _) _) (HR24.out.alloc (by omega) _) (by simp) (by simp; omega) (by omega)) as e5 w5 ⟨rfl, hb5⟩; obtain ⟨hc5, hf5⟩ := bcell hb5; have hB5 : Below w.heap.size w w5 := (below_then (by first | (go_grown; done) | (repeat (first | (with_reducible assumption) | (with_reducible exact Below.refl _ _) | (with_reducible refine below_drewN' ?_ _) | (with_reducible refine Below.drew ?_) | ((with_reducible refine Below.alloc ?_ ?_ _); rotate_left; focus (first | (simp; done) | (simp; omega) | omega)) | ((with_reducible refine Below.setCell ?_ ?_ _); rotate_left; focus (first | (simp; done) | (simp; omega) | omega))))) (by first | omega | (simp; done) | (simp; omega)) hb5); have hz5a : w.heap.size < w5.heap.size := (by have := hb5.size; first | omega | (simp at this; omega)); have hz5b : w2.heap.size < w5.heap.size := (by have := hb5.size; first | omega | (simp at this; omega)); have hz5c : w3.heap.size < w5.heap.size := (by have := hb5.size; first | omega | (simp at this; omega)); have hz5d : w4.heap.size < w5.heap.size := (by have := hb5.size; first | omega | (simp at this; omega)))
    have HG95 := Lib.hid (blk_below (heap_alloc_new w4 (.cells #[.int .i64 N, .int .i64 N, .slice A4 L c4] 37)) hb5 (by simp))
    have HG85 := Lib.hid (blk_below (blk_alloc HG84.out hz4c) hb5 (by first | omega | (simp; done) | (simp; omega)))
    have HG65 := Lib.hid (blk_below (blk_alloc HG64.out hz4b) hb5 (by first | omega | (simp; done) | (simp; omega)))
    have HT25 := Lib.hid (blk_below (blk_alloc HT24.out hz4a) hb5 (by first | omega | (simp; done) | (simp; omega)))
    have HR25 := Lib.hid ((HR24.out.alloc (by omega) (.cells #[.int .i64 N, .int .i64 N, .slice A4 L c4] 37)).below (hb5.mono (by simp; omega)))
    have HO35 := Lib.hid ((HO34.out.keep ((Below.refl _ _).alloc (Nat.le_refl _) (.cells #[.int .i64 N, .int .i64 N, .slice A4 L c4] 37))).keep (hb5.mono (by simp)))
    have HO45 := Lib.hid ((HO4.out.keep ((Below.refl _ _).alloc (Nat.le_refl _) (.cells #[.int .i64 N, .int .i64 N, .slice A4 L c4] 37))).keep (hb5.mono (by simp)))
    clear a0 a1 a2 hc5 hf5
    obtain ⟨k0, k1, k2, -⟩ := blk3 HG85.out
    obtain ⟨g0, g1, g2, -⟩ := blk3 HT25.out
    have HR35 := Lib.hid (by have := HO35.out.shape; obtain ⟨A', c', e, h⟩ := this; simp only [Value.slice.injEq] at e; obtain ⟨rfl, -, -⟩ := e; rw [HLN.out] at h; exact h : RI w5 w5.heap.size A3 n xs)
    go_wp2_with fail
    have HOL3 := Lib.hid (World.ownsRow.lt HO3.out)
    have HOL4 := Lib.hid (World.ownsRow.lt HO4.out)
    go_region_held3 (fun w' => (w'.cell? ⟨w3.heap.size, 0, none⟩ = some (.int .i64 r) ∧ w'.cell? ⟨w3.heap.size, 1, none⟩ = some (.int .i64 c) ∧ w'.cell? ⟨w3.heap.size, 2, none⟩ = some (.slice A3 n c3)) ∧
        w'.cell? ⟨w.heap.size, 0, none⟩ = some (.int .i64 r) ∧ w'.cell? ⟨w.heap.size, 1, none⟩ = some (.int .i64 c) ∧ w'.cell? ⟨w.heap.size, 2, none⟩ = some (.slice A n cp))
      (first | (exact ⟨⟨k0, k1, k2⟩, g0, g1, g2⟩) | (exact ⟨⟨(hc7 _ _ (by first | omega | (simp; done) | (simp; omega))).trans ((hc6 _ _ (by first | omega | (simp; done) | (simp; omega))).trans k0), (hc7 _ _ (by first | omega | (simp; done) | (simp; omega))).trans ((hc6 _ _ (by first | omega | (simp; done) | (simp; omega))).trans k1), (hc7 _ _ (by first | omega | (simp; done) | (simp; omega))).trans ((hc6 _ _ (by first | omega | (simp; done) | (simp; omega))).trans k2)⟩, (hc7 _ _ (by first | omega | (simp; done) | (simp; omega))).trans ((hc6 _ _ (by first | omega | (simp; done) | (simp; omega))).trans g0), (hc7 _ _ (by first | omega | (simp; done) | (simp; omega))).trans ((hc6 _ _ (by first | omega | (simp; done) | (simp; omega))).trans g1), (hc7 _ _ (by first | omega | (simp; done) | (simp; omega))).trans ((hc6 _ _ (by first | omega | (simp; done) | (simp; omega))).trans g2)⟩) | (exact ⟨⟨(hc6 _ _ (by first | omega | (simp; done) | (simp; omega))).trans k0, (hc6 _ _ (by first | omega | (simp; done) | (simp; omega))).trans k1, (hc6 _ _ (by first | omega | (simp; done) | (simp; omega))).trans k2⟩, (hc6 _ _ (by first | omega | (simp; done) | (simp; omega))).trans g0, (hc6 _ _ (by first | omega | (simp; done) | (simp; omega))).trans g1, (hc6 _ _ (by first | omega | (simp; done) | (simp; omega))).trans g2⟩) | go_keep)
      (first
        | ((go_at_call 35; go_call (HT.out _ (by (repeat (first | (with_reducible assumption) | (with_reducible exact Below.refl _ _) | (with_reducible refine below_drewN' ?_ _) | (with_reducible refine Below.drew ?_) | ((with_reducible refine Below.alloc ?_ ?_ _); rotate_left; focus (first | (simp; done) | (simp; omega) | omega)) | ((with_reducible refine Below.setCell ?_ ?_ _); rotate_left; focus (first | (simp; done) | (simp; omega) | omega)))))) as e6 w6 ⟨v6, rfl, ho6, hb6⟩; obtain ⟨hc6, hf6⟩ := bcell hb6; have hB6 : Below w.heap.size w w6 := (below_then (by first | (go_grown; done) | (repeat (first | (with_reducible assumption) | (with_reducible exact Below.refl _ _) | (with_reducible refine below_drewN' ?_ _) | (with_reducible refine Below.drew ?_) | ((with_reducible refine Below.alloc ?_ ?_ _); rotate_left; focus (first | (simp; done) | (simp; omega) | omega)) | ((with_reducible refine Below.setCell ?_ ?_ _); rotate_left; focus (first | (simp; done) | (simp; omega) | omega))))) (by first | omega | (simp; done) | (simp; omega)) hb6); have hz6a : w.heap.size < w6.heap.size := (by have := hb6.size; first | omega | (simp at this; omega)); have hz6b : w2.heap.size < w6.heap.size := (by have := hb6.size; first | omega | (simp at this; omega)); have hz6c : w3.heap.size < w6.heap.size := (by have := hb6.size; first | omega | (simp at this; omega)); have hz6d : w4.heap.size < w6.heap.size := (by have := hb6.size; first | omega | (simp at this; omega))); obtain ⟨A6, c6, rfl, hr6⟩ := ho6.shape; rw [HLN.out] at hr6 ⊢; have HR6 := Lib.hid hr6; clear ho6 hr6; have HR36 := Lib.hid (HR35.out.drew.below (hb6.mono (by first | omega | (simp; done) | (simp; omega)))))
        | ((go_at_call 21; go_call (eqGrid_same r c A3 A6 n c3 c6 xs _ w5.heap.size _ HR36.out HR6.out (by first | omega | (have := hb6.size; simp at this; omega)) (Nat.le_refl _) (by omega)) as e7 w7 ⟨rfl, hb7⟩; obtain ⟨hc7, hf7⟩ := bcell hb7; have hB7 : Below w.heap.size w w7 := (below_then (by first | (go_grown; done) | (repeat (first | (with_reducible assumption) | (with_reducible exact Below.refl _ _) | (with_reducible refine below_drewN' ?_ _) | (with_reducible refine Below.drew ?_) | ((with_reducible refine Below.alloc ?_ ?_ _); rotate_left; focus (first | (simp; done) | (simp; omega) | omega)) | ((with_reducible refine Below.setCell ?_ ?_ _); rotate_left; focus (first | (simp; done) | (simp; omega) | omega))))) (by first | omega | (simp; done) | (simp; omega)) hb7); have hz7a : w.heap.size < w7.heap.size := (by have := hb7.size; first | omega | (simp at this; omega)); have hz7b : w2.heap.size < w7.heap.size := (by have := hb7.size; first | omega | (simp at this; omega)); have hz7c : w3.heap.size < w7.heap.size := (by have := hb7.size; first | omega | (simp at this; omega)); have hz7d : w4.heap.size < w7.heap.size := (by have := hb7.size; first | omega | (simp at this; omega)))))
    have hs6 : w5.heap.size ≤ w6.heap.size := hb6.size
    have hs7 := hb7.size
    have hs57 : Hid (Below w5.heap.size w5 w7) := Lib.hid (((Below.refl w5.heap.size w5).drew.trans hb6).trans (hb7.mono hs6))
    have HG97 := Lib.hid (blk_below HG95.out hs57.out hz5d)
    have HG87 := Lib.hid (blk_below HG85.out hs57.out hz5c)
    have HG67 := Lib.hid (blk_below HG65.out hs57.out hz5b)
    have HT27 := Lib.hid (blk_below HT25.out hs57.out hz5a)
    have HR27 := Lib.hid (HR25.out.below (hs57.out.mono (by omega)))
    have HO37 := Lib.hid (HO35.out.keep hs57.out)
    have HO47 := Lib.hid (HO45.out.keep hs57.out)
    clear hc6 hf6 hc7 hf7 k0 k1 k2 g0 g1 g2
    obtain ⟨k0, k1, k2, -⟩ := blk3 HG87.out
    go_wp2_with fail
    go_at_call 24
    with_reducible refine (markGrid_any r c _ xs 1 _ _ HO37.out (by rw [HLN.out]; omega) (by omega) (by omega)).mono ?_
    rintro e8 w8 ⟨rfl, ho8, hg8⟩
    rw [HLN.out]
    have hs8 := hg8.size
    have hrow8 : ∀ k, some k ≠ Value.ownBlock (.slice A3 n c3) → (k ≤ w2.heap.size ∨ w3.heap.size ≤ k) → True := fun _ _ _ => trivial
    have HG98 := Lib.hid ((hg8.block w4.heap.size (by omega) (fun e => by have := (HOL3.out _ e.symm).2; omega)).trans HG97.out)
    have HG68 := Lib.hid ((hg8.block w2.heap.size (by omega) (fun e => by have := (HOL3.out _ e.symm).1; simp at this; omega)).trans HG67.out)
    have HT28 := Lib.hid ((hg8.block w.heap.size (by omega) (fun e => by have := (HOL3.out _ e.symm).1; simp at this; omega)).trans HT27.out)
    have HR28 := Lib.hid (HR27.out.grown hg8 (by omega) (fun k e => by have := (HOL3.out _ e).1; simp at this; omega))
    have HO48 := Lib.hid (show Own w8 (w3.alloc (.cells #[.int .i64 r, .int .i64 c, .slice A3 n c3] 37)).heap.size (.slice A4 L c4) ps from World.ownsRow.kept HO47.out hg8 (by
      cases h : Value.ownBlock (.slice A4 L c4) with
      | none => exact .inl rfl
      | some k =>
        refine .inr fun e => ?_
        have a := (HOL4.out k h).1
        have b := (HOL3.out k e.symm).2
        simp at a
        omega))
    have hB8 : Below w.heap.size w w8 := hB7.grown hg8 (by omega) (fun k e => by have := (HOL3.out _ e).1; simp at this; omega)
    have HR48 : Hid (RI w8 w8.heap.size A4 L ps) := Lib.hid (by
      obtain ⟨A', c', e, h⟩ := HO48.out.shape
      simp only [Value.slice.injEq] at e
      obtain ⟨rfl, -, -⟩ := e
      rw [HL.out] at h; exact h)
    clear ho8 hg8 k0 k1 k2 hrow8
    obtain ⟨a0, a1, a2, -⟩ := blk3 HG68.out
    obtain ⟨b0, b1, b2, -⟩ := blk3 HG98.out
    go_wp2_with fail
    (go_at_call 21; go_call (eqGrid_same N N A4 A2 L c4 c2 ps _ _ _ HR48.out HR28.out (Nat.le_refl _) (by omega) (by omega)) as e9 w9 ⟨rfl, hb9⟩; obtain ⟨hc9, hf9⟩ := bcell hb9; have hB9 : Below w.heap.size w w9 := (below_then (by first | (go_grown; done) | (repeat (first | (with_reducible assumption) | (with_reducible exact Below.refl _ _) | (with_reducible refine below_drewN' ?_ _) | (with_reducible refine Below.drew ?_) | ((with_reducible refine Below.alloc ?_ ?_ _); rotate_left; focus (first | (simp; done) | (simp; omega) | omega)) | ((with_reducible refine Below.setCell ?_ ?_ _); rotate_left; focus (first | (simp; done) | (simp; omega) | omega))))) (by first | omega | (simp; done) | (simp; omega)) hb9); have hz9a : w.heap.size < w9.heap.size := (by have := hb9.size; first | omega | (simp at this; omega)); have hz9b : w2.heap.size < w9.heap.size := (by have := hb9.size; first | omega | (simp at this; omega)); have hz9c : w3.heap.size < w9.heap.size := (by have := hb9.size; first | omega | (simp at this; omega)); have hz9d : w4.heap.size < w9.heap.size := (by have := hb9.size; first | omega | (simp at this; omega)))
    have HG99 := Lib.hid (blk_below HG98.out hb9 (by omega))
    have HG69 := Lib.hid (blk_below HG68.out hb9 (by omega))
    have HT29 := Lib.hid (blk_below HT28.out hb9 (by omega))
    have HR29 := Lib.hid (HR28.out.below (hb9.mono (by omega)))
    have HO49 := Lib.hid (HO48.out.keep hb9)
    clear hc9 hf9 a0 a1 a2 b0 b1 b2
    obtain ⟨b0, b1, b2, -⟩ := blk3 HG99.out
    go_wp2_with fail
    go_at_call 24
    with_reducible refine (markGrid_any N N _ ps 1 _ _ HO49.out (by rw [HL.out]; omega) (by omega) (by omega)).mono ?_
    rintro e10 w10 ⟨rfl, ho10, hg10⟩
    rw [HL.out] at ho10 ⊢
    have hs10 := hg10.size
    have HO10 := Lib.hid ho10
    have HG910 := Lib.hid ((hg10.block w4.heap.size (by omega) (fun e => by have := (HOL4.out _ e.symm).2; omega)).trans HG99.out)
    have HG610 := Lib.hid ((hg10.block w2.heap.size (by omega) (fun e => by have := (HOL4.out _ e.symm).1; simp at this; omega)).trans HG69.out)
    have HT210 := Lib.hid ((hg10.block w.heap.size (by omega) (fun e => by have := (HOL4.out _ e.symm).1; simp at this; omega)).trans HT29.out)
    have HR210 := Lib.hid (HR29.out.grown hg10 (by omega) (fun k e => by have := (HOL4.out _ e).1; simp at this; omega))
    have hB10 : Below w.heap.size w w10 := hB9.grown hg10 (by omega) (fun k e => by have := (HOL4.out _ e).1; simp at this; omega)
    have h3 : ((1 + (L : Int)) != (1 + (L : Int))) = false := by simp
    clear ho10 hg10 b0 b1 b2
    obtain ⟨b0, b1, b2, -⟩ := blk3 HG910.out
    go_wp2_with fail
    (go_at_call 25; go_call (heldGrid_any N N _ L 1 _ _ HO10.out (by omega) (by omega) (by omega)) as e11 w11 ⟨rfl, hb11⟩; obtain ⟨hc11, hf11⟩ := bcell hb11; have hB11 : Below w.heap.size w w11 := (below_then (by first | (go_grown; done) | (repeat (first | (with_reducible assumption) | (with_reducible exact Below.refl _ _) | (with_reducible refine below_drewN' ?_ _) | (with_reducible refine Below.drew ?_) | ((with_reducible refine Below.alloc ?_ ?_ _); rotate_left; focus (first | (simp; done) | (simp; omega) | omega)) | ((with_reducible refine Below.setCell ?_ ?_ _); rotate_left; focus (first | (simp; done) | (simp; omega) | omega))))) (by first | omega | (simp; done) | (simp; omega)) hb11); have hz11a : w.heap.size < w11.heap.size := (by have := hb11.size; first | omega | (simp at this; omega)); have hz11b : w2.heap.size < w11.heap.size := (by have := hb11.size; first | omega | (simp at this; omega)); have hz11c : w4.heap.size < w11.heap.size := (by have := hb11.size; first | omega | (simp at this; omega)))
    have HG911 := Lib.hid (blk_below HG910.out hb11 (by omega))
    have HG611 := Lib.hid (blk_below HG610.out hb11 (by omega))
    have HT211 := Lib.hid (blk_below HT210.out hb11 (by omega))
    have HR211 := Lib.hid (HR210.out.below (hb11.mono (by omega)))
    have HO11 := Lib.hid (HO10.out.keep hb11)
    clear hc11 hf11 b0 b1 b2
    obtain ⟨t0, t1, t2, -⟩ := blk3 HT211.out
    go_wp2_with fail
    (go_at_call 35; go_call (HT.out _ hB11) as e12 w12 ⟨v12, rfl, ho12, hb12⟩; obtain ⟨hc12, hf12⟩ := bcell hb12; have hB12 : Below w.heap.size w w12 := (below_then (by first | (go_grown; done) | (repeat (first | (with_reducible assumption) | (with_reducible exact Below.refl _ _) | (with_reducible refine below_drewN' ?_ _) | (with_reducible refine Below.drew ?_) | ((with_reducible refine Below.alloc ?_ ?_ _); rotate_left; focus (first | (simp; done) | (simp; omega) | omega)) | ((with_reducible refine Below.setCell ?_ ?_ _); rotate_left; focus (first | (simp; done) | (simp; omega) | omega))))) (by first | omega | (simp; done) | (simp; omega)) hb12); have hz12a : w.heap.size < w12.heap.size := (by have := hb12.size; first | omega | (simp at this; omega)); have hz12b : w2.heap.size < w12.heap.size := (by have := hb12.size; first | omega | (simp at this; omega)); have hz12c : w4.heap.size < w12.heap.size := (by have := hb12.size; first | omega | (simp at this; omega)))
    obtain ⟨A12, c12, rfl, hr12⟩ := ho12.shape
    rw [HLN.out] at hr12 ⊢
    have HR12 := Lib.hid hr12
    have HG912 := Lib.hid (blk_below HG911.out hb12 (by omega))
    have HG612 := Lib.hid (blk_below HG611.out hb12 (by omega))
    have HR212 := Lib.hid (HR211.out.below (hb12.mono (by omega)))
    have HO12 := Lib.hid (HO11.out.keep hb12)
    clear ho12 hr12 hc12 hf12 t0 t1 t2
    go_wp2_with fail
    (go_at_call 38; go_call (S2.out _ _ _ _ HR12.out (Nat.le_refl _)) as e13 w13 ⟨u13, rfl, ho13, hb13⟩; obtain ⟨hc13, hf13⟩ := bcell hb13; have hB13 : Below w.heap.size w w13 := (below_then (by first | (go_grown; done) | (repeat (first | (with_reducible assumption) | (with_reducible exact Below.refl _ _) | (with_reducible refine below_drewN' ?_ _) | (with_reducible refine Below.drew ?_) | ((with_reducible refine Below.alloc ?_ ?_ _); rotate_left; focus (first | (simp; done) | (simp; omega) | omega)) | ((with_reducible refine Below.setCell ?_ ?_ _); rotate_left; focus (first | (simp; done) | (simp; omega) | omega))))) (by first | omega | (simp; done) | (simp; omega)) hb13); have hz13a : w.heap.size < w13.heap.size := (by have := hb13.size; first | omega | (simp at this; omega)); have hz13b : w2.heap.size < w13.heap.size := (by have := hb13.size; first | omega | (simp at this; omega)); have hz13c : w4.heap.size < w13.heap.size := (by have := hb13.size; first | omega | (simp at this; omega)))
    obtain ⟨A13, c13, rfl, hr13⟩ := ho13.shape
    rw [HL.out] at hr13 ⊢
    have HR13 := Lib.hid hr13
    have HG913 := Lib.hid (blk_below HG912.out hb13 (by omega))
    have HG613 := Lib.hid (blk_below HG612.out hb13 (by omega))
    have HR213 := Lib.hid (HR212.out.below (hb13.mono (by omega)))
    have HO13 := Lib.hid (HO12.out.keep hb13)
    clear ho13 hr13 hc13 hf13
    obtain ⟨a0, a1, a2, -⟩ := blk3 HG613.out
    go_wp2_with fail
    (go_at_call 21; go_call (eqGrid_same N N A13 A2 L c13 c2 ps _ _ _ (HR13.out.alloc (Nat.le_refl _) _) (HR213.out.alloc (by omega) _) (by simp) (by simp; omega) (by omega)) as e14 w14 ⟨rfl, hb14⟩; obtain ⟨hc14, hf14⟩ := bcell hb14; have hB14 : Below w.heap.size w w14 := (below_then (by first | (go_grown; done) | (repeat (first | (with_reducible assumption) | (with_reducible exact Below.refl _ _) | (with_reducible refine below_drewN' ?_ _) | (with_reducible refine Below.drew ?_) | ((with_reducible refine Below.alloc ?_ ?_ _); rotate_left; focus (first | (simp; done) | (simp; omega) | omega)) | ((with_reducible refine Below.setCell ?_ ?_ _); rotate_left; focus (first | (simp; done) | (simp; omega) | omega))))) (by first | omega | (simp; done) | (simp; omega)) hb14); have hz14a : w.heap.size < w14.heap.size := (by have := hb14.size; first | omega | (simp at this; omega)); have hz14b : w4.heap.size < w14.heap.size := (by have := hb14.size; first | omega | (simp at this; omega)))
    have HG914 := Lib.hid (blk_below (blk_alloc HG913.out hz13c) hb14 (by first | omega | (simp; done) | (simp; omega)))
    have HO14 := Lib.hid ((HO13.out.keep ((Below.refl _ _).alloc (Nat.le_refl _) (.cells #[.int .i64 N, .int .i64 N, .slice A13 L c13] 37))).keep (hb14.mono (by simp)))
    clear a0 a1 a2 hc14 hf14
    obtain ⟨b0, b1, b2, -⟩ := blk3 HG914.out
    go_wp2_with fail
    (go_at_call 25; go_call (heldGrid_any N N _ L 1 _ _ HO14.out (by omega) (by omega) (by omega)) as e15 w15 ⟨rfl, hb15⟩; obtain ⟨hc15, hf15⟩ := bcell hb15; have hB15 : Below w.heap.size w w15 := (below_then (by first | (go_grown; done) | (repeat (first | (with_reducible assumption) | (with_reducible exact Below.refl _ _) | (with_reducible refine below_drewN' ?_ _) | (with_reducible refine Below.drew ?_) | ((with_reducible refine Below.alloc ?_ ?_ _); rotate_left; focus (first | (simp; done) | (simp; omega) | omega)) | ((with_reducible refine Below.setCell ?_ ?_ _); rotate_left; focus (first | (simp; done) | (simp; omega) | omega))))) (by first | omega | (simp; done) | (simp; omega)) hb15); have hz15a : w.heap.size < w15.heap.size := (by have := hb15.size; first | omega | (simp at this; omega)))
    go_wp2_with fail
    go_ret
    exact ⟨rfl, hB15⟩
  · go_enter Try.func7, Try.ntmps7
    go_wp2_with (go_at_call 33; go_call (szGrid_no _ _ _ _ _ 1048576 _ (by omega) hn2) as e0 w0 ⟨rfl, hb0⟩; obtain ⟨hc0, hf0⟩ := bcell hb0; have hB0 : Below w.heap.size w w0 := (below_then (by first | (go_grown; done) | (repeat (first | (with_reducible assumption) | (with_reducible exact Below.refl _ _) | (with_reducible refine below_drewN' ?_ _) | (with_reducible refine Below.drew ?_) | ((with_reducible refine Below.alloc ?_ ?_ _); rotate_left; focus (first | (simp; done) | (simp; omega) | omega)) | ((with_reducible refine Below.setCell ?_ ?_ _); rotate_left; focus (first | (simp; done) | (simp; omega) | omega))))) (by first | omega | (simp; done) | (simp; omega)) hb0); have hz0a : w.heap.size < w0.heap.size := (by have := hb0.size; first | omega | (simp at this; omega)))
    go_ret
    exact ⟨rfl, by (repeat (first | (with_reducible assumption) | (with_reducible exact Below.refl _ _) | (with_reducible refine below_drewN' ?_ _) | (with_reducible refine Below.drew ?_) | ((with_reducible refine Below.alloc ?_ ?_ _); rotate_left; focus (first | (simp; done) | (simp; omega) | omega)) | ((with_reducible refine Below.setCell ?_ ?_ _); rotate_left; focus (first | (simp; done) | (simp; omega) | omega))))⟩
set_option maxRecDepth 100000 in
theorem lifted_FnExactApplyMask (os : Os) (started : os.Started) (H : Type) (enc : TypeId × Value → H) :
    ReturnsInHanded {} Try.checked os 7 .any (Rows.fnExactApplyMaskSpec.pre6 enc Try.prog Try.f7 Rows.fnExactApplyMaskRow.domain false) (Rows.fnExactApplyMaskSpec.post enc Try.prog Try.f7 false true false false) := by
  refine law_lifted (C := Try.checked) (tb := 4) own started (by kernel_rfl) Try.func7
    (ChangeSpec.witness6 (enc := enc) (C := Try.checked) false ⟨#[], #[.agg #[.int .i64 0, .int .i64 0, .slice none 0 0], .int .i64 0], []⟩ 8 (by kernel_rfl) (by kernel_rfl) (by kernel_rfl) (by kernel_rfl))
    laidOut (by kernel_rfl) rfl rfl Try.underlying4 ?_ ?_
  · intro ds hd
    match ds, hd with
    | [e0, e1], _ => rfl
  · intro W base args ds p hval hA hlt hsz
    have hval1 : ∀ (j : Nat) t v, Try.f7.params[j]? = some t → args[j]? = some v → Value.okWide Try.prog W .any base t v := hval
    have hA1 : DataW.TrodAll enc Try.prog W 0 (fun _ => true) true Try.f7.params.toList args.toList ds p := hA
    have hsz1 : (DataW.weightsEach Try.prog Try.f7.params.toList ds).all (· ≤ reachBytes) = true := hsz
    rw [Try.params7] at hval1 hA1 hsz1
    clear hval hA hsz
    obtain ⟨v0, v1, d0, d1, p0, p1, rfl, rfl, rfl, h0, h1⟩ := trodAll_two hA1
    obtain ⟨a, b, A, n, c, xs, rfl, _, _, hr, hn, _⟩ := arg_grid Try.underlying54 (by kernel_rfl) (by kernel_rfl) Try.underlying2 Try.underlying2 Try.underlying35 Try.underlying2 (by kernel_rfl) (hval1 0 54 v0 rfl rfl) h0 (fun x hx => hlt x (by simp [hx]))
    obtain ⟨v, rfl, _, _⟩ := ok_int Try.underlying2 (hval1 1 2 v1 rfl rfl)
    exact lawApplyMask a b A n c xs v W hr hn
theorem holds_FnExactApplyMask : Rows.FnExactApplyMaskSaid :=
  OpenClaim.holds_of_wide 7 Try.f7 rfl rfl rfl rfl rfl rfl rfl ⟨rfl, rfl, rfl, rfl, rfl⟩ rfl rfl rfl rfl rfl (by kernel_rfl) Try.func7 (by kernel_rfl)
    (of_decide_eq_true (by kernel_rfl)) (by unfold Func.isWrapper; first | (rw [if_pos (by decide +kernel)]; kernel_rfl) | (rw [if_neg (by decide +kernel)]; exact ⟨rfl, rfl⟩))
    (fun os started H enc _ => lifted_FnExactApplyMask os started H enc)

end Go.Proofs.Yteghpageamehkaa
