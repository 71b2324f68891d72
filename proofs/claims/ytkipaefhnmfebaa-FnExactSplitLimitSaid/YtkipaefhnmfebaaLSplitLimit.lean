/-
  The row FnExactSplitLimit: for every raster the program's SplitLimit returns what the reference's returns, and leaves the raster as it was; no condition.
-/
import Derived.Test.YtkipaefhnmfebaaC22T
import Derived.Deep.RegionHeld3
namespace Go.Proofs.Ytkipaefhnmfebaa
set_option linter.unusedSimpArgs false
open Go.ChangeShapes Go.WideShapes Go.ChangeAt Go.RowKit Go.Deep

set_option maxRecDepth 20000 in
set_option maxHeartbeats 4000000 in
theorem lawSplitLimit (r c : Int) (A : Option Addr) (n cp : Nat) (xs : List Int) (w : World) (hr : RI w w.heap.size A n xs) (hn2 : n ≤ 9223372036854775807) :
    Calls Try.prog 3 #[.agg #[.int .i64 r, .int .i64 c, .slice A n cp]] w fun e' w' => e' = .returned (.bool true) ∧ Below w.heap.size w w' := by
  have HLN := Lib.hid hr.len
  have HR := Lib.hid hr
  clear hr
  by_cases hbig : n ≤ 1048576
  · have s1 := fun (A : Option Addr) (cp : Nat) (w : World) (B : Nat) (hr : RI w B A n xs) (hB : B ≤ w.heap.size) => sSplitLimit_any r c A n cp xs w B hr hB (by omega)
    have s2 := fun (A : Option Addr) (cp : Nat) (w : World) (B : Nat) (hr : RI w B A n xs) (hB : B ≤ w.heap.size) => SplitLimit_any r c A n cp xs w B hr hB (by omega)
    generalize slV r c xs = V at s1 s2
    generalize slC r c xs = C at s1 s2
    have S1 := Lib.hid s1
    have S2 := Lib.hid s2
    clear s1 s2
    have h1 : (C != C) = false := by simp
    have h2 : (V != V) = false := by simp
    have HT := Lib.hid (fun w' (hb : Below w.heap.size w w') => toRaster_any r c A n cp xs w' w.heap.size (HR.out.below hb) hb.size (by omega))
    go_enter Try.func3, Try.ntmps3
    go_wp2_with (go_at_call 6; go_call (szRaster_ok _ _ _ _ _ 1048576 _ hbig (by omega)) as e0 w0 ⟨rfl, hb0⟩; obtain ⟨hc0, hf0⟩ := bcell hb0; have hB0 : Below w.heap.size w w0 := (below_then (by first | (go_grown; done) | (repeat (first | (with_reducible assumption) | (with_reducible exact Below.refl _ _) | (with_reducible refine below_drewN' ?_ _) | (with_reducible refine Below.drew ?_) | ((with_reducible refine Below.alloc ?_ ?_ _); rotate_left; focus (first | (simp; done) | (simp; omega) | omega)) | ((with_reducible refine Below.setCell ?_ ?_ _); rotate_left; focus (first | (simp; done) | (simp; omega) | omega))))) (by first | omega | (simp; done) | (simp; omega)) hb0); have hz0a : w.heap.size < w0.heap.size := (by have := hb0.size; first | omega | (simp at this; omega)))
    have HT20 := Lib.hid (blk_below (heap_alloc_new w (.cells #[.int .i64 r, .int .i64 c, .slice A n cp] 24)) hb0 (by simp))
    obtain ⟨t0, t1, t2, -⟩ := blk3 HT20.out
    clear hc0 hf0
    (go_at_call 8; go_call (HT.out _ hB0) as e1 w1 ⟨v1, rfl, ho1, hb1⟩; obtain ⟨hc1, hf1⟩ := bcell hb1; have hB1 : Below w.heap.size w w1 := (below_then (by first | (go_grown; done) | (repeat (first | (with_reducible assumption) | (with_reducible exact Below.refl _ _) | (with_reducible refine below_drewN' ?_ _) | (with_reducible refine Below.drew ?_) | ((with_reducible refine Below.alloc ?_ ?_ _); rotate_left; focus (first | (simp; done) | (simp; omega) | omega)) | ((with_reducible refine Below.setCell ?_ ?_ _); rotate_left; focus (first | (simp; done) | (simp; omega) | omega))))) (by first | omega | (simp; done) | (simp; omega)) hb1); have hz1a : w.heap.size < w1.heap.size := (by have := hb1.size; first | omega | (simp at this; omega)))
    obtain ⟨A1, c1, rfl, hr1⟩ := ho1.shape
    rw [HLN.out] at hr1 ⊢
    have HR1 := Lib.hid hr1
    have HT21 := Lib.hid (blk_below HT20.out hb1 hz0a)
    clear ho1 hr1 hc1 hf1 t0 t1 t2
    go_wp2_with fail
    (go_at_call 7; go_call (S1.out _ _ _ _ HR1.out (Nat.le_refl _)) as e2 w2 ⟨rfl, hb2⟩; obtain ⟨hc2, hf2⟩ := bcell hb2; have hB2 : Below w.heap.size w w2 := (below_then (by first | (go_grown; done) | (repeat (first | (with_reducible assumption) | (with_reducible exact Below.refl _ _) | (with_reducible refine below_drewN' ?_ _) | (with_reducible refine Below.drew ?_) | ((with_reducible refine Below.alloc ?_ ?_ _); rotate_left; focus (first | (simp; done) | (simp; omega) | omega)) | ((with_reducible refine Below.setCell ?_ ?_ _); rotate_left; focus (first | (simp; done) | (simp; omega) | omega))))) (by first | omega | (simp; done) | (simp; omega)) hb2); have hz2a : w.heap.size < w2.heap.size := (by have := hb2.size; first | omega | (simp at this; omega)))
    have HT22 := Lib.hid (blk_below HT21.out hb2 hz1a)
    clear hc2 hf2
    obtain ⟨t0, t1, t2, -⟩ := blk3 HT22.out
    go_wp2_with fail
    (go_at_call 8; go_call (HT.out _ hB2) as e3 w3 ⟨v3, rfl, ho3, hb3⟩; obtain ⟨hc3, hf3⟩ := bcell hb3; have hB3 : Below w.heap.size w w3 := (below_then (by first | (go_grown; done) | (repeat (first | (with_reducible assumption) | (with_reducible exact Below.refl _ _) | (with_reducible refine below_drewN' ?_ _) | (with_reducible refine Below.drew ?_) | ((with_reducible refine Below.alloc ?_ ?_ _); rotate_left; focus (first | (simp; done) | (simp; omega) | omega)) | ((with_reducible refine Below.setCell ?_ ?_ _); rotate_left; focus (first | (simp; done) | (simp; omega) | omega))))) (by first | omega | (simp; done) | (simp; omega)) hb3); have hz3a : w.heap.size < w3.heap.size := (by have := hb3.size; first | omega | (simp at this; omega)))
    obtain ⟨A3, c3, rfl, hr3⟩ := ho3.shape
    rw [HLN.out] at hr3 ⊢
    have HR3 := Lib.hid hr3
    have HT23 := Lib.hid (blk_below HT22.out hb3 hz2a)
    clear ho3 hr3 hc3 hf3 t0 t1 t2
    go_wp2_with fail
    (go_at_call 9; go_call (S2.out _ _ _ _ (HR3.out.alloc (Nat.le_refl _) _) (by simp)) as e4 w4 ⟨rfl, hb4⟩; obtain ⟨hc4, hf4⟩ := bcell hb4; have hB4 : Below w.heap.size w w4 := (below_then (by first | (go_grown; done) | (repeat (first | (with_reducible assumption) | (with_reducible exact Below.refl _ _) | (with_reducible refine below_drewN' ?_ _) | (with_reducible refine Below.drew ?_) | ((with_reducible refine Below.alloc ?_ ?_ _); rotate_left; focus (first | (simp; done) | (simp; omega) | omega)) | ((with_reducible refine Below.setCell ?_ ?_ _); rotate_left; focus (first | (simp; done) | (simp; omega) | omega))))) (by first | omega | (simp; done) | (simp; omega)) hb4); have hz4a : w.heap.size < w4.heap.size := (by have := hb4.size; first | omega | (simp at this; omega)); have hz4b : w3.heap.size < w4.heap.size := (by have := hb4.size; first | omega | (simp at this; omega)))
    have HG84 := Lib.hid (blk_below (heap_alloc_new w3 (.cells #[.int .i64 r, .int .i64 c, .slice A3 n c3] 28)) hb4 (by simp))
    have HT24 := Lib.hid (blk_below (blk_alloc HT23.out hz3a) hb4 (by first | omega | (simp; done) | (simp; omega)))
    have HR34 := Lib.hid (((HR3.out.alloc (Nat.le_refl _) (.cells #[.int .i64 r, .int .i64 c, .slice A3 n c3] 28)).below (hb4.mono (by simp))).more (B' := w4.heap.size) (Nat.le_of_lt hz4b))
    have hBk := Lib.hid hB4
    have hz6 : w.heap.size < w4.heap.size := hz4a
    have hz6' : w3.heap.size < w4.heap.size := hz4b
    have HT6 := Lib.hid (fun w' (hb : Below w4.heap.size w4 w') => HT.out w' (hBk.out.trans (hb.mono (Nat.le_of_lt hz6))))
    clear hc4 hf4 hb4 hB4 hB3 hB2 hB1 hB0 hb0 hb1 hb2 hb3
    obtain ⟨k0, k1, k2, -⟩ := blk3 HG84.out
    obtain ⟨g0, g1, g2, -⟩ := blk3 HT24.out
    go_wp2_with fail
    go_region_held3 (fun w' => (w'.cell? ⟨w3.heap.size, 0, none⟩ = some (.int .i64 r) ∧ w'.cell? ⟨w3.heap.size, 1, none⟩ = some (.int .i64 c) ∧ w'.cell? ⟨w3.heap.size, 2, none⟩ = some (.slice A3 n c3)) ∧
        w'.cell? ⟨w.heap.size, 0, none⟩ = some (.int .i64 r) ∧ w'.cell? ⟨w.heap.size, 1, none⟩ = some (.int .i64 c) ∧ w'.cell? ⟨w.heap.size, 2, none⟩ = some (.slice A n cp))
      (first | (exact ⟨⟨q0, q1, q2⟩, p0, p1, p2⟩) | (exact ⟨⟨k0, k1, k2⟩, g0, g1, g2⟩) | go_keep)
      (first
        | (go_at_call 8; with_reducible refine (HT6.out _ (by (repeat (first | (with_reducible assumption) | (with_reducible exact Below.refl _ _) | (with_reducible refine below_drewN' ?_ _) | (with_reducible refine Below.drew ?_) | ((with_reducible refine Below.alloc ?_ ?_ _); rotate_left; focus (first | (simp; done) | (simp; omega) | omega)) | ((with_reducible refine Below.setCell ?_ ?_ _); rotate_left; focus (first | (simp; done) | (simp; omega) | omega)))))).mono ?_; rintro e7 w7 ⟨v7, rfl, ho7, hb7⟩; have hD7 : Below w4.heap.size w4 w7 := below_then (by (repeat (first | (with_reducible assumption) | (with_reducible exact Below.refl _ _) | (with_reducible refine below_drewN' ?_ _) | (with_reducible refine Below.drew ?_) | ((with_reducible refine Below.alloc ?_ ?_ _); rotate_left; focus (first | (simp; done) | (simp; omega) | omega)) | ((with_reducible refine Below.setCell ?_ ?_ _); rotate_left; focus (first | (simp; done) | (simp; omega) | omega))))) (by first | omega | (simp; done) | (simp; omega)) hb7; have hsz7 := hD7.size; obtain ⟨q0, q1, q2, -⟩ := blk3 ((hD7.block w3.heap.size hz6').trans HG84.out); obtain ⟨p0, p1, p2, -⟩ := blk3 ((hD7.block w.heap.size hz6).trans HT24.out); obtain ⟨A7, c7, rfl, hr7⟩ := ho7.shape; rw [HLN.out] at hr7 ⊢; have HR7 := Lib.hid hr7; have HR37 := Lib.hid (HR34.out.below hD7); clear ho7 hr7 hb7)
        | (go_at_call 10; with_reducible refine (eqRaster_same r c A3 A7 n c3 c7 xs _ _ _ (HR37.out.below (by (repeat (first | (with_reducible assumption) | (with_reducible exact Below.refl _ _) | (with_reducible refine below_drewN' ?_ _) | (with_reducible refine Below.drew ?_) | ((with_reducible refine Below.alloc ?_ ?_ _); rotate_left; focus (first | (simp; done) | (simp; omega) | omega)) | ((with_reducible refine Below.setCell ?_ ?_ _); rotate_left; focus (first | (simp; done) | (simp; omega) | omega)))))) (HR7.out.below (by (repeat (first | (with_reducible assumption) | (with_reducible exact Below.refl _ _) | (with_reducible refine below_drewN' ?_ _) | (with_reducible refine Below.drew ?_) | ((with_reducible refine Below.alloc ?_ ?_ _); rotate_left; focus (first | (simp; done) | (simp; omega) | omega)) | ((with_reducible refine Below.setCell ?_ ?_ _); rotate_left; focus (first | (simp; done) | (simp; omega) | omega)))))) (by first | omega | (simp; done) | (simp; omega)) (by first | omega | (simp; done) | (simp; omega)) (by omega)).mono ?_; rintro e8 w8 ⟨rfl, hb8⟩; have hD8 : Below w4.heap.size w4 w8 := below_then (by (repeat (first | (with_reducible assumption) | (with_reducible exact Below.refl _ _) | (with_reducible refine below_drewN' ?_ _) | (with_reducible refine Below.drew ?_) | ((with_reducible refine Below.alloc ?_ ?_ _); rotate_left; focus (first | (simp; done) | (simp; omega) | omega)) | ((with_reducible refine Below.setCell ?_ ?_ _); rotate_left; focus (first | (simp; done) | (simp; omega) | omega))))) (by first | omega | (simp; done) | (simp; omega)) hb8; have hsz8 := hD8.size; obtain ⟨q0, q1, q2, -⟩ := blk3 ((hD8.block w3.heap.size hz6').trans HG84.out); obtain ⟨p0, p1, p2, -⟩ := blk3 ((hD8.block w.heap.size hz6).trans HT24.out); clear hb8))
    go_wp2_with fail
    go_ret
    exact ⟨rfl, hBk.out.trans (hD8.mono (Nat.le_of_lt hz6))⟩
  · go_enter Try.func3, Try.ntmps3
    go_wp2_with (go_at_call 6; go_call (szRaster_no _ _ _ _ _ 1048576 _ (by omega) hn2) as e0 w0 ⟨rfl, hb0⟩; obtain ⟨hc0, hf0⟩ := bcell hb0; have hB0 : Below w.heap.size w w0 := (below_then (by first | (go_grown; done) | (repeat (first | (with_reducible assumption) | (with_reducible exact Below.refl _ _) | (with_reducible refine below_drewN' ?_ _) | (with_reducible refine Below.drew ?_) | ((with_reducible refine Below.alloc ?_ ?_ _); rotate_left; focus (first | (simp; done) | (simp; omega) | omega)) | ((with_reducible refine Below.setCell ?_ ?_ _); rotate_left; focus (first | (simp; done) | (simp; omega) | omega))))) (by first | omega | (simp; done) | (simp; omega)) hb0); have hz0a : w.heap.size < w0.heap.size := (by have := hb0.size; first | omega | (simp at this; omega)))
    go_ret
    exact ⟨rfl, by (repeat (first | (with_reducible assumption) | (with_reducible exact Below.refl _ _) | (with_reducible refine below_drewN' ?_ _) | (with_reducible refine Below.drew ?_) | ((with_reducible refine Below.alloc ?_ ?_ _); rotate_left; focus (first | (simp; done) | (simp; omega) | omega)) | ((with_reducible refine Below.setCell ?_ ?_ _); rotate_left; focus (first | (simp; done) | (simp; omega) | omega))))⟩
set_option maxRecDepth 100000 in
theorem lifted_FnExactSplitLimit (os : Os) (started : os.Started) (H : Type) (enc : TypeId × Value → H) :
    ReturnsInHanded {} Try.checked os 3 .any (Rows.fnExactSplitLimitSpec.pre6 enc Try.prog Try.f3 Rows.fnExactSplitLimitRow.domain false) (Rows.fnExactSplitLimitSpec.post enc Try.prog Try.f3 false true false false) := by
  refine law_lifted (C := Try.checked) (tb := 4) own started (by kernel_rfl) Try.func3
    (ChangeSpec.witness6 (enc := enc) (C := Try.checked) false ⟨#[], #[.agg #[.int .i64 0, .int .i64 0, .slice none 0 0]], []⟩ 8 (by kernel_rfl) (by kernel_rfl) (by kernel_rfl) (by kernel_rfl))
    laidOut (by kernel_rfl) rfl rfl Try.underlying4 ?_ ?_
  · intro ds hd
    match ds, hd with
    | [e0], _ => rfl
  · intro W base args ds p hval hA hlt hsz
    have hval1 : ∀ (j : Nat) t v, Try.f3.params[j]? = some t → args[j]? = some v → Value.okWide Try.prog W .any base t v := hval
    have hA1 : DataW.TrodAll enc Try.prog W 0 (fun _ => true) true Try.f3.params.toList args.toList ds p := hA
    have hsz1 : (DataW.weightsEach Try.prog Try.f3.params.toList ds).all (· ≤ reachBytes) = true := hsz
    rw [Try.params3] at hval1 hA1 hsz1
    clear hval hA hsz
    obtain ⟨v0, d0, rfl, rfl, h0⟩ := trodAll_one hA1
    obtain ⟨a, b, A, n, c, xs, rfl, _, _, hr, hn, _⟩ := arg_grid Try.underlying24 (by kernel_rfl) (by kernel_rfl) Try.underlying2 Try.underlying2 Try.underlying22 Try.underlying2 (by kernel_rfl) (hval1 0 24 v0 rfl rfl) h0 (fun x hx => hlt x (by simp [hx]))
    exact lawSplitLimit a b A n c xs W hr hn
theorem holds_FnExactSplitLimit : Rows.FnExactSplitLimitSaid :=
  OpenClaim.holds_of_wide 3 Try.f3 rfl rfl rfl rfl rfl rfl rfl ⟨rfl, rfl, rfl, rfl, rfl⟩ rfl rfl rfl rfl rfl (by kernel_rfl) Try.func3 (by kernel_rfl)
    (of_decide_eq_true (by kernel_rfl)) (by unfold Func.isWrapper; first | (rw [if_pos (by decide +kernel)]; kernel_rfl) | (rw [if_neg (by decide +kernel)]; exact ⟨rfl, rfl⟩))
    (fun os started H enc _ => lifted_FnExactSplitLimit os started H enc)

end Go.Proofs.Ytkipaefhnmfebaa
