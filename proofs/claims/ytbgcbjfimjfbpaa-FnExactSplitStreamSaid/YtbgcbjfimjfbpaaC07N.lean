/-
  Contracts of chapter 7: SplitStream. Printed by gen/c07n.py.
-/
import Derived.Test.YtbgcbjfimjfbpaaC07L
import Derived.Test.YtbgcbjfimjfbpaaSs
namespace Go.Proofs.Ytbgcbjfimjfbpaa
set_option linter.unusedSimpArgs false
open Go.RowKit

/-- How many words there are. -/
def ssK (p k g data chk cnt : Int) (n : Nat) (xs : List Int) : Nat := bif layB p k g data chk cnt && ssO p k (data.toNat + cnt.toNat * chk.toNat) n xs then cnt.toNat else 0

set_option maxHeartbeats 4000000 in
theorem SplitStream_any (p k g data chk cnt : Int) (A : Option Addr) (n cp : Nat) (xs : List Int) (w : World) (hr : RI w w.heap.size A n xs) (hn : n ≤ 2000000) :
    Calls Try.prog 37 #[.agg #[.int .i64 p, .int .i64 k, .int .i64 g, .int .i64 data, .int .i64 chk, .int .i64 cnt], .slice A n cp] w fun e w' =>
      ∃ v, e = .returned (.tuple #[v, .int .i64 (ssC p k g data chk cnt n xs)]) ∧ SpV w' w.heap.size v (ssK p k g data chk cnt n xs) (wdL data.toNat cnt.toNat chk.toNat xs) ∧ Below w.heap.size w w' := by
  have HSC := Lib.hid (fun w' (hb : Below w.heap.size w w') => streamCode_any p k g data chk cnt A n cp xs w' ((hr.below hb).more hb.size) hn)
  cases hok : layB p k g data chk cnt && ssO p k (data.toNat + cnt.toNat * chk.toNat) n xs
  · have hc : (ssC p k g data chk cnt n xs != 0) = true := by
      unfold ssC
      cases h1 : layB p k g data chk cnt
      · rfl
      · rw [h1, Bool.true_and] at hok; rw [hok]; rfl
    have HK : Hid (ssK p k g data chk cnt n xs = 0) := Lib.hid (by unfold ssK; rw [hok]; rfl)
    clear hok hr
    rw [HK.out]
    generalize ssC p k g data chk cnt n xs = K at *
    go_enter Try.func37, Try.ntmps37
    go_wp2_with (go_at_call 84; refine (HSC.out _ (by (repeat (first | (with_reducible assumption) | (with_reducible exact Below.refl _ _) | (with_reducible refine below_drewN' ?_ _) | (with_reducible refine Below.drew ?_) | ((with_reducible refine Below.alloc ?_ ?_ _); rotate_left; focus (first | (simp; done) | (simp; omega) | omega)) | ((with_reducible refine Below.setCell ?_ ?_ _); rotate_left; focus (first | (simp; done) | (simp; omega) | omega)))))).mono ?_; rintro e1 w1 ⟨rfl, hb1⟩; obtain ⟨hc1, hf1⟩ := bcell hb1; have hB1 : Below w.heap.size w w1 := (below_then (by first | (go_grown; done) | (repeat (first | (with_reducible assumption) | (with_reducible exact Below.refl _ _) | (with_reducible refine below_drewN' ?_ _) | (with_reducible refine Below.drew ?_) | ((with_reducible refine Below.alloc ?_ ?_ _); rotate_left; focus (first | (simp; done) | (simp; omega) | omega)) | ((with_reducible refine Below.setCell ?_ ?_ _); rotate_left; focus (first | (simp; done) | (simp; omega) | omega))))) (by first | omega | (simp; done) | (simp; omega)) hb1); have hz1a : w.heap.size < w1.heap.size := (by have := hb1.size; first | omega | (simp at this; omega)))
    go_returns
    exact ⟨_, rfl, .inl ⟨rfl, rfl⟩, by (repeat (first | (with_reducible assumption) | (with_reducible exact Below.refl _ _) | (with_reducible refine below_drewN' ?_ _) | (with_reducible refine Below.drew ?_) | ((with_reducible refine Below.alloc ?_ ?_ _); rotate_left; focus (first | (simp; done) | (simp; omega) | omega)) | ((with_reducible refine Below.setCell ?_ ?_ _); rotate_left; focus (first | (simp; done) | (simp; omega) | omega))))⟩
  · have HZ : Hid (ssC p k g data chk cnt n xs = 0) := Lib.hid (by
      rw [Bool.and_eq_true] at hok
      unfold ssC; rw [hok.1, hok.2]; rfl)
    have HK : Hid (ssK p k g data chk cnt n xs = cnt.toNat) := Lib.hid (by unfold ssK; rw [hok]; rfl)
    rw [Bool.and_eq_true] at hok
    obtain ⟨hl, ho⟩ := hok
    obtain ⟨D, C, H, rfl, rfl, rfl, hC, hC2, hCD, hD, hH0, hH, hN15, hfl⟩ := layB_true hl
    simp only [Int.toNat_natCast] at ho HK ⊢
    have hnN : n = D + C * H := by unfold ssO at ho; rw [Bool.and_eq_true] at ho; exact of_decide_eq_true ho.1
    have HSP := Lib.hid (fun w' (hb : Below w.heap.size w w') => split_any p k g D C H hC hC2 hCD hD hH0 hH A n cp xs w' ((hr.below hb).more hb.size) hnN)
    rw [HZ.out, HK.out]
    rw [HZ.out] at HSC
    clear hl ho hfl hnN hr
    go_enter Try.func37, Try.ntmps37
    go_wp2_with first | (go_at_call 84; refine (HSC.out _ (by (repeat (first | (with_reducible assumption) | (with_reducible exact Below.refl _ _) | (with_reducible refine below_drewN' ?_ _) | (with_reducible refine Below.drew ?_) | ((with_reducible refine Below.alloc ?_ ?_ _); rotate_left; focus (first | (simp; done) | (simp; omega) | omega)) | ((with_reducible refine Below.setCell ?_ ?_ _); rotate_left; focus (first | (simp; done) | (simp; omega) | omega)))))).mono ?_; rintro e1 w1 ⟨rfl, hb1⟩; obtain ⟨hc1, hf1⟩ := bcell hb1; have hB1 : Below w.heap.size w w1 := (below_then (by first | (go_grown; done) | (repeat (first | (with_reducible assumption) | (with_reducible exact Below.refl _ _) | (with_reducible refine below_drewN' ?_ _) | (with_reducible refine Below.drew ?_) | ((with_reducible refine Below.alloc ?_ ?_ _); rotate_left; focus (first | (simp; done) | (simp; omega) | omega)) | ((with_reducible refine Below.setCell ?_ ?_ _); rotate_left; focus (first | (simp; done) | (simp; omega) | omega))))) (by first | omega | (simp; done) | (simp; omega)) hb1); have hz1a : w.heap.size < w1.heap.size := (by have := hb1.size; first | omega | (simp at this; omega))) | ((go_at_call 81; refine (HSP.out _ (by (repeat (first | (with_reducible assumption) | (with_reducible exact Below.refl _ _) | (with_reducible refine below_drewN' ?_ _) | (with_reducible refine Below.drew ?_) | ((with_reducible refine Below.alloc ?_ ?_ _); rotate_left; focus (first | (simp; done) | (simp; omega) | omega)) | ((with_reducible refine Below.setCell ?_ ?_ _); rotate_left; focus (first | (simp; done) | (simp; omega) | omega)))))).mono ?_; rintro e2 w2 ⟨g0, rfl, hwd2, hb2⟩; have hB2 : Below w.heap.size w w2 := (below_then (by first | (go_grown; done) | (repeat (first | (with_reducible assumption) | (with_reducible exact Below.refl _ _) | (with_reducible refine below_drewN' ?_ _) | (with_reducible refine Below.drew ?_) | ((with_reducible refine Below.alloc ?_ ?_ _); rotate_left; focus (first | (simp; done) | (simp; omega) | omega)) | ((with_reducible refine Below.setCell ?_ ?_ _); rotate_left; focus (first | (simp; done) | (simp; omega) | omega))))) (by first | omega | (simp; done) | (simp; omega)) hb2); have hz2a : w.heap.size < w2.heap.size := (by have := hb2.size; first | omega | (simp at this; omega))); have HW2 := Lib.hid hwd2; clear hwd2)
    go_returns
    exact ⟨_, rfl, .inr ⟨_, _, hC, rfl, HW2.out.more (by have := hB1.size; omega)⟩, by (repeat (first | (with_reducible assumption) | (with_reducible exact Below.refl _ _) | (with_reducible refine below_drewN' ?_ _) | (with_reducible refine Below.drew ?_) | ((with_reducible refine Below.alloc ?_ ?_ _); rotate_left; focus (first | (simp; done) | (simp; omega) | omega)) | ((with_reducible refine Below.setCell ?_ ?_ _); rotate_left; focus (first | (simp; done) | (simp; omega) | omega))))⟩
set_option maxHeartbeats 4000000 in
theorem sSplitStream_any (p k g data chk cnt : Int) (A : Option Addr) (n cp : Nat) (xs : List Int) (w : World) (hr : RI w w.heap.size A n xs) (hn : n ≤ 2000000) :
    Calls Try.prog 36 #[.agg #[.int .i64 p, .int .i64 k, .int .i64 g, .int .i64 data, .int .i64 chk, .int .i64 cnt], .slice A n cp] w fun e w' =>
      ∃ v, e = .returned (.tuple #[v, .int .i64 (ssC p k g data chk cnt n xs)]) ∧ SpV w' w.heap.size v (ssK p k g data chk cnt n xs) (wdL data.toNat cnt.toNat chk.toNat xs) ∧ Below w.heap.size w w' := by
  have HSC := Lib.hid (fun w' (hb : Below w.heap.size w w') => l07Code_any p k g data chk cnt A n cp xs w' ((hr.below hb).more hb.size) hn)
  cases hok : layB p k g data chk cnt && ssO p k (data.toNat + cnt.toNat * chk.toNat) n xs
  · have hc : (ssC p k g data chk cnt n xs != 0) = true := by
      unfold ssC
      cases h1 : layB p k g data chk cnt
      · rfl
      · rw [h1, Bool.true_and] at hok; rw [hok]; rfl
    have HK : Hid (ssK p k g data chk cnt n xs = 0) := Lib.hid (by unfold ssK; rw [hok]; rfl)
    clear hok hr
    rw [HK.out]
    generalize ssC p k g data chk cnt n xs = K at *
    go_enter Try.func36, Try.ntmps36
    go_wp2_with (go_at_call 82; refine (HSC.out _ (by (repeat (first | (with_reducible assumption) | (with_reducible exact Below.refl _ _) | (with_reducible refine below_drewN' ?_ _) | (with_reducible refine Below.drew ?_) | ((with_reducible refine Below.alloc ?_ ?_ _); rotate_left; focus (first | (simp; done) | (simp; omega) | omega)) | ((with_reducible refine Below.setCell ?_ ?_ _); rotate_left; focus (first | (simp; done) | (simp; omega) | omega)))))).mono ?_; rintro e1 w1 ⟨rfl, hb1⟩; obtain ⟨hc1, hf1⟩ := bcell hb1; have hB1 : Below w.heap.size w w1 := (below_then (by first | (go_grown; done) | (repeat (first | (with_reducible assumption) | (with_reducible exact Below.refl _ _) | (with_reducible refine below_drewN' ?_ _) | (with_reducible refine Below.drew ?_) | ((with_reducible refine Below.alloc ?_ ?_ _); rotate_left; focus (first | (simp; done) | (simp; omega) | omega)) | ((with_reducible refine Below.setCell ?_ ?_ _); rotate_left; focus (first | (simp; done) | (simp; omega) | omega))))) (by first | omega | (simp; done) | (simp; omega)) hb1); have hz1a : w.heap.size < w1.heap.size := (by have := hb1.size; first | omega | (simp at this; omega)))
    go_returns
    exact ⟨_, rfl, .inl ⟨rfl, rfl⟩, by (repeat (first | (with_reducible assumption) | (with_reducible exact Below.refl _ _) | (with_reducible refine below_drewN' ?_ _) | (with_reducible refine Below.drew ?_) | ((with_reducible refine Below.alloc ?_ ?_ _); rotate_left; focus (first | (simp; done) | (simp; omega) | omega)) | ((with_reducible refine Below.setCell ?_ ?_ _); rotate_left; focus (first | (simp; done) | (simp; omega) | omega))))⟩
  · have HZ : Hid (ssC p k g data chk cnt n xs = 0) := Lib.hid (by
      rw [Bool.and_eq_true] at hok
      unfold ssC; rw [hok.1, hok.2]; rfl)
    have HK : Hid (ssK p k g data chk cnt n xs = cnt.toNat) := Lib.hid (by unfold ssK; rw [hok]; rfl)
    rw [Bool.and_eq_true] at hok
    obtain ⟨hl, ho⟩ := hok
    obtain ⟨D, C, H, rfl, rfl, rfl, hC, hC2, hCD, hD, hH0, hH, hN15, hfl⟩ := layB_true hl
    simp only [Int.toNat_natCast] at ho HK ⊢
    have hnN : n = D + C * H := by unfold ssO at ho; rw [Bool.and_eq_true] at ho; exact of_decide_eq_true ho.1
    have HSP := Lib.hid (fun w' (hb : Below w.heap.size w w') => l07Words_any p k g D C H hC hC2 hD hH A n cp xs w' ((hr.below hb).more hb.size) hnN)
    rw [HZ.out, HK.out]
    rw [HZ.out] at HSC
    clear hl ho hfl hnN hr
    go_enter Try.func36, Try.ntmps36
    go_wp2_with first | (go_at_call 82; refine (HSC.out _ (by (repeat (first | (with_reducible assumption) | (with_reducible exact Below.refl _ _) | (with_reducible refine below_drewN' ?_ _) | (with_reducible refine Below.drew ?_) | ((with_reducible refine Below.alloc ?_ ?_ _); rotate_left; focus (first | (simp; done) | (simp; omega) | omega)) | ((with_reducible refine Below.setCell ?_ ?_ _); rotate_left; focus (first | (simp; done) | (simp; omega) | omega)))))).mono ?_; rintro e1 w1 ⟨rfl, hb1⟩; obtain ⟨hc1, hf1⟩ := bcell hb1; have hB1 : Below w.heap.size w w1 := (below_then (by first | (go_grown; done) | (repeat (first | (with_reducible assumption) | (with_reducible exact Below.refl _ _) | (with_reducible refine below_drewN' ?_ _) | (with_reducible refine Below.drew ?_) | ((with_reducible refine Below.alloc ?_ ?_ _); rotate_left; focus (first | (simp; done) | (simp; omega) | omega)) | ((with_reducible refine Below.setCell ?_ ?_ _); rotate_left; focus (first | (simp; done) | (simp; omega) | omega))))) (by first | omega | (simp; done) | (simp; omega)) hb1); have hz1a : w.heap.size < w1.heap.size := (by have := hb1.size; first | omega | (simp at this; omega))) | ((go_at_call 83; refine (HSP.out _ (by (repeat (first | (with_reducible assumption) | (with_reducible exact Below.refl _ _) | (with_reducible refine below_drewN' ?_ _) | (with_reducible refine Below.drew ?_) | ((with_reducible refine Below.alloc ?_ ?_ _); rotate_left; focus (first | (simp; done) | (simp; omega) | omega)) | ((with_reducible refine Below.setCell ?_ ?_ _); rotate_left; focus (first | (simp; done) | (simp; omega) | omega)))))).mono ?_; rintro e2 w2 ⟨g0, c0, rfl, hwd2, hb2⟩; have hB2 : Below w.heap.size w w2 := (below_then (by first | (go_grown; done) | (repeat (first | (with_reducible assumption) | (with_reducible exact Below.refl _ _) | (with_reducible refine below_drewN' ?_ _) | (with_reducible refine Below.drew ?_) | ((with_reducible refine Below.alloc ?_ ?_ _); rotate_left; focus (first | (simp; done) | (simp; omega) | omega)) | ((with_reducible refine Below.setCell ?_ ?_ _); rotate_left; focus (first | (simp; done) | (simp; omega) | omega))))) (by first | omega | (simp; done) | (simp; omega)) hb2); have hz2a : w.heap.size < w2.heap.size := (by have := hb2.size; first | omega | (simp at this; omega))); have HW2 := Lib.hid hwd2; clear hwd2)
    go_returns
    exact ⟨_, rfl, .inr ⟨_, _, hC, rfl, HW2.out.more (by have := hB1.size; omega)⟩, by (repeat (first | (with_reducible assumption) | (with_reducible exact Below.refl _ _) | (with_reducible refine below_drewN' ?_ _) | (with_reducible refine Below.drew ?_) | ((with_reducible refine Below.alloc ?_ ?_ _); rotate_left; focus (first | (simp; done) | (simp; omega) | omega)) | ((with_reducible refine Below.setCell ?_ ?_ _); rotate_left; focus (first | (simp; done) | (simp; omega) | omega))))⟩
end Go.Proofs.Ytbgcbjfimjfbpaa
