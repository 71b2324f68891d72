/-
  The text of a map, both sides.
-/
import Derived.Test.YtnhhbpdjapccpaaDoorDec
import Derived.Test.YtnhhbpdjapccpaaDoorC25I
import Derived.Test.YtnhhbpdjapccpaaDoorSlice
namespace Go.Proofs.YtnhhbpdjapccpaaDoor
set_option linter.unusedSimpArgs false
open Go.RowKit

/-- The text of a map. -/
def mtS (xs : List Int) : ByteArray := bif isMapB xs then bstr (decF xs 9) else ⟨#[]⟩
theorem TabOk.below {w w' : World} (h : TabOk w) (hb : Below w.heap.size w w') : TabOk w' := (Lib.tabBelow_of_tabIs h) w' hb
theorem map_in {xs : List Int} (h : isMapB xs = true) : ∀ x ∈ xs, -9223372036854775808 ≤ x ∧ x ≤ 9223372036854775807 := by
  intro x hx
  unfold isMapB at h
  simp only [Bool.and_eq_true] at h
  have := inAll_mem h.1.1 hx
  omega
theorem bstr_blank : (⟨#[32]⟩ : ByteArray) = bstr [32] := rfl
set_option maxHeartbeats 4000000 in
theorem MapText_any (m0 m1 m2 m3 m4 m5 m6 m7 m8 : Int) (w : World) (htab : TabOk w) :
    Calls Tryd.prog 7 #[.agg #[.int .i64 m0, .int .i64 m1, .int .i64 m2, .int .i64 m3, .int .i64 m4, .int .i64 m5, .int .i64 m6, .int .i64 m7, .int .i64 m8]] w fun e w' => e = .returned (.string (mtS [m0, m1, m2, m3, m4, m5, m6, m7, m8])) ∧ Below w.heap.size w w' := by
  have HM := Lib.hid (fun w => IsMap_any m0 m1 m2 m3 m4 m5 m6 m7 m8 w)
  have HE := Lib.hid (fun w => entries_any m0 m1 m2 m3 m4 m5 m6 m7 m8 w)
  have HT := Lib.hid htab
  unfold mtS
  cases hm : isMapB [m0, m1, m2, m3, m4, m5, m6, m7, m8]
  · rw [hm] at HM
    clear hm htab
    go_enter Tryd.func7, Tryd.ntmps7
    go_wp2_with (go_at_call 15; with_reducible refine (HM.out _).mono ?_; rintro e1 w1 ⟨rfl, hb1⟩; obtain ⟨hc1, hf1⟩ := bcell hb1; have hB1 : Below w.heap.size w w1 := (below_then (by first | (go_grown; done) | (repeat (first | (with_reducible assumption) | (with_reducible exact Below.refl _ _) | (with_reducible refine below_drewN' ?_ _) | (with_reducible refine Below.drew ?_) | ((with_reducible refine Below.alloc ?_ ?_ _); rotate_left; focus (first | (simp; done) | (simp; omega) | omega)) | ((with_reducible refine Below.setCell ?_ ?_ _); rotate_left; focus (first | (simp; done) | (simp; omega) | omega))))) (by first | omega | (simp; done) | (simp; omega)) hb1); have hz1a : w.heap.size < w1.heap.size := (by have := hb1.size; first | omega | (simp at this; omega)))
    go_ret
    exact ⟨rfl, by (repeat (first | (with_reducible assumption) | (with_reducible exact Below.refl _ _) | (with_reducible refine below_drewN' ?_ _) | (with_reducible refine Below.drew ?_) | ((with_reducible refine Below.alloc ?_ ?_ _); rotate_left; focus (first | (simp; done) | (simp; omega) | omega)) | ((with_reducible refine Below.setCell ?_ ?_ _); rotate_left; focus (first | (simp; done) | (simp; omega) | omega))))⟩
  · rw [hm] at HM
    have HX := Lib.hid (map_in hm)
    have HD := Lib.hid (fun (w' : World) (hb : Below w.heap.size w w') (A : Option Addr) (hr : RI w' w'.heap.size A 9 [m0, m1, m2, m3, m4, m5, m6, m7, m8]) => decimals_any A 9 9 [m0, m1, m2, m3, m4, m5, m6, m7, m8] w' _ hr (Nat.le_refl _) (by omega) (by omega) HX.out (HT.out.below hb))
    simp only [cond_true]
    generalize bstr (decF [m0, m1, m2, m3, m4, m5, m6, m7, m8] 9) = S at *
    clear hm htab
    go_enter Tryd.func7, Tryd.ntmps7
    go_upto_region 4 with first | (go_at_call 15; with_reducible refine (HM.out _).mono ?_; rintro e1 w1 ⟨rfl, hb1⟩; obtain ⟨hc1, hf1⟩ := bcell hb1; have hB1 : Below w.heap.size w w1 := (below_then (by first | (go_grown; done) | (repeat (first | (with_reducible assumption) | (with_reducible exact Below.refl _ _) | (with_reducible refine below_drewN' ?_ _) | (with_reducible refine Below.drew ?_) | ((with_reducible refine Below.alloc ?_ ?_ _); rotate_left; focus (first | (simp; done) | (simp; omega) | omega)) | ((with_reducible refine Below.setCell ?_ ?_ _); rotate_left; focus (first | (simp; done) | (simp; omega) | omega))))) (by first | omega | (simp; done) | (simp; omega)) hb1); have hz1a : w.heap.size < w1.heap.size := (by have := hb1.size; first | omega | (simp at this; omega))) | (go_at_call 19; with_reducible refine (HE.out _).mono ?_; rintro e2 w2 ⟨rfl, hb2⟩; obtain ⟨hc2, hf2⟩ := bcell hb2; have hB2 : Below w.heap.size w w2 := (below_then (by first | (go_grown; done) | (repeat (first | (with_reducible assumption) | (with_reducible exact Below.refl _ _) | (with_reducible refine below_drewN' ?_ _) | (with_reducible refine Below.drew ?_) | ((with_reducible refine Below.alloc ?_ ?_ _); rotate_left; focus (first | (simp; done) | (simp; omega) | omega)) | ((with_reducible refine Below.setCell ?_ ?_ _); rotate_left; focus (first | (simp; done) | (simp; omega) | omega))))) (by first | omega | (simp; done) | (simp; omega)) hb2); have hz2a : w.heap.size < w2.heap.size := (by have := hb2.size; first | omega | (simp at this; omega)))
    go_wp2_with fail
    have hrr : RI (w2.alloc (.cells #[.int .i64 m0, .int .i64 m1, .int .i64 m2, .int .i64 m3, .int .i64 m4, .int .i64 m5, .int .i64 m6, .int .i64 m7, .int .i64 m8] 44)) (w2.alloc (.cells #[.int .i64 m0, .int .i64 m1, .int .i64 m2, .int .i64 m3, .int .i64 m4, .int .i64 m5, .int .i64 m6, .int .i64 m7, .int .i64 m8] 44)).heap.size (some ⟨w2.heap.size, 0, none⟩) 9 [m0, m1, m2, m3, m4, m5, m6, m7, m8] := RI.made0 rfl rfl rfl
    have HD2 := HD.out _ (hB2.alloc (Nat.le_of_lt hz2a) _) _ hrr
    clear hrr
    go_at_call 20
    with_reducible refine HD2.mono ?_
    rintro e3 w3 ⟨rfl, hb3⟩
    go_wp2_with fail
    go_ret
    exact ⟨rfl, (hB2.alloc (Nat.le_of_lt hz2a) _).trans (hb3.mono (by rw [World.size_alloc]; omega))⟩
set_option maxHeartbeats 4000000 in
theorem sMapText_any (m0 m1 m2 m3 m4 m5 m6 m7 m8 : Int) (w : World) :
    Calls Tryd.prog 5 #[.agg #[.int .i64 m0, .int .i64 m1, .int .i64 m2, .int .i64 m3, .int .i64 m4, .int .i64 m5, .int .i64 m6, .int .i64 m7, .int .i64 m8]] w fun e w' => e = .returned (.string (mtS [m0, m1, m2, m3, m4, m5, m6, m7, m8])) ∧ Below w.heap.size w w' := by
  have HM := Lib.hid (fun w => sIsMap_any m0 m1 m2 m3 m4 m5 m6 m7 m8 w)
  have HE := Lib.hid (fun w => l25List_any m0 m1 m2 m3 m4 m5 m6 m7 m8 w)
  unfold mtS
  cases hm : isMapB [m0, m1, m2, m3, m4, m5, m6, m7, m8]
  · rw [hm] at HM
    clear hm
    go_enter Tryd.func5, Tryd.ntmps5
    go_wp2_with (go_at_call 16; with_reducible refine (HM.out _).mono ?_; rintro e1 w1 ⟨rfl, hb1⟩; obtain ⟨hc1, hf1⟩ := bcell hb1; have hB1 : Below w.heap.size w w1 := (below_then (by first | (go_grown; done) | (repeat (first | (with_reducible assumption) | (with_reducible exact Below.refl _ _) | (with_reducible refine below_drewN' ?_ _) | (with_reducible refine Below.drew ?_) | ((with_reducible refine Below.alloc ?_ ?_ _); rotate_left; focus (first | (simp; done) | (simp; omega) | omega)) | ((with_reducible refine Below.setCell ?_ ?_ _); rotate_left; focus (first | (simp; done) | (simp; omega) | omega))))) (by first | omega | (simp; done) | (simp; omega)) hb1); have hz1a : w.heap.size < w1.heap.size := (by have := hb1.size; first | omega | (simp at this; omega)))
    go_ret
    exact ⟨rfl, by (repeat (first | (with_reducible assumption) | (with_reducible exact Below.refl _ _) | (with_reducible refine below_drewN' ?_ _) | (with_reducible refine Below.drew ?_) | ((with_reducible refine Below.alloc ?_ ?_ _); rotate_left; focus (first | (simp; done) | (simp; omega) | omega)) | ((with_reducible refine Below.setCell ?_ ?_ _); rotate_left; focus (first | (simp; done) | (simp; omega) | omega))))⟩
  · rw [hm] at HM
    have HX := Lib.hid (map_in hm)
    have HY : Hid (∀ x ∈ [m0, m1, m2, m3, m4, m5, m6, m7, m8], -9223372036854775807 ≤ x ∧ x ≤ 9223372036854775807) := Lib.hid (fun x hx => by
      unfold isMapB at hm
      simp only [Bool.and_eq_true] at hm
      have := inAll_mem hm.1.1 hx
      omega)
    have HL : Hid (([m0, m1, m2, m3, m4, m5, m6, m7, m8] : List Int).length = 9) := Lib.hid rfl
    simp only [cond_true]
    clear hm
    generalize [m0, m1, m2, m3, m4, m5, m6, m7, m8] = xs at *
    go_enter Tryd.func5, Tryd.ntmps5
    go_upto_region 4 with first | (go_at_call 16; with_reducible refine (HM.out _).mono ?_; rintro e1 w1 ⟨rfl, hb1⟩; obtain ⟨hc1, hf1⟩ := bcell hb1; have hB1 : Below w.heap.size w w1 := (below_then (by first | (go_grown; done) | (repeat (first | (with_reducible assumption) | (with_reducible exact Below.refl _ _) | (with_reducible refine below_drewN' ?_ _) | (with_reducible refine Below.drew ?_) | ((with_reducible refine Below.alloc ?_ ?_ _); rotate_left; focus (first | (simp; done) | (simp; omega) | omega)) | ((with_reducible refine Below.setCell ?_ ?_ _); rotate_left; focus (first | (simp; done) | (simp; omega) | omega))))) (by first | omega | (simp; done) | (simp; omega)) hb1); have hz1a : w.heap.size < w1.heap.size := (by have := hb1.size; first | omega | (simp at this; omega))) | (go_at_call 17; with_reducible refine (HE.out _).mono ?_; rintro e2 w2 ⟨A, rfl, hr2, hb2⟩; obtain ⟨hc2, hf2⟩ := bcell hb2; have hB2 : Below w.heap.size w w2 := (below_then (by first | (go_grown; done) | (repeat (first | (with_reducible assumption) | (with_reducible exact Below.refl _ _) | (with_reducible refine below_drewN' ?_ _) | (with_reducible refine Below.drew ?_) | ((with_reducible refine Below.alloc ?_ ?_ _); rotate_left; focus (first | (simp; done) | (simp; omega) | omega)) | ((with_reducible refine Below.setCell ?_ ?_ _); rotate_left; focus (first | (simp; done) | (simp; omega) | omega))))) (by first | omega | (simp; done) | (simp; omega)) hb2); have hz2a : w.heap.size < w2.heap.size := (by have := hb2.size; first | omega | (simp at this; omega)))
    have HR2 := Lib.hid hr2
    have HB2 := Lib.hid hB2
    clear hr2 hb1 hc1 hf1 hB1 hb2 hc2 hf2 hB2 HM HE
    go_wp2_with fail
    go_loopw [4, 5] (fun out i wr => ∃ k : Nat, k ≤ 9 ∧ i = .int .i64 k ∧ out = .string (bstr (decF xs k)) ∧ Hid (Below w2.heap.size w2 wr)) (fun _ i _ => 9 - (intOf i).toNat)
    case atStart => exact ⟨0, by omega, rfl, rfl, Lib.hid (Below.refl _ _)⟩
    case round =>
      obtain ⟨k, hk, rfl, rfl, hbel⟩ := hrel
      by_cases hlt : k < 9
      · obtain ⟨b, o, rfl, hb, hc⟩ := (HR2.out.below hbel.out).cells (by omega)
        have hck := hc k hlt
        clear hc
        have hrg := HY.out (nth xs k) (nth_mem (by rw [HL.out]; exact hlt))
        have hrg' := HX.out (nth xs k) (nth_mem (by rw [HL.out]; exact hlt))
        have hle := decF_le HX.out (k := k) (by rw [HL.out]; exact hk)
        obtain ⟨x, hxx⟩ : ∃ x, nth xs k = x := ⟨_, rfl⟩
        have HS : Hid (decF xs (k + 1) = decF xs k ++ (if k = 0 then [] else [32]) ++ Lib.itoa x) := Lib.hid (by rw [decF, hxx])
        rw [hxx] at hck hrg hrg'
        have hil := Lib.itoa_length_le x hrg'.1 hrg'.2
        clear hxx
        have hki : (k : Int) < 9 := by omega
        have HI := Lib.hid (fun w => l25Signed_any x hrg.1 hrg.2 w)
        clear hrg hrg'
        have hbw := hbel.out
        have hns : ∀ D : List UInt8, D.length ≤ 1000 → ¬ 9223372036854775807 < (bstr D).size + (bstr (Lib.itoa x)).size := fun D hD => no_sum (by rw [bstr_size]; omega) (by rw [bstr_size]; omega)
        by_cases h0 : k = 0
        · have HS0 : Hid (decF xs (k + 1) = decF xs k ++ Lib.itoa x) := Lib.hid (by rw [HS.out, if_pos h0, List.append_nil])
          have hkz : ¬ (0 : Int) < k := by omega
          have hn1 := hns (decF xs k) (by omega)
          clear h0 HS hns
          go_wp2_with fail
          go_at_call 18
          with_reducible refine (HI.out _).mono ?_
          rintro e3 w3 ⟨rfl, hb3⟩
          go_wp2_with fail
          go_roundw
          case rel => exact ⟨k + 1, by omega, by go_num, by rw [HS0.out, ← bstr_append], Lib.hid (hbw.trans (hb3.mono hbw.size))⟩
          case measure => simp [intOf]; omega
        · have HS0 : Hid (decF xs (k + 1) = (decF xs k ++ [32]) ++ Lib.itoa x) := Lib.hid (by rw [HS.out, if_neg h0])
          have hkz : (0 : Int) < k := by omega
          have hn0 : ¬ 9223372036854775807 < (bstr (decF xs k)).size + (⟨#[32]⟩ : ByteArray).size := no_sum (by rw [bstr_size]; omega) (by decide)
          have hn1 : ¬ 9223372036854775807 < (bstr (decF xs k) ++ ⟨#[32]⟩).size + (bstr (Lib.itoa x)).size := by
            rw [bstr_blank, bstr_append]
            exact hns _ (by rw [List.length_append]; simp; omega)
          clear h0 HS hns
          go_wp2_with fail
          go_at_call 18
          with_reducible refine (HI.out _).mono ?_
          rintro e3 w3 ⟨rfl, hb3⟩
          go_wp2_with fail
          go_roundw
          case rel => exact ⟨k + 1, by omega, by go_num, by rw [HS0.out, ← bstr_append, ← bstr_append, ← bstr_blank], Lib.hid (hbw.trans (hb3.mono hbw.size))⟩
          case measure => simp [intOf]; omega
      · obtain rfl : k = 9 := by omega
        have hki : ¬ (((9 : Nat) : Int) < 9) := by omega
        go_wp2_with fail
        go_ret
        exact ⟨rfl, HB2.out.trans (hbel.out.mono HB2.out.size)⟩
end Go.Proofs.YtnhhbpdjapccpaaDoor
