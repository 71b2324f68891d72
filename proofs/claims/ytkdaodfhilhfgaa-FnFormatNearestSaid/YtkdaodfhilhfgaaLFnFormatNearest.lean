/-
  The row FnFormatNearest: a format word with fewer errors than half of the minimum distance is read as its number; no condition.
-/
import Derived.Test.YtkdaodfhilhfgaaArgB
import Derived.Test.YtkdaodfhilhfgaaC08V
import Derived.Test.YtkdaodfhilhfgaaC08Z
import Derived.Test.YtkdaodfhilhfgaaLFormatShare
namespace Go.Proofs.Ytkdaodfhilhfgaa
set_option linter.unusedSimpArgs false
open Go.ChangeShapes Go.WideShapes Go.ChangeAt Go.RowKit

theorem nfC_no {d l p : Int} {xs : List Int} (h : fcodeB d l p = false) : nfC d l p xs = 1 ∧ nfV d l p xs = 0 ∧ nfD d l p xs = 0 := by
  unfold nfC nfV nfD; simp [h]
theorem nfC_yes {d l p : Int} {xs : List Int} (h : fcodeB d l p = true) : nfC d l p xs ≠ 1 := by
  unfold nfC; simp only [h, if_true]; split
  · split <;> decide
  · decide
set_option maxHeartbeats 4000000 in
theorem lawFnFormatNearest (A : Option Addr) (n c : Nat) (bs : List Int) (w : World) (hr : RB w w.heap.size A n bs) :
    Calls Try.prog 10 #[.slice A n c] w fun e' w' => e' = .returned (.bool true) ∧ Below w.heap.size w w' := by
  have HR := Lib.hid hr
  clear hr
  by_cases hbig : 4096 < n
  · have hbd : decide (4096 < n) = true := decide_eq_true hbig
    go_enter Try.func10, Try.ntmps10
    go_wp2_with (go_at_call 26; go_call (big_any _ _ _ _) as e0 w0 ⟨rfl, hb0⟩; obtain ⟨hc0, hf0⟩ := bcell hb0; have hB0 : Below w.heap.size w w0 := (below_then (by first | (go_grown; done) | (repeat (first | (with_reducible assumption) | (with_reducible exact Below.refl _ _) | (with_reducible refine below_drewN' ?_ _) | (with_reducible refine Below.drew ?_) | ((with_reducible refine Below.alloc ?_ ?_ _); rotate_left; focus (first | (simp; done) | (simp; omega) | omega)) | ((with_reducible refine Below.setCell ?_ ?_ _); rotate_left; focus (first | (simp; done) | (simp; omega) | omega))))) (by first | omega | (simp; done) | (simp; omega)) hb0))
    go_ret
    exact ⟨rfl, by (repeat (first | (with_reducible assumption) | (with_reducible exact Below.refl _ _) | (with_reducible refine below_drewN' ?_ _) | (with_reducible refine Below.drew ?_) | ((with_reducible refine Below.alloc ?_ ?_ _); rotate_left; focus (first | (simp; done) | (simp; omega) | omega)) | ((with_reducible refine Below.setCell ?_ ?_ _); rotate_left; focus (first | (simp; done) | (simp; omega) | omega))))⟩
  · have hbd : decide (4096 < n) = false := decide_eq_false hbig
    have HD := Lib.hid (fun (w' : World) (hb : Below w.heap.size w w') => DrawNearestFormat_any A n c bs w.heap.size w' (HR.out.below hb) hb.size (by omega))
    go_enter Try.func10, Try.ntmps10
    go_wp2_with first | (go_at_call 26; go_call (big_any _ _ _ _) as e0 w0 ⟨rfl, hb0⟩; obtain ⟨hc0, hf0⟩ := bcell hb0; have hB0 : Below w.heap.size w w0 := (below_then (by first | (go_grown; done) | (repeat (first | (with_reducible assumption) | (with_reducible exact Below.refl _ _) | (with_reducible refine below_drewN' ?_ _) | (with_reducible refine Below.drew ?_) | ((with_reducible refine Below.alloc ?_ ?_ _); rotate_left; focus (first | (simp; done) | (simp; omega) | omega)) | ((with_reducible refine Below.setCell ?_ ?_ _); rotate_left; focus (first | (simp; done) | (simp; omega) | omega))))) (by first | omega | (simp; done) | (simp; omega)) hb0))
    have hw0 := hB0.size
    (go_at_call 36; go_call (HD.out _ hB0) as e1 w1 ⟨u1, rfl, ⟨d, l, p, v1, xs, rfl, hfr, hx, ho1⟩, hb1⟩; obtain ⟨hc1, hf1⟩ := bcell hb1; have hB1 : Below w.heap.size w w1 := (below_then (by first | (go_grown; done) | (repeat (first | (with_reducible assumption) | (with_reducible exact Below.refl _ _) | (with_reducible refine below_drewN' ?_ _) | (with_reducible refine Below.drew ?_) | ((with_reducible refine Below.alloc ?_ ?_ _); rotate_left; focus (first | (simp; done) | (simp; omega) | omega)) | ((with_reducible refine Below.setCell ?_ ?_ _); rotate_left; focus (first | (simp; done) | (simp; omega) | omega))))) (by first | omega | (simp; done) | (simp; omega)) hb1))
    obtain ⟨A1, c1, rfl, hr1⟩ := ho1.shape
    have hL := hfr.l
    have n1 := fun (w : World) (B : Nat) (hr : RI w B A1 xs.length xs) (hB : B ≤ w.heap.size) => NearestFormat_any d l p A1 _ c1 xs w B hr hB (by omega) hL
    have n2 := fun (w : World) (B : Nat) (hr : RI w B A1 xs.length xs) (hB : B ≤ w.heap.size) => sNearestFormat_any d l p A1 _ c1 xs w B hr hB (by omega) hL
    have HX := Lib.hid (hr1.alloc (Nat.le_refl _) (.cells #[.int .i64 d, .int .i64 l, .int .i64 p] 27))
    have hs1 : w1.heap.size ≤ (w1.alloc (.cells #[.int .i64 d, .int .i64 l, .int .i64 p] 27)).heap.size := by simp
    have HS1 := Lib.hid hs1
    have hw1 := hB1.size
    have HLx := Lib.hid hx
    clear hs1 hr1 ho1 hc0 hf0 hc1 hf1 hfr hx
    cases hc : fcodeB d l p
    · obtain ⟨e1, e2, e3⟩ := nfC_no (xs := xs) hc
      rw [e1, e2, e3] at n1 n2
      have N1 := Lib.hid n1
      have N2 := Lib.hid n2
      clear n1 n2 e1 e2 e3
      go_wp2_with fail
      (go_at_call 23; go_call (N1.out _ _ HX.out HS1.out) as e2 w2 ⟨rfl, hb2⟩; obtain ⟨hc2, hf2⟩ := bcell hb2; have hB2 : Below w.heap.size w w2 := (below_then (by first | (go_grown; done) | (repeat (first | (with_reducible assumption) | (with_reducible exact Below.refl _ _) | (with_reducible refine below_drewN' ?_ _) | (with_reducible refine Below.drew ?_) | ((with_reducible refine Below.alloc ?_ ?_ _); rotate_left; focus (first | (simp; done) | (simp; omega) | omega)) | ((with_reducible refine Below.setCell ?_ ?_ _); rotate_left; focus (first | (simp; done) | (simp; omega) | omega))))) (by first | omega | (simp; done) | (simp; omega)) hb2); have hz2a : w.heap.size < w2.heap.size := (by have := hb2.size; first | omega | (simp at this; omega)); have hz2b : w1.heap.size < w2.heap.size := (by have := hb2.size; first | omega | (simp at this; omega)))
      go_wp2_with fail
      (go_at_call 21; go_call (N2.out _ _ (HX.out.below (hb2.mono HS1.out)) (Nat.le_trans HS1.out hb2.size)) as e3 w3 ⟨rfl, hb3⟩; obtain ⟨hc3, hf3⟩ := bcell hb3; have hB3 : Below w.heap.size w w3 := (below_then (by first | (go_grown; done) | (repeat (first | (with_reducible assumption) | (with_reducible exact Below.refl _ _) | (with_reducible refine below_drewN' ?_ _) | (with_reducible refine Below.drew ?_) | ((with_reducible refine Below.alloc ?_ ?_ _); rotate_left; focus (first | (simp; done) | (simp; omega) | omega)) | ((with_reducible refine Below.setCell ?_ ?_ _); rotate_left; focus (first | (simp; done) | (simp; omega) | omega))))) (by first | omega | (simp; done) | (simp; omega)) hb3); have hz3a : w.heap.size < w3.heap.size := (by have := hb3.size; first | omega | (simp at this; omega)); have hz3b : w1.heap.size < w3.heap.size := (by have := hb3.size; first | omega | (simp at this; omega)))
      go_wp2_with fail
      go_ret
      exact ⟨rfl, by (repeat (first | (with_reducible assumption) | (with_reducible exact Below.refl _ _) | (with_reducible refine below_drewN' ?_ _) | (with_reducible refine Below.drew ?_) | ((with_reducible refine Below.alloc ?_ ?_ _); rotate_left; focus (first | (simp; done) | (simp; omega) | omega)) | ((with_reducible refine Below.setCell ?_ ?_ _); rotate_left; focus (first | (simp; done) | (simp; omega) | omega))))⟩
    · have hC1 := nfC_yes (xs := xs) hc
      obtain ⟨D, k, P, rfl, rfl, rfl, hD0, hD, hk0, hk, hDk, hp⟩ := fcodeB_true hc
      generalize nfV D ((D : Int) + k) P xs = V at n1 n2
      generalize nfD D ((D : Int) + k) P xs = Dd at n1 n2
      generalize nfC D ((D : Int) + k) P xs = C at hC1 n1 n2
      have N1 := Lib.hid n1
      have N2 := Lib.hid n2
      have h1 : (V != V) = false := by simp
      have h3 : (C != C) = false := by simp
      have h4 : (Dd != Dd) = false := by simp
      have hC1' : (C == 1) = false := by simpa using hC1
      clear n1 n2 hC1
      go_wp2_with fail
      (go_at_call 23; go_call (N1.out _ _ HX.out HS1.out) as e2 w2 ⟨rfl, hb2⟩; obtain ⟨hc2, hf2⟩ := bcell hb2; have hB2 : Below w.heap.size w w2 := (below_then (by first | (go_grown; done) | (repeat (first | (with_reducible assumption) | (with_reducible exact Below.refl _ _) | (with_reducible refine below_drewN' ?_ _) | (with_reducible refine Below.drew ?_) | ((with_reducible refine Below.alloc ?_ ?_ _); rotate_left; focus (first | (simp; done) | (simp; omega) | omega)) | ((with_reducible refine Below.setCell ?_ ?_ _); rotate_left; focus (first | (simp; done) | (simp; omega) | omega))))) (by first | omega | (simp; done) | (simp; omega)) hb2); have hz2a : w.heap.size < w2.heap.size := (by have := hb2.size; first | omega | (simp at this; omega)); have hz2b : w1.heap.size < w2.heap.size := (by have := hb2.size; first | omega | (simp at this; omega)))
      go_wp2_with fail
      (go_at_call 21; go_call (N2.out _ _ (HX.out.below (hb2.mono HS1.out)) (Nat.le_trans HS1.out hb2.size)) as e3 w3 ⟨rfl, hb3⟩; obtain ⟨hc3, hf3⟩ := bcell hb3; have hB3 : Below w.heap.size w w3 := (below_then (by first | (go_grown; done) | (repeat (first | (with_reducible assumption) | (with_reducible exact Below.refl _ _) | (with_reducible refine below_drewN' ?_ _) | (with_reducible refine Below.drew ?_) | ((with_reducible refine Below.alloc ?_ ?_ _); rotate_left; focus (first | (simp; done) | (simp; omega) | omega)) | ((with_reducible refine Below.setCell ?_ ?_ _); rotate_left; focus (first | (simp; done) | (simp; omega) | omega))))) (by first | omega | (simp; done) | (simp; omega)) hb3); have hz3a : w.heap.size < w3.heap.size := (by have := hb3.size; first | omega | (simp at this; omega)); have hz3b : w1.heap.size < w3.heap.size := (by have := hb3.size; first | omega | (simp at this; omega)))
      by_cases hC2 : C = 2
      · have hC2' : (C == 2) = true := by simpa using hC2
        go_wp2_with fail
        go_ret
        exact ⟨rfl, by (repeat (first | (with_reducible assumption) | (with_reducible exact Below.refl _ _) | (with_reducible refine below_drewN' ?_ _) | (with_reducible refine Below.drew ?_) | ((with_reducible refine Below.alloc ?_ ?_ _); rotate_left; focus (first | (simp; done) | (simp; omega) | omega)) | ((with_reducible refine Below.setCell ?_ ?_ _); rotate_left; focus (first | (simp; done) | (simp; omega) | omega))))⟩
      · have hC2' : (C == 2) = false := by simpa using hC2
        obtain ⟨f1, f2⟩ := fd_yes hc
        have HF := Lib.hid (fun w => sFormatDistance_any D ((D : Int) + k) P w hL)
        rw [f1, f2] at HF
        obtain ⟨M, hM⟩ : ∃ M, minD D (D + k) P (2 ^ D) = M := ⟨_, rfl⟩
        rw [hM] at HF
        have hp' : polyOk P (D + k - D) := by rw [show D + k - D = k by omega]; exact hp
        have hM1 : 1 ≤ M := by rw [← hM]; exact minD_pos (by omega) (by omega) hp' (Nat.le_refl _)
        have hM2 : M ≤ D + k := by rw [← hM]; exact minD_le _ _ _ _
        have HM := Lib.hid hM
        have HPo := Lib.hid hp
        have HC := Lib.hid hc
        have h2D : (2 : Int) ^ D ≤ 256 ∧ (1 : Int) ≤ 2 ^ D := by
          have e1 : 2 ^ D ≤ 2 ^ 8 := Nat.pow_le_pow_right (by decide) hD
          have e2 := Nat.two_pow_pos D
          have e3 : ((2 ^ D : Nat) : Int) = (2 : Int) ^ D := by simp
          omega
        clear f1 f2 hM hp hp' hc N1 N2
        have hg3 := Lib.hid (blk_below (blk_below (heap_alloc_new w1 (.cells #[.int .i64 (D : Int), .int .i64 ((D : Int) + k), .int .i64 (P : Int)] 27)) hb2 (by simp)) hb3 (by omega))
        go_wp2_with fail
        clear hC1' hC2' hC2 h1 h3 h4
        (go_at_call 17; with_reducible refine (HF.out _).mono ?_; rintro e4 w4 ⟨rfl, hb4⟩; obtain ⟨hc4, hf4⟩ := bcell hb4; have hB4 : Below w.heap.size w w4 := (below_then (by first | (go_grown; done) | (repeat (first | (with_reducible assumption) | (with_reducible exact Below.refl _ _) | (with_reducible refine below_drewN' ?_ _) | (with_reducible refine Below.drew ?_) | ((with_reducible refine Below.alloc ?_ ?_ _); rotate_left; focus (first | (simp; done) | (simp; omega) | omega)) | ((with_reducible refine Below.setCell ?_ ?_ _); rotate_left; focus (first | (simp; done) | (simp; omega) | omega))))) (by first | omega | (simp; done) | (simp; omega)) hb4); have hz4a : w.heap.size < w4.heap.size := (by have := hb4.size; first | omega | (simp at this; omega)); have hz4b : w1.heap.size < w4.heap.size := (by have := hb4.size; first | omega | (simp at this; omega)))
        have hg4 := Lib.hid (blk_below hg3.out hb4 (by omega))
        obtain ⟨y0, y1, y2, -⟩ := blk3 hg4.out
        clear hc2 hf2 hc3 hf3 hc4 hf4
        go_wp2_with fail
        have hsh : IntKind.i64.wrap (2 ^ min (IntKind.u64.wrap (D : Int)).toNat 64) = 2 ^ D := by
          rw [show IntKind.u64.wrap (D : Int) = (D : Int) by rw [IntKind.wrap_u64]; omega, show min ((D : Int)).toNat 64 = D by omega]
          rw [IntKind.wrap_i64]; omega
        go_region_held3 (fun w' => w'.cell? ⟨w1.heap.size, 0, none⟩ = some (.int .i64 (D : Int)))
          (first | (exact hx6) | (exact y0) | (exact (hc5 _ _ (by first | omega | (simp; omega))).trans y0) | go_keep)
          (first
            | ((go_at_call 31; go_call (roll_any A n c bs 803 _ w.heap.size (HR.out.below (by (repeat (first | (with_reducible assumption) | (with_reducible exact Below.refl _ _) | (with_reducible refine below_drewN' ?_ _) | (with_reducible refine Below.drew ?_) | ((with_reducible refine Below.alloc ?_ ?_ _); rotate_left; focus (first | (simp; done) | (simp; omega) | omega)) | ((with_reducible refine Below.setCell ?_ ?_ _); rotate_left; focus (first | (simp; done) | (simp; omega) | omega)))))) (by first | omega | (simp; omega)) (by omega) (by omega) (by omega)) as e5 w5 ⟨rfl, hdw, hb5⟩; obtain ⟨hc5, hf5⟩ := bcell hb5; have hB5 : Below w.heap.size w w5 := (below_then (by first | (go_grown; done) | (repeat (first | (with_reducible assumption) | (with_reducible exact Below.refl _ _) | (with_reducible refine below_drewN' ?_ _) | (with_reducible refine Below.drew ?_) | ((with_reducible refine Below.alloc ?_ ?_ _); rotate_left; focus (first | (simp; done) | (simp; omega) | omega)) | ((with_reducible refine Below.setCell ?_ ?_ _); rotate_left; focus (first | (simp; done) | (simp; omega) | omega))))) (by first | omega | (simp; done) | (simp; omega)) hb5); have hz5a : w.heap.size < w5.heap.size := (by have := hb5.size; first | omega | (simp at this; omega)); have hz5b : w1.heap.size < w5.heap.size := (by have := hb5.size; first | omega | (simp at this; omega))))
            | (go_at_call 32; with_reducible refine (dice_below_any w4.heap.size A n c bs (2 ^ D) _ w.heap.size (by simpa using hdw) (HR.out.below hB5) (by first | omega | (simp; omega)) (by omega) h2D.2 (by omega)).mono ?_; rintro e6 w6 ⟨V6, rfl, hv0, hv1, -, hg6⟩; have hx6 : w6.cell? ⟨w1.heap.size, 0, none⟩ = some (.int .i64 (D : Int)) := (World.cell?_of_block (hg6.block w1.heap.size (by have := hb5.size; simp at this; omega) (by simp; omega))).trans ((hc5 _ _ (by first | omega | (simp; omega))).trans (by simpa using y0))))
        have hs5 : w4.heap.size ≤ w5.heap.size := hb5.size
        have hB6 : Below w.heap.size w w6 := hB5.grown hg6 (by omega) (fun q hq => by have : w4.heap.size = q := by simpa using hq
                                                                                      omega)
        have hs6 := hg6.size
        have hg6b := Lib.hid ((hg6.block w1.heap.size (by omega) (by simp; omega)).trans (blk_below (w := w4.drew) hg4.out hb5 (by simp; omega)))
        obtain ⟨Vn, rfl⟩ := Int.eq_ofNat_of_zero_le hv0
        have hVn : Vn < 2 ^ D := by
          have e3 : ((2 ^ D : Nat) : Int) = (2 : Int) ^ D := by simp
          omega
        have hin : inR (Vn : Int) 0 (2 ^ D - 1) = true := by
          have e3 : ((2 ^ D : Nat) : Int) = (2 : Int) ^ D := by simp
          unfold inR; simp; omega
        obtain ⟨q1, q2⟩ := fw_yes HC.out hin
        have HW := Lib.hid (fun w => sFormatWord_any D ((D : Int) + k) P Vn w hL)
        rw [q1, q2] at HW
        have HVn := Lib.hid hVn
        have hV8 : (Vn : Int) ≤ 256 := by omega
        clear q1 q2 hin hVn hc5 hf5 y0 y1 y2 hdw hv0 hv1
        obtain ⟨y0, y1, y2, -⟩ := blk3 hg6b.out
        go_wp2_with fail
        (go_at_call 11; with_reducible refine (HW.out _).mono ?_; rintro e7 w7 ⟨v7, rfl, ho7, hb7⟩; obtain ⟨hc7, hf7⟩ := bcell hb7; have hB7 : Below w.heap.size w w7 := (below_then (by first | (go_grown; done) | (repeat (first | (with_reducible assumption) | (with_reducible exact Below.refl _ _) | (with_reducible refine below_drewN' ?_ _) | (with_reducible refine Below.drew ?_) | ((with_reducible refine Below.alloc ?_ ?_ _); rotate_left; focus (first | (simp; done) | (simp; omega) | omega)) | ((with_reducible refine Below.setCell ?_ ?_ _); rotate_left; focus (first | (simp; done) | (simp; omega) | omega))))) (by first | omega | (simp; done) | (simp; omega)) hb7); have hz7a : w.heap.size < w7.heap.size := (by have := hb7.size; first | omega | (simp at this; omega)); have hz7b : w1.heap.size < w7.heap.size := (by have := hb7.size; first | omega | (simp at this; omega)))
        have hg7 := Lib.hid (blk_below hg6b.out hb7 (by omega))
        have hlen : (bitsL (D + k) (fword D (D + k) P Vn)).length = D + k := bitsL_len _ _
        obtain ⟨g, cap, rfl, hgB, hgw, -, -⟩ := ho7.row (by omega)
        rw [hlen] at ho7 ⊢
        have HO7 := Lib.hid ho7
        have HLn := Lib.hid hlen
        clear hlen ho7 hc7 hf7 y0 y1 y2
        generalize hWL : bitsL (D + k) (fword D (D + k) P Vn) = wl at HO7 HLn
        have HWL := Lib.hid hWL
        clear hWL
        have hwl01 := Lib.hid (fun (x : Int) (hx : x ∈ wl) => bitsL_01 (w := D + k) (v := fword D (D + k) P Vn) (by rw [HWL.out]; exact hx))
        go_wp2_with fail
        go_loopw [16] (fun q wr => ∃ m : Nat, q = .int .i64 m ∧ 2 * m < M ∧ Hid (Own wr w6.heap.size (.slice (some ⟨g, 0, none⟩) (D + k) cap) (flipL m wl)) ∧ Hid (Below w.heap.size w wr) ∧ Hid (wr.heap[w1.heap.size]? = some (.cells #[.int .i64 (D : Int), .int .i64 ((D : Int) + (k : Int)), .int .i64 (P : Int)] 27 (0, 0))))
          (fun q _ => M - (intOf q).toNat)
        case atStart => exact ⟨0, rfl, by omega, HO7, hB7, hg7⟩
        case round =>
          obtain ⟨m, rfl, hm, hown, hbel, hgr⟩ := hrel
          have hfl : (flipL m wl).length = D + k := by rw [flip_len]; exact HLn.out
          have HFL := Lib.hid hfl
          clear hfl
          have hwr := hbel.out.size
          have hgwr : g < wr.heap.size := (World.ownsRow.lt hown.out g rfl).2
          by_cases hlt : 2 * (m + 1) < M
          · obtain ⟨g', c', e', hB', hg', hc', hf'⟩ := hown.out.row (by rw [HFL.out]; omega)
            obtain ⟨rfl, rfl⟩ : g = g' ∧ cap = c' := by
              simp only [Value.slice.injEq, Option.some.injEq, Addr.mk.injEq, and_true] at e'
              exact ⟨e'.1, e'.2.2⟩
            have hck := hc' m (by rw [HFL.out]; omega)
            have hfk := hf' m
            have hset := Lib.hid (Own.setn HFL.out hown.out (k := m) (u := 1 - nth (flipL m wl) m))
            have hfs := Lib.hid (flip_set (m := m) (xs := wl) (by rw [HLn.out]; omega))
            have h01 := hwl01.out _ (nth_mem (xs := wl) (k := m) (by rw [HLn.out]; omega))
            rw [← flip_nth] at h01
            generalize nth (flipL m wl) m = x at hck hset hfs h01
            clear hc' hf' e' hB'
            go_wp2_with fail
            go_roundw
            case rel => exact ⟨m + 1, by go_num, by omega, Lib.hid (by rw [← hfs.out]; exact hset.out), Lib.hid (hbel.out.setCell (p := ⟨g, m, none⟩) (show w.heap.size ≤ g by omega) _), Lib.hid (blk_other hgr.out (by omega))⟩
            case measure => simp [intOf]; omega
          · have hq : ((M : Int) - 1).tdiv 2 = m := by rw [Int.tdiv_eq_ediv_of_nonneg (by omega)]; omega
            obtain ⟨t1, t2, t3, t4, t5⟩ := near_told hD0 hD hk0 hDk HPo.out HVn.out (m := m) (by rw [HM.out]; exact hm)
            rw [HWL.out] at t1 t2 t3 t4 t5
            obtain ⟨A', c', e', hri⟩ := hown.out.shape
            simp only [Value.slice.injEq] at e'
            obtain ⟨rfl, -, rfl⟩ := e'
            rw [HFL.out] at hri
            have N3 := Lib.hid (fun (w : World) (B : Nat) (hr : RI w B (some ⟨g, 0, none⟩) (D + k) (flipL m wl)) (hB : B ≤ w.heap.size) => NearestFormat_any D ((D : Int) + k) P _ (D + k) cap (flipL m wl) w B hr hB (by omega) hL)
            have N4 := Lib.hid (fun (w : World) (B : Nat) (hr : RI w B (some ⟨g, 0, none⟩) (D + k) (flipL m wl)) (hB : B ≤ w.heap.size) => FormatShare_any D ((D : Int) + k) P _ _ (D + k) cap (D + k) cap (flipL m wl) (flipL m wl) w B hr hr hB (by omega) (by omega) hL)
            rw [t1, t2, t3] at N3
            rw [t4, t5] at N4
            have HRI := Lib.hid hri
            clear t1 t2 t3 t4 t5 hri
            obtain ⟨y0, y1, y2, -⟩ := blk3 hgr.out
            have hbw := hbel.out
            have hm24 : m ≤ 24 := by omega
            have hMM : (M : Int) ≤ 24 := by omega
            go_wp2_with fail
            (go_at_call 23; go_call (N3.out _ _ HRI.out (Nat.le_refl _)) as e8 w8 ⟨rfl, hb8⟩; obtain ⟨hc8, hf8⟩ := bcell hb8; have hB8 : Below w.heap.size w w8 := (below_then (by first | (go_grown; done) | (repeat (first | (with_reducible assumption) | (with_reducible exact Below.refl _ _) | (with_reducible refine below_drewN' ?_ _) | (with_reducible refine Below.drew ?_) | ((with_reducible refine Below.alloc ?_ ?_ _); rotate_left; focus (first | (simp; done) | (simp; omega) | omega)) | ((with_reducible refine Below.setCell ?_ ?_ _); rotate_left; focus (first | (simp; done) | (simp; omega) | omega))))) (by first | omega | (simp; done) | (simp; omega)) hb8); have hz8a : w1.heap.size < w8.heap.size := (by have := hb8.size; first | omega | (simp at this; omega)))
            have hg8 := Lib.hid (blk_below hgr.out hb8 (by omega))
            clear y0 y1 y2 hc8 hf8
            obtain ⟨y0, y1, y2, -⟩ := blk3 hg8.out
            go_wp2_with fail
            (go_at_call 25; go_call (N4.out _ _ (HRI.out.below hb8) hb8.size) as e9 w9 ⟨rfl, hb9⟩; obtain ⟨hc9, hf9⟩ := bcell hb9; have hB9 : Below w.heap.size w w9 := (below_then (by first | (go_grown; done) | (repeat (first | (with_reducible assumption) | (with_reducible exact Below.refl _ _) | (with_reducible refine below_drewN' ?_ _) | (with_reducible refine Below.drew ?_) | ((with_reducible refine Below.alloc ?_ ?_ _); rotate_left; focus (first | (simp; done) | (simp; omega) | omega)) | ((with_reducible refine Below.setCell ?_ ?_ _); rotate_left; focus (first | (simp; done) | (simp; omega) | omega))))) (by first | omega | (simp; done) | (simp; omega)) hb9); have hz9a : w1.heap.size < w9.heap.size := (by have := hb9.size; first | omega | (simp at this; omega)))
            have hv1 : ((Vn : Int) == (Vn : Int)) = true := by simp
            have hv2 : ((m : Int) == (m : Int)) = true := by simp
            go_wp2_with fail
            go_ret
            exact ⟨rfl, by (repeat (first | (with_reducible assumption) | (with_reducible exact Below.refl _ _) | (with_reducible refine below_drewN' ?_ _) | (with_reducible refine Below.drew ?_) | ((with_reducible refine Below.alloc ?_ ?_ _); rotate_left; focus (first | (simp; done) | (simp; omega) | omega)) | ((with_reducible refine Below.setCell ?_ ?_ _); rotate_left; focus (first | (simp; done) | (simp; omega) | omega))))⟩
set_option maxRecDepth 100000 in
theorem lifted_FnFormatNearest (os : Os) (started : os.Started) (H : Type) (enc : TypeId × Value → H) :
    ReturnsInHanded {} Try.checked os 10 .any (Rows.fnFormatNearestSpec.pre6 enc Try.prog Try.f10 Rows.fnFormatNearestRow.domain false) (Rows.fnFormatNearestSpec.post enc Try.prog Try.f10 false true false false) := by
  refine law_lifted (C := Try.checked) (tb := 4) own started (by kernel_rfl) Try.func10
    (ChangeSpec.witness6 (enc := enc) (C := Try.checked) false ⟨#[], #[.slice none 0 0], []⟩ 8 (by kernel_rfl) (by kernel_rfl) (by kernel_rfl) (by kernel_rfl))
    laidOut (by kernel_rfl) rfl rfl Try.underlying4 ?_ ?_
  · intro ds hd
    match ds, hd with
    | [e0], _ => rfl
  · intro W base args ds p hval hA hlt hsz
    have hval1 : ∀ (j : Nat) t v, Try.f10.params[j]? = some t → args[j]? = some v → Value.okWide Try.prog W .any base t v := hval
    have hA1 : DataW.TrodAll enc Try.prog W 0 (fun _ => true) true Try.f10.params.toList args.toList ds p := hA
    have hsz1 : (DataW.weightsEach Try.prog Try.f10.params.toList ds).all (· ≤ reachBytes) = true := hsz
    rw [Try.params10] at hval1 hA1 hsz1
    clear hval hA hsz
    obtain ⟨v0, d0, rfl, rfl, h0⟩ := trodAll_one hA1
    obtain ⟨A, n, c, bs, rfl, hr, _⟩ := arg_bytes Try.underlying42 Try.underlying5 (by kernel_rfl) (hval1 0 42 v0 rfl rfl) h0 (fun x hx => hlt x (by simp [hx]))
    exact lawFnFormatNearest A n c bs W hr
theorem holds_FnFormatNearest : Rows.FnFormatNearestSaid :=
  OpenClaim.holds_of_wide 10 Try.f10 rfl rfl rfl rfl rfl rfl rfl ⟨rfl, rfl, rfl, rfl, rfl⟩ rfl rfl rfl rfl rfl (by kernel_rfl) Try.func10 (by kernel_rfl)
    (of_decide_eq_true (by kernel_rfl)) (by unfold Func.isWrapper; first | (rw [if_pos (by decide +kernel)]; kernel_rfl) | (rw [if_neg (by decide +kernel)]; exact ⟨rfl, rfl⟩))
    (fun os started H enc _ => lifted_FnFormatNearest os started H enc)

end Go.Proofs.Ytkdaodfhilhfgaa
