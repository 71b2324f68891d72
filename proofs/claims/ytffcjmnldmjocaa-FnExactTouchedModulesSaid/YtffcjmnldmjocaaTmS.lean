/-
  Touched modules, the reference. Printed by gen/tms.py.
-/
import Derived.Test.YtffcjmnldmjocaaTm
namespace Go.Proofs.Ytffcjmnldmjocaa
set_option linter.unusedSimpArgs false
set_option linter.unusedVariables false
open Go.RowKit

set_option maxRecDepth 20000 in
set_option maxHeartbeats 8000000 in
theorem sTouchedModules_a (R C p t q b d l : Int) (A : Option Addr) (n cp : Nat) (fs : List Int) (w : World) (B : Nat) (hr : RI w B A (n * 6) fs) (hB : B ≤ w.heap.size) (hn : n ≤ 2000000) (K : Int) (hK : psK R C p t q b d l = K) (hK0 : K ≠ 0) :
    Calls Try.prog 18 #[.slice A n cp, .agg #[.int .i64 p, .int .i64 t, .int .i64 q, .int .i64 b, .int .i64 d, .int .i64 l], .int .i64 R, .int .i64 C] w fun e w' => ∃ v, e = .returned (.tuple #[v, .int .i64 (K)]) ∧ OwnP w' w.heap.size v ([]) ∧ Below w.heap.size w w' := by
  have HP := Lib.hid (fun w => sPrintSize_any R C p t q b d l w)
  rw [hK] at HP
  have hk : (K != 0) = true := by simpa using hK0
  clear hK hr hK0
  go_enter Try.func18, Try.ntmps18
  go_wp2_with (go_at_call 42; with_reducible refine (HP.out _).mono ?_; rintro e1 w1 ⟨rfl, hb1⟩; obtain ⟨hc1, hf1⟩ := bcell hb1; have hB1 : Below w.heap.size w w1 := (below_then (by first | (go_grown; done) | (repeat (first | (with_reducible assumption) | (with_reducible exact Below.refl _ _) | (with_reducible refine below_drewN' ?_ _) | (with_reducible refine Below.drew ?_) | ((with_reducible refine Below.alloc ?_ ?_ _); rotate_left; focus (first | (simp; done) | (simp; omega) | omega)) | ((with_reducible refine Below.setCell ?_ ?_ _); rotate_left; focus (first | (simp; done) | (simp; omega) | omega))))) (by first | omega | (simp; done) | (simp; omega)) hb1); have hz1a : w.heap.size < w1.heap.size := (by have := hb1.size; first | omega | (simp at this; omega)))
  go_returns
  exact ⟨_, rfl, OwnP.nil, by (repeat (first | (with_reducible assumption) | (with_reducible exact Below.refl _ _) | (with_reducible refine below_drewN' ?_ _) | (with_reducible refine Below.drew ?_) | ((with_reducible refine Below.alloc ?_ ?_ _); rotate_left; focus (first | (simp; done) | (simp; omega) | omega)) | ((with_reducible refine Below.setCell ?_ ?_ _); rotate_left; focus (first | (simp; done) | (simp; omega) | omega))))⟩
set_option maxRecDepth 20000 in
set_option maxHeartbeats 8000000 in
theorem sTouchedModules_b (R C p t q b d l : Int) (A : Option Addr) (n cp : Nat) (fs : List Int) (w : World) (B : Nat) (hr : RI w B A (n * 6) fs) (hB : B ≤ w.heap.size) (hn : n ≤ 2000000) (hK : psK R C p t q b d l = 0) (hn2 : ¬ n ≤ 20) :
    Calls Try.prog 18 #[.slice A n cp, .agg #[.int .i64 p, .int .i64 t, .int .i64 q, .int .i64 b, .int .i64 d, .int .i64 l], .int .i64 R, .int .i64 C] w fun e w' => ∃ v, e = .returned (.tuple #[v, .int .i64 (3)]) ∧ OwnP w' w.heap.size v ([]) ∧ Below w.heap.size w w' := by
  have HP := Lib.hid (fun w => sPrintSize_any R C p t q b d l w)
  rw [hK] at HP
  have hnn : (20 : Int) < n := by omega
  clear hK hr hn2
  go_enter Try.func18, Try.ntmps18
  go_wp2_with (go_at_call 42; with_reducible refine (HP.out _).mono ?_; rintro e1 w1 ⟨rfl, hb1⟩; obtain ⟨hc1, hf1⟩ := bcell hb1; have hB1 : Below w.heap.size w w1 := (below_then (by first | (go_grown; done) | (repeat (first | (with_reducible assumption) | (with_reducible exact Below.refl _ _) | (with_reducible refine below_drewN' ?_ _) | (with_reducible refine Below.drew ?_) | ((with_reducible refine Below.alloc ?_ ?_ _); rotate_left; focus (first | (simp; done) | (simp; omega) | omega)) | ((with_reducible refine Below.setCell ?_ ?_ _); rotate_left; focus (first | (simp; done) | (simp; omega) | omega))))) (by first | omega | (simp; done) | (simp; omega)) hb1); have hz1a : w.heap.size < w1.heap.size := (by have := hb1.size; first | omega | (simp at this; omega)))
  go_returns
  exact ⟨_, rfl, OwnP.nil, by (repeat (first | (with_reducible assumption) | (with_reducible exact Below.refl _ _) | (with_reducible refine below_drewN' ?_ _) | (with_reducible refine Below.drew ?_) | ((with_reducible refine Below.alloc ?_ ?_ _); rotate_left; focus (first | (simp; done) | (simp; omega) | omega)) | ((with_reducible refine Below.setCell ?_ ?_ _); rotate_left; focus (first | (simp; done) | (simp; omega) | omega))))⟩
set_option maxRecDepth 20000 in
set_option maxHeartbeats 8000000 in
theorem sTouchedModules_c (R C p t q b d l : Int) (A : Option Addr) (n cp : Nat) (fs : List Int) (w : World) (B : Nat) (hr : RI w B A (n * 6) fs) (hB : B ≤ w.heap.size) (hn : n ≤ 2000000) (hK : psK R C p t q b d l = 0) (hn2 : n ≤ 20) (hA : allLoc fs n = false) :
    Calls Try.prog 18 #[.slice A n cp, .agg #[.int .i64 p, .int .i64 t, .int .i64 q, .int .i64 b, .int .i64 d, .int .i64 l], .int .i64 R, .int .i64 C] w fun e w' => ∃ v, e = .returned (.tuple #[v, .int .i64 (5)]) ∧ OwnP w' w.heap.size v ([]) ∧ Below w.heap.size w w' := by
  have HP := Lib.hid (fun w => sPrintSize_any R C p t q b d l w)
  rw [hK] at HP
  have hnn : ¬ (20 : Int) < n := by omega
  have HA := Lib.hid hA
  have HR := Lib.hid hr
  clear hK hr hA
  go_enter Try.func18, Try.ntmps18
  go_upto_region 6 with (go_at_call 42; with_reducible refine (HP.out _).mono ?_; rintro e1 w1 ⟨rfl, hb1⟩; obtain ⟨hc1, hf1⟩ := bcell hb1; have hB1 : Below w.heap.size w w1 := (below_then (by first | (go_grown; done) | (repeat (first | (with_reducible assumption) | (with_reducible exact Below.refl _ _) | (with_reducible refine below_drewN' ?_ _) | (with_reducible refine Below.drew ?_) | ((with_reducible refine Below.alloc ?_ ?_ _); rotate_left; focus (first | (simp; done) | (simp; omega) | omega)) | ((with_reducible refine Below.setCell ?_ ?_ _); rotate_left; focus (first | (simp; done) | (simp; omega) | omega))))) (by first | omega | (simp; done) | (simp; omega)) hb1); have hz1a : w.heap.size < w1.heap.size := (by have := hb1.size; first | omega | (simp at this; omega)))
  have HB1 := Lib.hid hB1
  clear hc1 hf1 hb1 hB1
  go_wp2_with fail
  go_loopw [13] (fun i wr => ∃ k : Nat, k ≤ n ∧ i = .int .i64 k ∧ Hid (∀ j, j < k → locB fs j = true) ∧ Hid (Below w.heap.size w wr)) (fun i _ => n - (intOf i).toNat)
  case atStart => exact ⟨0, Nat.zero_le _, rfl, Lib.hid (fun j hj => absurd hj (Nat.not_lt_zero _)), HB1⟩
  case round =>
    obtain ⟨k, hk, rfl, hall, hbel⟩ := hrel
    have hbw := hbel.out
    have hsw := hbw.size
    by_cases hlt : k < n
    · have hki : (k : Int) < n := by omega
      obtain ⟨bd, od, rfl, hbd, hcd⟩ := (HR.out.below (hbel.out.mono hB)).cells (by omega)
      obtain ⟨k0, k1, k2, k3, k4, k5⟩ := ri6 hcd hlt
      have HLO := Lib.hid (fun w => l27Local_any (nth fs (k * 6)) (nth fs (k * 6 + 1)) (nth fs (k * 6 + 2)) (nth fs (k * 6 + 3)) (nth fs (k * 6 + 4)) (nth fs (k * 6 + 5)) w)
      have hlb : (isDamageB (nth fs (k * 6)) (nth fs (k * 6 + 1)) (nth fs (k * 6 + 2)) (nth fs (k * 6 + 3)) (nth fs (k * 6 + 4)) (nth fs (k * 6 + 5)) && (nth fs (k * 6) == 1 || nth fs (k * 6) == 2)) = locB fs k := rfl
      rw [hlb] at HLO

      cases hl : locB fs k
      · rw [hl] at HLO
        clear hlb hl hcd
        generalize nth fs (k * 6) = x0 at *
        generalize nth fs (k * 6 + 1) = x1 at *
        generalize nth fs (k * 6 + 2) = x2 at *
        generalize nth fs (k * 6 + 3) = x3 at *
        generalize nth fs (k * 6 + 4) = x4 at *
        generalize nth fs (k * 6 + 5) = x5 at *

        go_wp2_with (go_at_call 33; with_reducible refine (HLO.out _).mono ?_; rintro e2 w2 ⟨rfl, hb2⟩)
        go_returns
        exact ⟨_, rfl, OwnP.nil, hbw.trans (hb2.mono hsw)⟩
      · rw [hl] at HLO
        have HL := Lib.hid hl
        clear hlb hl hcd
        generalize nth fs (k * 6) = x0 at *
        generalize nth fs (k * 6 + 1) = x1 at *
        generalize nth fs (k * 6 + 2) = x2 at *
        generalize nth fs (k * 6 + 3) = x3 at *
        generalize nth fs (k * 6 + 4) = x4 at *
        generalize nth fs (k * 6 + 5) = x5 at *

        go_wp2_with (go_at_call 33; with_reducible refine (HLO.out _).mono ?_; rintro e2 w2 ⟨rfl, hb2⟩)
        go_roundw
        case rel => exact ⟨k + 1, by omega, by go_num, Lib.hid (loc_step hall.out HL.out), Lib.hid (hbw.trans (hb2.mono hsw))⟩
        case measure => simp [intOf]; omega
    · exact absurd HA.out (by
        obtain rfl : k = n := by omega
        have : allLoc fs k = true := by unfold allLoc; rw [List.all_eq_true]; intro j hj; exact hall.out j (List.mem_range.1 hj)
        rw [this]; simp)
set_option maxRecDepth 20000 in
set_option maxHeartbeats 8000000 in
theorem sTouchedModules_d (R C p t q : Nat) (b d l : Int) (A : Option Addr) (n cp : Nat) (fs : List Int) (w : World) (B : Nat) (hr : RI w B A (n * 6) fs) (hB : B ≤ w.heap.size) (hK : psK R C p t q b d l = 0) (hn : n ≤ 20) (hA : allLoc fs n = true) (hR : R ≤ 400) (hC : C ≤ 400) (hRC : R * C ≤ 40000) (hp1 : 1 ≤ p) (hp2 : p ≤ 12) (ht1 : 1 ≤ t) (ht2 : t ≤ 12) (hq : q ≤ 16) (hy : (R + 2 * q) * t ≤ 400) (hx : (C + 2 * q) * p ≤ 400) :
    Calls Try.prog 18 #[.slice A n cp, .agg #[.int .i64 p, .int .i64 t, .int .i64 q, .int .i64 b, .int .i64 d, .int .i64 l], .int .i64 R, .int .i64 C] w fun e w' => ∃ v, e = .returned (.tuple #[v, .int .i64 (0)]) ∧ OwnP w' w.heap.size v (allP (fun r c => anyT fs (midT q t r) (midT q p c) n) C R) ∧ Below w.heap.size w w' := by
  obtain ⟨F, hF⟩ : ∃ F, (fun r c => anyT fs (midT q t r) (midT q p c) n) = F := ⟨_, rfl⟩
  rw [hF]
  have HF : Hid (∀ r c, F r c = anyT fs (midT q t r) (midT q p c) n) := Lib.hid (fun r c => by rw [← hF])
  clear hF
  have HPS := Lib.hid (fun w => sPrintSize_any R C p t q b d l w)
  rw [hK] at HPS
  have hnn : ¬ (20 : Int) < n := by omega
  have HA := Lib.hid hA
  have HR := Lib.hid hr
  obtain ⟨iP, hi⟩ := info_own' info_places
  have HP := Lib.hid (And.intro iP.bytes.le_refl hi)
  clear hK hr hA hi
  have HY := Lib.hid hy
  have HX := Lib.hid hx
  have HRC := Lib.hid hRC
  clear hy hx hRC
  go_enter Try.func18, Try.ntmps18
  go_upto_region 6 with (go_at_call 42; with_reducible refine (HPS.out _).mono ?_; rintro e1 w1 ⟨rfl, hb1⟩; obtain ⟨hc1, hf1⟩ := bcell hb1; have hB1 : Below w.heap.size w w1 := (below_then (by first | (go_grown; done) | (repeat (first | (with_reducible assumption) | (with_reducible exact Below.refl _ _) | (with_reducible refine below_drewN' ?_ _) | (with_reducible refine Below.drew ?_) | ((with_reducible refine Below.alloc ?_ ?_ _); rotate_left; focus (first | (simp; done) | (simp; omega) | omega)) | ((with_reducible refine Below.setCell ?_ ?_ _); rotate_left; focus (first | (simp; done) | (simp; omega) | omega))))) (by first | omega | (simp; done) | (simp; omega)) hb1); have hz1a : w.heap.size < w1.heap.size := (by have := hb1.size; first | omega | (simp at this; omega)))
  have hh1 := blk_below (heap_alloc_new w (.cells #[.int .i64 (p : Nat), .int .i64 (t : Nat), .int .i64 (q : Nat), .int .i64 b, .int .i64 d, .int .i64 l] 53)) hb1 (by simp)
  have HK1 := Lib.hid hh1
  have HB1 := Lib.hid hB1
  clear hc1 hf1 hb1 hB1 hh1 HPS
  go_wp2_with fail
  go_loopw [13] (fun i wr => ∃ k : Nat, k ≤ n ∧ i = .int .i64 k ∧ Hid (Below w1.heap.size w1 wr)) (fun i _ => n - (intOf i).toNat)
  case atStart => exact ⟨0, Nat.zero_le _, rfl, Lib.hid (Below.refl _ _)⟩
  case round =>
    obtain ⟨k, hk, rfl, hbel⟩ := hrel
    have hbw := hbel.out
    by_cases hlt : k < n
    · have hki : (k : Int) < n := by omega
      obtain ⟨bd, od, rfl, hbd, hcd⟩ := (HR.out.below ((hbel.out.mono HB1.out.size |> HB1.out.trans).mono hB)).cells (by omega)
      obtain ⟨k0, k1, k2, k3, k4, k5⟩ := ri6 hcd hlt
      have HLO := Lib.hid (fun w => l27Local_any (nth fs (k * 6)) (nth fs (k * 6 + 1)) (nth fs (k * 6 + 2)) (nth fs (k * 6 + 3)) (nth fs (k * 6 + 4)) (nth fs (k * 6 + 5)) w)
      have hlb : (isDamageB (nth fs (k * 6)) (nth fs (k * 6 + 1)) (nth fs (k * 6 + 2)) (nth fs (k * 6 + 3)) (nth fs (k * 6 + 4)) (nth fs (k * 6 + 5)) && (nth fs (k * 6) == 1 || nth fs (k * 6) == 2)) = locB fs k := rfl
      rw [hlb] at HLO

      rw [allLoc_at HA.out hlt] at HLO
      clear hlb hcd
      generalize nth fs (k * 6) = x0 at *
      generalize nth fs (k * 6 + 1) = x1 at *
      generalize nth fs (k * 6 + 2) = x2 at *
      generalize nth fs (k * 6 + 3) = x3 at *
      generalize nth fs (k * 6 + 4) = x4 at *
      generalize nth fs (k * 6 + 5) = x5 at *

      go_wp2_with (go_at_call 33; with_reducible refine (HLO.out _).mono ?_; rintro e2 w2 ⟨rfl, hb2⟩)
      go_roundw
      case rel => exact ⟨k + 1, by omega, by go_num, Lib.hid (hbw.trans (hb2.mono hbw.size))⟩
      case measure => simp [intOf]; omega
    · have hki : ¬ (k : Int) < n := by omega
      rename World => w2
      have HT : Hid (TmP w w2.heap.size (.cells #[.int .i64 (p : Nat), .int .i64 (t : Nat), .int .i64 (q : Nat), .int .i64 b, .int .i64 d, .int .i64 l] 53 (0, 0)) (.slice (some ⟨w2.heap.size, 0, none⟩) 0 0) [] (w2.alloc (.cells #[] 83))) := Lib.hid ⟨(HB1.out.trans (hbw.mono HB1.out.size)).alloc (by have := hbw.size; omega) _, ⟨by have := hbw.size; omega, by simp⟩, blk_alloc (blk_below HK1.out hbw hz1a) (by have := hbw.size; omega), OwnP.empty w2 (Nat.le_refl _)⟩
      clear hbw hbel HB1 HK1
      go_upto_region 12 with fail
      obtain ⟨Bo, hBo⟩ : ∃ x, w2.heap.size = x := ⟨_, rfl⟩
      rw [hBo] at HT ⊢
      generalize w2.alloc (.cells #[] 83) = w3 at *
      clear hBo
      go_wp2_with fail
      go_loopw [14, 15, 16, 17, 18, 19, 20] (fun out i _ _ _ _ _ wr => ∃ r : Nat, r ≤ R ∧ i = .int .i64 r ∧ Hid (TmP w Bo (.cells #[.int .i64 (p : Nat), .int .i64 (t : Nat), .int .i64 (q : Nat), .int .i64 b, .int .i64 d, .int .i64 l] 53 (0, 0)) out (allP F C r) wr)) (fun _ i _ _ _ _ _ _ => R - (intOf i).toNat)
      case atStart => exact ⟨0, Nat.zero_le _, rfl, HT⟩
      case round =>
        rename World => wo
        obtain ⟨r, hrR, rfl, ht⟩ := hrel
        by_cases hlr : r < R
        · have hri : (r : Int) < R := by omega
          go_wp2_with fail
          go_loopw [14, 16, 17, 18, 19, 20] (fun out i _ _ _ _ wr => ∃ c : Nat, c ≤ C ∧ i = .int .i64 c ∧ Hid (TmP w Bo (.cells #[.int .i64 (p : Nat), .int .i64 (t : Nat), .int .i64 (q : Nat), .int .i64 b, .int .i64 d, .int .i64 l] 53 (0, 0)) out (allP F C r ++ selP F r c) wr)) (fun _ i _ _ _ _ _ => C - (intOf i).toNat)
          case atStart => exact ⟨0, Nat.zero_le _, rfl, Lib.hid (ht.out.to (by simp [selP]))⟩
          case round =>
            rename World => wi
            obtain ⟨c, hcC, rfl, hti⟩ := hrel
            have hlen : (allP F C r ++ selP F r c).length ≤ 40000 := by
              have h1 := allP_le F C r
              have h2 := selP_le F r c
              have h3 := Nat.mul_le_mul_right C hrR
              have h4 := HRC.out
              rw [List.length_append]
              by_cases h5 : r = R
              · omega
              · have h6 := Nat.mul_le_mul_right C (show r + 1 ≤ R by omega)
                rw [Nat.add_mul] at h6
                omega
            have HLN := Lib.hid hlen
            clear hlen
            by_cases hlc : c < C
            · have hci : (c : Int) < C := by omega
              obtain ⟨y0, y1, y2, y3, y4, y5, -⟩ := blk6 hti.out.kp
              have hzw : w.heap.size < wi.heap.size := by have := hti.out.lo; omega
              have hFv := HF.out r c
              obtain ⟨Y1, hY1⟩ : ∃ s : Nat, r + q = s := ⟨_, rfl⟩
              obtain ⟨Y2, hY2⟩ : ∃ s : Nat, Y1 * t = s := ⟨_, rfl⟩
              obtain ⟨Y3, hY3⟩ : ∃ s : Nat, t / 2 = s := ⟨_, rfl⟩
              obtain ⟨Y4, hY4⟩ : ∃ s : Nat, Y2 + Y3 = s := ⟨_, rfl⟩
              have Ym : midT q t r = (Y4 : Int) := by unfold midT; rw [hY1, hY2, hY3, hY4]
              have Yl : Y4 ≤ 400 := by have h := mid_in (r := r) (by omega) ht1 HY.out; rw [hY1, hY2, hY3, hY4] at h; exact h
              have Yb : Y1 ≤ 500 ∧ Y2 ≤ 400 ∧ Y3 ≤ 12 := by omega
              have Ya : (r : Int) + q = Y1 := by omega
              have Yc : (Y1 : Int) * t = Y2 := by rw [← hY2]; push_cast; rfl
              have Yd : (t : Int) / 2 = Y3 := by omega
              have Ye : (t : Int).tdiv 2 = Y3 := by rw [Int.tdiv_eq_ediv_of_nonneg (by omega)]; exact Yd
              have Yf : (Y2 : Int) + Y3 = Y4 := by omega
              have Yw1 : IntKind.i64.wrap (Y1 : Int) = Y1 := by rw [IntKind.wrap_i64]; omega
              have Yw2 : IntKind.i64.wrap (Y2 : Int) = Y2 := by rw [IntKind.wrap_i64]; omega
              have Yw3 : IntKind.i64.wrap (Y3 : Int) = Y3 := by rw [IntKind.wrap_i64]; omega
              have Yw4 : IntKind.i64.wrap (Y4 : Int) = Y4 := by rw [IntKind.wrap_i64]; omega
              clear hY1 hY2 hY3 hY4
              obtain ⟨X1, hX1⟩ : ∃ s : Nat, c + q = s := ⟨_, rfl⟩
              obtain ⟨X2, hX2⟩ : ∃ s : Nat, X1 * p = s := ⟨_, rfl⟩
              obtain ⟨X3, hX3⟩ : ∃ s : Nat, p / 2 = s := ⟨_, rfl⟩
              obtain ⟨X4, hX4⟩ : ∃ s : Nat, X2 + X3 = s := ⟨_, rfl⟩
              have Xm : midT q p c = (X4 : Int) := by unfold midT; rw [hX1, hX2, hX3, hX4]
              have Xl : X4 ≤ 400 := by have h := mid_in (r := c) (by omega) hp1 HX.out; rw [hX1, hX2, hX3, hX4] at h; exact h
              have Xb : X1 ≤ 500 ∧ X2 ≤ 400 ∧ X3 ≤ 12 := by omega
              have Xa : (c : Int) + q = X1 := by omega
              have Xc : (X1 : Int) * p = X2 := by rw [← hX2]; push_cast; rfl
              have Xd : (p : Int) / 2 = X3 := by omega
              have Xe : (p : Int).tdiv 2 = X3 := by rw [Int.tdiv_eq_ediv_of_nonneg (by omega)]; exact Xd
              have Xf : (X2 : Int) + X3 = X4 := by omega
              have Xw1 : IntKind.i64.wrap (X1 : Int) = X1 := by rw [IntKind.wrap_i64]; omega
              have Xw2 : IntKind.i64.wrap (X2 : Int) = X2 := by rw [IntKind.wrap_i64]; omega
              have Xw3 : IntKind.i64.wrap (X3 : Int) = X3 := by rw [IntKind.wrap_i64]; omega
              have Xw4 : IntKind.i64.wrap (X4 : Int) = X4 := by rw [IntKind.wrap_i64]; omega
              clear hX1 hX2 hX3 hX4

              rw [Ym, Xm] at hFv
              have HFV := Lib.hid hFv
              clear hFv Ym Xm
              go_upto_region 18 with fail
              go_quiet (fail)
              clear Yb Ya Yc Yd Ye Yf Yw1 Yw2 Yw3 Yw4 Xb Xa Xc Xd Xe Xf Xw1 Xw2 Xw3 Xw4 y0 y1 y2 y3 y4 y5
              go_wp2_with fail
              refine gen_worldT (P := fun W' => Code.wp _ _ _ _ W') (Q := fun W' => TmP w Bo (.cells #[.int .i64 (p : Nat), .int .i64 (t : Nat), .int .i64 (q : Nat), .int .i64 b, .int .i64 d, .int .i64 l] 53 (0, 0)) _ (allP F C r ++ selP F r c) W') (by exact hti.out.below (below_drewN' (Below.refl _ _) _)) ?_
              intro w4 ht4
              have HT4 := Lib.hid ht4
              clear ht4 hti hzw
              go_loopw [19, 20] (fun z i wr => ∃ k : Nat, k ≤ n ∧ i = .int .i64 k ∧ z = .bool (anyT fs Y4 X4 k) ∧ Hid (Below w4.heap.size w4 wr)) (fun _ i _ => n - (intOf i).toNat)
              case atStart => exact ⟨0, Nat.zero_le _, rfl, rfl, Lib.hid (Below.refl _ _)⟩
              case round =>
                rename World => w5
                rename Nat => k'
                clear hlt hki
                obtain ⟨k, hk, rfl, rfl, hb5⟩ := hrel
                have hbw := hb5.out
                by_cases hlt : k < n
                · have hki : (k : Int) < n := by omega
                  have HSU := Lib.hid (anyT_succ fs Y4 X4 k)
                  cases hz : anyT fs Y4 X4 k
                  · rw [hz, Bool.false_or] at HSU
                    obtain ⟨bd, od, rfl, hbd, hcd⟩ := (HR.out.below ((HT4.out.bl.trans (hbw.mono HT4.out.bl.size)).mono hB)).cells (by omega)
                    obtain ⟨k0, k1, k2, k3, k4, k5⟩ := ri6 hcd hlt
                    obtain ⟨lk, l1, l2, l3, l4⟩ := locB_rg (allLoc_at HA.out hlt)
                    have HTC := Lib.hid (fun w => l27Touches_any (nth fs (k * 6)) (nth fs (k * 6 + 1)) (nth fs (k * 6 + 2)) (nth fs (k * 6 + 3)) (nth fs (k * 6 + 4)) (nth fs (k * 6 + 5)) Y4 X4 w l1 l2 l3 l4 (by omega) (by omega))
                    have hlb : touchB (nth fs (k * 6)) (nth fs (k * 6 + 1)) (nth fs (k * 6 + 2)) (nth fs (k * 6 + 3)) (nth fs (k * 6 + 4)) Y4 X4 = tchB fs Y4 X4 k := rfl
                    rw [hlb] at HTC
                    clear hlb hcd lk l1 l2 l3 l4 hz
                    generalize nth fs (k * 6) = x0 at *
                    generalize nth fs (k * 6 + 1) = x1 at *
                    generalize nth fs (k * 6 + 2) = x2 at *
                    generalize nth fs (k * 6 + 3) = x3 at *
                    generalize nth fs (k * 6 + 4) = x4 at *
                    generalize nth fs (k * 6 + 5) = x5 at *

                    go_wp2_with (go_at_call 34; with_reducible refine (HTC.out _).mono ?_; rintro e6 w6 ⟨rfl, hb6⟩)
                    go_roundw
                    case rel => exact ⟨k + 1, by omega, by go_num, by rw [HSU.out], Lib.hid (hbw.trans (hb6.mono hbw.size))⟩
                    case measure => simp [intOf]; omega
                  · rw [hz, Bool.true_or] at HSU
                    clear hz
                    go_wp2_with fail
                    go_roundw
                    case rel => exact ⟨k + 1, by omega, by go_num, by rw [HSU.out], Lib.hid hbw⟩
                    case measure => simp [intOf]; omega
                · obtain rfl : k = n := by omega
                  have hki : ¬ (k : Int) < k := by omega
                  have HT5 := Lib.hid (HT4.out.below hbw)
                  have hlo := HT5.out.lo
                  cases hz : anyT fs Y4 X4 k
                  · have HS := Lib.hid (selP_no (HFV.out.trans hz))
                    clear hz
                    go_wp2_with fail
                    go_roundw
                    case rel => exact ⟨c + 1, by omega, by go_num, Lib.hid (HT5.out.to (by rw [HS.out]))⟩
                    case measure => simp [intOf]; omega
                  · have HS := Lib.hid (selP_yes (HFV.out.trans hz))
                    clear hz
                    go_wp2_with (at_builtin; refine wpList_append_own_at _ rfl _ _ 48 rfl (Bo) 83 iP (.agg #[.int .i64 0, .int .i64 0]) 2 16 Try.underlying48 HP.out.2.1 HP.out.2.2.1 HP.out.2.2.2.1 HP.out.2.2.2.2 rfl (by decide) _ _ _ rfl (OwnP.alloc (HT5.out.own) _) ⟨w5.heap.size, 0, none⟩ 1 1 (pc [((r : Int), (c : Int))]) rfl rfl (cells_news _ _ _) (pc_ok _) (own_maxP ((by have := HLN.out; omega)) (by decide)) (own_bytesP ((by have := HLN.out; omega)) (by decide)) (own_base (HT5.out.lo.2)) ?_; intro va wa howna hga _ hata; have hoa := OwnP.snoc (qs := [((r : Int), (c : Int))]) howna rfl; clear howna)
                    have HTa := Lib.hid (HT5.out.grow hga hoa)
                    clear hga hata hoa
                    go_roundw
                    case rel => exact ⟨c + 1, by omega, by go_num, Lib.hid (HTa.out.to (by rw [HS.out, List.append_assoc]))⟩
                    case measure => simp [intOf]; omega
            · obtain rfl : c = C := by omega
              have hci : ¬ (c : Int) < c := by omega
              go_wp2_with fail
              go_roundw
              case rel => exact ⟨r + 1, by omega, by go_num, hti⟩
              case measure => simp [intOf]; omega
        · obtain rfl : r = R := by omega
          have hri : ¬ (r : Int) < r := by omega
          go_wp2_with fail
          go_returns
          exact ⟨_, rfl, ht.out.own.more (by have := ht.out.lo; omega), ht.out.bl⟩
theorem sTouchedModules_any (R C p t q b d l : Int) (A : Option Addr) (n cp : Nat) (fs : List Int) (w : World) (B : Nat) (hr : RI w B A (n * 6) fs) (hB : B ≤ w.heap.size) (hn : n ≤ 2000000) :
    Calls Try.prog 18 #[.slice A n cp, .agg #[.int .i64 p, .int .i64 t, .int .i64 q, .int .i64 b, .int .i64 d, .int .i64 l], .int .i64 R, .int .i64 C] w fun e w' => ∃ v, e = .returned (.tuple #[v, .int .i64 (tmC R C p t q b d l fs n)]) ∧ OwnP w' w.heap.size v (tmL R C p t q b d l fs n) ∧ Below w.heap.size w w' := by
  by_cases hK : psK R C p t q b d l = 0
  · by_cases hn2 : n ≤ 20
    · cases hA : allLoc fs n
      · have e1 : tmC R C p t q b d l fs n = 5 := by unfold tmC; rw [if_pos hK, if_pos hn2, hA]; rfl
        have e2 : tmL R C p t q b d l fs n = [] := by unfold tmL; rw [e1, if_neg (by decide)]
        rw [e1, e2]
        exact sTouchedModules_c R C p t q b d l A n cp fs w B hr hB hn hK hn2 hA
      · have e1 : tmC R C p t q b d l fs n = 0 := by unfold tmC; rw [if_pos hK, if_pos hn2, hA]; rfl
        obtain ⟨hp, h1, h2, h3⟩ := psK_0t hK
        obtain ⟨⟨p1, p2⟩, ⟨t1, t2⟩, ⟨q1, q2⟩, -⟩ := prnB_true hp
        obtain ⟨⟨s1, s2⟩, ⟨s3, s4⟩, h4⟩ := rszB_true h3
        obtain ⟨R, rfl⟩ := Int.eq_ofNat_of_zero_le (show 0 ≤ R by omega)
        obtain ⟨C, rfl⟩ := Int.eq_ofNat_of_zero_le (show 0 ≤ C by omega)
        obtain ⟨p, rfl⟩ := Int.eq_ofNat_of_zero_le (show 0 ≤ p by omega)
        obtain ⟨t, rfl⟩ := Int.eq_ofNat_of_zero_le (show 0 ≤ t by omega)
        obtain ⟨q, rfl⟩ := Int.eq_ofNat_of_zero_le (show 0 ≤ q by omega)
        have e2 : tmL R C p t q b d l fs n = allP (fun r c => anyT fs (midT q t r) (midT q p c) n) C R := by unfold tmL; rw [e1, if_pos rfl]; simp only [Int.toNat_natCast]
        rw [e1, e2]
        have a1 : ((R : Int) + 2 * q) * t = (((R + 2 * q) * t : Nat) : Int) := by push_cast; rfl
        have a2 : ((C : Int) + 2 * q) * p = (((C + 2 * q) * p : Nat) : Int) := by push_cast; rfl
        rw [a1] at s1 s2 h4
        rw [a2] at s3 s4 h4
        have s5 : (R + 2 * q) * t ≤ 400 := Int.ofNat_le.1 s2
        have s6 : (C + 2 * q) * p ≤ 400 := Int.ofNat_le.1 s4
        have h5 : (R + 2 * q) * t * ((C + 2 * q) * p) ≤ 40000 := by
          rw [← Int.natCast_mul] at h4
          exact Int.ofNat_le.1 h4
        exact sTouchedModules_d R C p t q b d l A n cp fs w B hr hB hK hn2 hA (by omega) (by omega) (size_in (by omega) (by omega) h5) (by omega) (by omega) (by omega) (by omega) (by omega) s5 s6
    · have e1 : tmC R C p t q b d l fs n = 3 := by unfold tmC; rw [if_pos hK, if_neg hn2]
      have e2 : tmL R C p t q b d l fs n = [] := by unfold tmL; rw [e1, if_neg (by decide)]
      rw [e1, e2]
      exact sTouchedModules_b R C p t q b d l A n cp fs w B hr hB hn hK hn2
  · have e1 : tmC R C p t q b d l fs n = psK R C p t q b d l := by unfold tmC; rw [if_neg hK]
    have e2 : tmL R C p t q b d l fs n = [] := by unfold tmL; rw [e1, if_neg hK]
    rw [e1, e2]
    exact sTouchedModules_a R C p t q b d l A n cp fs w B hr hB hn _ rfl hK
end Go.Proofs.Ytffcjmnldmjocaa
