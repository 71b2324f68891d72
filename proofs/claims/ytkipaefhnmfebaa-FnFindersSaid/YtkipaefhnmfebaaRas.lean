/-
  Contracts of chapter 20: which rasters are valid; the laws' own words on rasters.
-/
import Derived.Test.YtkipaefhnmfebaaC01
import Derived.Test.YtkipaefhnmfebaaLst
import Derived.Test.YtkipaefhnmfebaaArgG
namespace Go.Proofs.Ytkipaefhnmfebaa
set_option linter.unusedSimpArgs false
open Go.ChangeShapes Go.WideShapes Go.ChangeAt Go.RowKit Go.Deep

/-- May a raster have r rows and c columns? Is a raster valid? -/
def rszB (r c : Int) : Bool := inR r 1 400 && inR c 1 400 && decide (r * c ≤ 40000)
def rasB (r c : Int) (xs : List Int) : Bool := rszB r c && decide ((xs.length : Int) = r * c) && allIn 0 255 xs
theorem rszB_true {r c : Int} (h : rszB r c = true) : (1 ≤ r ∧ r ≤ 400) ∧ (1 ≤ c ∧ c ≤ 400) ∧ r * c ≤ 40000 := by
  simp only [rszB, Bool.and_eq_true, decide_eq_true_eq] at h
  exact ⟨inR_true h.1.1, inR_true h.1.2, h.2⟩
theorem rasB_true {r c : Int} {xs : List Int} (h : rasB r c xs = true) : 1 ≤ xs.length ∧ xs.length ≤ 40000 ∧ ∀ k, k < xs.length → 0 ≤ nth xs k ∧ nth xs k ≤ 255 := by
  simp only [rasB, Bool.and_eq_true, decide_eq_true_eq] at h
  obtain ⟨h1, h2, h3⟩ := rszB_true h.1.1
  have h4 := mul_bd1 h1.1 h2.1
  have h5 := h.1.2
  exact ⟨by omega, by omega, fun k hk => allIn_nth h.2 hk⟩
set_option maxHeartbeats 1000000 in
theorem isRasterSize_any (r c : Int) (w : World) : Calls Try.prog 61 #[.int .i64 r, .int .i64 c] w fun e w' => e = .returned (.bool (rszB r c)) ∧ w = w' := by
  cases h1 : inR r 1 400
  · go_enter Try.func61, Try.ntmps61
    go_wp2_with (go_at_call 39; refine (inRange_any _ _ _ _).mono ?_; rintro e w' ⟨rfl, rfl⟩)
    go_ret
    exact ⟨ret_bool (by simp [rszB, h1]), rfl⟩
  cases h2 : inR c 1 400
  · go_enter Try.func61, Try.ntmps61
    go_wp2_with (go_at_call 39; refine (inRange_any _ _ _ _).mono ?_; rintro e w' ⟨rfl, rfl⟩)
    go_ret
    exact ⟨ret_bool (by simp [rszB, h2]), rfl⟩
  have b1 := inR_true h1
  have b2 := inR_true h2
  have b3 := mul_bd (show 0 ≤ r by omega) b1.2 (show 0 ≤ c by omega) b2.2
  by_cases h3 : r * c ≤ 40000
  · go_enter Try.func61, Try.ntmps61
    go_wp2_with (go_at_call 39; refine (inRange_any _ _ _ _).mono ?_; rintro e w' ⟨rfl, rfl⟩)
    go_ret
    exact ⟨ret_bool (by simp [rszB, h1, h2, h3]), rfl⟩
  · go_enter Try.func61, Try.ntmps61
    go_wp2_with (go_at_call 39; refine (inRange_any _ _ _ _).mono ?_; rintro e w' ⟨rfl, rfl⟩)
    go_ret
    exact ⟨ret_bool (by simp [rszB, h1, h2, h3]), rfl⟩
set_option maxHeartbeats 1000000 in
theorem l20Size_any (r c : Int) (w : World) : Calls Try.prog 59 #[.int .i64 r, .int .i64 c] w fun e w' => e = .returned (.bool (rszB r c)) ∧ w = w' := by
  cases h1 : inR r 1 400
  · go_enter Try.func59, Try.ntmps59
    go_wp2_with (go_at_call 70; refine (l01In_any _ _ _ _).mono ?_; rintro e w' ⟨rfl, rfl⟩)
    go_ret
    exact ⟨ret_bool (by simp [rszB, h1]), rfl⟩
  cases h2 : inR c 1 400
  · go_enter Try.func59, Try.ntmps59
    go_wp2_with (go_at_call 70; refine (l01In_any _ _ _ _).mono ?_; rintro e w' ⟨rfl, rfl⟩)
    go_ret
    exact ⟨ret_bool (by simp [rszB, h2]), rfl⟩
  have b1 := inR_true h1
  have b2 := inR_true h2
  have b3 := mul_bd (show 0 ≤ r by omega) b1.2 (show 0 ≤ c by omega) b2.2
  by_cases h3 : r * c ≤ 40000
  · go_enter Try.func59, Try.ntmps59
    go_wp2_with (go_at_call 70; refine (l01In_any _ _ _ _).mono ?_; rintro e w' ⟨rfl, rfl⟩)
    go_ret
    exact ⟨ret_bool (by simp [rszB, h1, h2, h3]), rfl⟩
  · go_enter Try.func59, Try.ntmps59
    go_wp2_with (go_at_call 70; refine (l01In_any _ _ _ _).mono ?_; rintro e w' ⟨rfl, rfl⟩)
    go_ret
    exact ⟨ret_bool (by simp [rszB, h1, h2, h3]), rfl⟩
theorem l20Grey_any (n : Int) (w : World) : Calls Try.prog 60 #[.int .i64 n] w fun e w' => e = .returned (.bool (inR n 0 255)) ∧ w = w' := by
  cases h : inR n 0 255
  all_goals
    go_enter Try.func60, Try.ntmps60
    go_wp2_with (go_at_call 70; refine (l01In_any _ _ _ _).mono ?_; rintro e w' ⟨rfl, rfl⟩)
    go_ret
    exact ⟨rfl, rfl⟩
set_option maxHeartbeats 1000000 in
theorem IsRaster_any (r c : Int) (A : Option Addr) (n cp : Nat) (xs : List Int) (w : World) (B : Nat) (hr : RI w B A n xs) (hB : B ≤ w.heap.size) (hn : n ≤ 1000000000000000) :
    Calls Try.prog 32 #[.agg #[.int .i64 r, .int .i64 c, .slice A n cp]] w fun e w' => e = .returned (.bool (rasB r c xs)) ∧ Below w.heap.size w w' := by
  have HL := Lib.hid hr.len
  have HR := Lib.hid (hr.alloc hB (.cells #[.int .i64 r, .int .i64 c, .slice A n cp] 28))
  clear hr
  have HS := Lib.hid (fun w => isRasterSize_any r c w)
  cases h1 : rszB r c
  · rw [h1] at HS
    go_enter Try.func32, Try.ntmps32
    go_wp2_with (go_at_call 61; refine (HS.out _).mono ?_; rintro e w' ⟨rfl, rfl⟩)
    go_ret
    exact ⟨ret_bool (by simp [rasB, h1]), by go_grown⟩
  rw [h1] at HS
  have h3 := rszB_true h1
  have h4 := mul_bd (show 0 ≤ r by omega) h3.1.2 (show 0 ≤ c by omega) h3.2.1.2
  by_cases h5 : (n : Int) = r * c
  · have h5' : ((n : Int) != r * c) = false := by simpa using h5
    have h6 : rasB r c xs = allIn 0 255 xs := by simp [rasB, HL.out, h1, h5]
    have H6 := Lib.hid h6
    replace h5 := Lib.hid h5
    go_enter Try.func32, Try.ntmps32
    go_wp2_with (go_at_call 61; refine (HS.out _).mono ?_; rintro e w' ⟨rfl, rfl⟩)
    clear h1 h3 h4 h5 h6 h5' HS
    go_loop [25] (fun i => ∃ k : Nat, k ≤ n ∧ i = .int .i64 k ∧ Hid (allIn 0 255 (xs.take k) = true)) (fun i => n - (intOf i).toNat)
    case atStart => exact ⟨0, Nat.zero_le _, rfl, rfl⟩
    case round =>
      obtain ⟨k, hk, rfl, hall⟩ := hrel
      by_cases hlt : k < n
      · obtain ⟨b, o, rfl, hb, hc⟩ := HR.out.cells (by omega)
        have hck := hc k hlt
        clear hc
        cases he : inR (nth xs k) 0 255
        · have he' := Lib.hid he
          go_wp2_with (go_at_call 39; refine (inRange_any _ _ _ _).mono ?_; rintro e w' ⟨rfl, rfl⟩)
          go_ret
          exact ⟨ret_bool (by rw [H6.out, allIn_false (by rw [HL.out]; exact hlt) he'.out]), by go_grown⟩
        · have he' := Lib.hid he
          go_wp2_with (go_at_call 39; refine (inRange_any _ _ _ _).mono ?_; rintro e w' ⟨rfl, rfl⟩)
          go_round
          case rel => exact ⟨k + 1, by omega, by go_num, by rw [allIn_take (by rw [HL.out]; exact hlt), hall.out, he'.out]; rfl⟩
          case measure => simp [intOf]; omega
      · have hkn : k = n := by omega
        have hA : allIn 0 255 xs = true := by have := hall.out; rwa [hkn, List.take_of_length_le (by rw [HL.out]; exact Nat.le_refl _)] at this
        have HA := Lib.hid hA
        clear hA hkn
        go_wp2_with fail
        go_ret
        exact ⟨ret_bool (by rw [H6.out, HA.out]), by go_grown⟩
  · have h5' : ((n : Int) != r * c) = true := by simpa using h5
    replace h5 := Lib.hid h5
    go_enter Try.func32, Try.ntmps32
    go_wp2_with (go_at_call 61; refine (HS.out _).mono ?_; rintro e w' ⟨rfl, rfl⟩)
    go_ret
    exact ⟨ret_bool (by simp [rasB, HL.out, h5.out]), by go_grown⟩
set_option maxHeartbeats 1000000 in
theorem sIsRaster_any (r c : Int) (A : Option Addr) (n cp : Nat) (xs : List Int) (w : World) (B : Nat) (hr : RI w B A n xs) (hB : B ≤ w.heap.size) (hn : n ≤ 1000000000000000) :
    Calls Try.prog 29 #[.agg #[.int .i64 r, .int .i64 c, .slice A n cp]] w fun e w' => e = .returned (.bool (rasB r c xs)) ∧ Below w.heap.size w w' := by
  have HL := Lib.hid hr.len
  have HR := Lib.hid (hr.alloc hB (.cells #[.int .i64 r, .int .i64 c, .slice A n cp] 28))
  clear hr
  have HS := Lib.hid (fun w => l20Size_any r c w)
  cases h1 : rszB r c
  · rw [h1] at HS
    go_enter Try.func29, Try.ntmps29
    go_wp2_with (go_at_call 59; refine (HS.out _).mono ?_; rintro e w' ⟨rfl, rfl⟩)
    go_ret
    exact ⟨ret_bool (by simp [rasB, h1]), by go_grown⟩
  rw [h1] at HS
  have h3 := rszB_true h1
  have h4 := mul_bd (show 0 ≤ r by omega) h3.1.2 (show 0 ≤ c by omega) h3.2.1.2
  by_cases h5 : (n : Int) = r * c
  · have h5' : ((n : Int) != r * c) = false := by simpa using h5
    have h6 : rasB r c xs = allIn 0 255 xs := by simp [rasB, HL.out, h1, h5]
    have H6 := Lib.hid h6
    replace h5 := Lib.hid h5
    go_enter Try.func29, Try.ntmps29
    go_wp2_with (go_at_call 59; refine (HS.out _).mono ?_; rintro e w' ⟨rfl, rfl⟩)
    clear h1 h3 h4 h5 h6 h5' HS
    go_loop [3] (fun i => ∃ k : Nat, k ≤ n ∧ i = .int .i64 k ∧ Hid (allIn 0 255 (xs.take k) = true)) (fun i => n - (intOf i).toNat)
    case atStart => exact ⟨0, Nat.zero_le _, rfl, rfl⟩
    case round =>
      obtain ⟨k, hk, rfl, hall⟩ := hrel
      by_cases hlt : k < n
      · obtain ⟨b, o, rfl, hb, hc⟩ := HR.out.cells (by omega)
        have hck := hc k hlt
        clear hc
        cases he : inR (nth xs k) 0 255
        · have he' := Lib.hid he
          go_wp2_with (go_at_call 60; refine (l20Grey_any _ _).mono ?_; rintro e w' ⟨rfl, rfl⟩)
          go_ret
          exact ⟨ret_bool (by rw [H6.out, allIn_false (by rw [HL.out]; exact hlt) he'.out]), by go_grown⟩
        · have he' := Lib.hid he
          go_wp2_with (go_at_call 60; refine (l20Grey_any _ _).mono ?_; rintro e w' ⟨rfl, rfl⟩)
          go_round
          case rel => exact ⟨k + 1, by omega, by go_num, by rw [allIn_take (by rw [HL.out]; exact hlt), hall.out, he'.out]; rfl⟩
          case measure => simp [intOf]; omega
      · have hkn : k = n := by omega
        have hA : allIn 0 255 xs = true := by have := hall.out; rwa [hkn, List.take_of_length_le (by rw [HL.out]; exact Nat.le_refl _)] at this
        have HA := Lib.hid hA
        clear hA hkn
        go_wp2_with fail
        go_ret
        exact ⟨ret_bool (by rw [H6.out, HA.out]), by go_grown⟩
  · have h5' : ((n : Int) != r * c) = true := by simpa using h5
    replace h5 := Lib.hid h5
    go_enter Try.func29, Try.ntmps29
    go_wp2_with (go_at_call 59; refine (HS.out _).mono ?_; rintro e w' ⟨rfl, rfl⟩)
    go_ret
    exact ⟨ret_bool (by simp [rasB, HL.out, h5.out]), by go_grown⟩
theorem toRaster_any (r c : Int) (A : Option Addr) (n cp : Nat) (xs : List Int) (w : World) (B : Nat) (hr : RI w B A n xs) (hB : B ≤ w.heap.size) (hn : n ≤ 1000000000000) :
    Calls Try.prog 8 #[.agg #[.int .i64 r, .int .i64 c, .slice A n cp]] w fun e w' => ∃ v', e = .returned (.agg #[.int .i64 r, .int .i64 c, v']) ∧ Own w' w.heap.size v' xs ∧ Below w.heap.size w w' := by
  have HT := Lib.hid (fun w' (hb : Below w.heap.size w w') => toInt64S_any A n cp xs w' w.heap.size ((hr.more hB).below hb) hb.size hn)
  clear hr
  go_enter Try.func8, Try.ntmps8
  go_wp2_with ((go_at_call 31; go_call (HT.out _ (by go_grown)) as e1 w1 ⟨v1, rfl, ho1, hb1⟩; obtain ⟨hc1, hf1⟩ := bcell hb1; have hB1 : Below w.heap.size w w1 := (below_then (by first | (go_grown; done) | (repeat (first | (with_reducible assumption) | (with_reducible exact Below.refl _ _) | (with_reducible refine below_drewN' ?_ _) | (with_reducible refine Below.drew ?_) | ((with_reducible refine Below.alloc ?_ ?_ _); rotate_left; focus (first | (simp; done) | (simp; omega) | omega)) | ((with_reducible refine Below.setCell ?_ ?_ _); rotate_left; focus (first | (simp; done) | (simp; omega) | omega))))) (by first | omega | (simp; done) | (simp; omega)) hb1); have hz1a : w.heap.size < w1.heap.size := (by have := hb1.size; first | omega | (simp at this; omega))); obtain ⟨A1, c1, rfl, hr1⟩ := ho1.shape; have HO := Lib.hid ho1; clear ho1 hr1)
  have hR : w1.heap[w.heap.size + 1]? = some (.cells #[.int .i64 0, .int .i64 0, .slice none 0 0] 28 (0, 0)) := by
    refine blk_below ?_ hb1 (by simp)
    (repeat (first | (with_reducible exact heap_alloc_new _ _) | (rw [heap_drew1]) | (rw [heap_drewN1]) | (rw [Below.heap_setCell _ _ _ _ (by first | omega | (simp; done) | (simp; omega))]) | (rw [Below.heap_alloc _ _ _ (by first | omega | (simp; done) | (simp; omega))]) | (exact heap_alloc_at (by first | omega | (simp; done) | (simp; omega)))))
  obtain ⟨s0, s1, s2⟩ := res3 (show (w1.setCell ⟨w.heap.size + 1 + 1, 2, none⟩ (.slice A1 xs.length c1)).heap[w.heap.size + 1]? = some (.cells #[.int .i64 0, .int .i64 0, .slice none 0 0] 28 (0, 0)) from by (repeat (first | (with_reducible exact hR) | (with_reducible exact heap_alloc_new _ _) | (rw [heap_drew1]) | (rw [heap_drewN1]) | (rw [Below.heap_setCell _ _ _ _ (by first | omega | (simp; done) | (simp; omega))]) | (rw [Below.heap_alloc _ _ _ (by first | omega | (simp; done) | (simp; omega))]) | (exact heap_alloc_at (by first | omega | (simp; done) | (simp; omega)))))) (.int .i64 r) (.int .i64 c) (.slice A1 xs.length c1)
  (try simp only [Exit.inBlock, Exit.then]); refine bodyPost_ret (by simp [results, Try.results8, go_sem, s0, s1, s2]; try rfl) rfl ?_
  exact ⟨_, rfl, ((((HO.out.setLt (by simp) _).setLt (by simp) _).setLt (by simp) _).setLt (by simp) _).more (by simp; omega), by (repeat (first | (with_reducible assumption) | (with_reducible exact Below.refl _ _) | (with_reducible refine below_drewN' ?_ _) | (with_reducible refine Below.drew ?_) | ((with_reducible refine Below.alloc ?_ ?_ _); rotate_left; focus (first | (simp; done) | (simp; omega) | omega)) | ((with_reducible refine Below.setCell ?_ ?_ _); rotate_left; focus (first | (simp; done) | (simp; omega) | omega))))⟩
theorem eqRaster_same (r c : Int) (A1 A2 : Option Addr) (n c1 c2 : Nat) (xs : List Int) (w : World) (B1 B2 : Nat) (hr1 : RI w B1 A1 n xs) (hr2 : RI w B2 A2 n xs) (hB1 : B1 ≤ w.heap.size) (hB2 : B2 ≤ w.heap.size) (hn : n ≤ 1000000000000) :
    Calls Try.prog 10 #[.agg #[.int .i64 r, .int .i64 c, .slice A1 n c1], .agg #[.int .i64 r, .int .i64 c, .slice A2 n c2]] w fun e w' => e = .returned (.bool true) ∧ Below w.heap.size w w' := by
  have HE := Lib.hid (fun (w' : World) (hb : Below w.heap.size w w') => eqInt64S_any A1 A2 n n c1 c2 xs xs w' w.heap.size w.heap.size ((hr1.more hB1).below hb) ((hr2.more hB2).below hb) hn hn)
  have hx : (xs == xs) = true := by simp
  have hr0 : (r != r) = false := by simp
  have hc0 : (c != c) = false := by simp
  clear hr1 hr2
  rw [hx] at HE
  clear hx
  go_enter Try.func10, Try.ntmps10
  go_wp2_with (go_at_call 35; refine (HE.out _ (by go_grown)).mono ?_; rintro e1 w1 ⟨rfl, m1, rfl⟩)
  go_ret
  exact ⟨rfl, below_drewN' (by go_grown) _⟩
theorem szRaster_ok (r c : Int) (A : Option Addr) (n cp m : Nat) (w : World) (hn : n ≤ m) (hm : m ≤ 1000000000) :
    Calls Try.prog 6 #[.agg #[.int .i64 r, .int .i64 c, .slice A n cp], .int .i64 m] w fun e w' => e = .returned (.int .i64 (m - n : Nat)) ∧ Below w.heap.size w w' := by
  go_enter Try.func6, Try.ntmps6
  go_wp2_with (go_at_call 28; refine (szInt64S_ok _ _ _ _ _ hn hm).mono ?_; rintro e w' ⟨rfl, rfl⟩)
  go_ret
  exact ⟨rfl, by go_grown⟩
theorem szRaster_no (r c : Int) (A : Option Addr) (n cp m : Nat) (w : World) (hn : m < n) (hn2 : n ≤ 9223372036854775807) :
    Calls Try.prog 6 #[.agg #[.int .i64 r, .int .i64 c, .slice A n cp], .int .i64 m] w fun e w' => e = .returned (.int .i64 (-1)) ∧ Below w.heap.size w w' := by
  go_enter Try.func6, Try.ntmps6
  go_wp2_with (go_at_call 28; refine (szInt64S_no _ _ _ _ _ hn hn2).mono ?_; rintro e w' ⟨rfl, rfl⟩)
  go_ret
  exact ⟨rfl, by go_grown⟩
end Go.Proofs.Ytkipaefhnmfebaa
