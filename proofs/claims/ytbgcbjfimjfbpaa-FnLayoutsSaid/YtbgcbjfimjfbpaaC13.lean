/-
  Contracts of chapter 13: names; the field of 32 elements.
-/
import Derived.Test.YtbgcbjfimjfbpaaC04
import Derived.Test.YtbgcbjfimjfbpaaC05
namespace Go.Proofs.Ytbgcbjfimjfbpaa
set_option linter.unusedSimpArgs false
open Go.RowKit

/-- Is a byte a small letter? -/
def letB (c : UInt8) : Bool := decide (97 ≤ (c.toNat : Int)) && decide ((c.toNat : Int) ≤ 122)
/-- Is a name valid? -/
def nameB (s : ByteArray) : Bool := s.data.toList.all letB && inR s.size 1 8
theorem name_no {s : ByteArray} {k : Nat} (hk : k < s.size) (h : letB s[k] = false) : nameB s = false := by
  have : s.data.toList.all letB = false := by
    cases e : s.data.toList.all letB with
    | false => rfl
    | true =>
      rw [List.all_eq_true] at e
      have := e s[k] (by
        rw [show s[k] = s.data[k]'hk from rfl]
        exact Array.mem_toList_iff.2 (Array.getElem_mem _))
      rw [this] at h; cases h
  unfold nameB; rw [this]; rfl
def letUp (s : ByteArray) (k : Nat) : Prop := ∀ i (h : i < s.size), i < k → letB s[i] = true
theorem name_yes {s : ByteArray} {k : Nat} (h : letUp s k) (hk : s.size ≤ k) : nameB s = inR s.size 1 8 := by
  have : s.data.toList.all letB = true := by
    rw [List.all_eq_true]
    intro c hc
    obtain ⟨i, hi, rfl⟩ := List.getElem_of_mem hc
    have hi' : i < s.size := by simpa using hi
    have := h i hi' (by omega)
    rw [Array.getElem_toList]
    exact this
  unfold nameB; rw [this]; rfl
set_option maxHeartbeats 2000000 in
theorem isName_any (s : ByteArray) (w : World) (hs : s.size ≤ 1000000000000) :
    Calls Try.prog 59 #[.string s] w fun e w' => e = .returned (.bool (nameB s)) ∧ w = w' := by
  go_enter Try.func59, Try.ntmps59
  go_wp2_with fail
  go_loop [3] (fun i => ∃ k : Nat, k ≤ s.size ∧ i = .int .i64 k ∧ Hid (letUp s k)) (fun i => s.size - (intOf i).toNat)
  case atStart => exact ⟨0, Nat.zero_le _, rfl, Lib.hid (fun i h h2 => by omega)⟩
  case round =>
    obtain ⟨k, hk, rfl, hup⟩ := hrel
    by_cases hlt : k < s.size
    · cases he : letB s[k]
      · have HF := Lib.hid (name_no hlt he)
        by_cases h1 : (s[k].toNat : Int) < 97
        · clear he
          go_wp2_with fail
          go_ret
          exact ⟨ret_bool HF.out.symm, rfl⟩
        · have h2 : (122 : Int) < (s[k].toNat : Int) := by
            unfold letB at he
            simp only [Bool.and_eq_false_iff, decide_eq_false_iff_not] at he
            omega
          clear he
          go_wp2_with fail
          all_goals first
            | (exfalso; omega)
            | (go_ret
               exact ⟨ret_bool HF.out.symm, rfl⟩)
      · have HU : Hid (letUp s (k + 1)) := Lib.hid (fun i h h2 => by
          rcases Nat.lt_or_ge i k with hl | hl
          · exact hup.out i h hl
          · obtain rfl : i = k := by omega
            exact he)
        unfold letB at he
        simp only [Bool.and_eq_true, decide_eq_true_eq] at he
        obtain ⟨h1, h2⟩ := he
        go_wp2_with fail
        all_goals first
          | (exfalso; omega)
          | (go_round
             case rel => exact ⟨k + 1, by omega, by go_num, HU⟩
             case measure => simp [intOf]; omega)
    · have HF := Lib.hid (name_yes hup.out (by omega))
      go_wp2_with (go_at_call 60; refine (inRange_any _ _ _ _).mono ?_; rintro e w' ⟨rfl, rfl⟩)
      go_ret
      exact ⟨ret_bool HF.out.symm, rfl⟩
set_option maxHeartbeats 2000000 in
theorem l13Name_any (s : ByteArray) (w : World) (hs : s.size ≤ 1000000000000) :
    Calls Try.prog 65 #[.string s] w fun e w' => e = .returned (.bool (nameB s)) ∧ w = w' := by
  go_enter Try.func65, Try.ntmps65
  go_wp2_with fail
  go_loop [3] (fun i => ∃ k : Nat, k ≤ s.size ∧ i = .int .i64 k ∧ Hid (letUp s k)) (fun i => s.size - (intOf i).toNat)
  case atStart => exact ⟨0, Nat.zero_le _, rfl, Lib.hid (fun i h h2 => by omega)⟩
  case round =>
    obtain ⟨k, hk, rfl, hup⟩ := hrel
    by_cases hlt : k < s.size
    · cases he : letB s[k]
      · have HF := Lib.hid (name_no hlt he)
        by_cases h1 : (s[k].toNat : Int) < 97
        · clear he
          go_wp2_with fail
          go_ret
          exact ⟨ret_bool HF.out.symm, rfl⟩
        · have h2 : (122 : Int) < (s[k].toNat : Int) := by
            unfold letB at he
            simp only [Bool.and_eq_false_iff, decide_eq_false_iff_not] at he
            omega
          clear he
          go_wp2_with fail
          all_goals first
            | (exfalso; omega)
            | (go_ret
               exact ⟨ret_bool HF.out.symm, rfl⟩)
      · have HU : Hid (letUp s (k + 1)) := Lib.hid (fun i h h2 => by
          rcases Nat.lt_or_ge i k with hl | hl
          · exact hup.out i h hl
          · obtain rfl : i = k := by omega
            exact he)
        unfold letB at he
        simp only [Bool.and_eq_true, decide_eq_true_eq] at he
        obtain ⟨h1, h2⟩ := he
        go_wp2_with fail
        all_goals first
          | (exfalso; omega)
          | (go_round
             case rel => exact ⟨k + 1, by omega, by go_num, HU⟩
             case measure => simp [intOf]; omega)
    · have HF := Lib.hid (name_yes hup.out (by omega))
      go_wp2_with fail
      all_goals
        go_ret
        exact ⟨ret_bool (by rw [HF.out, inR]; first | (simp; done) | (simp; omega)), rfl⟩
theorem f32_no : fieldB 2 5 32 = false ∧ fieldB 2 5 33 = false ∧ fieldB 2 5 34 = false ∧ fieldB 2 5 35 = false ∧ fieldB 2 5 36 = false := by decide +kernel
theorem f32_yes : fieldB 2 5 37 = true := by decide +kernel
theorem prime32 : primeB 32 = false := by decide +kernel
set_option maxHeartbeats 4000000 in
theorem FieldOf_32 (w : World) : Calls Try.prog 64 #[.int .i64 32] w fun e w' => e = .returned (.tuple #[.agg #[.int .i64 2, .int .i64 5, .int .i64 37], .int .i64 0]) ∧ Below w.heap.size w w' := by
  obtain ⟨f32, f33, f34, f35, f36⟩ := f32_no
  have f37 := f32_yes
  have F32 := Lib.hid (fun w => IsField_any 2 5 32 w)
  have F33 := Lib.hid (fun w => IsField_any 2 5 33 w)
  have F34 := Lib.hid (fun w => IsField_any 2 5 34 w)
  have F35 := Lib.hid (fun w => IsField_any 2 5 35 w)
  have F36 := Lib.hid (fun w => IsField_any 2 5 36 w)
  have F37 := Lib.hid (fun w => IsField_any 2 5 37 w)
  have HQ := Lib.hid (fun w => isPrime_any 32 w (by omega) (by omega))
  rw [f32] at F32
  rw [f33] at F33
  rw [f34] at F34
  rw [f35] at F35
  rw [f36] at F36
  rw [f37] at F37
  rw [prime32] at HQ
  clear f32 f33 f34 f35 f36 f37
  have hin : inR 32 3 1021 = true := by decide
  go_enter Try.func64, Try.ntmps64
  go_wp2_with first | (go_at_call 60; refine (inRange_any _ _ _ _).mono ?_; rintro e w' ⟨rfl, rfl⟩) | (go_at_call 95; refine (HQ.out _).mono ?_; rintro e w' ⟨rfl, rfl⟩)
  refine wp_loop_rounds 3 ?_
  rw [rounds_succ]
  go_wp2_with fail
  rw [rounds_succ]
  go_wp2_with fail
  rw [rounds_succ]
  go_wp2_with fail
  refine wp_loop_rounds 6 ?_
  rw [rounds_succ]
  go_wp2_with fail
  (go_at_call 63; with_reducible refine (F32.out _).mono ?_; rintro e1 w1 ⟨rfl, hb1⟩; obtain ⟨hc1, hf1⟩ := bcell hb1; have hB1 : Below w.heap.size w w1 := (below_then (by first | (go_grown; done) | (repeat (first | (with_reducible assumption) | (with_reducible exact Below.refl _ _) | (with_reducible refine below_drewN' ?_ _) | (with_reducible refine Below.drew ?_) | ((with_reducible refine Below.alloc ?_ ?_ _); rotate_left; focus (first | (simp; done) | (simp; omega) | omega)) | ((with_reducible refine Below.setCell ?_ ?_ _); rotate_left; focus (first | (simp; done) | (simp; omega) | omega))))) (by first | omega | (simp; done) | (simp; omega)) hb1); have hz1a : w.heap.size < w1.heap.size := (by have := hb1.size; first | omega | (simp at this; omega)))
  have hR1 : w1.heap[w.heap.size]? = some (.cells #[.int .i64 0, .int .i64 0, .int .i64 0] 28 (0, 0)) := by
    refine blk_below ?_ hb1 (by first | (simp; done) | (simp; omega))
    (repeat (first | (with_reducible exact heap_alloc_new _ _) | (rw [heap_drew1]) | (rw [heap_drewN1]) | (rw [Below.heap_setCell _ _ _ _ (by first | omega | (simp; done) | (simp; omega))]) | (rw [Below.heap_alloc _ _ _ (by first | omega | (simp; done) | (simp; omega))]) | (exact heap_alloc_at (by first | omega | (simp; done) | (simp; omega)))))
  clear hc1 hf1
  go_wp2_with fail
  rw [rounds_succ]
  go_wp2_with fail
  (go_at_call 63; with_reducible refine (F33.out _).mono ?_; rintro e2 w2 ⟨rfl, hb2⟩; obtain ⟨hc2, hf2⟩ := bcell hb2; have hB2 : Below w.heap.size w w2 := (below_then (by first | (go_grown; done) | (repeat (first | (with_reducible assumption) | (with_reducible exact Below.refl _ _) | (with_reducible refine below_drewN' ?_ _) | (with_reducible refine Below.drew ?_) | ((with_reducible refine Below.alloc ?_ ?_ _); rotate_left; focus (first | (simp; done) | (simp; omega) | omega)) | ((with_reducible refine Below.setCell ?_ ?_ _); rotate_left; focus (first | (simp; done) | (simp; omega) | omega))))) (by first | omega | (simp; done) | (simp; omega)) hb2); have hz2a : w.heap.size < w2.heap.size := (by have := hb2.size; first | omega | (simp at this; omega)))
  have hR2 : w2.heap[w.heap.size]? = some (.cells #[.int .i64 0, .int .i64 0, .int .i64 0] 28 (0, 0)) := by
    refine blk_below ?_ hb2 (by first | (simp; done) | (simp; omega))
    (repeat (first | (with_reducible exact hR1) | (with_reducible exact heap_alloc_new _ _) | (rw [heap_drew1]) | (rw [heap_drewN1]) | (rw [Below.heap_setCell _ _ _ _ (by first | omega | (simp; done) | (simp; omega))]) | (rw [Below.heap_alloc _ _ _ (by first | omega | (simp; done) | (simp; omega))]) | (exact heap_alloc_at (by first | omega | (simp; done) | (simp; omega)))))
  clear hR1
  clear hc2 hf2
  go_wp2_with fail
  rw [rounds_succ]
  go_wp2_with fail
  (go_at_call 63; with_reducible refine (F34.out _).mono ?_; rintro e3 w3 ⟨rfl, hb3⟩; obtain ⟨hc3, hf3⟩ := bcell hb3; have hB3 : Below w.heap.size w w3 := (below_then (by first | (go_grown; done) | (repeat (first | (with_reducible assumption) | (with_reducible exact Below.refl _ _) | (with_reducible refine below_drewN' ?_ _) | (with_reducible refine Below.drew ?_) | ((with_reducible refine Below.alloc ?_ ?_ _); rotate_left; focus (first | (simp; done) | (simp; omega) | omega)) | ((with_reducible refine Below.setCell ?_ ?_ _); rotate_left; focus (first | (simp; done) | (simp; omega) | omega))))) (by first | omega | (simp; done) | (simp; omega)) hb3); have hz3a : w.heap.size < w3.heap.size := (by have := hb3.size; first | omega | (simp at this; omega)))
  have hR3 : w3.heap[w.heap.size]? = some (.cells #[.int .i64 0, .int .i64 0, .int .i64 0] 28 (0, 0)) := by
    refine blk_below ?_ hb3 (by first | (simp; done) | (simp; omega))
    (repeat (first | (with_reducible exact hR2) | (with_reducible exact heap_alloc_new _ _) | (rw [heap_drew1]) | (rw [heap_drewN1]) | (rw [Below.heap_setCell _ _ _ _ (by first | omega | (simp; done) | (simp; omega))]) | (rw [Below.heap_alloc _ _ _ (by first | omega | (simp; done) | (simp; omega))]) | (exact heap_alloc_at (by first | omega | (simp; done) | (simp; omega)))))
  clear hR2
  clear hc3 hf3
  go_wp2_with fail
  rw [rounds_succ]
  go_wp2_with fail
  (go_at_call 63; with_reducible refine (F35.out _).mono ?_; rintro e4 w4 ⟨rfl, hb4⟩; obtain ⟨hc4, hf4⟩ := bcell hb4; have hB4 : Below w.heap.size w w4 := (below_then (by first | (go_grown; done) | (repeat (first | (with_reducible assumption) | (with_reducible exact Below.refl _ _) | (with_reducible refine below_drewN' ?_ _) | (with_reducible refine Below.drew ?_) | ((with_reducible refine Below.alloc ?_ ?_ _); rotate_left; focus (first | (simp; done) | (simp; omega) | omega)) | ((with_reducible refine Below.setCell ?_ ?_ _); rotate_left; focus (first | (simp; done) | (simp; omega) | omega))))) (by first | omega | (simp; done) | (simp; omega)) hb4); have hz4a : w.heap.size < w4.heap.size := (by have := hb4.size; first | omega | (simp at this; omega)))
  have hR4 : w4.heap[w.heap.size]? = some (.cells #[.int .i64 0, .int .i64 0, .int .i64 0] 28 (0, 0)) := by
    refine blk_below ?_ hb4 (by first | (simp; done) | (simp; omega))
    (repeat (first | (with_reducible exact hR3) | (with_reducible exact heap_alloc_new _ _) | (rw [heap_drew1]) | (rw [heap_drewN1]) | (rw [Below.heap_setCell _ _ _ _ (by first | omega | (simp; done) | (simp; omega))]) | (rw [Below.heap_alloc _ _ _ (by first | omega | (simp; done) | (simp; omega))]) | (exact heap_alloc_at (by first | omega | (simp; done) | (simp; omega)))))
  clear hR3
  clear hc4 hf4
  go_wp2_with fail
  rw [rounds_succ]
  go_wp2_with fail
  (go_at_call 63; with_reducible refine (F36.out _).mono ?_; rintro e5 w5 ⟨rfl, hb5⟩; obtain ⟨hc5, hf5⟩ := bcell hb5; have hB5 : Below w.heap.size w w5 := (below_then (by first | (go_grown; done) | (repeat (first | (with_reducible assumption) | (with_reducible exact Below.refl _ _) | (with_reducible refine below_drewN' ?_ _) | (with_reducible refine Below.drew ?_) | ((with_reducible refine Below.alloc ?_ ?_ _); rotate_left; focus (first | (simp; done) | (simp; omega) | omega)) | ((with_reducible refine Below.setCell ?_ ?_ _); rotate_left; focus (first | (simp; done) | (simp; omega) | omega))))) (by first | omega | (simp; done) | (simp; omega)) hb5); have hz5a : w.heap.size < w5.heap.size := (by have := hb5.size; first | omega | (simp at this; omega)))
  have hR5 : w5.heap[w.heap.size]? = some (.cells #[.int .i64 0, .int .i64 0, .int .i64 0] 28 (0, 0)) := by
    refine blk_below ?_ hb5 (by first | (simp; done) | (simp; omega))
    (repeat (first | (with_reducible exact hR4) | (with_reducible exact heap_alloc_new _ _) | (rw [heap_drew1]) | (rw [heap_drewN1]) | (rw [Below.heap_setCell _ _ _ _ (by first | omega | (simp; done) | (simp; omega))]) | (rw [Below.heap_alloc _ _ _ (by first | omega | (simp; done) | (simp; omega))]) | (exact heap_alloc_at (by first | omega | (simp; done) | (simp; omega)))))
  clear hR4
  clear hc5 hf5
  go_wp2_with fail
  rw [rounds_succ]
  go_wp2_with fail
  (go_at_call 63; with_reducible refine (F37.out _).mono ?_; rintro e6 w6 ⟨rfl, hb6⟩; obtain ⟨hc6, hf6⟩ := bcell hb6; have hB6 : Below w.heap.size w w6 := (below_then (by first | (go_grown; done) | (repeat (first | (with_reducible assumption) | (with_reducible exact Below.refl _ _) | (with_reducible refine below_drewN' ?_ _) | (with_reducible refine Below.drew ?_) | ((with_reducible refine Below.alloc ?_ ?_ _); rotate_left; focus (first | (simp; done) | (simp; omega) | omega)) | ((with_reducible refine Below.setCell ?_ ?_ _); rotate_left; focus (first | (simp; done) | (simp; omega) | omega))))) (by first | omega | (simp; done) | (simp; omega)) hb6); have hz6a : w.heap.size < w6.heap.size := (by have := hb6.size; first | omega | (simp at this; omega)))
  have hR6 : w6.heap[w.heap.size]? = some (.cells #[.int .i64 0, .int .i64 0, .int .i64 0] 28 (0, 0)) := by
    refine blk_below ?_ hb6 (by first | (simp; done) | (simp; omega))
    (repeat (first | (with_reducible exact hR5) | (with_reducible exact heap_alloc_new _ _) | (rw [heap_drew1]) | (rw [heap_drewN1]) | (rw [Below.heap_setCell _ _ _ _ (by first | omega | (simp; done) | (simp; omega))]) | (rw [Below.heap_alloc _ _ _ (by first | omega | (simp; done) | (simp; omega))]) | (exact heap_alloc_at (by first | omega | (simp; done) | (simp; omega)))))
  clear hR5
  obtain ⟨s0, s1, s2⟩ := res3 hR6 (.int .i64 2) (.int .i64 5) (.int .i64 37)
  obtain ⟨z0, z1, z2, zf⟩ := blk3 hR6
  have hT6 : w6.heap[w5.heap.size]? = some (.cells #[.int .i64 2, .int .i64 5, .int .i64 37] 28 (0, 0)) := blk_below (heap_alloc_new _ _) hb6 (by simp)
  obtain ⟨y0, y1, y2, -⟩ := blk3 hT6
  clear hR6 hT6 hc6 hf6
  go_wp2_with fail
  (try simp only [Exit.inBlock, Exit.then]); refine bodyPost_ret (by simp [results, Try.results64, go_sem, s0, s1, s2]; try rfl) rfl ?_
  exact ⟨rfl, by (repeat (first | (with_reducible assumption) | (with_reducible exact Below.refl _ _) | (with_reducible refine below_drewN' ?_ _) | (with_reducible refine Below.drew ?_) | ((with_reducible refine Below.alloc ?_ ?_ _); rotate_left; focus (first | (simp; done) | (simp; omega) | omega)) | ((with_reducible refine Below.setCell ?_ ?_ _); rotate_left; focus (first | (simp; done) | (simp; omega) | omega))))⟩

set_option maxHeartbeats 4000000 in
theorem sFieldOf_32 (w : World) : Calls Try.prog 68 #[.int .i64 32] w fun e w' => e = .returned (.tuple #[.agg #[.int .i64 2, .int .i64 5, .int .i64 37], .int .i64 0]) ∧ Below w.heap.size w w' := by
  obtain ⟨f32, f33, f34, f35, f36⟩ := f32_no
  have f37 := f32_yes
  have F32 := Lib.hid (fun w => sIsField_any 2 5 32 w)
  have F33 := Lib.hid (fun w => sIsField_any 2 5 33 w)
  have F34 := Lib.hid (fun w => sIsField_any 2 5 34 w)
  have F35 := Lib.hid (fun w => sIsField_any 2 5 35 w)
  have F36 := Lib.hid (fun w => sIsField_any 2 5 36 w)
  have F37 := Lib.hid (fun w => sIsField_any 2 5 37 w)
  have HQ := Lib.hid (fun w => l02Prime_any 32 w (by omega) (by omega))
  rw [f32] at F32
  rw [f33] at F33
  rw [f34] at F34
  rw [f35] at F35
  rw [f36] at F36
  rw [f37] at F37
  rw [prime32] at HQ
  clear f32 f33 f34 f35 f36 f37
  have hin : inR 32 3 1021 = true := by decide
  go_enter Try.func68, Try.ntmps68
  go_wp2_with first | (go_at_call 47; refine (l01In_any _ _ _ _).mono ?_; rintro e w' ⟨rfl, rfl⟩) | (go_at_call 97; refine (HQ.out _).mono ?_; rintro e w' ⟨rfl, rfl⟩)
  refine wp_loop_rounds 3 ?_
  rw [rounds_succ]
  go_wp2_with fail
  rw [rounds_succ]
  go_wp2_with fail
  rw [rounds_succ]
  go_wp2_with fail
  refine wp_loop_rounds 6 ?_
  rw [rounds_succ]
  go_wp2_with fail
  (go_at_call 66; with_reducible refine (F32.out _).mono ?_; rintro e1 w1 ⟨rfl, hb1⟩; obtain ⟨hc1, hf1⟩ := bcell hb1; have hB1 : Below w.heap.size w w1 := (below_then (by first | (go_grown; done) | (repeat (first | (with_reducible assumption) | (with_reducible exact Below.refl _ _) | (with_reducible refine below_drewN' ?_ _) | (with_reducible refine Below.drew ?_) | ((with_reducible refine Below.alloc ?_ ?_ _); rotate_left; focus (first | (simp; done) | (simp; omega) | omega)) | ((with_reducible refine Below.setCell ?_ ?_ _); rotate_left; focus (first | (simp; done) | (simp; omega) | omega))))) (by first | omega | (simp; done) | (simp; omega)) hb1); have hz1a : w.heap.size < w1.heap.size := (by have := hb1.size; first | omega | (simp at this; omega)))
  have hR1 : w1.heap[w.heap.size]? = some (.cells #[.int .i64 0, .int .i64 0, .int .i64 0] 28 (0, 0)) := by
    refine blk_below ?_ hb1 (by first | (simp; done) | (simp; omega))
    (repeat (first | (with_reducible exact heap_alloc_new _ _) | (rw [heap_drew1]) | (rw [heap_drewN1]) | (rw [Below.heap_setCell _ _ _ _ (by first | omega | (simp; done) | (simp; omega))]) | (rw [Below.heap_alloc _ _ _ (by first | omega | (simp; done) | (simp; omega))]) | (exact heap_alloc_at (by first | omega | (simp; done) | (simp; omega)))))
  clear hc1 hf1
  go_wp2_with fail
  rw [rounds_succ]
  go_wp2_with fail
  (go_at_call 66; with_reducible refine (F33.out _).mono ?_; rintro e2 w2 ⟨rfl, hb2⟩; obtain ⟨hc2, hf2⟩ := bcell hb2; have hB2 : Below w.heap.size w w2 := (below_then (by first | (go_grown; done) | (repeat (first | (with_reducible assumption) | (with_reducible exact Below.refl _ _) | (with_reducible refine below_drewN' ?_ _) | (with_reducible refine Below.drew ?_) | ((with_reducible refine Below.alloc ?_ ?_ _); rotate_left; focus (first | (simp; done) | (simp; omega) | omega)) | ((with_reducible refine Below.setCell ?_ ?_ _); rotate_left; focus (first | (simp; done) | (simp; omega) | omega))))) (by first | omega | (simp; done) | (simp; omega)) hb2); have hz2a : w.heap.size < w2.heap.size := (by have := hb2.size; first | omega | (simp at this; omega)))
  have hR2 : w2.heap[w.heap.size]? = some (.cells #[.int .i64 0, .int .i64 0, .int .i64 0] 28 (0, 0)) := by
    refine blk_below ?_ hb2 (by first | (simp; done) | (simp; omega))
    (repeat (first | (with_reducible exact hR1) | (with_reducible exact heap_alloc_new _ _) | (rw [heap_drew1]) | (rw [heap_drewN1]) | (rw [Below.heap_setCell _ _ _ _ (by first | omega | (simp; done) | (simp; omega))]) | (rw [Below.heap_alloc _ _ _ (by first | omega | (simp; done) | (simp; omega))]) | (exact heap_alloc_at (by first | omega | (simp; done) | (simp; omega)))))
  clear hR1
  clear hc2 hf2
  go_wp2_with fail
  rw [rounds_succ]
  go_wp2_with fail
  (go_at_call 66; with_reducible refine (F34.out _).mono ?_; rintro e3 w3 ⟨rfl, hb3⟩; obtain ⟨hc3, hf3⟩ := bcell hb3; have hB3 : Below w.heap.size w w3 := (below_then (by first | (go_grown; done) | (repeat (first | (with_reducible assumption) | (with_reducible exact Below.refl _ _) | (with_reducible refine below_drewN' ?_ _) | (with_reducible refine Below.drew ?_) | ((with_reducible refine Below.alloc ?_ ?_ _); rotate_left; focus (first | (simp; done) | (simp; omega) | omega)) | ((with_reducible refine Below.setCell ?_ ?_ _); rotate_left; focus (first | (simp; done) | (simp; omega) | omega))))) (by first | omega | (simp; done) | (simp; omega)) hb3); have hz3a : w.heap.size < w3.heap.size := (by have := hb3.size; first | omega | (simp at this; omega)))
  have hR3 : w3.heap[w.heap.size]? = some (.cells #[.int .i64 0, .int .i64 0, .int .i64 0] 28 (0, 0)) := by
    refine blk_below ?_ hb3 (by first | (simp; done) | (simp; omega))
    (repeat (first | (with_reducible exact hR2) | (with_reducible exact heap_alloc_new _ _) | (rw [heap_drew1]) | (rw [heap_drewN1]) | (rw [Below.heap_setCell _ _ _ _ (by first | omega | (simp; done) | (simp; omega))]) | (rw [Below.heap_alloc _ _ _ (by first | omega | (simp; done) | (simp; omega))]) | (exact heap_alloc_at (by first | omega | (simp; done) | (simp; omega)))))
  clear hR2
  clear hc3 hf3
  go_wp2_with fail
  rw [rounds_succ]
  go_wp2_with fail
  (go_at_call 66; with_reducible refine (F35.out _).mono ?_; rintro e4 w4 ⟨rfl, hb4⟩; obtain ⟨hc4, hf4⟩ := bcell hb4; have hB4 : Below w.heap.size w w4 := (below_then (by first | (go_grown; done) | (repeat (first | (with_reducible assumption) | (with_reducible exact Below.refl _ _) | (with_reducible refine below_drewN' ?_ _) | (with_reducible refine Below.drew ?_) | ((with_reducible refine Below.alloc ?_ ?_ _); rotate_left; focus (first | (simp; done) | (simp; omega) | omega)) | ((with_reducible refine Below.setCell ?_ ?_ _); rotate_left; focus (first | (simp; done) | (simp; omega) | omega))))) (by first | omega | (simp; done) | (simp; omega)) hb4); have hz4a : w.heap.size < w4.heap.size := (by have := hb4.size; first | omega | (simp at this; omega)))
  have hR4 : w4.heap[w.heap.size]? = some (.cells #[.int .i64 0, .int .i64 0, .int .i64 0] 28 (0, 0)) := by
    refine blk_below ?_ hb4 (by first | (simp; done) | (simp; omega))
    (repeat (first | (with_reducible exact hR3) | (with_reducible exact heap_alloc_new _ _) | (rw [heap_drew1]) | (rw [heap_drewN1]) | (rw [Below.heap_setCell _ _ _ _ (by first | omega | (simp; done) | (simp; omega))]) | (rw [Below.heap_alloc _ _ _ (by first | omega | (simp; done) | (simp; omega))]) | (exact heap_alloc_at (by first | omega | (simp; done) | (simp; omega)))))
  clear hR3
  clear hc4 hf4
  go_wp2_with fail
  rw [rounds_succ]
  go_wp2_with fail
  (go_at_call 66; with_reducible refine (F36.out _).mono ?_; rintro e5 w5 ⟨rfl, hb5⟩; obtain ⟨hc5, hf5⟩ := bcell hb5; have hB5 : Below w.heap.size w w5 := (below_then (by first | (go_grown; done) | (repeat (first | (with_reducible assumption) | (with_reducible exact Below.refl _ _) | (with_reducible refine below_drewN' ?_ _) | (with_reducible refine Below.drew ?_) | ((with_reducible refine Below.alloc ?_ ?_ _); rotate_left; focus (first | (simp; done) | (simp; omega) | omega)) | ((with_reducible refine Below.setCell ?_ ?_ _); rotate_left; focus (first | (simp; done) | (simp; omega) | omega))))) (by first | omega | (simp; done) | (simp; omega)) hb5); have hz5a : w.heap.size < w5.heap.size := (by have := hb5.size; first | omega | (simp at this; omega)))
  have hR5 : w5.heap[w.heap.size]? = some (.cells #[.int .i64 0, .int .i64 0, .int .i64 0] 28 (0, 0)) := by
    refine blk_below ?_ hb5 (by first | (simp; done) | (simp; omega))
    (repeat (first | (with_reducible exact hR4) | (with_reducible exact heap_alloc_new _ _) | (rw [heap_drew1]) | (rw [heap_drewN1]) | (rw [Below.heap_setCell _ _ _ _ (by first | omega | (simp; done) | (simp; omega))]) | (rw [Below.heap_alloc _ _ _ (by first | omega | (simp; done) | (simp; omega))]) | (exact heap_alloc_at (by first | omega | (simp; done) | (simp; omega)))))
  clear hR4
  clear hc5 hf5
  go_wp2_with fail
  rw [rounds_succ]
  go_wp2_with fail
  (go_at_call 66; with_reducible refine (F37.out _).mono ?_; rintro e6 w6 ⟨rfl, hb6⟩; obtain ⟨hc6, hf6⟩ := bcell hb6; have hB6 : Below w.heap.size w w6 := (below_then (by first | (go_grown; done) | (repeat (first | (with_reducible assumption) | (with_reducible exact Below.refl _ _) | (with_reducible refine below_drewN' ?_ _) | (with_reducible refine Below.drew ?_) | ((with_reducible refine Below.alloc ?_ ?_ _); rotate_left; focus (first | (simp; done) | (simp; omega) | omega)) | ((with_reducible refine Below.setCell ?_ ?_ _); rotate_left; focus (first | (simp; done) | (simp; omega) | omega))))) (by first | omega | (simp; done) | (simp; omega)) hb6); have hz6a : w.heap.size < w6.heap.size := (by have := hb6.size; first | omega | (simp at this; omega)))
  have hR6 : w6.heap[w.heap.size]? = some (.cells #[.int .i64 0, .int .i64 0, .int .i64 0] 28 (0, 0)) := by
    refine blk_below ?_ hb6 (by first | (simp; done) | (simp; omega))
    (repeat (first | (with_reducible exact hR5) | (with_reducible exact heap_alloc_new _ _) | (rw [heap_drew1]) | (rw [heap_drewN1]) | (rw [Below.heap_setCell _ _ _ _ (by first | omega | (simp; done) | (simp; omega))]) | (rw [Below.heap_alloc _ _ _ (by first | omega | (simp; done) | (simp; omega))]) | (exact heap_alloc_at (by first | omega | (simp; done) | (simp; omega)))))
  clear hR5
  obtain ⟨s0, s1, s2⟩ := res3 hR6 (.int .i64 2) (.int .i64 5) (.int .i64 37)
  obtain ⟨z0, z1, z2, zf⟩ := blk3 hR6
  have hT6 : w6.heap[w5.heap.size]? = some (.cells #[.int .i64 2, .int .i64 5, .int .i64 37] 28 (0, 0)) := blk_below (heap_alloc_new _ _) hb6 (by simp)
  obtain ⟨y0, y1, y2, -⟩ := blk3 hT6
  clear hR6 hT6 hc6 hf6
  go_wp2_with fail
  (try simp only [Exit.inBlock, Exit.then]); refine bodyPost_ret (by simp [results, Try.results68, go_sem, s0, s1, s2]; try rfl) rfl ?_
  exact ⟨rfl, by (repeat (first | (with_reducible assumption) | (with_reducible exact Below.refl _ _) | (with_reducible refine below_drewN' ?_ _) | (with_reducible refine Below.drew ?_) | ((with_reducible refine Below.alloc ?_ ?_ _); rotate_left; focus (first | (simp; done) | (simp; omega) | omega)) | ((with_reducible refine Below.setCell ?_ ?_ _); rotate_left; focus (first | (simp; done) | (simp; omega) | omega))))⟩

end Go.Proofs.Ytbgcbjfimjfbpaa
