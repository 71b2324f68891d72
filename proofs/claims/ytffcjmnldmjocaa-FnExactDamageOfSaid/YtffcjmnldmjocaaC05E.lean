/-
  Contracts of chapter 5: the damage of a word.
-/
import Derived.Test.YtffcjmnldmjocaaC05D
namespace Go.Proofs.Ytffcjmnldmjocaa
set_option linter.unusedSimpArgs false
open Go.RowKit

/-- The code of a code, words and indices. -/
def dmC (code words ind : Bool) : Int := bif code then (bif words then (bif ind then 0 else 5) else 2) else 1
/-- Twice the number of elements below k at which two words differ and that are no erasures. -/
def dmgN (xs ys er : List Int) : Nat → Nat
  | 0 => 0
  | k + 1 => dmgN xs ys er k + if nth xs k ≠ nth ys k ∧ hasB k er = false then 2 else 0
theorem dmgN_le (xs ys er : List Int) (k : Nat) : dmgN xs ys er k ≤ 2 * k := by
  induction k with
  | zero => exact Nat.le_refl _
  | succ k ih => simp only [dmgN]; split <;> omega
def dmV (code words ind : Bool) (n : Int) : Int := bif dmC code words ind == 0 then n else 0
/-- Two slices as a list of lists. -/
theorem lists_two {w : World} {gl n1 c1 n2 c2 : Nat} {A1 A2 : Option Addr} {xs ys : List Int} {t : TypeId} (hb : w.heap[gl]? = some (.cells #[.slice A1 n1 c1, .slice A2 n2 c2] t (0, 0))) (h1 : RI w w.heap.size A1 n1 xs) (h2 : RI w w.heap.size A2 n2 ys) (l1 : n1 ≤ 1000000000000) (l2 : n2 ≤ 1000000000000) :
    Lists w gl 2 (fun i => if i = 0 then A1 else A2) (fun i => if i = 0 then n1 else n2) (fun i => if i = 0 then c1 else c2) (fun i => if i = 0 then xs else ys) := by
  refine ⟨lt_of_block hb, fun i hi => ?_, fun i hi => ?_, fun i hi => ?_⟩
  · have : i = 0 ∨ i = 1 := by omega
    rcases this with rfl | rfl <;> simp [World.cell?, hb]
  · by_cases h : i = 0
    · simp only [h, if_true]; exact h1
    · simp only [h, if_false]; exact h2
  · by_cases h : i = 0
    · simp only [h, if_true]; exact l1
    · simp only [h, if_false]; exact l2
theorem lists_one {w : World} {gl n1 c1 : Nat} {A1 : Option Addr} {xs : List Int} {t : TypeId} (hb : w.heap[gl]? = some (.cells #[.slice A1 n1 c1] t (0, 0))) (h1 : RI w w.heap.size A1 n1 xs) (l1 : n1 ≤ 1000000000000) :
    Lists w gl 1 (fun _ => A1) (fun _ => n1) (fun _ => c1) (fun _ => xs) := by
  refine ⟨lt_of_block hb, fun i hi => ?_, fun i hi => h1, fun i hi => l1⟩
  obtain rfl : i = 0 := by omega
  simp [World.cell?, hb]
theorem words_two (p k len : Int) (xs ys : List Int) : wordsB p k len 2 (fun i => if i = 0 then xs else ys) = (wordB p k len xs && wordB p k len ys) := by
  simp [wordsB, List.range_succ, List.range_zero]
theorem words_one (p k len : Int) (xs : List Int) : wordsB p k len 1 (fun _ => xs) = wordB p k len xs := by
  simp [wordsB, List.range_succ, List.range_zero]
theorem words2_any (p k g len chk : Int) (gl cp n1 c1 n2 c2 : Nat) (A1 A2 : Option Addr) (xs ys : List Int) (t : TypeId) (w : World) (hb : w.heap[gl]? = some (.cells #[.slice A1 n1 c1, .slice A2 n2 c2] t (0, 0))) (h1 : RI w w.heap.size A1 n1 xs) (h2 : RI w w.heap.size A2 n2 ys) (l1 : n1 ≤ 1000000000000) (l2 : n2 ≤ 1000000000000) :
    Calls Try.prog 39 #[.agg #[.int .i64 p, .int .i64 k, .int .i64 g, .int .i64 len, .int .i64 chk], .slice (some ⟨gl, 0, none⟩) 2 cp] w fun e w' => ∃ v, e = .returned (.tuple #[v, .int .i64 (wcC (codeB p k g len chk) (wordB p k len xs && wordB p k len ys))]) ∧ Below w.heap.size w w' :=
  (cwords_any p k g len chk gl 2 cp _ _ _ _ w (lists_two hb h1 h2 l1 l2) (by omega)).mono fun e w' ⟨v, he, _, hb⟩ => ⟨v, by rw [he, words_two], hb⟩
theorem words1_no (p k g len chk : Int) (gl cp n1 c1 : Nat) (A1 : Option Addr) (xs : List Int) (t : TypeId) (w : World) (hb : w.heap[gl]? = some (.cells #[.slice A1 n1 c1] t (0, 0))) (h1 : RI w w.heap.size A1 n1 xs) (l1 : n1 ≤ 1000000000000) (hc : codeB p k g len chk = true) (hw : wordB p k len xs = true) :
    Calls Try.prog 39 #[.agg #[.int .i64 p, .int .i64 k, .int .i64 g, .int .i64 len, .int .i64 chk], .slice (some ⟨gl, 0, none⟩) 1 cp] w fun e w' =>
      ∃ b q S : Nat, e = .returned (.tuple #[.pointer (some ⟨b, 0, none⟩), .int .i64 0]) ∧ CoderAt w' b q S (k != 1) len chk ∧ w.heap.size ≤ b ∧ w.heap.size ≤ q ∧ Below w.heap.size w w' :=
  (cwords_any p k g len chk gl 1 cp _ _ _ _ w (lists_one hb h1 l1) (by omega)).mono fun e w' ⟨v, he, hy, hb⟩ => by
    rw [words_one] at he hy
    obtain ⟨b, q, S, rfl, _, h2, h3, h4⟩ := hy ⟨hc, hw⟩
    exact ⟨b, q, S, by rw [he, hc, hw]; rfl, h2, h3, h4, hb⟩
set_option maxHeartbeats 2000000 in
theorem cdamaged_any (p k g len chk : Int) (n1 c1 n3 c3 : Nat) (A1 A3 : Option Addr) (xs er : List Int) (w : World) (h1 : RI w w.heap.size A1 n1 xs) (h3 : RI w w.heap.size A3 n3 er) (l1 : n1 ≤ 1000000000000) (l3 : n3 ≤ 1000000000000) (hc : codeB p k g len chk = true) (hw : wordB p k len xs = true) :
    Calls Try.prog 40 #[.agg #[.int .i64 p, .int .i64 k, .int .i64 g, .int .i64 len, .int .i64 chk], .slice A1 n1 c1, .slice A3 n3 c3] w fun e w' => ∃ b : Nat, e = .returned (.tuple #[.pointer (some ⟨b, 0, none⟩), .int .i64 (bif risB 0 (len - 1) er then 0 else 5)]) ∧ Below w.heap.size w w' := by
  have HW := Lib.hid (fun (gl cp : Nat) (t : TypeId) (w' : World) (hb : Below w.heap.size w w') (hh : w'.heap[gl]? = some (.cells #[.slice A1 n1 c1] t (0, 0))) => words1_no p k g len chk gl cp n1 c1 A1 xs t w' hh ((h1.below hb).more hb.size) l1 hc hw)
  have HI := Lib.hid (fun (b q S : Nat) (w' : World) (hb : Below w.heap.size w w') (hC : CoderAt w' b q S (k != 1) len chk) => isIndices_any b q S (k != 1) len chk A3 n3 c3 er w' w'.heap.size hC (codeB_len hc) ((h3.below hb).more hb.size) (by omega))
  clear h1 h3 hc hw
  generalize risB 0 (len - 1) er = F at *
  cases F
  all_goals
    go_enter Try.func40, Try.ntmps40
    go_wp2_with fail
    go_at_call 39
    refine (HW.out _ _ _ _ (by (repeat (first | (with_reducible assumption) | (with_reducible exact Below.refl _ _) | (with_reducible refine below_drewN' ?_ _) | (with_reducible refine Below.drew ?_) | ((with_reducible refine Below.alloc ?_ ?_ _); rotate_left; focus (first | (simp; done) | (simp; omega) | omega)) | ((with_reducible refine Below.setCell ?_ ?_ _); rotate_left; focus (first | (simp; done) | (simp; omega) | omega))))) (heap_alloc_at (by simp))).mono ?_
    rintro e1 w1 ⟨b1, q1, S1, rfl, hC1, hg1, hq1, hb1⟩
    have hB1 : Below w.heap.size w w1 := below_then (by (repeat (first | (with_reducible assumption) | (with_reducible exact Below.refl _ _) | (with_reducible refine below_drewN' ?_ _) | (with_reducible refine Below.drew ?_) | ((with_reducible refine Below.alloc ?_ ?_ _); rotate_left; focus (first | (simp; done) | (simp; omega) | omega)) | ((with_reducible refine Below.setCell ?_ ?_ _); rotate_left; focus (first | (simp; done) | (simp; omega) | omega))))) (by simp; omega) hb1
    have HI1 := Lib.hid (HI.out b1 q1 S1 w1 hB1 hC1)
    clear hb1 hC1
    go_wp2_with (go_at_call 52; refine (HI1.out).mono ?_; rintro e w' ⟨rfl, rfl⟩)
    go_returns
    exact ⟨b1, rfl, by (repeat (first | (with_reducible assumption) | (with_reducible exact Below.refl _ _) | (with_reducible refine below_drewN' ?_ _) | (with_reducible refine Below.drew ?_) | ((with_reducible refine Below.alloc ?_ ?_ _); rotate_left; focus (first | (simp; done) | (simp; omega) | omega)) | ((with_reducible refine Below.setCell ?_ ?_ _); rotate_left; focus (first | (simp; done) | (simp; omega) | omega))))⟩
set_option maxHeartbeats 1000000 in
theorem holds_any (x : Int) (A : Option Addr) (n cp : Nat) (xs : List Int) (w : World) (B : Nat) (hr : RI w B A n xs) (hn : n ≤ 1000000000000000) :
    Calls Try.prog 41 #[.slice A n cp, .int .i64 x] w fun e w' => e = .returned (.bool (hasB x xs)) ∧ w = w' := by
  have HL := Lib.hid hr.len
  have HR := Lib.hid hr
  clear hr
  go_enter Try.func41, Try.ntmps41
  go_wp2_with fail
  go_loop [9] (fun i => ∃ k : Nat, k ≤ n ∧ i = .int .i64 k ∧ Hid (hasB x (xs.take k) = false)) (fun i => n - (intOf i).toNat)
  case atStart => exact ⟨0, Nat.zero_le _, rfl, Lib.hid rfl⟩
  case round =>
    obtain ⟨k, hk, rfl, hno⟩ := hrel
    by_cases hlt : k < n
    · obtain ⟨b, o, rfl, hb, hc⟩ := HR.out.cells (by omega)
      have hck := hc k hlt
      clear hc
      by_cases he : nth xs k = x
      · have HF := Lib.hid (hasB_hit (by rw [HL.out]; exact hlt) he)
        rw [he] at hck
        clear he
        go_wp2_with fail
        go_ret
        exact ⟨ret_bool HF.out.symm, rfl⟩
      · have he' : (nth xs k == x) = false := by simpa using he
        have HS : Hid (hasB x (xs.take (k + 1)) = false) := Lib.hid (by rw [hasB_take (by rw [HL.out]; exact hlt), hno.out, he']; rfl)
        clear he
        go_wp2_with fail
        go_round
        case rel => exact ⟨k + 1, by omega, by go_num, HS⟩
        case measure => simp [intOf]; omega
    · have HF : Hid (hasB x xs = false) := Lib.hid (by have := hno.out; rwa [List.take_of_length_le (by rw [HL.out]; omega)] at this)
      go_wp2_with fail
      go_ret
      exact ⟨ret_bool HF.out.symm, rfl⟩
set_option maxHeartbeats 2000000 in
theorem l05Code_any (p k g len chk : Int) (gl cp n1 c1 n2 c2 n3 c3 : Nat) (A1 A2 A3 : Option Addr) (xs ys er : List Int) (t : TypeId) (w : World) (hb : w.heap[gl]? = some (.cells #[.slice A1 n1 c1, .slice A2 n2 c2] t (0, 0))) (h1 : RI w w.heap.size A1 n1 xs) (h2 : RI w w.heap.size A2 n2 ys) (h3 : RI w w.heap.size A3 n3 er) (l1 : n1 ≤ 1000000000000) (l2 : n2 ≤ 1000000000000) (l3 : n3 ≤ 1000000000000) :
    Calls Try.prog 36 #[.agg #[.int .i64 p, .int .i64 k, .int .i64 g, .int .i64 len, .int .i64 chk], .slice A3 n3 c3, .slice (some ⟨gl, 0, none⟩) 2 cp] w fun e w' => e = .returned (.int .i64 (dmC (codeB p k g len chk) (wordB p k len xs && wordB p k len ys) (risB 0 (len - 1) er))) ∧ Below w.heap.size w w' := by
  have HC := Lib.hid (fun (w' : World) (hbl : Below w.heap.size w w') => (l04Code_any p k g len chk gl 2 cp _ _ _ _ w' ((lists_two hb h1 h2 l1 l2).below hbl) (by omega)))
  rw [words_two] at HC
  have HI := Lib.hid (fun (hc : codeB p k g len chk = true) (w' : World) (hbl : Below w.heap.size w w') => l05Indices_any p k g len chk A3 n3 c3 er w' w.heap.size (codeB_len hc) (h3.below hbl) hbl.size (by omega))
  clear hb h1 h2 h3
  generalize (wordB p k len xs && wordB p k len ys) = W at *
  generalize risB 0 (len - 1) er = F at *
  cases hc : codeB p k g len chk
  · rw [hc, show wcC false W = 1 from rfl] at HC
    clear hc
    go_enter Try.func36, Try.ntmps36
    go_wp2_with fail
    (go_at_call 48; refine (HC.out _ (by (repeat (first | (with_reducible assumption) | (with_reducible exact Below.refl _ _) | (with_reducible refine below_drewN' ?_ _) | (with_reducible refine Below.drew ?_) | ((with_reducible refine Below.alloc ?_ ?_ _); rotate_left; focus (first | (simp; done) | (simp; omega) | omega)) | ((with_reducible refine Below.setCell ?_ ?_ _); rotate_left; focus (first | (simp; done) | (simp; omega) | omega)))))).mono ?_; rintro e1 w1 ⟨rfl, hb1⟩; obtain ⟨hc1, hf1⟩ := bcell hb1; have hB1 : Below w.heap.size w w1 := (below_then (by first | (go_grown; done) | (repeat (first | (with_reducible assumption) | (with_reducible exact Below.refl _ _) | (with_reducible refine below_drewN' ?_ _) | (with_reducible refine Below.drew ?_) | ((with_reducible refine Below.alloc ?_ ?_ _); rotate_left; focus (first | (simp; done) | (simp; omega) | omega)) | ((with_reducible refine Below.setCell ?_ ?_ _); rotate_left; focus (first | (simp; done) | (simp; omega) | omega))))) (by first | omega | (simp; done) | (simp; omega)) hb1); have hz1a : w.heap.size < w1.heap.size := (by have := hb1.size; first | omega | (simp at this; omega)))
    go_wp2_with fail
    go_ret
    exact ⟨rfl, by (repeat (first | (with_reducible assumption) | (with_reducible exact Below.refl _ _) | (with_reducible refine below_drewN' ?_ _) | (with_reducible refine Below.drew ?_) | ((with_reducible refine Below.alloc ?_ ?_ _); rotate_left; focus (first | (simp; done) | (simp; omega) | omega)) | ((with_reducible refine Below.setCell ?_ ?_ _); rotate_left; focus (first | (simp; done) | (simp; omega) | omega))))⟩
  · have HI1 := Lib.hid (HI.out hc)
    cases W
    · rw [hc, show wcC true false = 2 from rfl] at HC
      clear hc
      go_enter Try.func36, Try.ntmps36
      go_wp2_with fail
      (go_at_call 48; refine (HC.out _ (by (repeat (first | (with_reducible assumption) | (with_reducible exact Below.refl _ _) | (with_reducible refine below_drewN' ?_ _) | (with_reducible refine Below.drew ?_) | ((with_reducible refine Below.alloc ?_ ?_ _); rotate_left; focus (first | (simp; done) | (simp; omega) | omega)) | ((with_reducible refine Below.setCell ?_ ?_ _); rotate_left; focus (first | (simp; done) | (simp; omega) | omega)))))).mono ?_; rintro e1 w1 ⟨rfl, hb1⟩; obtain ⟨hc1, hf1⟩ := bcell hb1; have hB1 : Below w.heap.size w w1 := (below_then (by first | (go_grown; done) | (repeat (first | (with_reducible assumption) | (with_reducible exact Below.refl _ _) | (with_reducible refine below_drewN' ?_ _) | (with_reducible refine Below.drew ?_) | ((with_reducible refine Below.alloc ?_ ?_ _); rotate_left; focus (first | (simp; done) | (simp; omega) | omega)) | ((with_reducible refine Below.setCell ?_ ?_ _); rotate_left; focus (first | (simp; done) | (simp; omega) | omega))))) (by first | omega | (simp; done) | (simp; omega)) hb1); have hz1a : w.heap.size < w1.heap.size := (by have := hb1.size; first | omega | (simp at this; omega)))
      go_wp2_with fail
      go_ret
      exact ⟨rfl, by (repeat (first | (with_reducible assumption) | (with_reducible exact Below.refl _ _) | (with_reducible refine below_drewN' ?_ _) | (with_reducible refine Below.drew ?_) | ((with_reducible refine Below.alloc ?_ ?_ _); rotate_left; focus (first | (simp; done) | (simp; omega) | omega)) | ((with_reducible refine Below.setCell ?_ ?_ _); rotate_left; focus (first | (simp; done) | (simp; omega) | omega))))⟩
    · rw [hc, show wcC true true = 0 from rfl] at HC
      clear hc
      cases F
      all_goals
        go_enter Try.func36, Try.ntmps36
        go_wp2_with fail
        (go_at_call 48; refine (HC.out _ (by (repeat (first | (with_reducible assumption) | (with_reducible exact Below.refl _ _) | (with_reducible refine below_drewN' ?_ _) | (with_reducible refine Below.drew ?_) | ((with_reducible refine Below.alloc ?_ ?_ _); rotate_left; focus (first | (simp; done) | (simp; omega) | omega)) | ((with_reducible refine Below.setCell ?_ ?_ _); rotate_left; focus (first | (simp; done) | (simp; omega) | omega)))))).mono ?_; rintro e1 w1 ⟨rfl, hb1⟩; obtain ⟨hc1, hf1⟩ := bcell hb1; have hB1 : Below w.heap.size w w1 := (below_then (by first | (go_grown; done) | (repeat (first | (with_reducible assumption) | (with_reducible exact Below.refl _ _) | (with_reducible refine below_drewN' ?_ _) | (with_reducible refine Below.drew ?_) | ((with_reducible refine Below.alloc ?_ ?_ _); rotate_left; focus (first | (simp; done) | (simp; omega) | omega)) | ((with_reducible refine Below.setCell ?_ ?_ _); rotate_left; focus (first | (simp; done) | (simp; omega) | omega))))) (by first | omega | (simp; done) | (simp; omega)) hb1); have hz1a : w.heap.size < w1.heap.size := (by have := hb1.size; first | omega | (simp at this; omega)))
        go_wp2_with fail
        (go_at_call 49; refine (HI1.out _ (by (repeat (first | (with_reducible assumption) | (with_reducible exact Below.refl _ _) | (with_reducible refine below_drewN' ?_ _) | (with_reducible refine Below.drew ?_) | ((with_reducible refine Below.alloc ?_ ?_ _); rotate_left; focus (first | (simp; done) | (simp; omega) | omega)) | ((with_reducible refine Below.setCell ?_ ?_ _); rotate_left; focus (first | (simp; done) | (simp; omega) | omega)))))).mono ?_; rintro e2 w2 ⟨rfl, hb2⟩; obtain ⟨hc2, hf2⟩ := bcell hb2; have hB2 : Below w.heap.size w w2 := (below_then (by first | (go_grown; done) | (repeat (first | (with_reducible assumption) | (with_reducible exact Below.refl _ _) | (with_reducible refine below_drewN' ?_ _) | (with_reducible refine Below.drew ?_) | ((with_reducible refine Below.alloc ?_ ?_ _); rotate_left; focus (first | (simp; done) | (simp; omega) | omega)) | ((with_reducible refine Below.setCell ?_ ?_ _); rotate_left; focus (first | (simp; done) | (simp; omega) | omega))))) (by first | omega | (simp; done) | (simp; omega)) hb2); have hz2a : w.heap.size < w2.heap.size := (by have := hb2.size; first | omega | (simp at this; omega)))
        go_wp2_with fail
        go_ret
        exact ⟨rfl, by (repeat (first | (with_reducible assumption) | (with_reducible exact Below.refl _ _) | (with_reducible refine below_drewN' ?_ _) | (with_reducible refine Below.drew ?_) | ((with_reducible refine Below.alloc ?_ ?_ _); rotate_left; focus (first | (simp; done) | (simp; omega) | omega)) | ((with_reducible refine Below.setCell ?_ ?_ _); rotate_left; focus (first | (simp; done) | (simp; omega) | omega))))⟩
end Go.Proofs.Ytffcjmnldmjocaa
