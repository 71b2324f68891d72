/-
  Contracts of chapters 4 and 5: words of a code, indices, damage.
-/
import Derived.Test.YtffcjmnldmjocaaC04W
namespace Go.Proofs.Ytffcjmnldmjocaa
set_option linter.unusedSimpArgs false
open Go.RowKit

theorem below_blurD {B : Nat} {w W : World} (h : Below B w W) (hB : B ≤ W.heap.size) (z : Blur W) : Below B w (blur z) := h.trans (z.below.mono hB)
theorem codeB_len {p k g len chk : Int} (h : codeB p k g len chk = true) : 2 ≤ len ∧ len ≤ 255 := by
  simp only [codeB, Bool.and_eq_true] at h
  have a := inR_true h.1.1.1
  have b := inR_true h.1.1.2
  omega
theorem isIndices_any (b g S : Nat) (bin : Bool) (len chk : Int) (A : Option Addr) (n cp : Nat) (xs : List Int) (w : World) (B : Nat) (hC : CoderAt w b g S bin len chk) (hl : 2 ≤ len ∧ len ≤ 255) (hr : RI w B A n xs) (hn : n ≤ 1000000000000000) :
    Calls Try.prog 52 #[.pointer (some ⟨b, 0, none⟩), .slice A n cp] w fun e w' => e = .returned (.bool (risB 0 (len - 1) xs)) ∧ w = w' := by
  obtain ⟨c0, c1, c2, -⟩ := blk3 hC.1
  have HA := Lib.hid (rises_any 0 (len - 1) A n cp xs w B hr hn)
  clear hC hr
  go_enter Try.func52, Try.ntmps52
  go_wp2_with (go_at_call 62; refine (HA.out).mono ?_; rintro e w' ⟨rfl, rfl⟩)
  go_ret
  exact ⟨rfl, rfl⟩
set_option maxHeartbeats 2000000 in
theorem l05Indices_any (p k g len chk : Int) (A : Option Addr) (n cp : Nat) (xs : List Int) (w : World) (B : Nat) (hl : 2 ≤ len ∧ len ≤ 255) (hr : RI w B A n xs) (hB : B ≤ w.heap.size) (hn : n ≤ 1000000000000000) :
    Calls Try.prog 49 #[.agg #[.int .i64 p, .int .i64 k, .int .i64 g, .int .i64 len, .int .i64 chk], .slice A n cp] w fun e w' => e = .returned (.bool (risB 0 (len - 1) xs)) ∧ Below w.heap.size w w' := by
  have HL := Lib.hid hr.len
  have HR := Lib.hid (fun (w' : World) (hb : Below w.heap.size w w') => (hr.more hB).below hb)
  have hw1 : IntKind.i64.wrap (len - 1) = len - 1 := wr64 (by omega)
  clear hr
  go_enter Try.func49, Try.ntmps49
  go_wp2_with fail
  go_loopw [5] (fun i wr => ∃ k' : Nat, k' ≤ n ∧ i = .int .i64 k' ∧ Hid (risUp 0 (len - 1) xs k') ∧ Hid (wr.heap[w.heap.size]? = some (.cells #[.int .i64 p, .int .i64 k, .int .i64 g, .int .i64 len, .int .i64 chk] 39 (0, 0))) ∧ Hid (Below w.heap.size w wr)) (fun i _ => n - (intOf i).toNat)
  case atStart => exact ⟨0, Nat.zero_le _, rfl, Lib.hid (risUp_zero _ _ _), Lib.hid (heap_alloc_new _ _), Lib.hid (by go_grown)⟩
  case round =>
    rename World => wo
    obtain ⟨m, hm, rfl, hup, hh, hbl⟩ := hrel
    obtain ⟨c0, c1, c2, c3, c4, -⟩ := blk5 hh.out
    have hz := lt_of_block hh.out
    have hbw := hbl.out
    by_cases hlt : m < n
    · obtain ⟨b, o, rfl, hb, hc⟩ := (HR.out _ hbl.out).cells (by omega)
      have hck := hc m hlt
      have hb2 : b < wo.heap.size := by omega
      cases he : inR (nth xs m) 0 (len - 1)
      · clear hc
        have HE := Lib.hid (risB_no (lo := 0) (hi := len - 1) (xs := xs) (i := m) (by rw [HL.out]; exact hlt) (.inl he))
        go_wp2_with fail
        go_quiet ((go_at_call 27; exact Calls.quiet_of_same ((l01In_any _ _ _ _).mono fun _ _ h => ⟨h.1, h.2.symm⟩)))
        go_wp2_with fail
        go_ret
        exact ⟨ret_bool HE.out.symm, by (repeat (first | (with_reducible assumption) | (with_reducible exact Below.refl _ _) | (with_reducible refine below_drewN' ?_ _) | (with_reducible refine Below.drew ?_) | ((with_reducible refine Below.alloc ?_ ?_ _); rotate_left; focus (first | (simp; done) | (simp; omega) | omega)) | ((with_reducible refine Below.setCell ?_ ?_ _); rotate_left; focus (first | (simp; done) | (simp; omega) | omega))))⟩
      · have HE := Lib.hid he
        rcases m with _ | j
        · clear hc
          rw [Nat.add_zero] at hck
          go_wp2_with fail
          go_quiet ((go_at_call 27; exact Calls.quiet_of_same ((l01In_any _ _ _ _).mono fun _ _ h => ⟨h.1, h.2.symm⟩)))
          go_wp2_with fail
          go_roundw
          case rel => exact ⟨1, by omega, rfl, Lib.hid (risUp_succ hup.out HE.out (fun h => by omega)), Lib.hid hh.out, Lib.hid (by (repeat (first | (with_reducible assumption) | (with_reducible exact Below.refl _ _) | (with_reducible refine below_drewN' ?_ _) | (with_reducible refine Below.drew ?_) | ((with_reducible refine Below.alloc ?_ ?_ _); rotate_left; focus (first | (simp; done) | (simp; omega) | omega)) | ((with_reducible refine Below.setCell ?_ ?_ _); rotate_left; focus (first | (simp; done) | (simp; omega) | omega)))))⟩
          case measure => simp [intOf]; omega
        · have hcj := hc j (by omega)
          clear hc
          by_cases hg : nth xs j < nth xs (j + 1)
          · have hgd : decide (nth xs (j + 1) ≤ nth xs j) = false := decide_eq_false (by omega)
            have HG := Lib.hid hg
            clear hg
            go_wp2_with fail
            go_quiet ((go_at_call 27; exact Calls.quiet_of_same ((l01In_any _ _ _ _).mono fun _ _ h => ⟨h.1, h.2.symm⟩)))
            go_wp2_with fail
            go_roundw
            case rel => exact ⟨j + 1 + 1, by omega, by go_num, Lib.hid (risUp_succ hup.out HE.out (fun h => HG.out)), Lib.hid hh.out, Lib.hid (by (repeat (first | (with_reducible assumption) | (with_reducible exact Below.refl _ _) | (with_reducible refine below_drewN' ?_ _) | (with_reducible refine Below.drew ?_) | ((with_reducible refine Below.alloc ?_ ?_ _); rotate_left; focus (first | (simp; done) | (simp; omega) | omega)) | ((with_reducible refine Below.setCell ?_ ?_ _); rotate_left; focus (first | (simp; done) | (simp; omega) | omega)))))⟩
            case measure => simp [intOf]; omega
          · have hgd : decide (nth xs (j + 1) ≤ nth xs j) = true := decide_eq_true (by omega)
            have HF := Lib.hid (risB_no (lo := 0) (hi := len - 1) (xs := xs) (i := j + 1) (by rw [HL.out]; exact hlt) (.inr ⟨by omega, by rw [Nat.add_sub_cancel]; omega⟩))
            clear hg
            go_wp2_with fail
            go_quiet ((go_at_call 27; exact Calls.quiet_of_same ((l01In_any _ _ _ _).mono fun _ _ h => ⟨h.1, h.2.symm⟩)))
            go_wp2_with fail
            go_ret
            exact ⟨ret_bool HF.out.symm, by (repeat (first | (with_reducible assumption) | (with_reducible exact Below.refl _ _) | (with_reducible refine below_drewN' ?_ _) | (with_reducible refine Below.drew ?_) | ((with_reducible refine Below.alloc ?_ ?_ _); rotate_left; focus (first | (simp; done) | (simp; omega) | omega)) | ((with_reducible refine Below.setCell ?_ ?_ _); rotate_left; focus (first | (simp; done) | (simp; omega) | omega))))⟩
    · have HF := Lib.hid (risB_yes hup.out (by rw [HL.out]; omega))
      go_wp2_with fail
      go_ret
      exact ⟨ret_bool HF.out.symm, by (repeat (first | (with_reducible assumption) | (with_reducible exact Below.refl _ _) | (with_reducible refine below_drewN' ?_ _) | (with_reducible refine Below.drew ?_) | ((with_reducible refine Below.alloc ?_ ?_ _); rotate_left; focus (first | (simp; done) | (simp; omega) | omega)) | ((with_reducible refine Below.setCell ?_ ?_ _); rotate_left; focus (first | (simp; done) | (simp; omega) | omega))))⟩
/-- A list of lists: value i is a slice that reads as list i. -/
structure Lists (w : World) (gl m : Nat) (A : Nat → Option Addr) (nn cc : Nat → Nat) (X : Nat → List Int) : Prop where
  lt : gl < w.heap.size
  cells : ∀ i, i < m → w.cell? ⟨gl, i, none⟩ = some (.slice (A i) (nn i) (cc i))
  rows : ∀ i, i < m → RI w w.heap.size (A i) (nn i) (X i)
  small : ∀ i, i < m → nn i ≤ 1000000000000
theorem Lists.below {w w' : World} {gl m : Nat} {A : Nat → Option Addr} {nn cc : Nat → Nat} {X : Nat → List Int} (h : Lists w gl m A nn cc X) (hb : Below w.heap.size w w') : Lists w' gl m A nn cc X :=
  ⟨Nat.lt_of_lt_of_le h.lt hb.size, fun i hi => (hb.cell (p := ⟨gl, i, none⟩) h.lt).trans (h.cells i hi), fun i hi => ((h.rows i hi).below hb).more hb.size, h.small⟩
/-- Are all lists words? -/
def wordsB (p k len : Int) (m : Nat) (X : Nat → List Int) : Bool := (List.range m).all fun i => wordB p k len (X i)
theorem words_no' {p k len : Int} {m i : Nat} {X : Nat → List Int} (hi : i < m) (h : wordB p k len (X i) = false) : wordsB p k len m X = false := by
  cases e : wordsB p k len m X with
  | false => rfl
  | true => rw [List.all_eq_true.1 e i (List.mem_range.2 hi)] at h; cases h
theorem words_yes' {p k len : Int} {m : Nat} {X : Nat → List Int} (h : ∀ i, i < m → wordB p k len (X i) = true) : wordsB p k len m X = true := List.all_eq_true.2 fun i hi => h i (List.mem_range.1 hi)
def wcC (code words : Bool) : Int := bif code then (bif words then 0 else 2) else 1
/-- What words returns: the coder, if the code and all words are valid, and a code. -/
def WordsRes (w w' : World) (p k g len chk : Int) (m : Nat) (X : Nat → List Int) (e : Ending) : Prop := ∃ v, e = .returned (.tuple #[v, .int .i64 (wcC (codeB p k g len chk) (wordsB p k len m X))]) ∧
  (codeB p k g len chk = true ∧ wordsB p k len m X = true → ∃ b q S : Nat, v = .pointer (some ⟨b, 0, none⟩) ∧ fsize p k = S ∧ CoderAt w' b q S (k != 1) len chk ∧ w.heap.size ≤ b ∧ w.heap.size ≤ q) ∧ Below w.heap.size w w'
set_option maxHeartbeats 2000000 in
theorem cwords_any (p k g len chk : Int) (gl m cp : Nat) (A : Nat → Option Addr) (nn cc : Nat → Nat) (X : Nat → List Int) (w : World) (hL : Lists w gl m A nn cc X) (hm : m ≤ 1000) :
    Calls Try.prog 39 #[.agg #[.int .i64 p, .int .i64 k, .int .i64 g, .int .i64 len, .int .i64 chk], .slice (some ⟨gl, 0, none⟩) m cp] w fun e w' => WordsRes w w' p k g len chk m X e := by
  cases hc : codeB p k g len chk
  · have HC : Hid (∀ w, Calls Try.prog 50 #[.agg #[.int .i64 p, .int .i64 k, .int .i64 g, .int .i64 len, .int .i64 chk]] w fun e w' => ∃ v, e = .returned (.tuple #[v, .bool false]) ∧ Below w.heap.size w w') := Lib.hid (fun w => by have := coder_any p k g len chk w; rw [hc] at this; exact this)
    have HCF := Lib.hid hc
    clear hc hL
    go_enter Try.func39, Try.ntmps39
    go_wp2_with (go_at_call 50; with_reducible refine (HC.out _).mono ?_; rintro e1 w1 ⟨v1, rfl, hb1⟩; obtain ⟨hc1, hf1⟩ := bcell hb1; have hB1 : Below w.heap.size w w1 := (below_then (by first | (go_grown; done) | (repeat (first | (with_reducible assumption) | (with_reducible exact Below.refl _ _) | (with_reducible refine below_drewN' ?_ _) | (with_reducible refine Below.drew ?_) | ((with_reducible refine Below.alloc ?_ ?_ _); rotate_left; focus (first | (simp; done) | (simp; omega) | omega)) | ((with_reducible refine Below.setCell ?_ ?_ _); rotate_left; focus (first | (simp; done) | (simp; omega) | omega))))) (by first | omega | (simp; done) | (simp; omega)) hb1); have hz1a : w.heap.size < w1.heap.size := (by have := hb1.size; first | omega | (simp at this; omega)))
    go_returns
    exact ⟨.pointer none, by rw [HCF.out]; rfl, (fun h => absurd h.1 (by rw [HCF.out]; decide)), by (repeat (first | (with_reducible assumption) | (with_reducible exact Below.refl _ _) | (with_reducible refine below_drewN' ?_ _) | (with_reducible refine Below.drew ?_) | ((with_reducible refine Below.alloc ?_ ?_ _); rotate_left; focus (first | (simp; done) | (simp; omega) | omega)) | ((with_reducible refine Below.setCell ?_ ?_ _); rotate_left; focus (first | (simp; done) | (simp; omega) | omega))))⟩
  · have HC := Lib.hid (fun w => coder_yes p k g len chk w hc)
    have hS0 := fieldB_size (codeB_field hc)
    have HL := Lib.hid hL
    have HCF := Lib.hid hc
    clear hc hL
    obtain ⟨S0, hS0, hS3, hS4⟩ := hS0
    have HS0 := Lib.hid hS0
    clear hS0
    go_enter Try.func39, Try.ntmps39
    go_wp2_with (go_at_call 50; with_reducible refine (HC.out _).mono ?_; rintro e1 w1 ⟨b1, q1, S, rfl, hS, hC1, hg1, hq1, hb1⟩; obtain ⟨hc1, hf1⟩ := bcell hb1; have hB1 : Below w.heap.size w w1 := (below_then (by first | (go_grown; done) | (repeat (first | (with_reducible assumption) | (with_reducible exact Below.refl _ _) | (with_reducible refine below_drewN' ?_ _) | (with_reducible refine Below.drew ?_) | ((with_reducible refine Below.alloc ?_ ?_ _); rotate_left; focus (first | (simp; done) | (simp; omega) | omega)) | ((with_reducible refine Below.setCell ?_ ?_ _); rotate_left; focus (first | (simp; done) | (simp; omega) | omega))))) (by first | omega | (simp; done) | (simp; omega)) hb1); have hz1a : w.heap.size < w1.heap.size := (by have := hb1.size; first | omega | (simp at this; omega)))
    have hSS : S = S0 := by have := HS0.out; rw [hS] at this; omega
    subst hSS
    have HS := Lib.hid hS
    have HC1 := Lib.hid hC1
    have HL1 := Lib.hid (HL.out.below hB1)
    have HB1 := Lib.hid hB1
    have HG1 := Lib.hid (show w.heap.size ≤ b1 ∧ w.heap.size ≤ q1 by simp at hg1 hq1; omega)
    clear hS hC1 hc1 hf1 hb1 hB1 hg1 hq1
    go_wp2_with fail
    go_loop [19] (fun i => ∃ n : Nat, n ≤ m ∧ i = .int .i64 n ∧ Hid (∀ j, j < n → wordB p k len (X j) = true)) (fun i => m - (intOf i).toNat)
    case atStart => exact ⟨0, Nat.zero_le _, rfl, Lib.hid (fun j h => by omega)⟩
    case round =>
      obtain ⟨n, hn, rfl, hup⟩ := hrel
      by_cases hlt : n < m
      · have hcell := HL1.out.cells n hlt
        have hgl := HL1.out.lt
        have hwd : wordB p k len (X n) = (((nn n : Int) == len) && allIn 0 ((S : Int) - 1) (X n)) := by unfold wordB; rw [(HL1.out.rows n hlt).len, HS.out]
        have HW := Lib.hid (isWord_any b1 q1 S (k != 1) len chk (A n) (nn n) (cc n) (X n) w1 w1.heap.size HC1.out (by omega) hS4 (HL1.out.rows n hlt) (by have := HL1.out.small n hlt; omega))
        rw [← hwd] at HW
        clear hwd
        cases he : wordB p k len (X n)
        · rw [he] at HW
          have HE := Lib.hid (words_no' hlt he)
          clear he
          go_wp2_with (go_at_call 51; refine (HW.out).mono ?_; rintro e w' ⟨rfl, rfl⟩)
          go_returns
          exact ⟨.pointer none, by rw [HCF.out, HE.out]; rfl, (fun h => absurd h.2 (by rw [HE.out]; decide)), HB1.out⟩
        · rw [he] at HW
          have HU : Hid (∀ j, j < n + 1 → wordB p k len (X j) = true) := Lib.hid (fun j h => by
            rcases Nat.lt_or_ge j n with hl | hl
            · exact hup.out j hl
            · obtain rfl : j = n := by omega
              exact he)
          clear he
          go_wp2_with (go_at_call 51; refine (HW.out).mono ?_; rintro e w' ⟨rfl, rfl⟩)
          go_round
          case rel => exact ⟨n + 1, by omega, by go_num, HU⟩
          case measure => simp [intOf]; omega
      · have HE : Hid (wordsB p k len m X = true) := Lib.hid (words_yes' fun i hi => hup.out i (by omega))
        go_wp2_with fail
        go_returns
        exact ⟨.pointer (some ⟨b1, 0, none⟩), by rw [HCF.out, HE.out]; rfl, fun _ => ⟨b1, q1, S, rfl, HS.out, HC1.out, HG1.out.1, HG1.out.2⟩, HB1.out⟩
set_option maxHeartbeats 2000000 in
theorem l04Code_any (p k g len chk : Int) (gl m cp : Nat) (A : Nat → Option Addr) (nn cc : Nat → Nat) (X : Nat → List Int) (w : World) (hL : Lists w gl m A nn cc X) (hm : m ≤ 1000) :
    Calls Try.prog 48 #[.agg #[.int .i64 p, .int .i64 k, .int .i64 g, .int .i64 len, .int .i64 chk], .slice (some ⟨gl, 0, none⟩) m cp] w fun e w' => e = .returned (.int .i64 (wcC (codeB p k g len chk) (wordsB p k len m X))) ∧ Below w.heap.size w w' := by
  have HC := Lib.hid (fun w => sIsCode_any p k g len chk w)
  cases hc : codeB p k g len chk
  · rw [hc] at HC
    clear hc hL
    go_enter Try.func48, Try.ntmps48
    go_wp2_with (go_at_call 58; with_reducible refine (HC.out _).mono ?_; rintro e1 w1 ⟨rfl, hb1⟩; obtain ⟨hc1, hf1⟩ := bcell hb1; have hB1 : Below w.heap.size w w1 := (below_then (by first | (go_grown; done) | (repeat (first | (with_reducible assumption) | (with_reducible exact Below.refl _ _) | (with_reducible refine below_drewN' ?_ _) | (with_reducible refine Below.drew ?_) | ((with_reducible refine Below.alloc ?_ ?_ _); rotate_left; focus (first | (simp; done) | (simp; omega) | omega)) | ((with_reducible refine Below.setCell ?_ ?_ _); rotate_left; focus (first | (simp; done) | (simp; omega) | omega))))) (by first | omega | (simp; done) | (simp; omega)) hb1); have hz1a : w.heap.size < w1.heap.size := (by have := hb1.size; first | omega | (simp at this; omega)))
    go_ret
    exact ⟨rfl, by (repeat (first | (with_reducible assumption) | (with_reducible exact Below.refl _ _) | (with_reducible refine below_drewN' ?_ _) | (with_reducible refine Below.drew ?_) | ((with_reducible refine Below.alloc ?_ ?_ _); rotate_left; focus (first | (simp; done) | (simp; omega) | omega)) | ((with_reducible refine Below.setCell ?_ ?_ _); rotate_left; focus (first | (simp; done) | (simp; omega) | omega))))⟩
  · rw [hc] at HC
    have hf := codeB_field hc
    have HWD := Lib.hid (fun (i : Nat) (hi : i < m) (w' : World) (hb : Below w.heap.size w w') => l04Word_any p k g len chk (A i) (nn i) (cc i) (X i) w' w.heap.size hf ((hL.rows i hi).below hb) hb.size (by have := hL.small i hi; omega))
    have HL := Lib.hid hL
    clear hc hL hf
    go_enter Try.func48, Try.ntmps48
    go_wp2_with (go_at_call 58; with_reducible refine (HC.out _).mono ?_; rintro e1 w1 ⟨rfl, hb1⟩; obtain ⟨hc1, hf1⟩ := bcell hb1; have hB1 : Below w.heap.size w w1 := (below_then (by first | (go_grown; done) | (repeat (first | (with_reducible assumption) | (with_reducible exact Below.refl _ _) | (with_reducible refine below_drewN' ?_ _) | (with_reducible refine Below.drew ?_) | ((with_reducible refine Below.alloc ?_ ?_ _); rotate_left; focus (first | (simp; done) | (simp; omega) | omega)) | ((with_reducible refine Below.setCell ?_ ?_ _); rotate_left; focus (first | (simp; done) | (simp; omega) | omega))))) (by first | omega | (simp; done) | (simp; omega)) hb1); have hz1a : w.heap.size < w1.heap.size := (by have := hb1.size; first | omega | (simp at this; omega)))
    have hh1 := blk_below (heap_alloc_new w (.cells #[.int .i64 p, .int .i64 k, .int .i64 g, .int .i64 len, .int .i64 chk] 39)) hb1 (by simp)
    have HH1 := Lib.hid hh1
    have HB1 := Lib.hid hB1
    clear hc1 hf1 hb1 hB1 hh1 hz1a
    go_wp2_with fail
    go_loopw [5] (fun i wr => ∃ n : Nat, n ≤ m ∧ i = .int .i64 n ∧ Hid (∀ j, j < n → wordB p k len (X j) = true) ∧ Hid (wr.heap[w.heap.size]? = some (.cells #[.int .i64 p, .int .i64 k, .int .i64 g, .int .i64 len, .int .i64 chk] 39 (0, 0))) ∧ Hid (Below w.heap.size w wr)) (fun i _ => m - (intOf i).toNat)
    case atStart => exact ⟨0, Nat.zero_le _, rfl, Lib.hid (fun j h => by omega), HH1, HB1⟩
    case round =>
      rename World => wo
      obtain ⟨n, hn, rfl, hup, hh, hbl⟩ := hrel
      obtain ⟨c0, c1, c2, c3, c4, -⟩ := blk5 hh.out
      have hz := lt_of_block hh.out
      have hbw := hbl.out
      have hgl : gl < wo.heap.size := by have := HL.out.lt; have := hbl.out.size; omega
      by_cases hlt : n < m
      · have hcell := ((HL.out.below hbl.out).cells n hlt)
        have HW := Lib.hid (HWD.out n hlt)
        cases he : wordB p k len (X n)
        · rw [he] at HW
          have HE := Lib.hid (words_no' hlt he)
          clear he
          go_wp2_with fail
          refine wp_region_qat [] 7 [] (by kernel_rfl) (by kernel_rfl) ?_
          intro hbc
          simp only [List.take_succ_cons, List.take_zero, List.drop_succ_cons, List.drop_zero]
          repeat (first
            | refine wpQ_pass rfl ?_
            | (refine wpQ_step rfl (fun K hK => ?_)
               go_simp
               first
                 | (refine hK _ ?_; clear hK K)
                 | (apply Exists.intro
                    refine ⟨fun z => ?_, ?_⟩
                    focus (first | (go_at_call 59; exact HW.out _ (below_blurD hbw (Nat.le_of_lt hz) _)))
                    refine hK _ ?_
                    clear hK K)))
          refine wpQ_nil ⟨?_, ?_⟩
          · exact rfl
          intro  w2 hb2 hF2
          clear hbc
          obtain ⟨hc2, hf2⟩ := bcell hb2
          have hB2 : Below w.heap.size w w2 := below_then (by first | (go_grown; done) | (repeat (first | (with_reducible assumption) | (with_reducible exact Below.refl _ _) | (with_reducible refine below_drewN' ?_ _) | (with_reducible refine Below.drew ?_) | ((with_reducible refine Below.alloc ?_ ?_ _); rotate_left; focus (first | (simp; done) | (simp; omega) | omega)) | ((with_reducible refine Below.setCell ?_ ?_ _); rotate_left; focus (first | (simp; done) | (simp; omega) | omega))))) (by first | (simp; done) | (simp; omega) | omega) hb2
          have hz2a : w.heap.size < w2.heap.size := (by have := hb2.size; first | omega | (simp at this; omega))
          clear hF2
          try simp only [Act.put, List.setIfInBounds_toArray, List.set_cons_succ, List.set_cons_zero]
          go_wp2_with fail
          go_ret
          exact ⟨ret_int (by rw [HE.out]; rfl), by (repeat (first | (with_reducible assumption) | (with_reducible exact Below.refl _ _) | (with_reducible refine below_drewN' ?_ _) | (with_reducible refine Below.drew ?_) | ((with_reducible refine Below.alloc ?_ ?_ _); rotate_left; focus (first | (simp; done) | (simp; omega) | omega)) | ((with_reducible refine Below.setCell ?_ ?_ _); rotate_left; focus (first | (simp; done) | (simp; omega) | omega))))⟩
        · rw [he] at HW
          have HU : Hid (∀ j, j < n + 1 → wordB p k len (X j) = true) := Lib.hid (fun j h => by
            rcases Nat.lt_or_ge j n with hl | hl
            · exact hup.out j hl
            · obtain rfl : j = n := by omega
              exact he)
          clear he
          go_wp2_with fail
          refine wp_region_qat [] 7 [] (by kernel_rfl) (by kernel_rfl) ?_
          intro hbc
          simp only [List.take_succ_cons, List.take_zero, List.drop_succ_cons, List.drop_zero]
          repeat (first
            | refine wpQ_pass rfl ?_
            | (refine wpQ_step rfl (fun K hK => ?_)
               go_simp
               first
                 | (refine hK _ ?_; clear hK K)
                 | (apply Exists.intro
                    refine ⟨fun z => ?_, ?_⟩
                    focus (first | (go_at_call 59; exact HW.out _ (below_blurD hbw (Nat.le_of_lt hz) _)))
                    refine hK _ ?_
                    clear hK K)))
          refine wpQ_nil ⟨?_, ?_⟩
          · exact rfl
          intro  w2 hb2 hF2
          clear hbc
          obtain ⟨hc2, hf2⟩ := bcell hb2
          have hB2 : Below w.heap.size w w2 := below_then (by first | (go_grown; done) | (repeat (first | (with_reducible assumption) | (with_reducible exact Below.refl _ _) | (with_reducible refine below_drewN' ?_ _) | (with_reducible refine Below.drew ?_) | ((with_reducible refine Below.alloc ?_ ?_ _); rotate_left; focus (first | (simp; done) | (simp; omega) | omega)) | ((with_reducible refine Below.setCell ?_ ?_ _); rotate_left; focus (first | (simp; done) | (simp; omega) | omega))))) (by first | (simp; done) | (simp; omega) | omega) hb2
          have hz2a : w.heap.size < w2.heap.size := (by have := hb2.size; first | omega | (simp at this; omega))
          clear hF2
          try simp only [Act.put, List.setIfInBounds_toArray, List.set_cons_succ, List.set_cons_zero]
          have hh2 := Lib.hid (blk_below hh.out hb2 hz)
          clear hc2 hf2 c0 c1 c2 c3 c4
          go_wp2_with fail
          go_roundw
          case rel => exact ⟨n + 1, by omega, by go_num, HU, hh2, Lib.hid hB2⟩
          case measure => simp [intOf]; omega
      · have HE : Hid (wordsB p k len m X = true) := Lib.hid (words_yes' fun i hi => hup.out i (by omega))
        go_wp2_with fail
        go_ret
        exact ⟨ret_int (by rw [HE.out]; rfl), hbl.out⟩
end Go.Proofs.Ytffcjmnldmjocaa
