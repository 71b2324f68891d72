/-
  Contracts of chapter 14: square grids, FixedErrors.
-/
import Derived.Test.YteghpageamehkaaC14U
namespace Go.Proofs.Yteghpageamehkaa
set_option linter.unusedSimpArgs false
open Go.RowKit

/-- Is a grid valid, square and of a matrix size? -/
def sqB (r c : Int) (xs : List Int) : Bool := gridB r c xs && (r == c) && sizeB r
theorem sqB_true {r c : Int} {xs : List Int} (h : sqB r c xs = true) : ∃ N : Nat, r = N ∧ c = N ∧ (17 ≤ N ∧ N ≤ 41 ∧ N % 4 = 1) ∧ xs.length = N * N ∧ allIn (-1) 1 xs = true := by
  simp only [sqB, Bool.and_eq_true, beq_iff_eq] at h
  obtain ⟨⟨h1, rfl⟩, h3⟩ := h
  obtain ⟨N, rfl, h4⟩ := sizeB_true h3
  have h5 := gridB_true h1
  exact ⟨N, rfl, rfl, h4, by have := h5.2.2.2.1; exact_mod_cast this, h5.2.2.2.2⟩
set_option maxHeartbeats 1000000 in
theorem isMatrix_any (r c : Int) (A : Option Addr) (n cp : Nat) (xs : List Int) (w : World) (B : Nat) (hr : RI w B A n xs) (hB : B ≤ w.heap.size) (hn : n ≤ 1000000000000000) :
    Calls Try.prog 72 #[.agg #[.int .i64 r, .int .i64 c, .slice A n cp]] w fun e w' => e = .returned (.bool (sqB r c xs)) ∧ Below w.heap.size w w' := by
  have HC := Lib.hid (IsGrid_any r c A n cp xs (w.alloc (.cells #[.int .i64 r, .int .i64 c, .slice A n cp] 37)) B (hr.alloc hB _) (by simp; omega) hn)
  clear hr
  unfold sqB
  generalize gridB r c xs = b1 at HC ⊢
  by_cases h2 : r = c
  · subst h2
    generalize hs : sizeB r = b2
    cases b1 <;> cases b2
    all_goals
      go_enter Try.func72, Try.ntmps72
      go_wp2_with first | (go_at_call 52; refine (isMatrixSize_any _ _).mono ?_; rintro e w' ⟨rfl, rfl⟩) | (go_at_call 87; go_call (HC.out) as e1 w1 ⟨rfl, hb1⟩; obtain ⟨hc1, hf1⟩ := bcell hb1; have hB1 : Below w.heap.size w w1 := (below_then (by first | (go_grown; done) | (repeat (first | (with_reducible assumption) | (with_reducible exact Below.refl _ _) | (with_reducible refine below_drewN' ?_ _) | (with_reducible refine Below.drew ?_) | ((with_reducible refine Below.alloc ?_ ?_ _); rotate_left; focus (first | (simp; done) | (simp; omega) | omega)) | ((with_reducible refine Below.setCell ?_ ?_ _); rotate_left; focus (first | (simp; done) | (simp; omega) | omega))))) (by first | omega | (simp; done) | (simp; omega)) hb1); have hz1a : w.heap.size < w1.heap.size := (by have := hb1.size; first | omega | (simp at this; omega)))
      go_ret
      exact ⟨by simp, by (repeat (first | (with_reducible assumption) | (with_reducible exact Below.refl _ _) | (with_reducible refine below_drewN' ?_ _) | (with_reducible refine Below.drew ?_) | ((with_reducible refine Below.alloc ?_ ?_ _); rotate_left; focus (first | (simp; done) | (simp; omega) | omega)) | ((with_reducible refine Below.setCell ?_ ?_ _); rotate_left; focus (first | (simp; done) | (simp; omega) | omega))))⟩
  · have e2 : (r == c) = false := by simpa using h2
    generalize hs : sizeB r = b2
    cases b1 <;> cases b2
    all_goals
      go_enter Try.func72, Try.ntmps72
      go_wp2_with first | (go_at_call 52; refine (isMatrixSize_any _ _).mono ?_; rintro e w' ⟨rfl, rfl⟩) | (go_at_call 87; go_call (HC.out) as e1 w1 ⟨rfl, hb1⟩; obtain ⟨hc1, hf1⟩ := bcell hb1; have hB1 : Below w.heap.size w w1 := (below_then (by first | (go_grown; done) | (repeat (first | (with_reducible assumption) | (with_reducible exact Below.refl _ _) | (with_reducible refine below_drewN' ?_ _) | (with_reducible refine Below.drew ?_) | ((with_reducible refine Below.alloc ?_ ?_ _); rotate_left; focus (first | (simp; done) | (simp; omega) | omega)) | ((with_reducible refine Below.setCell ?_ ?_ _); rotate_left; focus (first | (simp; done) | (simp; omega) | omega))))) (by first | omega | (simp; done) | (simp; omega)) hb1); have hz1a : w.heap.size < w1.heap.size := (by have := hb1.size; first | omega | (simp at this; omega)))
      go_ret
      exact ⟨by simp [h2], by (repeat (first | (with_reducible assumption) | (with_reducible exact Below.refl _ _) | (with_reducible refine below_drewN' ?_ _) | (with_reducible refine Below.drew ?_) | ((with_reducible refine Below.alloc ?_ ?_ _); rotate_left; focus (first | (simp; done) | (simp; omega) | omega)) | ((with_reducible refine Below.setCell ?_ ?_ _); rotate_left; focus (first | (simp; done) | (simp; omega) | omega))))⟩

set_option maxHeartbeats 1000000 in
theorem l14Square_any (r c : Int) (A : Option Addr) (n cp : Nat) (xs : List Int) (w : World) (B : Nat) (hr : RI w B A n xs) (hB : B ≤ w.heap.size) (hn : n ≤ 1000000000000000) :
    Calls Try.prog 70 #[.agg #[.int .i64 r, .int .i64 c, .slice A n cp]] w fun e w' => e = .returned (.bool (sqB r c xs)) ∧ Below w.heap.size w w' := by
  have HC := Lib.hid (sIsGrid_any r c A n cp xs (w.alloc (.cells #[.int .i64 r, .int .i64 c, .slice A n cp] 37)) B (hr.alloc hB _) (by simp; omega) hn)
  clear hr
  unfold sqB
  generalize gridB r c xs = b1 at HC ⊢
  by_cases h2 : r = c
  · subst h2
    generalize hs : sizeB r = b2
    cases b1 <;> cases b2
    all_goals
      go_enter Try.func70, Try.ntmps70
      go_wp2_with first | (go_at_call 55; refine (l14Size_any _ _).mono ?_; rintro e w' ⟨rfl, rfl⟩) | (go_at_call 86; go_call (HC.out) as e1 w1 ⟨rfl, hb1⟩; obtain ⟨hc1, hf1⟩ := bcell hb1; have hB1 : Below w.heap.size w w1 := (below_then (by first | (go_grown; done) | (repeat (first | (with_reducible assumption) | (with_reducible exact Below.refl _ _) | (with_reducible refine below_drewN' ?_ _) | (with_reducible refine Below.drew ?_) | ((with_reducible refine Below.alloc ?_ ?_ _); rotate_left; focus (first | (simp; done) | (simp; omega) | omega)) | ((with_reducible refine Below.setCell ?_ ?_ _); rotate_left; focus (first | (simp; done) | (simp; omega) | omega))))) (by first | omega | (simp; done) | (simp; omega)) hb1); have hz1a : w.heap.size < w1.heap.size := (by have := hb1.size; first | omega | (simp at this; omega)))
      go_ret
      exact ⟨by simp, by (repeat (first | (with_reducible assumption) | (with_reducible exact Below.refl _ _) | (with_reducible refine below_drewN' ?_ _) | (with_reducible refine Below.drew ?_) | ((with_reducible refine Below.alloc ?_ ?_ _); rotate_left; focus (first | (simp; done) | (simp; omega) | omega)) | ((with_reducible refine Below.setCell ?_ ?_ _); rotate_left; focus (first | (simp; done) | (simp; omega) | omega))))⟩
  · have e2 : (r == c) = false := by simpa using h2
    generalize hs : sizeB r = b2
    cases b1 <;> cases b2
    all_goals
      go_enter Try.func70, Try.ntmps70
      go_wp2_with first | (go_at_call 55; refine (l14Size_any _ _).mono ?_; rintro e w' ⟨rfl, rfl⟩) | (go_at_call 86; go_call (HC.out) as e1 w1 ⟨rfl, hb1⟩; obtain ⟨hc1, hf1⟩ := bcell hb1; have hB1 : Below w.heap.size w w1 := (below_then (by first | (go_grown; done) | (repeat (first | (with_reducible assumption) | (with_reducible exact Below.refl _ _) | (with_reducible refine below_drewN' ?_ _) | (with_reducible refine Below.drew ?_) | ((with_reducible refine Below.alloc ?_ ?_ _); rotate_left; focus (first | (simp; done) | (simp; omega) | omega)) | ((with_reducible refine Below.setCell ?_ ?_ _); rotate_left; focus (first | (simp; done) | (simp; omega) | omega))))) (by first | omega | (simp; done) | (simp; omega)) hb1); have hz1a : w.heap.size < w1.heap.size := (by have := hb1.size; first | omega | (simp at this; omega)))
      go_ret
      exact ⟨by simp [h2], by (repeat (first | (with_reducible assumption) | (with_reducible exact Below.refl _ _) | (with_reducible refine below_drewN' ?_ _) | (with_reducible refine Below.drew ?_) | ((with_reducible refine Below.alloc ?_ ?_ _); rotate_left; focus (first | (simp; done) | (simp; omega) | omega)) | ((with_reducible refine Below.setCell ?_ ?_ _); rotate_left; focus (first | (simp; done) | (simp; omega) | omega))))⟩

/-- At how many indexes below k two lists are so. -/
def cnt2 (p : Int → Int → Bool) (fs xs : List Int) : Nat → Nat
  | 0 => 0
  | k + 1 => cnt2 p fs xs k + if p (nth fs k) (nth xs k) then 1 else 0
theorem cnt2_le (p : Int → Int → Bool) (fs xs : List Int) (k : Nat) : cnt2 p fs xs k ≤ k := by
  induction k with
  | zero => exact Nat.le_refl _
  | succ k ih => simp only [cnt2]; split <;> omega
def ferrP (f x : Int) : Bool := decide (0 ≤ f) && decide (0 ≤ x) && (f != x)
def feV (r c : Int) (xs : List Int) : Int := if sqB r c xs then (cnt2 ferrP (fixL r.toNat) xs xs.length : Int) else 0
def feC (r c : Int) (xs : List Int) : Int := if sqB r c xs then 0 else 1
set_option maxRecDepth 20000 in
set_option maxHeartbeats 2000000 in
theorem FixedErrors_any (r c : Int) (A : Option Addr) (n cp : Nat) (xs : List Int) (w : World) (B : Nat) (hr : RI w B A n xs) (hB : B ≤ w.heap.size) (hn : n ≤ 1000000000000000) :
    Calls Try.prog 41 #[.agg #[.int .i64 r, .int .i64 c, .slice A n cp]] w fun e w' => e = .returned (.tuple #[.int .i64 (feV r c xs), .int .i64 (feC r c xs)]) ∧ Below w.heap.size w w' := by
  have HL := Lib.hid hr.len
  have HR := Lib.hid (hr.more hB)
  have HC := Lib.hid (fun w' (hb : Below w.heap.size w w') => isMatrix_any r c A n cp xs w' w.heap.size (HR.out.below hb) hb.size hn)
  clear hr
  unfold feV feC
  cases hg : sqB r c xs
  · rw [hg] at HC
    go_enter Try.func41, Try.ntmps41
    go_wp2_with (go_at_call 72; go_call (HC.out _ (by go_grown)) as e1 w1 ⟨rfl, hb1⟩; obtain ⟨hc1, hf1⟩ := bcell hb1; have hB1 : Below w.heap.size w w1 := (below_then (by first | (go_grown; done) | (repeat (first | (with_reducible assumption) | (with_reducible exact Below.refl _ _) | (with_reducible refine below_drewN' ?_ _) | (with_reducible refine Below.drew ?_) | ((with_reducible refine Below.alloc ?_ ?_ _); rotate_left; focus (first | (simp; done) | (simp; omega) | omega)) | ((with_reducible refine Below.setCell ?_ ?_ _); rotate_left; focus (first | (simp; done) | (simp; omega) | omega))))) (by first | omega | (simp; done) | (simp; omega)) hb1); have hz1a : w.heap.size < w1.heap.size := (by have := hb1.size; first | omega | (simp at this; omega)))
    go_returns
    exact ⟨by simp, by (repeat (first | (with_reducible assumption) | (with_reducible exact Below.refl _ _) | (with_reducible refine below_drewN' ?_ _) | (with_reducible refine Below.drew ?_) | ((with_reducible refine Below.alloc ?_ ?_ _); rotate_left; focus (first | (simp; done) | (simp; omega) | omega)) | ((with_reducible refine Below.setCell ?_ ?_ _); rotate_left; focus (first | (simp; done) | (simp; omega) | omega))))⟩
  · rw [hg] at HC
    obtain ⟨N, rfl, rfl, hN, hxl, hal⟩ := sqB_true hg
    have HF := Lib.hid (fun w => fixed_any N w hN)
    have HA := Lib.hid hal
    have hfl := fixL_len N
    have hfi : ∀ k, k < N * N → -1 ≤ nth (fixL N) k ∧ nth (fixL N) k ≤ 1 := fun k hk => fixL_in hN hk
    rw [Int.toNat_natCast]
    generalize fixL N = fs at HF hfl hfi ⊢
    have hnN : n = N * N := by rw [← HL.out, hxl]
    have hNN : N * N ≤ 1681 := Nat.mul_le_mul hN.2.1 hN.2.1
    have hn2 : n ≤ 1681 := by omega
    rw [← hnN] at hfl hfi
    have HLF := Lib.hid hfl
    have HFI := Lib.hid hfi
    have HXL : Hid (xs.length = n) := HL
    clear hg hal hxl hnN hNN hN hfl hfi
    go_enter Try.func41, Try.ntmps41
    go_wp2_with fail
    (go_at_call 72; go_call (HC.out _ (by go_grown)) as e1 w1 ⟨rfl, hb1⟩; obtain ⟨hc1, hf1⟩ := bcell hb1; have hB1 : Below w.heap.size w w1 := (below_then (by first | (go_grown; done) | (repeat (first | (with_reducible assumption) | (with_reducible exact Below.refl _ _) | (with_reducible refine below_drewN' ?_ _) | (with_reducible refine Below.drew ?_) | ((with_reducible refine Below.alloc ?_ ?_ _); rotate_left; focus (first | (simp; done) | (simp; omega) | omega)) | ((with_reducible refine Below.setCell ?_ ?_ _); rotate_left; focus (first | (simp; done) | (simp; omega) | omega))))) (by first | omega | (simp; done) | (simp; omega)) hb1); have hz1a : w.heap.size < w1.heap.size := (by have := hb1.size; first | omega | (simp at this; omega)))
    go_wp2_with fail
    (go_at_call 63; with_reducible refine (HF.out _).mono ?_; rintro e2 w2 ⟨v2, rfl, ho2, hb2⟩; obtain ⟨hc2, hf2⟩ := bcell hb2; have hB2 : Below w.heap.size w w2 := (below_then (by first | (go_grown; done) | (repeat (first | (with_reducible assumption) | (with_reducible exact Below.refl _ _) | (with_reducible refine below_drewN' ?_ _) | (with_reducible refine Below.drew ?_) | ((with_reducible refine Below.alloc ?_ ?_ _); rotate_left; focus (first | (simp; done) | (simp; omega) | omega)) | ((with_reducible refine Below.setCell ?_ ?_ _); rotate_left; focus (first | (simp; done) | (simp; omega) | omega))))) (by first | omega | (simp; done) | (simp; omega)) hb2); have hz2a : w.heap.size < w2.heap.size := (by have := hb2.size; first | omega | (simp at this; omega)))
    obtain ⟨A2, c2, hv2, hr2⟩ := ho2.shape
    rw [HLF.out] at hv2 hr2
    subst hv2
    have HR2 := Lib.hid hr2
    clear ho2 hr2
    have hfd : ∀ w : World, (Instr.field 37 (.agg #[.int .i64 N, .int .i64 N, .slice A2 n c2]) 2).run Try.prog w = .ok (.slice A2 n c2) w := fun _ => by kernel_rfl
    go_wp2_with fail
    have HRx := Lib.hid ((HR.out.below hB2).cells)
    have HRf := Lib.hid HR2.out.cells
    have hBw := Lib.hid hB2
    have HGb : Hid (w2.heap[w.heap.size]? = some (.cells #[.int .i64 N, .int .i64 N, .slice A n cp] 37 (0, 0))) := Lib.hid (blk_below (blk_below (heap_alloc_new _ _) hb1 (by simp)) hb2 (by omega))
    clear hc1 hf1 hb1 hB1 hfd hc2 hf2 hb2
    go_loop [4, 15] (fun q i => ∃ k : Nat, k ≤ n ∧ i = .int .i64 k ∧ q = .int .i64 (cnt2 ferrP fs xs k : Nat)) (fun _ i => n - (intOf i).toNat)
    case atStart => exact ⟨0, Nat.zero_le _, rfl, rfl⟩
    case round =>
      obtain ⟨k, hk, rfl, rfl⟩ := hrel
      have hle := cnt2_le ferrP fs xs k
      have hst : cnt2 ferrP fs xs (k + 1) = cnt2 ferrP fs xs k + if ferrP (nth fs k) (nth xs k) then 1 else 0 := rfl
      have HS := Lib.hid hst
      clear hst
      generalize hqq : cnt2 ferrP fs xs k = q at hle HS
      have HQ := Lib.hid hqq
      clear hqq
      by_cases hlt : k < n
      · obtain ⟨b, o, rfl, hb, hc⟩ := HRx.out (by omega)
        obtain ⟨b', o', rfl, hb', hc'⟩ := HRf.out (by omega)
        have hck := hc k hlt
        have hck' := hc' k hlt
        have hf1 := HFI.out k hlt
        have hx1 := allIn_nth HA.out (k := k) (by rw [HL.out]; exact hlt)
        obtain ⟨z0, z1, z2, -⟩ := blk3 HGb.out
        clear hc hc'
        generalize nth fs k = f at hck' hf1 HS
        generalize nth xs k = x at hck hx1 HS
        by_cases h0 : 0 ≤ f
        · by_cases hq : x = 1 - f
          · subst hq
            go_wp2_with fail
            go_round
            case rel => exact ⟨k + 1, by omega, by go_num, by rw [HS.out, show ferrP f (1 - f) = true from by simp [ferrP]; omega]; simp⟩
            case measure => simp [intOf]; omega
          · have hq' : (x == 1 - f) = false := by simpa using hq
            go_wp2_with fail
            go_round
            case rel => exact ⟨k + 1, by omega, by go_num, by rw [HS.out, show ferrP f x = false from by simp [ferrP]; omega]; simp⟩
            case measure => simp [intOf]; omega
        · have h0' : decide (0 ≤ f) = false := decide_eq_false h0
          go_wp2_with fail
          go_round
          case rel => exact ⟨k + 1, by omega, by go_num, by rw [HS.out]; simp [ferrP, h0]⟩
          case measure => simp [intOf]; omega
      · have hkn : k = n := by omega
        have hA : cnt2 ferrP fs xs xs.length = q := by rw [HL.out, ← hkn]; exact HQ.out
        have HA := Lib.hid hA
        clear hA hkn
        go_wp2_with fail
        go_returns
        exact ⟨by rw [HA.out]; simp, hBw.out⟩
end Go.Proofs.Yteghpageamehkaa
