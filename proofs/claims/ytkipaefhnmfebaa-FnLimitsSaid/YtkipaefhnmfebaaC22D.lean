/-
  Contracts of chapter 22: the limit of the range, the binary grid, its dark cells, the contrast.
-/
import Derived.Test.YtkipaefhnmfebaaC22T
import Derived.Test.YtkipaefhnmfebaaC14B
namespace Go.Proofs.Ytkipaefhnmfebaa
set_option linter.unusedSimpArgs false
open Go.RowKit

theorem wr64L {n : Int} (h : -9223372036854775808 ≤ n ∧ n ≤ 9223372036854775807) : IntKind.i64.wrap n = n := by
  rw [IntKind.wrap_i64]; omega
def rlV (r c : Int) (xs : List Int) : Int := bif rasB r c xs then limL xs else 0
def ctV (r c : Int) (xs : List Int) : Int := bif rasB r c xs then hiM xs (xs.length - 1) - loM xs (xs.length - 1) else 0
def dkC (r c : Int) (xs : List Int) (l : Int) : Int := bif rasB r c xs then (bif inR l 0 256 then 0 else 2) else 1
def dkV (r c : Int) (xs : List Int) (l : Int) : Int := bif rasB r c xs then (bif inR l 0 256 then (nLo xs l xs.length : Nat) else 0) else 0
def oneB (x : Int) : Bool := x == 1
/-- The cells of the binary grid: dark below the limit. -/
def binL (xs : List Int) (l : Int) : List Int := xs.map fun x => if x < l then 1 else 0
theorem binL_len (xs : List Int) (l : Int) : (binL xs l).length = xs.length := by simp [binL]
theorem binL_nth {xs : List Int} {l : Int} {k : Nat} (h : k < xs.length) : nth (binL xs l) k = if nth xs k < l then 1 else 0 := by
  unfold binL
  rw [nth_lt (by simpa using h), nth_lt h]
  simp
theorem cnt_bin (xs : List Int) (l : Int) : ∀ k, k ≤ xs.length → cnt oneB ((binL xs l).take k) = nLo xs l k := by
  intro k
  induction k with
  | zero => intro _; rfl
  | succ k ih =>
    intro hk
    rw [cnt_take (by rw [binL_len]; omega), ih (by omega), binL_nth (by omega)]
    simp only [nLo]
    split <;> simp [oneB]
theorem mix_same {xs ys : List Int} {k : Nat} (hl : xs.length = ys.length) (hk : k < xs.length) (h : nth ys k = nth xs k) : ys.take k ++ xs.drop k = ys.take (k + 1) ++ xs.drop (k + 1) := by
  rw [take_nth (by omega), List.drop_eq_getElem_cons hk, h, nth_lt hk]
  simp
theorem ras_nat {r c : Int} {xs : List Int} (h : rasB r c xs = true) : ∃ R C : Nat, r = R ∧ c = C ∧ R * C = xs.length := by
  simp only [rasB, Bool.and_eq_true, decide_eq_true_eq] at h
  obtain ⟨h1, h2, h3⟩ := rszB_true h.1.1
  obtain ⟨R, rfl⟩ := Int.eq_ofNat_of_zero_le (show 0 ≤ r by omega)
  obtain ⟨C, rfl⟩ := Int.eq_ofNat_of_zero_le (show 0 ≤ c by omega)
  refine ⟨R, C, rfl, rfl, ?_⟩
  have h4 := h.1.2
  rw [← Int.natCast_mul] at h4
  omega
set_option maxHeartbeats 1000000 in
theorem RangeLimit_any (r c : Int) (A : Option Addr) (n cp : Nat) (xs : List Int) (w : World) (B : Nat) (hr : RI w B A n xs) (hB : B ≤ w.heap.size) (hn : n ≤ 1000000000000000) :
    Calls Try.prog 13 #[.agg #[.int .i64 r, .int .i64 c, .slice A n cp]] w fun e w' => e = .returned (.tuple #[.int .i64 (rlV r c xs), .int .i64 (slC r c xs)]) ∧ Below w.heap.size w w' := by
  have hl := hr.len
  have HR := Lib.hid (hr.more hB)
  have HC := Lib.hid (fun w' (hb : Below w.heap.size w w') => IsRaster_any r c A n cp xs w' w.heap.size (HR.out.below hb) hb.size hn)
  clear hr
  unfold rlV slC
  cases hg : rasB r c xs
  · rw [hg] at HC
    clear hl
    go_enter Try.func13, Try.ntmps13
    go_wp2_with (go_at_call 32; go_call (HC.out _ (by go_grown)) as e1 w1 ⟨rfl, hb1⟩; obtain ⟨hc1, hf1⟩ := bcell hb1; have hB1 : Below w.heap.size w w1 := (below_then (by first | (go_grown; done) | (repeat (first | (with_reducible assumption) | (with_reducible exact Below.refl _ _) | (with_reducible refine below_drewN' ?_ _) | (with_reducible refine Below.drew ?_) | ((with_reducible refine Below.alloc ?_ ?_ _); rotate_left; focus (first | (simp; done) | (simp; omega) | omega)) | ((with_reducible refine Below.setCell ?_ ?_ _); rotate_left; focus (first | (simp; done) | (simp; omega) | omega))))) (by first | omega | (simp; done) | (simp; omega)) hb1); have hz1a : w.heap.size < w1.heap.size := (by have := hb1.size; first | omega | (simp at this; omega)))
    go_returns
    exact ⟨by simp, by (repeat (first | (with_reducible assumption) | (with_reducible exact Below.refl _ _) | (with_reducible refine below_drewN' ?_ _) | (with_reducible refine Below.drew ?_) | ((with_reducible refine Below.alloc ?_ ?_ _); rotate_left; focus (first | (simp; done) | (simp; omega) | omega)) | ((with_reducible refine Below.setCell ?_ ?_ _); rotate_left; focus (first | (simp; done) | (simp; omega) | omega))))⟩
  · rw [hg] at HC
    obtain ⟨hx0, hx1, hxb⟩ := rasB_true hg
    have HS := Lib.hid (fun w' (hb : Below w.heap.size w w') => rangeLimit_any r c A n cp xs w' w.heap.size (HR.out.below hb) hb.size (by omega) (by omega) hxb)
    simp only [cond_true]
    generalize limL xs = R at HS ⊢
    clear hl hx0 hx1 hxb hg
    go_enter Try.func13, Try.ntmps13
    go_wp2_with fail
    (go_at_call 32; go_call (HC.out _ (by go_grown)) as e1 w1 ⟨rfl, hb1⟩; obtain ⟨hc1, hf1⟩ := bcell hb1; have hB1 : Below w.heap.size w w1 := (below_then (by first | (go_grown; done) | (repeat (first | (with_reducible assumption) | (with_reducible exact Below.refl _ _) | (with_reducible refine below_drewN' ?_ _) | (with_reducible refine Below.drew ?_) | ((with_reducible refine Below.alloc ?_ ?_ _); rotate_left; focus (first | (simp; done) | (simp; omega) | omega)) | ((with_reducible refine Below.setCell ?_ ?_ _); rotate_left; focus (first | (simp; done) | (simp; omega) | omega))))) (by first | omega | (simp; done) | (simp; omega)) hb1); have hz1a : w.heap.size < w1.heap.size := (by have := hb1.size; first | omega | (simp at this; omega)))
    have HX1 := Lib.hid (blk_below (heap_alloc_new w (.cells #[.int .i64 r, .int .i64 c, .slice A n cp] 28)) hb1 (by simp))
    obtain ⟨y0, y1, y2, -⟩ := blk3 HX1.out
    clear hc1 hf1
    go_wp2_with fail
    (go_at_call 33; go_call (HS.out _ hB1) as e2 w2 ⟨rfl, hb2⟩; obtain ⟨hc2, hf2⟩ := bcell hb2; have hB2 : Below w.heap.size w w2 := (below_then (by first | (go_grown; done) | (repeat (first | (with_reducible assumption) | (with_reducible exact Below.refl _ _) | (with_reducible refine below_drewN' ?_ _) | (with_reducible refine Below.drew ?_) | ((with_reducible refine Below.alloc ?_ ?_ _); rotate_left; focus (first | (simp; done) | (simp; omega) | omega)) | ((with_reducible refine Below.setCell ?_ ?_ _); rotate_left; focus (first | (simp; done) | (simp; omega) | omega))))) (by first | omega | (simp; done) | (simp; omega)) hb2))
    go_wp2_with fail
    go_returns
    exact ⟨by simp, hB2⟩
set_option maxHeartbeats 1000000 in
theorem sRangeLimit_any (r c : Int) (A : Option Addr) (n cp : Nat) (xs : List Int) (w : World) (B : Nat) (hr : RI w B A n xs) (hB : B ≤ w.heap.size) (hn : n ≤ 1000000000000000) :
    Calls Try.prog 14 #[.agg #[.int .i64 r, .int .i64 c, .slice A n cp]] w fun e w' => e = .returned (.tuple #[.int .i64 (rlV r c xs), .int .i64 (slC r c xs)]) ∧ Below w.heap.size w w' := by
  have hl := hr.len
  have HR := Lib.hid (hr.more hB)
  have HC := Lib.hid (fun w' (hb : Below w.heap.size w w') => sIsRaster_any r c A n cp xs w' w.heap.size (HR.out.below hb) hb.size hn)
  clear hr
  unfold rlV slC
  cases hg : rasB r c xs
  · rw [hg] at HC
    clear hl
    go_enter Try.func14, Try.ntmps14
    go_wp2_with (go_at_call 29; go_call (HC.out _ (by go_grown)) as e1 w1 ⟨rfl, hb1⟩; obtain ⟨hc1, hf1⟩ := bcell hb1; have hB1 : Below w.heap.size w w1 := (below_then (by first | (go_grown; done) | (repeat (first | (with_reducible assumption) | (with_reducible exact Below.refl _ _) | (with_reducible refine below_drewN' ?_ _) | (with_reducible refine Below.drew ?_) | ((with_reducible refine Below.alloc ?_ ?_ _); rotate_left; focus (first | (simp; done) | (simp; omega) | omega)) | ((with_reducible refine Below.setCell ?_ ?_ _); rotate_left; focus (first | (simp; done) | (simp; omega) | omega))))) (by first | omega | (simp; done) | (simp; omega)) hb1); have hz1a : w.heap.size < w1.heap.size := (by have := hb1.size; first | omega | (simp at this; omega)))
    go_returns
    exact ⟨by simp, by (repeat (first | (with_reducible assumption) | (with_reducible exact Below.refl _ _) | (with_reducible refine below_drewN' ?_ _) | (with_reducible refine Below.drew ?_) | ((with_reducible refine Below.alloc ?_ ?_ _); rotate_left; focus (first | (simp; done) | (simp; omega) | omega)) | ((with_reducible refine Below.setCell ?_ ?_ _); rotate_left; focus (first | (simp; done) | (simp; omega) | omega))))⟩
  · rw [hg] at HC
    obtain ⟨hx0, hx1, hxb⟩ := rasB_true hg
    have HS := Lib.hid (fun w' (hb : Below w.heap.size w w') => l22Ends_any r c A n cp xs w' w.heap.size (HR.out.below hb) hb.size (by omega) (by omega))
    have ha := loM_b hxb (n - 1) (by omega)
    have hb' := hiM_b hxb (n - 1) (by omega)
    have hlim : limL xs = (loM xs (n - 1) + hiM xs (n - 1) + 1) / 2 := by unfold limL; rw [hl]
    simp only [cond_true]
    rw [hlim]
    clear hlim
    generalize loM xs (n - 1) = lo at HS ha ⊢
    generalize hiM xs (n - 1) = hi at HS hb' ⊢
    obtain ⟨p, rfl⟩ := Int.eq_ofNat_of_zero_le ha.1
    obtain ⟨q, rfl⟩ := Int.eq_ofNat_of_zero_le hb'.1
    obtain ⟨R, hR⟩ : ∃ R : Int, ((p : Int) + q + 1) / 2 = R := ⟨_, rfl⟩
    rw [hR]
    have hRb : 0 ≤ R ∧ R ≤ 256 := by omega
    clear hl hx0 hx1 hxb hg
    go_enter Try.func14, Try.ntmps14
    go_wp2_with fail
    (go_at_call 29; go_call (HC.out _ (by go_grown)) as e1 w1 ⟨rfl, hb1⟩; obtain ⟨hc1, hf1⟩ := bcell hb1; have hB1 : Below w.heap.size w w1 := (below_then (by first | (go_grown; done) | (repeat (first | (with_reducible assumption) | (with_reducible exact Below.refl _ _) | (with_reducible refine below_drewN' ?_ _) | (with_reducible refine Below.drew ?_) | ((with_reducible refine Below.alloc ?_ ?_ _); rotate_left; focus (first | (simp; done) | (simp; omega) | omega)) | ((with_reducible refine Below.setCell ?_ ?_ _); rotate_left; focus (first | (simp; done) | (simp; omega) | omega))))) (by first | omega | (simp; done) | (simp; omega)) hb1); have hz1a : w.heap.size < w1.heap.size := (by have := hb1.size; first | omega | (simp at this; omega)))
    have HX1 := Lib.hid (blk_below (heap_alloc_new w (.cells #[.int .i64 r, .int .i64 c, .slice A n cp] 28)) hb1 (by simp))
    obtain ⟨y0, y1, y2, -⟩ := blk3 HX1.out
    clear hc1 hf1
    go_wp2_with fail
    (go_at_call 38; go_call (HS.out _ hB1) as e2 w2 ⟨rfl, hb2⟩; obtain ⟨hc2, hf2⟩ := bcell hb2; have hB2 : Below w.heap.size w w2 := (below_then (by first | (go_grown; done) | (repeat (first | (with_reducible assumption) | (with_reducible exact Below.refl _ _) | (with_reducible refine below_drewN' ?_ _) | (with_reducible refine Below.drew ?_) | ((with_reducible refine Below.alloc ?_ ?_ _); rotate_left; focus (first | (simp; done) | (simp; omega) | omega)) | ((with_reducible refine Below.setCell ?_ ?_ _); rotate_left; focus (first | (simp; done) | (simp; omega) | omega))))) (by first | omega | (simp; done) | (simp; omega)) hb2))
    go_wp2_with fail
    go_returns
    exact ⟨by simp [hR], hB2⟩
set_option maxHeartbeats 2000000 in
theorem ContrastOf_any (r c : Int) (A : Option Addr) (n cp : Nat) (xs : List Int) (w : World) (B : Nat) (hr : RI w B A n xs) (hB : B ≤ w.heap.size) (hn : n ≤ 1000000000000000) :
    Calls Try.prog 18 #[.agg #[.int .i64 r, .int .i64 c, .slice A n cp]] w fun e w' => e = .returned (.tuple #[.int .i64 (ctV r c xs), .int .i64 (slC r c xs)]) ∧ Below w.heap.size w w' := by
  have hl := hr.len
  have HR := Lib.hid (hr.more hB)
  have HC := Lib.hid (fun w' (hb : Below w.heap.size w w') => IsRaster_any r c A n cp xs w' w.heap.size (HR.out.below hb) hb.size hn)
  clear hr
  unfold ctV slC
  cases hg : rasB r c xs
  · rw [hg] at HC
    clear hl
    go_enter Try.func18, Try.ntmps18
    go_wp2_with (go_at_call 32; go_call (HC.out _ (by go_grown)) as e1 w1 ⟨rfl, hb1⟩; obtain ⟨hc1, hf1⟩ := bcell hb1; have hB1 : Below w.heap.size w w1 := (below_then (by first | (go_grown; done) | (repeat (first | (with_reducible assumption) | (with_reducible exact Below.refl _ _) | (with_reducible refine below_drewN' ?_ _) | (with_reducible refine Below.drew ?_) | ((with_reducible refine Below.alloc ?_ ?_ _); rotate_left; focus (first | (simp; done) | (simp; omega) | omega)) | ((with_reducible refine Below.setCell ?_ ?_ _); rotate_left; focus (first | (simp; done) | (simp; omega) | omega))))) (by first | omega | (simp; done) | (simp; omega)) hb1); have hz1a : w.heap.size < w1.heap.size := (by have := hb1.size; first | omega | (simp at this; omega)))
    go_returns
    exact ⟨by simp, by (repeat (first | (with_reducible assumption) | (with_reducible exact Below.refl _ _) | (with_reducible refine below_drewN' ?_ _) | (with_reducible refine Below.drew ?_) | ((with_reducible refine Below.alloc ?_ ?_ _); rotate_left; focus (first | (simp; done) | (simp; omega) | omega)) | ((with_reducible refine Below.setCell ?_ ?_ _); rotate_left; focus (first | (simp; done) | (simp; omega) | omega))))⟩
  · rw [hg] at HC
    obtain ⟨hx0, hx1, hxb⟩ := rasB_true hg
    have ha := loM_b hxb (n - 1) (by omega)
    have hb' := hiM_b hxb (n - 1) (by omega)
    have HM := Lib.hid (fun w' (hb : Below w.heap.size w w') => Min_any A n cp xs w' w.heap.size (HR.out.below hb) (by omega) (by omega))
    have HX := Lib.hid (fun w' (hb : Below w.heap.size w w') => Max_any A n cp xs w' w.heap.size (HR.out.below hb) (by omega) (by omega))
    simp only [cond_true]
    rw [hl]
    generalize loM xs (n - 1) = lo at HM ha ⊢
    generalize hiM xs (n - 1) = hi at HX hb' ⊢
    have hw : IntKind.i64.wrap (hi - lo) = hi - lo := wr64L (by omega)
    clear hl hx0 hx1 hxb hg
    go_enter Try.func18, Try.ntmps18
    go_wp2_with fail
    (go_at_call 32; go_call (HC.out _ (by go_grown)) as e1 w1 ⟨rfl, hb1⟩; obtain ⟨hc1, hf1⟩ := bcell hb1; have hB1 : Below w.heap.size w w1 := (below_then (by first | (go_grown; done) | (repeat (first | (with_reducible assumption) | (with_reducible exact Below.refl _ _) | (with_reducible refine below_drewN' ?_ _) | (with_reducible refine Below.drew ?_) | ((with_reducible refine Below.alloc ?_ ?_ _); rotate_left; focus (first | (simp; done) | (simp; omega) | omega)) | ((with_reducible refine Below.setCell ?_ ?_ _); rotate_left; focus (first | (simp; done) | (simp; omega) | omega))))) (by first | omega | (simp; done) | (simp; omega)) hb1); have hz1a : w.heap.size < w1.heap.size := (by have := hb1.size; first | omega | (simp at this; omega)))
    have HX1 := Lib.hid (blk_below (heap_alloc_new w (.cells #[.int .i64 r, .int .i64 c, .slice A n cp] 28)) hb1 (by simp))
    obtain ⟨y0, y1, y2, -⟩ := blk3 HX1.out
    have HBB := Lib.hid hB1
    clear hc1 hf1 hB1 hb1
    go_wp2_with fail
    go_quiet (first | (go_at_call 43; exact Calls.quiet_of_same ((HM.out _ (below_drewN' HBB.out _)).mono (fun _ _ h => ⟨h.1, h.2.symm⟩))) | (go_at_call 42; exact Calls.quiet_of_same ((HX.out _ (below_drewN' HBB.out _)).mono (fun _ _ h => ⟨h.1, h.2.symm⟩))))
    go_wp2_with fail
    go_returns
    exact ⟨by simp, below_drewN' HBB.out _⟩
set_option maxHeartbeats 1000000 in
theorem darkCount_any (r c : Int) (A : Option Addr) (n cp : Nat) (xs : List Int) (w : World) (B : Nat) (hr : RI w B A n xs) (hB : B ≤ w.heap.size) (hn : n ≤ 40000) :
    Calls Try.prog 40 #[.agg #[.int .i64 r, .int .i64 c, .slice A n cp]] w fun e w' => e = .returned (.int .i64 (cnt oneB xs : Nat)) ∧ Below w.heap.size w w' := by
  have HL := Lib.hid hr.len
  have HR := Lib.hid (hr.alloc hB (.cells #[.int .i64 r, .int .i64 c, .slice A n cp] 41))
  clear hr
  go_enter Try.func40, Try.ntmps40
  go_wp2_with fail
  go_loop [3, 9] (fun q i => ∃ k : Nat, k ≤ n ∧ i = .int .i64 k ∧ q = .int .i64 (cnt oneB (xs.take k) : Nat)) (fun _ i => n - (intOf i).toNat)
  case atStart => exact ⟨0, Nat.zero_le _, rfl, rfl⟩
  case round =>
    obtain ⟨k, hk, rfl, rfl⟩ := hrel
    by_cases hlt : k < n
    · obtain ⟨b, o, rfl, hb, hc⟩ := HR.out.cells (by omega)
      have hck := hc k hlt
      clear hc
      have hle := cnt_take_le oneB xs k
      have hst := cnt_take (p := oneB) (xs := xs) (k := k) (by rw [HL.out]; exact hlt)
      have HS := Lib.hid hst
      clear hst
      by_cases he : nth xs k = 1
      · have he' : (nth xs k == 1) = true := by simpa using he
        have HE := Lib.hid he
        clear he
        go_wp2_with fail
        go_round
        case rel => exact ⟨k + 1, by omega, by go_num, by rw [HS.out, HE.out]; simp [oneB]⟩
        case measure => simp [intOf]; omega
      · have he' : (nth xs k == 1) = false := by simpa using he
        have HE := Lib.hid he
        clear he
        go_wp2_with fail
        go_round
        case rel => exact ⟨k + 1, by omega, by go_num, by rw [HS.out]; simp [oneB, HE.out]⟩
        case measure => simp [intOf]; omega
    · have hkn : k = n := by omega
      have hA : cnt oneB (xs.take k) = cnt oneB xs := by rw [hkn, List.take_of_length_le (by rw [HL.out]; exact Nat.le_refl _)]
      have HA := Lib.hid hA
      clear hA hkn
      go_wp2_with fail
      go_ret
      exact ⟨ret_int (by rw [HA.out]), by (repeat (first | (with_reducible assumption) | (with_reducible exact Below.refl _ _) | (with_reducible refine below_drewN' ?_ _) | (with_reducible refine Below.drew ?_) | ((with_reducible refine Below.alloc ?_ ?_ _); rotate_left; focus (first | (simp; done) | (simp; omega) | omega)) | ((with_reducible refine Below.setCell ?_ ?_ _); rotate_left; focus (first | (simp; done) | (simp; omega) | omega))))⟩
/-- What the loop of binary keeps. -/
structure BiP (w : World) (g : Nat) (R C : Nat) (n bb cc : Nat) (ys : List Int) (wr : World) : Prop where
  bl : Below w.heap.size w wr
  l0 : w.heap.size + 1 < bb
  l1 : bb < g
  l2 : g < wr.heap.size
  z : wr.heap[w.heap.size + 1]? = some (.cells #[.int .i64 0, .int .i64 0, .slice none 0 0] 41 (0, 0))
  k : wr.heap[g]? = some (.cells #[.int .i64 (R : Int), .int .i64 (C : Int), .slice (some ⟨bb, 0, none⟩) n cc] 41 (0, 0))
  own : Own wr (w.heap.size + 1 + 1) (.slice (some ⟨bb, 0, none⟩) n cc) ys
theorem BiP.set {w wr : World} {g R C n bb cc : Nat} {ys : List Int} (h : BiP w g R C n bb cc ys wr) (hl : ys.length = n) (k : Nat) (u : Int) : BiP w g R C n bb cc (ys.set k u) (wr.setCell ⟨bb, k, none⟩ (.int .i64 u)) := by
  obtain ⟨h1, h2, h3, h4, h5, h6, h7⟩ := h
  exact ⟨h1.setCell (by simp; omega) _, h2, h3, by simpa using h4, blk_other h5 (by omega), blk_other h6 (by omega), Own.setn hl h7⟩
set_option maxHeartbeats 2000000 in
theorem binary_any (R C : Nat) (l : Int) (A : Option Addr) (n cp : Nat) (xs : List Int) (w : World) (B : Nat) (hr : RI w B A n xs) (hB : B ≤ w.heap.size) (hP : R * C = n) (hn0 : 1 ≤ n) (hn : n ≤ 40000) :
    Calls Try.prog 41 #[.agg #[.int .i64 (R : Int), .int .i64 (C : Int), .slice A n cp], .int .i64 l] w fun e w' => ∃ u, e = .returned (.agg #[.int .i64 (R : Int), .int .i64 (C : Int), u]) ∧ Own w' w.heap.size u (binL xs l) ∧ Below w.heap.size w w' := by
  have HL := Lib.hid hr.len
  have HR := Lib.hid (hr.more hB)
  have HBL := Lib.hid (fun w' => blank_any R C n 0 w' hP (by omega))
  have HGL : Hid ((binL xs l).length = n) := Lib.hid (by rw [binL_len, HL.out])
  clear hr hP
  go_enter Try.func41, Try.ntmps41
  go_wp2_with fail
  (go_at_call 63; go_call (HBL.out _) as e1 w1 ⟨v1, rfl, ho1, hb1⟩; obtain ⟨hc1, hf1⟩ := bcell hb1; have hB1 : Below w.heap.size w w1 := (below_then (by first | (go_grown; done) | (repeat (first | (with_reducible assumption) | (with_reducible exact Below.refl _ _) | (with_reducible refine below_drewN' ?_ _) | (with_reducible refine Below.drew ?_) | ((with_reducible refine Below.alloc ?_ ?_ _); rotate_left; focus (first | (simp; done) | (simp; omega) | omega)) | ((with_reducible refine Below.setCell ?_ ?_ _); rotate_left; focus (first | (simp; done) | (simp; omega) | omega))))) (by first | omega | (simp; done) | (simp; omega)) hb1); have hz1a : w.heap.size < w1.heap.size := (by have := hb1.size; first | omega | (simp at this; omega)); have hz1b : w.heap.size + 1 < w1.heap.size := (by have := hb1.size; first | omega | (simp at this; omega)))
  obtain ⟨bb, cc, rfl, hbb, hbw, -, -⟩ := ho1.row (by simp; omega)
  have hrl : (List.replicate n (0 : Int)).length = n := by simp
  rw [hrl] at ho1 ⊢
  have HRL := Lib.hid hrl
  simp only [World.size_alloc] at ho1 hbb
  have HX1 : Hid (w1.heap[w.heap.size]? = some (.cells #[.int .i64 (R : Int), .int .i64 (C : Int), .slice A n cp] 28 (0, 0))) := Lib.hid (by
    refine blk_below ?_ hb1 (by simp; try omega)
    (repeat (first | (with_reducible exact heap_alloc_new _ _) | (rw [heap_drew1]) | (rw [heap_drewN1]) | (rw [Below.heap_setCell _ _ _ _ (by first | omega | (simp; done) | (simp; omega))]) | (rw [Below.heap_alloc _ _ _ (by first | omega | (simp; done) | (simp; omega))]) | (exact heap_alloc_at (by first | omega | (simp; done) | (simp; omega))))))
  have HP1 : Hid (BiP w w1.heap.size R C n bb cc (List.replicate n (0 : Int)) (w1.alloc (.cells #[.int .i64 (R : Int), .int .i64 (C : Int), .slice (some ⟨bb, 0, none⟩) n cc] 41))) := Lib.hid
    ⟨hB1.alloc hB1.size _, by omega, hbw, by simp, blk_alloc (by
      refine blk_below ?_ hb1 (by simp; try omega)
      (repeat (first | (with_reducible exact heap_alloc_new _ _) | (rw [heap_drew1]) | (rw [heap_drewN1]) | (rw [Below.heap_setCell _ _ _ _ (by first | omega | (simp; done) | (simp; omega))]) | (rw [Below.heap_alloc _ _ _ (by first | omega | (simp; done) | (simp; omega))]) | (exact heap_alloc_at (by first | omega | (simp; done) | (simp; omega)))))) (by omega), heap_alloc_new _ _, ho1.keep ((Below.refl _ _).alloc (Nat.le_refl _) _)⟩
  have hz1 : w.heap.size < w1.heap.size := by omega
  have hX1 := HX1.out
  clear ho1 hb1 hB1 hc1 hf1 hrl HX1 hbw
  obtain ⟨x0, x1, x2, -⟩ := blk3 hX1
  clear hX1
  go_wp2_with fail
  clear x0 x1 x2
  generalize w1.heap.size = g at *
  generalize w1.alloc (.cells #[.int .i64 (R : Int), .int .i64 (C : Int), .slice (some ⟨bb, 0, none⟩) n cc] 41) = w2 at *
  have hw2 := HP1.out.l2
  have hg2 := HP1.out.l1
  go_loopw [16] (fun i wr => ∃ k : Nat, k ≤ n ∧ i = .int .i64 k ∧ Hid (BiP w g R C n bb cc ((binL xs l).take k ++ (List.replicate n (0 : Int)).drop k) wr)) (fun i _ => n - (intOf i).toNat)
  case atStart => exact ⟨0, Nat.zero_le _, rfl, Lib.hid (by simpa using HP1.out)⟩
  case round =>
    obtain ⟨k, hk, rfl, hp⟩ := hrel
    have hlm : ((binL xs l).take k ++ (List.replicate n (0 : Int)).drop k).length = n := by rw [len_mix (by rw [HGL.out, HRL.out]) (by rw [HRL.out]; omega)]; exact HRL.out
    have HLM := Lib.hid hlm
    clear hlm
    by_cases hlt : k < n
    · obtain ⟨b, o, rfl, hb, hc⟩ := (HR.out.below hp.out.bl).cells (by omega)
      have hck := hc k hlt
      have hxk := Lib.hid (binL_nth (l := l) (xs := xs) (k := k) (by rw [HL.out]; exact hlt))
      clear hc
      generalize nth xs k = x at hck hxk
      by_cases hX : x < l
      · have hx1 : nth (binL xs l) k = 1 := by rw [hxk.out, if_pos hX]
        have hmix := set_mix (xs := List.replicate n (0 : Int)) (ys := binL xs l) (k := k) (by rw [HGL.out, HRL.out]) (by rw [HRL.out]; exact hlt)
        rw [hx1] at hmix
        have HM := Lib.hid hmix
        obtain ⟨g', c', e', hB', hg', hc', hf'⟩ := hp.out.own.row (by rw [HLM.out]; omega)
        obtain ⟨rfl, rfl⟩ : bb = g' ∧ cc = c' := by
          simp only [Value.slice.injEq, Option.some.injEq, Addr.mk.injEq, and_true] at e'
          exact ⟨e'.1, e'.2.2⟩
        have hdk := hc' k (by rw [HLM.out]; exact hlt)
        have hfk := hf' k
        obtain ⟨z0, z1, z2, -⟩ := blk3 hp.out.k
        clear hc' hf' e' hB' hmix hx1
        go_wp2_with fail
        go_roundw
        case rel => exact ⟨k + 1, by omega, by go_num, Lib.hid (by rw [← HM.out]; exact hp.out.set HLM.out k 1)⟩
        case measure => simp [intOf]; omega
      · have hx0 : nth (binL xs l) k = nth (List.replicate n (0 : Int)) k := by rw [hxk.out, if_neg hX, nth_rep hlt]
        have HM := Lib.hid (mix_same (xs := List.replicate n (0 : Int)) (ys := binL xs l) (k := k) (by rw [HGL.out, HRL.out]) (by rw [HRL.out]; exact hlt) hx0)
        clear hx0
        go_wp2_with fail
        go_roundw
        case rel => exact ⟨k + 1, by omega, by go_num, Lib.hid (by rw [← HM.out]; exact hp.out)⟩
        case measure => simp [intOf]; omega
    · have hkn : k = n := by omega
      have hfin := hp.out
      rw [hkn, List.take_of_length_le (by rw [HGL.out]; exact Nat.le_refl _), List.drop_of_length_le (by rw [HRL.out]; exact Nat.le_refl _), List.append_nil] at hfin
      obtain ⟨z0, z1, z2, -⟩ := blk3 hfin.k
      obtain ⟨y0, y1, y2, yf⟩ := blk3 hfin.z
      obtain ⟨s0, s1, s2⟩ := res3 hfin.z (.int .i64 (R : Int)) (.int .i64 (C : Int)) (.slice (some ⟨bb, 0, none⟩) n cc)
      have HF := Lib.hid hfin
      clear hfin
      go_wp2_with fail
      (try simp only [Exit.inBlock, Exit.then]); refine bodyPost_ret (by simp [results, Try.results41, go_sem, s0, s1, s2]; try rfl) rfl ?_
      exact ⟨_, rfl, (((HF.out.own.setLt (by simp) _).setLt (by simp) _).setLt (by simp) _).more (by omega), ((HF.out.bl.setCell (by simp) _).setCell (by simp) _).setCell (by simp) _⟩
set_option maxHeartbeats 2000000 in
theorem DarkPixels_any (r c l : Int) (A : Option Addr) (n cp : Nat) (xs : List Int) (w : World) (B : Nat) (hr : RI w B A n xs) (hB : B ≤ w.heap.size) (hn : n ≤ 1000000000000000) :
    Calls Try.prog 17 #[.agg #[.int .i64 r, .int .i64 c, .slice A n cp], .int .i64 l] w fun e w' => e = .returned (.tuple #[.int .i64 (dkV r c xs l), .int .i64 (dkC r c xs l)]) ∧ Below w.heap.size w w' := by
  have hl := hr.len
  have HR := Lib.hid (hr.more hB)
  have HC := Lib.hid (fun w' (hb : Below w.heap.size w w') => IsRaster_any r c A n cp xs w' w.heap.size (HR.out.below hb) hb.size hn)
  clear hr
  unfold dkV dkC
  cases hg : rasB r c xs
  · rw [hg] at HC
    clear hl
    go_enter Try.func17, Try.ntmps17
    go_wp2_with (go_at_call 32; go_call (HC.out _ (by go_grown)) as e1 w1 ⟨rfl, hb1⟩; obtain ⟨hc1, hf1⟩ := bcell hb1; have hB1 : Below w.heap.size w w1 := (below_then (by first | (go_grown; done) | (repeat (first | (with_reducible assumption) | (with_reducible exact Below.refl _ _) | (with_reducible refine below_drewN' ?_ _) | (with_reducible refine Below.drew ?_) | ((with_reducible refine Below.alloc ?_ ?_ _); rotate_left; focus (first | (simp; done) | (simp; omega) | omega)) | ((with_reducible refine Below.setCell ?_ ?_ _); rotate_left; focus (first | (simp; done) | (simp; omega) | omega))))) (by first | omega | (simp; done) | (simp; omega)) hb1); have hz1a : w.heap.size < w1.heap.size := (by have := hb1.size; first | omega | (simp at this; omega)))
    go_returns
    exact ⟨by simp, by (repeat (first | (with_reducible assumption) | (with_reducible exact Below.refl _ _) | (with_reducible refine below_drewN' ?_ _) | (with_reducible refine Below.drew ?_) | ((with_reducible refine Below.alloc ?_ ?_ _); rotate_left; focus (first | (simp; done) | (simp; omega) | omega)) | ((with_reducible refine Below.setCell ?_ ?_ _); rotate_left; focus (first | (simp; done) | (simp; omega) | omega))))⟩
  rw [hg] at HC
  cases hi : inR l 0 256
  · clear hl
    go_enter Try.func17, Try.ntmps17
    go_wp2_with first | (go_at_call 32; go_call (HC.out _ (by go_grown)) as e1 w1 ⟨rfl, hb1⟩; obtain ⟨hc1, hf1⟩ := bcell hb1; have hB1 : Below w.heap.size w w1 := (below_then (by first | (go_grown; done) | (repeat (first | (with_reducible assumption) | (with_reducible exact Below.refl _ _) | (with_reducible refine below_drewN' ?_ _) | (with_reducible refine Below.drew ?_) | ((with_reducible refine Below.alloc ?_ ?_ _); rotate_left; focus (first | (simp; done) | (simp; omega) | omega)) | ((with_reducible refine Below.setCell ?_ ?_ _); rotate_left; focus (first | (simp; done) | (simp; omega) | omega))))) (by first | omega | (simp; done) | (simp; omega)) hb1); have hz1a : w.heap.size < w1.heap.size := (by have := hb1.size; first | omega | (simp at this; omega))) | (go_at_call 39; refine (inRange_any _ _ _ _).mono ?_; rintro e w' ⟨rfl, rfl⟩)
    go_returns
    exact ⟨by simp, by (repeat (first | (with_reducible assumption) | (with_reducible exact Below.refl _ _) | (with_reducible refine below_drewN' ?_ _) | (with_reducible refine Below.drew ?_) | ((with_reducible refine Below.alloc ?_ ?_ _); rotate_left; focus (first | (simp; done) | (simp; omega) | omega)) | ((with_reducible refine Below.setCell ?_ ?_ _); rotate_left; focus (first | (simp; done) | (simp; omega) | omega))))⟩
  · obtain ⟨hx0, hx1, hxb⟩ := rasB_true hg
    obtain ⟨R, C, rfl, rfl, hRC⟩ := ras_nat hg
    have HBI := Lib.hid (fun w' (hb : Below w.heap.size w w') => binary_any R C l A n cp xs w' w.heap.size (HR.out.below hb) hb.size (hRC.trans hl) (by omega) (by omega))
    have HN := Lib.hid (show cnt oneB (binL xs l) = nLo xs l xs.length by
      have := cnt_bin xs l xs.length (Nat.le_refl _)
      rwa [List.take_of_length_le (by rw [binL_len]; exact Nat.le_refl _)] at this)
    have HGL : Hid ((binL xs l).length = n) := Lib.hid (by rw [binL_len, hl])
    simp only [cond_true]
    have hn4 : n ≤ 40000 := by omega
    clear hl hx0 hx1 hxb hRC hg
    go_enter Try.func17, Try.ntmps17
    go_wp2_with fail
    (go_at_call 32; go_call (HC.out _ (by go_grown)) as e1 w1 ⟨rfl, hb1⟩; obtain ⟨hc1, hf1⟩ := bcell hb1; have hB1 : Below w.heap.size w w1 := (below_then (by first | (go_grown; done) | (repeat (first | (with_reducible assumption) | (with_reducible exact Below.refl _ _) | (with_reducible refine below_drewN' ?_ _) | (with_reducible refine Below.drew ?_) | ((with_reducible refine Below.alloc ?_ ?_ _); rotate_left; focus (first | (simp; done) | (simp; omega) | omega)) | ((with_reducible refine Below.setCell ?_ ?_ _); rotate_left; focus (first | (simp; done) | (simp; omega) | omega))))) (by first | omega | (simp; done) | (simp; omega)) hb1); have hz1a : w.heap.size < w1.heap.size := (by have := hb1.size; first | omega | (simp at this; omega)))
    have HX1 := Lib.hid (blk_below (heap_alloc_new w (.cells #[.int .i64 (R : Int), .int .i64 (C : Int), .slice A n cp] 28)) hb1 (by simp))
    obtain ⟨y0, y1, y2, -⟩ := blk3 HX1.out
    clear hc1 hf1
    go_wp2_with (go_at_call 39; refine (inRange_any _ _ _ _).mono ?_; rintro e w' ⟨rfl, rfl⟩)
    (go_at_call 41; go_call (HBI.out _ hB1) as e2 w2 ⟨v2, rfl, ho2, hb2⟩; obtain ⟨hc2, hf2⟩ := bcell hb2; have hB2 : Below w.heap.size w w2 := (below_then (by first | (go_grown; done) | (repeat (first | (with_reducible assumption) | (with_reducible exact Below.refl _ _) | (with_reducible refine below_drewN' ?_ _) | (with_reducible refine Below.drew ?_) | ((with_reducible refine Below.alloc ?_ ?_ _); rotate_left; focus (first | (simp; done) | (simp; omega) | omega)) | ((with_reducible refine Below.setCell ?_ ?_ _); rotate_left; focus (first | (simp; done) | (simp; omega) | omega))))) (by first | omega | (simp; done) | (simp; omega)) hb2); have hz2a : w.heap.size < w2.heap.size := (by have := hb2.size; first | omega | (simp at this; omega)))
    obtain ⟨A2, c2, rfl, hr2⟩ := ho2.shape
    rw [HGL.out] at hr2 ⊢
    clear ho2
    go_wp2_with fail
    (go_at_call 40; go_call (darkCount_any _ _ A2 n c2 (binL xs l) _ _ hr2 (Nat.le_refl _) hn4) as e3 w3 ⟨rfl, hb3⟩; obtain ⟨hc3, hf3⟩ := bcell hb3; have hB3 : Below w.heap.size w w3 := (below_then (by first | (go_grown; done) | (repeat (first | (with_reducible assumption) | (with_reducible exact Below.refl _ _) | (with_reducible refine below_drewN' ?_ _) | (with_reducible refine Below.drew ?_) | ((with_reducible refine Below.alloc ?_ ?_ _); rotate_left; focus (first | (simp; done) | (simp; omega) | omega)) | ((with_reducible refine Below.setCell ?_ ?_ _); rotate_left; focus (first | (simp; done) | (simp; omega) | omega))))) (by first | omega | (simp; done) | (simp; omega)) hb3))
    go_wp2_with fail
    go_returns
    exact ⟨by simp [HN.out], hB3⟩
end Go.Proofs.Ytkipaefhnmfebaa
