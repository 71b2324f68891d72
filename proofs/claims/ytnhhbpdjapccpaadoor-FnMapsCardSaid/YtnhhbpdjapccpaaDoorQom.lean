/-
  Contracts of chapter 25: the quad of a map, both sides. Printed by gen/qom.py.
-/
import Derived.Test.YtnhhbpdjapccpaaDoorC25W
import Derived.Test.YtnhhbpdjapccpaaDoorC25S
import Derived.Test.YtnhhbpdjapccpaaDoorBlk
import Derived.Test.YtnhhbpdjapccpaaDoorSlice
namespace Go.Proofs.YtnhhbpdjapccpaaDoor
set_option linter.unusedSimpArgs false
open Go.RowKit

theorem blk2 {w : World} {b t : Nat} {x0 x1 : Value} (h : w.heap[b]? = some (.cells #[x0, x1] t (0, 0))) :
    w.cell? ⟨b, 0, none⟩ = some x0 ∧ w.cell? ⟨b, 1, none⟩ = some x1 ∧ ∀ k, w.frozen? ⟨b, k, none⟩ = false := by
  refine ⟨?_, ?_, fun k => ?_⟩ <;> simp [World.cell?, World.frozen?, h]
theorem res2 {w : World} {b t : Nat} {x0 x1 : Value} (h : w.heap[b]? = some (.cells #[x0, x1] t (0, 0))) (y0 y1 : Value) :
    (w |>.setCell ⟨b, 0, none⟩ y0 |>.setCell ⟨b, 1, none⟩ y1).heap[b]? = some (.cells #[y0, y1] t (0, 0)) := by
  have h0 := blk3_set (k := 0) (u := y0) h
  have h1 := blk3_set (k := 1) (u := y1) h0
  simpa using h1
theorem blk8 {w : World} {b t : Nat} {x0 x1 x2 x3 x4 x5 x6 x7 : Value} (h : w.heap[b]? = some (.cells #[x0, x1, x2, x3, x4, x5, x6, x7] t (0, 0))) :
    w.cell? ⟨b, 0, none⟩ = some x0 ∧ w.cell? ⟨b, 1, none⟩ = some x1 ∧ w.cell? ⟨b, 2, none⟩ = some x2 ∧ w.cell? ⟨b, 3, none⟩ = some x3 ∧ w.cell? ⟨b, 4, none⟩ = some x4 ∧ w.cell? ⟨b, 5, none⟩ = some x5 ∧ w.cell? ⟨b, 6, none⟩ = some x6 ∧ w.cell? ⟨b, 7, none⟩ = some x7 ∧ ∀ k, w.frozen? ⟨b, k, none⟩ = false := by
  refine ⟨?_, ?_, ?_, ?_, ?_, ?_, ?_, ?_, fun k => ?_⟩ <;> simp [World.cell?, World.frozen?, h]
theorem res8 {w : World} {b t : Nat} {x0 x1 x2 x3 x4 x5 x6 x7 : Value} (h : w.heap[b]? = some (.cells #[x0, x1, x2, x3, x4, x5, x6, x7] t (0, 0))) (y0 y1 y2 y3 y4 y5 y6 y7 : Value) :
    (w |>.setCell ⟨b, 0, none⟩ y0 |>.setCell ⟨b, 1, none⟩ y1 |>.setCell ⟨b, 2, none⟩ y2 |>.setCell ⟨b, 3, none⟩ y3 |>.setCell ⟨b, 4, none⟩ y4 |>.setCell ⟨b, 5, none⟩ y5 |>.setCell ⟨b, 6, none⟩ y6 |>.setCell ⟨b, 7, none⟩ y7).heap[b]? = some (.cells #[y0, y1, y2, y3, y4, y5, y6, y7] t (0, 0)) := by
  have h0 := blk3_set (k := 0) (u := y0) h
  have h1 := blk3_set (k := 1) (u := y1) h0
  have h2 := blk3_set (k := 2) (u := y2) h1
  have h3 := blk3_set (k := 3) (u := y3) h2
  have h4 := blk3_set (k := 4) (u := y4) h3
  have h5 := blk3_set (k := 5) (u := y5) h4
  have h6 := blk3_set (k := 6) (u := y6) h5
  have h7 := blk3_set (k := 7) (u := y7) h6
  simpa using h7
theorem blk9 {w : World} {b t : Nat} {x0 x1 x2 x3 x4 x5 x6 x7 x8 : Value} (h : w.heap[b]? = some (.cells #[x0, x1, x2, x3, x4, x5, x6, x7, x8] t (0, 0))) :
    w.cell? ⟨b, 0, none⟩ = some x0 ∧ w.cell? ⟨b, 1, none⟩ = some x1 ∧ w.cell? ⟨b, 2, none⟩ = some x2 ∧ w.cell? ⟨b, 3, none⟩ = some x3 ∧ w.cell? ⟨b, 4, none⟩ = some x4 ∧ w.cell? ⟨b, 5, none⟩ = some x5 ∧ w.cell? ⟨b, 6, none⟩ = some x6 ∧ w.cell? ⟨b, 7, none⟩ = some x7 ∧ w.cell? ⟨b, 8, none⟩ = some x8 ∧ ∀ k, w.frozen? ⟨b, k, none⟩ = false := by
  refine ⟨?_, ?_, ?_, ?_, ?_, ?_, ?_, ?_, ?_, fun k => ?_⟩ <;> simp [World.cell?, World.frozen?, h]
theorem res9 {w : World} {b t : Nat} {x0 x1 x2 x3 x4 x5 x6 x7 x8 : Value} (h : w.heap[b]? = some (.cells #[x0, x1, x2, x3, x4, x5, x6, x7, x8] t (0, 0))) (y0 y1 y2 y3 y4 y5 y6 y7 y8 : Value) :
    (w |>.setCell ⟨b, 0, none⟩ y0 |>.setCell ⟨b, 1, none⟩ y1 |>.setCell ⟨b, 2, none⟩ y2 |>.setCell ⟨b, 3, none⟩ y3 |>.setCell ⟨b, 4, none⟩ y4 |>.setCell ⟨b, 5, none⟩ y5 |>.setCell ⟨b, 6, none⟩ y6 |>.setCell ⟨b, 7, none⟩ y7 |>.setCell ⟨b, 8, none⟩ y8).heap[b]? = some (.cells #[y0, y1, y2, y3, y4, y5, y6, y7, y8] t (0, 0)) := by
  have h0 := blk3_set (k := 0) (u := y0) h
  have h1 := blk3_set (k := 1) (u := y1) h0
  have h2 := blk3_set (k := 2) (u := y2) h1
  have h3 := blk3_set (k := 3) (u := y3) h2
  have h4 := blk3_set (k := 4) (u := y4) h3
  have h5 := blk3_set (k := 5) (u := y5) h4
  have h6 := blk3_set (k := 6) (u := y6) h5
  have h7 := blk3_set (k := 7) (u := y7) h6
  have h8 := blk3_set (k := 8) (u := y8) h7
  simpa using h8
/-- The code of a quad from: is the map one, are all denominators positive, are all spots valid, is the quad one. -/
def qmC (mp zz ss qq : Bool) : Int := bif mp then (bif zz then (bif ss then (bif qq then 0 else 5) else 3) else 5) else 1
def qmV (k x : Int) : Int := if k = 0 then x else 0
theorem qmV_no {k x : Int} (h : k ≠ 0) : qmV k x = 0 := by unfold qmV; rw [if_neg h]
theorem qmV_0 (x : Int) : qmV 0 x = x := rfl
/-- Are n spots, told as one list, all valid? -/
def spotsB (xs : List Int) (n : Nat) : Bool := (List.range n).all fun k => spotB (nth xs (k * 2)) (nth xs (k * 2 + 1))
theorem spotsB_no {xs : List Int} {n k : Nat} (hk : k < n) (h : spotB (nth xs (k * 2)) (nth xs (k * 2 + 1)) = false) : spotsB xs n = false := by
  unfold spotsB
  cases e : (List.range n).all _ with
  | false => rfl
  | true => rw [List.all_eq_true] at e; rw [e k (List.mem_range.2 hk)] at h; cases h
theorem spotsB_yes {xs : List Int} {n : Nat} (h : ∀ k, k < n → spotB (nth xs (k * 2)) (nth xs (k * 2 + 1)) = true) : spotsB xs n = true := by
  unfold spotsB
  rw [List.all_eq_true]
  exact fun k hk => h k (List.mem_range.1 hk)
set_option maxHeartbeats 1000000 in
theorem areSpots_any (b cp n : Nat) (xs : List Int) (w : World) (hb : b < w.heap.size) (hc : ∀ k, k < n → w.cell? ⟨b, k * 2, none⟩ = some (.int .i64 (nth xs (k * 2))) ∧ w.cell? ⟨b, k * 2 + 1, none⟩ = some (.int .i64 (nth xs (k * 2 + 1)))) (hn : n ≤ 1000000) :
    Calls Tryd.prog 30 #[.slice (some ⟨b, 0, none⟩) n cp] w fun e w' => e = .returned (.bool (spotsB xs n)) ∧ Below w.heap.size w w' := by
  have HC := Lib.hid hc
  clear hc
  go_enter Tryd.func30, Tryd.ntmps30
  go_wp2_with fail
  go_loopw [7] (fun i wr => ∃ k : Nat, k ≤ n ∧ i = .int .i64 k ∧ Hid (∀ j, j < k → spotB (nth xs (j * 2)) (nth xs (j * 2 + 1)) = true) ∧ Hid (Below w.heap.size w wr)) (fun i _ => n - (intOf i).toNat)
  case atStart => exact ⟨0, Nat.zero_le _, rfl, Lib.hid (fun j hj => absurd hj (Nat.not_lt_zero _)), Lib.hid (Below.refl _ _)⟩
  case round =>
    obtain ⟨k, hk, rfl, hall, hbel⟩ := hrel
    have hbw := hbel.out
    have hsr := hbw.size
    by_cases hlt : k < n
    · have hc0 := (hbw.cell (p := ⟨b, k * 2, none⟩) hb).trans (HC.out k hlt).1
      have hc1 := (hbw.cell (p := ⟨b, k * 2 + 1, none⟩) hb).trans (HC.out k hlt).2
      have HS : Hid (∀ u v, nth xs (k * 2) = u → nth xs (k * 2 + 1) = v → spotB u v = true → ∀ j, j < k + 1 → spotB (nth xs (j * 2)) (nth xs (j * 2 + 1)) = true) := Lib.hid (fun u v h1 h2 h3 j hj => by
        rcases Nat.lt_or_ge j k with h | h
        · exact hall.out j h
        · obtain rfl : j = k := by omega
          rw [h1, h2]; exact h3)
      have HN : Hid (∀ u v, nth xs (k * 2) = u → nth xs (k * 2 + 1) = v → spotB u v = false → spotsB xs n = false) := Lib.hid (fun u v h1 h2 h3 => spotsB_no hlt (by rw [h1, h2]; exact h3))
      obtain ⟨u, hu⟩ : ∃ u, nth xs (k * 2) = u := ⟨_, rfl⟩
      obtain ⟨v, hv⟩ : ∃ v, nth xs (k * 2 + 1) = v := ⟨_, rfl⟩
      rw [hu] at hc0
      rw [hv] at hc1
      have HU := Lib.hid hu
      have HV := Lib.hid hv
      clear hu hv
      have hki : (k : Int) < n := by omega
      cases hsp : spotB u v
      · have HI := Lib.hid (fun w => IsSpot_any u v w)
        rw [hsp] at HI
        have HF := Lib.hid (HN.out u v HU.out HV.out hsp)
        clear hsp
        go_wp2_with (go_at_call 27; with_reducible refine (HI.out _).mono ?_; rintro e1 w1 ⟨rfl, hb1⟩; obtain ⟨hc1, hf1⟩ := bcell hb1; have hB1 : Below w.heap.size w w1 := (below_then (by first | (go_grown; done) | (repeat (first | (with_reducible assumption) | (with_reducible exact Below.refl _ _) | (with_reducible refine below_drewN' ?_ _) | (with_reducible refine Below.drew ?_) | ((with_reducible refine Below.alloc ?_ ?_ _); rotate_left; focus (first | (simp; done) | (simp; omega) | omega)) | ((with_reducible refine Below.setCell ?_ ?_ _); rotate_left; focus (first | (simp; done) | (simp; omega) | omega))))) (by first | omega | (simp; done) | (simp; omega)) hb1))
        go_ret
        exact ⟨ret_bool HF.out.symm, hB1⟩
      · have HI := Lib.hid (fun w => IsSpot_any u v w)
        rw [hsp] at HI
        have HF := Lib.hid (HS.out u v HU.out HV.out hsp)
        clear hsp
        go_wp2_with (go_at_call 27; with_reducible refine (HI.out _).mono ?_; rintro e1 w1 ⟨rfl, hb1⟩; obtain ⟨hc1, hf1⟩ := bcell hb1; have hB1 : Below w.heap.size w w1 := (below_then (by first | (go_grown; done) | (repeat (first | (with_reducible assumption) | (with_reducible exact Below.refl _ _) | (with_reducible refine below_drewN' ?_ _) | (with_reducible refine Below.drew ?_) | ((with_reducible refine Below.alloc ?_ ?_ _); rotate_left; focus (first | (simp; done) | (simp; omega) | omega)) | ((with_reducible refine Below.setCell ?_ ?_ _); rotate_left; focus (first | (simp; done) | (simp; omega) | omega))))) (by first | omega | (simp; done) | (simp; omega)) hb1))
        go_roundw
        case rel => exact ⟨k + 1, by omega, by go_num, HF, Lib.hid hB1⟩
        case measure => simp [intOf]; omega
    · obtain rfl : k = n := by omega
      have HF := Lib.hid (spotsB_yes hall.out)
      have hki : ¬ ((k : Int) < k) := by omega
      go_wp2_with fail
      go_ret
      exact ⟨ret_bool HF.out.symm, hbw⟩
/-- What is kept while QuadOfMap walks: the block of the map, the block of the result, a block g1 of eight numbers. -/
structure QMP (w0 : World) (tM tQ tA g1 : Nat) (a b c d e f g h i : Int) (f0 f1 f2 f3 f4 f5 f6 f7 : Int) (w : World) : Prop where
  sz : w0.heap.size + 1 < g1 ∧ g1 < w.heap.size
  bw : Below w0.heap.size w0 w
  kb : w.heap[w0.heap.size]? = some (.cells #[.int .i64 a, .int .i64 b, .int .i64 c, .int .i64 d, .int .i64 e, .int .i64 f, .int .i64 g, .int .i64 h, .int .i64 i] tM (0, 0))
  kz : w.heap[w0.heap.size + 1]? = some (.cells #[.int .i64 0, .int .i64 0, .int .i64 0, .int .i64 0, .int .i64 0, .int .i64 0, .int .i64 0, .int .i64 0] tQ (0, 0))
  kg : w.heap[g1]? = some (.cells #[.int .i64 f0, .int .i64 f1, .int .i64 f2, .int .i64 f3, .int .i64 f4, .int .i64 f5, .int .i64 f6, .int .i64 f7] tA (0, 0))
section
variable {w0 w w' : World} {tM tQ tA g1 : Nat} {a b c d e f g h i : Int} {f0 f1 f2 f3 f4 f5 f6 f7 : Int}
theorem QMP.below (H : QMP w0 tM tQ tA g1 a b c d e f g h i f0 f1 f2 f3 f4 f5 f6 f7 w) (hb : Below w.heap.size w w') : QMP w0 tM tQ tA g1 a b c d e f g h i f0 f1 f2 f3 f4 f5 f6 f7 w' := by
  obtain ⟨⟨h1, h2⟩, hB, k0, k1, k2⟩ := H
  have hs := hb.size
  exact ⟨⟨h1, by omega⟩, hB.trans (hb.mono (by omega)), (hb.block _ (by omega)).trans k0, (hb.block _ (by omega)).trans k1, (hb.block _ (by omega)).trans k2⟩
theorem QMP.alloc (H : QMP w0 tM tQ tA g1 a b c d e f g h i f0 f1 f2 f3 f4 f5 f6 f7 w) (o : Obj) : QMP w0 tM tQ tA g1 a b c d e f g h i f0 f1 f2 f3 f4 f5 f6 f7 (w.alloc o) := H.below ((Below.refl _ _).alloc (Nat.le_refl _) o)
theorem QMP.set0 (H : QMP w0 tM tQ tA g1 a b c d e f g h i f0 f1 f2 f3 f4 f5 f6 f7 w) (u v : Int) : QMP w0 tM tQ tA g1 a b c d e f g h i u v f2 f3 f4 f5 f6 f7 ((w.setCell ⟨g1, 0, none⟩ (.int .i64 u)).setCell ⟨g1, 1, none⟩ (.int .i64 v)) := by
  obtain ⟨⟨h1, h2⟩, hB, k0, k1, k2⟩ := H
  have e1 := blk3_set (k := 0) (u := .int .i64 u) k2
  have e2 := blk3_set (k := 1) (u := .int .i64 v) e1
  exact ⟨⟨h1, by simpa using h2⟩, (hB.setCell (by simp; omega) _).setCell (by simp; omega) _, blk_other (blk_other k0 (by omega)) (by omega), blk_other (blk_other k1 (by omega)) (by omega), by simpa using e2⟩
theorem QMP.set1 (H : QMP w0 tM tQ tA g1 a b c d e f g h i f0 f1 f2 f3 f4 f5 f6 f7 w) (u v : Int) : QMP w0 tM tQ tA g1 a b c d e f g h i f0 f1 u v f4 f5 f6 f7 ((w.setCell ⟨g1, 2, none⟩ (.int .i64 u)).setCell ⟨g1, 3, none⟩ (.int .i64 v)) := by
  obtain ⟨⟨h1, h2⟩, hB, k0, k1, k2⟩ := H
  have e1 := blk3_set (k := 2) (u := .int .i64 u) k2
  have e2 := blk3_set (k := 3) (u := .int .i64 v) e1
  exact ⟨⟨h1, by simpa using h2⟩, (hB.setCell (by simp; omega) _).setCell (by simp; omega) _, blk_other (blk_other k0 (by omega)) (by omega), blk_other (blk_other k1 (by omega)) (by omega), by simpa using e2⟩
theorem QMP.set2 (H : QMP w0 tM tQ tA g1 a b c d e f g h i f0 f1 f2 f3 f4 f5 f6 f7 w) (u v : Int) : QMP w0 tM tQ tA g1 a b c d e f g h i f0 f1 f2 f3 u v f6 f7 ((w.setCell ⟨g1, 4, none⟩ (.int .i64 u)).setCell ⟨g1, 5, none⟩ (.int .i64 v)) := by
  obtain ⟨⟨h1, h2⟩, hB, k0, k1, k2⟩ := H
  have e1 := blk3_set (k := 4) (u := .int .i64 u) k2
  have e2 := blk3_set (k := 5) (u := .int .i64 v) e1
  exact ⟨⟨h1, by simpa using h2⟩, (hB.setCell (by simp; omega) _).setCell (by simp; omega) _, blk_other (blk_other k0 (by omega)) (by omega), blk_other (blk_other k1 (by omega)) (by omega), by simpa using e2⟩
theorem QMP.set3 (H : QMP w0 tM tQ tA g1 a b c d e f g h i f0 f1 f2 f3 f4 f5 f6 f7 w) (u v : Int) : QMP w0 tM tQ tA g1 a b c d e f g h i f0 f1 f2 f3 f4 f5 u v ((w.setCell ⟨g1, 6, none⟩ (.int .i64 u)).setCell ⟨g1, 7, none⟩ (.int .i64 v)) := by
  obtain ⟨⟨h1, h2⟩, hB, k0, k1, k2⟩ := H
  have e1 := blk3_set (k := 6) (u := .int .i64 u) k2
  have e2 := blk3_set (k := 7) (u := .int .i64 v) e1
  exact ⟨⟨h1, by simpa using h2⟩, (hB.setCell (by simp; omega) _).setCell (by simp; omega) _, blk_other (blk_other k0 (by omega)) (by omega), blk_other (blk_other k1 (by omega)) (by omega), by simpa using e2⟩
end

set_option maxRecDepth 100000 in
set_option maxHeartbeats 40000000 in
theorem QuadOfMap_any (a b c d e f g h i : Int) (w : World) :
    Calls Tryd.prog 13 #[.agg #[.int .i64 a, .int .i64 b, .int .i64 c, .int .i64 d, .int .i64 e, .int .i64 f, .int .i64 g, .int .i64 h, .int .i64 i]] w fun e' w' => e' = .returned (.tuple #[.agg #[.int .i64 (qmV (qmC (isMapB [a, b, c, d, e, f, g, h, i]) ((decide (0 < imgI g h i 0 0 1) && (decide (0 < imgI g h i 1 0 1) && (decide (0 < imgI g h i 1 1 1) && decide (0 < imgI g h i 0 1 1))))) ((spotB (imgI a b c 0 0 1 / imgI g h i 0 0 1) (imgI d e f 0 0 1 / imgI g h i 0 0 1) && (spotB (imgI a b c 1 0 1 / imgI g h i 1 0 1) (imgI d e f 1 0 1 / imgI g h i 1 0 1) && (spotB (imgI a b c 1 1 1 / imgI g h i 1 1 1) (imgI d e f 1 1 1 / imgI g h i 1 1 1) && spotB (imgI a b c 0 1 1 / imgI g h i 0 1 1) (imgI d e f 0 1 1 / imgI g h i 0 1 1))))) (quadB (imgI a b c 0 0 1 / imgI g h i 0 0 1) (imgI d e f 0 0 1 / imgI g h i 0 0 1) (imgI a b c 1 0 1 / imgI g h i 1 0 1) (imgI d e f 1 0 1 / imgI g h i 1 0 1) (imgI a b c 1 1 1 / imgI g h i 1 1 1) (imgI d e f 1 1 1 / imgI g h i 1 1 1) (imgI a b c 0 1 1 / imgI g h i 0 1 1) (imgI d e f 0 1 1 / imgI g h i 0 1 1))) (imgI a b c 0 0 1 / imgI g h i 0 0 1)), .int .i64 (qmV (qmC (isMapB [a, b, c, d, e, f, g, h, i]) ((decide (0 < imgI g h i 0 0 1) && (decide (0 < imgI g h i 1 0 1) && (decide (0 < imgI g h i 1 1 1) && decide (0 < imgI g h i 0 1 1))))) ((spotB (imgI a b c 0 0 1 / imgI g h i 0 0 1) (imgI d e f 0 0 1 / imgI g h i 0 0 1) && (spotB (imgI a b c 1 0 1 / imgI g h i 1 0 1) (imgI d e f 1 0 1 / imgI g h i 1 0 1) && (spotB (imgI a b c 1 1 1 / imgI g h i 1 1 1) (imgI d e f 1 1 1 / imgI g h i 1 1 1) && spotB (imgI a b c 0 1 1 / imgI g h i 0 1 1) (imgI d e f 0 1 1 / imgI g h i 0 1 1))))) (quadB (imgI a b c 0 0 1 / imgI g h i 0 0 1) (imgI d e f 0 0 1 / imgI g h i 0 0 1) (imgI a b c 1 0 1 / imgI g h i 1 0 1) (imgI d e f 1 0 1 / imgI g h i 1 0 1) (imgI a b c 1 1 1 / imgI g h i 1 1 1) (imgI d e f 1 1 1 / imgI g h i 1 1 1) (imgI a b c 0 1 1 / imgI g h i 0 1 1) (imgI d e f 0 1 1 / imgI g h i 0 1 1))) (imgI d e f 0 0 1 / imgI g h i 0 0 1)), .int .i64 (qmV (qmC (isMapB [a, b, c, d, e, f, g, h, i]) ((decide (0 < imgI g h i 0 0 1) && (decide (0 < imgI g h i 1 0 1) && (decide (0 < imgI g h i 1 1 1) && decide (0 < imgI g h i 0 1 1))))) ((spotB (imgI a b c 0 0 1 / imgI g h i 0 0 1) (imgI d e f 0 0 1 / imgI g h i 0 0 1) && (spotB (imgI a b c 1 0 1 / imgI g h i 1 0 1) (imgI d e f 1 0 1 / imgI g h i 1 0 1) && (spotB (imgI a b c 1 1 1 / imgI g h i 1 1 1) (imgI d e f 1 1 1 / imgI g h i 1 1 1) && spotB (imgI a b c 0 1 1 / imgI g h i 0 1 1) (imgI d e f 0 1 1 / imgI g h i 0 1 1))))) (quadB (imgI a b c 0 0 1 / imgI g h i 0 0 1) (imgI d e f 0 0 1 / imgI g h i 0 0 1) (imgI a b c 1 0 1 / imgI g h i 1 0 1) (imgI d e f 1 0 1 / imgI g h i 1 0 1) (imgI a b c 1 1 1 / imgI g h i 1 1 1) (imgI d e f 1 1 1 / imgI g h i 1 1 1) (imgI a b c 0 1 1 / imgI g h i 0 1 1) (imgI d e f 0 1 1 / imgI g h i 0 1 1))) (imgI a b c 1 0 1 / imgI g h i 1 0 1)), .int .i64 (qmV (qmC (isMapB [a, b, c, d, e, f, g, h, i]) ((decide (0 < imgI g h i 0 0 1) && (decide (0 < imgI g h i 1 0 1) && (decide (0 < imgI g h i 1 1 1) && decide (0 < imgI g h i 0 1 1))))) ((spotB (imgI a b c 0 0 1 / imgI g h i 0 0 1) (imgI d e f 0 0 1 / imgI g h i 0 0 1) && (spotB (imgI a b c 1 0 1 / imgI g h i 1 0 1) (imgI d e f 1 0 1 / imgI g h i 1 0 1) && (spotB (imgI a b c 1 1 1 / imgI g h i 1 1 1) (imgI d e f 1 1 1 / imgI g h i 1 1 1) && spotB (imgI a b c 0 1 1 / imgI g h i 0 1 1) (imgI d e f 0 1 1 / imgI g h i 0 1 1))))) (quadB (imgI a b c 0 0 1 / imgI g h i 0 0 1) (imgI d e f 0 0 1 / imgI g h i 0 0 1) (imgI a b c 1 0 1 / imgI g h i 1 0 1) (imgI d e f 1 0 1 / imgI g h i 1 0 1) (imgI a b c 1 1 1 / imgI g h i 1 1 1) (imgI d e f 1 1 1 / imgI g h i 1 1 1) (imgI a b c 0 1 1 / imgI g h i 0 1 1) (imgI d e f 0 1 1 / imgI g h i 0 1 1))) (imgI d e f 1 0 1 / imgI g h i 1 0 1)), .int .i64 (qmV (qmC (isMapB [a, b, c, d, e, f, g, h, i]) ((decide (0 < imgI g h i 0 0 1) && (decide (0 < imgI g h i 1 0 1) && (decide (0 < imgI g h i 1 1 1) && decide (0 < imgI g h i 0 1 1))))) ((spotB (imgI a b c 0 0 1 / imgI g h i 0 0 1) (imgI d e f 0 0 1 / imgI g h i 0 0 1) && (spotB (imgI a b c 1 0 1 / imgI g h i 1 0 1) (imgI d e f 1 0 1 / imgI g h i 1 0 1) && (spotB (imgI a b c 1 1 1 / imgI g h i 1 1 1) (imgI d e f 1 1 1 / imgI g h i 1 1 1) && spotB (imgI a b c 0 1 1 / imgI g h i 0 1 1) (imgI d e f 0 1 1 / imgI g h i 0 1 1))))) (quadB (imgI a b c 0 0 1 / imgI g h i 0 0 1) (imgI d e f 0 0 1 / imgI g h i 0 0 1) (imgI a b c 1 0 1 / imgI g h i 1 0 1) (imgI d e f 1 0 1 / imgI g h i 1 0 1) (imgI a b c 1 1 1 / imgI g h i 1 1 1) (imgI d e f 1 1 1 / imgI g h i 1 1 1) (imgI a b c 0 1 1 / imgI g h i 0 1 1) (imgI d e f 0 1 1 / imgI g h i 0 1 1))) (imgI a b c 1 1 1 / imgI g h i 1 1 1)), .int .i64 (qmV (qmC (isMapB [a, b, c, d, e, f, g, h, i]) ((decide (0 < imgI g h i 0 0 1) && (decide (0 < imgI g h i 1 0 1) && (decide (0 < imgI g h i 1 1 1) && decide (0 < imgI g h i 0 1 1))))) ((spotB (imgI a b c 0 0 1 / imgI g h i 0 0 1) (imgI d e f 0 0 1 / imgI g h i 0 0 1) && (spotB (imgI a b c 1 0 1 / imgI g h i 1 0 1) (imgI d e f 1 0 1 / imgI g h i 1 0 1) && (spotB (imgI a b c 1 1 1 / imgI g h i 1 1 1) (imgI d e f 1 1 1 / imgI g h i 1 1 1) && spotB (imgI a b c 0 1 1 / imgI g h i 0 1 1) (imgI d e f 0 1 1 / imgI g h i 0 1 1))))) (quadB (imgI a b c 0 0 1 / imgI g h i 0 0 1) (imgI d e f 0 0 1 / imgI g h i 0 0 1) (imgI a b c 1 0 1 / imgI g h i 1 0 1) (imgI d e f 1 0 1 / imgI g h i 1 0 1) (imgI a b c 1 1 1 / imgI g h i 1 1 1) (imgI d e f 1 1 1 / imgI g h i 1 1 1) (imgI a b c 0 1 1 / imgI g h i 0 1 1) (imgI d e f 0 1 1 / imgI g h i 0 1 1))) (imgI d e f 1 1 1 / imgI g h i 1 1 1)), .int .i64 (qmV (qmC (isMapB [a, b, c, d, e, f, g, h, i]) ((decide (0 < imgI g h i 0 0 1) && (decide (0 < imgI g h i 1 0 1) && (decide (0 < imgI g h i 1 1 1) && decide (0 < imgI g h i 0 1 1))))) ((spotB (imgI a b c 0 0 1 / imgI g h i 0 0 1) (imgI d e f 0 0 1 / imgI g h i 0 0 1) && (spotB (imgI a b c 1 0 1 / imgI g h i 1 0 1) (imgI d e f 1 0 1 / imgI g h i 1 0 1) && (spotB (imgI a b c 1 1 1 / imgI g h i 1 1 1) (imgI d e f 1 1 1 / imgI g h i 1 1 1) && spotB (imgI a b c 0 1 1 / imgI g h i 0 1 1) (imgI d e f 0 1 1 / imgI g h i 0 1 1))))) (quadB (imgI a b c 0 0 1 / imgI g h i 0 0 1) (imgI d e f 0 0 1 / imgI g h i 0 0 1) (imgI a b c 1 0 1 / imgI g h i 1 0 1) (imgI d e f 1 0 1 / imgI g h i 1 0 1) (imgI a b c 1 1 1 / imgI g h i 1 1 1) (imgI d e f 1 1 1 / imgI g h i 1 1 1) (imgI a b c 0 1 1 / imgI g h i 0 1 1) (imgI d e f 0 1 1 / imgI g h i 0 1 1))) (imgI a b c 0 1 1 / imgI g h i 0 1 1)), .int .i64 (qmV (qmC (isMapB [a, b, c, d, e, f, g, h, i]) ((decide (0 < imgI g h i 0 0 1) && (decide (0 < imgI g h i 1 0 1) && (decide (0 < imgI g h i 1 1 1) && decide (0 < imgI g h i 0 1 1))))) ((spotB (imgI a b c 0 0 1 / imgI g h i 0 0 1) (imgI d e f 0 0 1 / imgI g h i 0 0 1) && (spotB (imgI a b c 1 0 1 / imgI g h i 1 0 1) (imgI d e f 1 0 1 / imgI g h i 1 0 1) && (spotB (imgI a b c 1 1 1 / imgI g h i 1 1 1) (imgI d e f 1 1 1 / imgI g h i 1 1 1) && spotB (imgI a b c 0 1 1 / imgI g h i 0 1 1) (imgI d e f 0 1 1 / imgI g h i 0 1 1))))) (quadB (imgI a b c 0 0 1 / imgI g h i 0 0 1) (imgI d e f 0 0 1 / imgI g h i 0 0 1) (imgI a b c 1 0 1 / imgI g h i 1 0 1) (imgI d e f 1 0 1 / imgI g h i 1 0 1) (imgI a b c 1 1 1 / imgI g h i 1 1 1) (imgI d e f 1 1 1 / imgI g h i 1 1 1) (imgI a b c 0 1 1 / imgI g h i 0 1 1) (imgI d e f 0 1 1 / imgI g h i 0 1 1))) (imgI d e f 0 1 1 / imgI g h i 0 1 1))], .int .i64 (qmC (isMapB [a, b, c, d, e, f, g, h, i]) ((decide (0 < imgI g h i 0 0 1) && (decide (0 < imgI g h i 1 0 1) && (decide (0 < imgI g h i 1 1 1) && decide (0 < imgI g h i 0 1 1))))) ((spotB (imgI a b c 0 0 1 / imgI g h i 0 0 1) (imgI d e f 0 0 1 / imgI g h i 0 0 1) && (spotB (imgI a b c 1 0 1 / imgI g h i 1 0 1) (imgI d e f 1 0 1 / imgI g h i 1 0 1) && (spotB (imgI a b c 1 1 1 / imgI g h i 1 1 1) (imgI d e f 1 1 1 / imgI g h i 1 1 1) && spotB (imgI a b c 0 1 1 / imgI g h i 0 1 1) (imgI d e f 0 1 1 / imgI g h i 0 1 1))))) (quadB (imgI a b c 0 0 1 / imgI g h i 0 0 1) (imgI d e f 0 0 1 / imgI g h i 0 0 1) (imgI a b c 1 0 1 / imgI g h i 1 0 1) (imgI d e f 1 0 1 / imgI g h i 1 0 1) (imgI a b c 1 1 1 / imgI g h i 1 1 1) (imgI d e f 1 1 1 / imgI g h i 1 1 1) (imgI a b c 0 1 1 / imgI g h i 0 1 1) (imgI d e f 0 1 1 / imgI g h i 0 1 1)))]) ∧ Below w.heap.size w w' := by
  have HI := Lib.hid (fun w => IsMap_any a b c d e f g h i w)
  cases hm : isMapB [a, b, c, d, e, f, g, h, i]
  · rw [hm] at HI
    clear hm
    simp only [qmC, cond_false, qmV_no (show (1 : Int) ≠ 0 by decide)]
    go_enter Tryd.func13, Tryd.ntmps13
    go_wp2_with fail
    (go_at_call 15; with_reducible refine (HI.out _).mono ?_; rintro e1 w1 ⟨rfl, hb1⟩; obtain ⟨hc1, hf1⟩ := bcell hb1; have hB1 : Below w.heap.size w w1 := (below_then (by first | (go_grown; done) | (repeat (first | (with_reducible assumption) | (with_reducible exact Below.refl _ _) | (with_reducible refine below_drewN' ?_ _) | (with_reducible refine Below.drew ?_) | ((with_reducible refine Below.alloc ?_ ?_ _); rotate_left; focus (first | (simp; done) | (simp; omega) | omega)) | ((with_reducible refine Below.setCell ?_ ?_ _); rotate_left; focus (first | (simp; done) | (simp; omega) | omega))))) (by first | omega | (simp; done) | (simp; omega)) hb1); have hz1a : w.heap.size < w1.heap.size := (by have := hb1.size; first | omega | (simp at this; omega)); have hz1b : w.heap.size + 1 < w1.heap.size := (by have := hb1.size; first | omega | (simp at this; omega)))
    have HZ := Lib.hid (blk_below (heap_alloc_at (w := w.alloc (.cells #[.int .i64 a, .int .i64 b, .int .i64 c, .int .i64 d, .int .i64 e, .int .i64 f, .int .i64 g, .int .i64 h, .int .i64 i] 25)) (b := w.heap.size + 1) (o := .cells #[.int .i64 0, .int .i64 0, .int .i64 0, .int .i64 0, .int .i64 0, .int .i64 0, .int .i64 0, .int .i64 0] 33) (by simp)) hb1 (by simp))
    clear hc1 hf1 hb1
    obtain ⟨z0', z1', z2', z3', z4', z5', z6', z7', zf'⟩ := blk8 HZ.out
    go_wp2_with fail
    obtain ⟨s0, s1, s2, s3, s4, s5, s6, s7, -⟩ := blk8 (res8 HZ.out (.int .i64 0) (.int .i64 0) (.int .i64 0) (.int .i64 0) (.int .i64 0) (.int .i64 0) (.int .i64 0) (.int .i64 0))
    (try simp only [Exit.inBlock, Exit.then]); refine bodyPost_ret (by simp [results, Tryd.results13, go_sem, s0, s1, s2, s3, s4, s5, s6, s7]; try rfl) rfl ?_

    exact ⟨rfl, by repeat (first | with_reducible exact hB1 | with_reducible refine Below.setCell ?_ (by simp; try omega) _ | with_reducible refine Below.alloc ?_ (by simp; try omega) _)⟩
  rw [hm] at HI
  have hs0 := fun w => spot_any a b c d e f g h i 0 0 1 w hm (by decide) (by decide) (by decide) (by decide) (by decide) (by decide)
  have hs1 := fun w => spot_any a b c d e f g h i 1 0 1 w hm (by decide) (by decide) (by decide) (by decide) (by decide) (by decide)
  have hs2 := fun w => spot_any a b c d e f g h i 1 1 1 w hm (by decide) (by decide) (by decide) (by decide) (by decide) (by decide)
  have hs3 := fun w => spot_any a b c d e f g h i 0 1 1 w hm (by decide) (by decide) (by decide) (by decide) (by decide) (by decide)
  clear hm
  generalize imgI a b c 0 0 1 = X0 at *
  generalize imgI d e f 0 0 1 = Y0 at *
  generalize imgI g h i 0 0 1 = z0 at *
  generalize imgI a b c 1 0 1 = X1 at *
  generalize imgI d e f 1 0 1 = Y1 at *
  generalize imgI g h i 1 0 1 = z1 at *
  generalize imgI a b c 1 1 1 = X2 at *
  generalize imgI d e f 1 1 1 = Y2 at *
  generalize imgI g h i 1 1 1 = z2 at *
  generalize imgI a b c 0 1 1 = X3 at *
  generalize imgI d e f 0 1 1 = Y3 at *
  generalize imgI g h i 0 1 1 = z3 at *
  generalize X0 / z0 = x0 at *
  generalize Y0 / z0 = y0 at *
  generalize X1 / z1 = x1 at *
  generalize Y1 / z1 = y1 at *
  generalize X2 / z2 = x2 at *
  generalize Y2 / z2 = y2 at *
  generalize X3 / z3 = x3 at *
  generalize Y3 / z3 = y3 at *
  have HS0 := Lib.hid hs0
  have HS1 := Lib.hid hs1
  have HS2 := Lib.hid hs2
  have HS3 := Lib.hid hs3
  clear hs0 hs1 hs2 hs3
  obtain ⟨K, hK⟩ : ∃ K, qmC true ((decide (0 < z0) && (decide (0 < z1) && (decide (0 < z2) && decide (0 < z3))))) ((spotB x0 y0 && (spotB x1 y1 && (spotB x2 y2 && spotB x3 y3)))) (quadB x0 y0 x1 y1 x2 y2 x3 y3) = K := ⟨_, rfl⟩
  rw [hK]
  have HK := Lib.hid hK
  clear hK
  have hix0 : ∀ w, (Instr.index 56 (.agg #[.int .i64 0, .int .i64 0, .int .i64 1, .int .i64 0, .int .i64 1, .int .i64 1, .int .i64 0, .int .i64 1]) (.int .i64 0)).run Tryd.prog w = .ok (.agg #[.int .i64 0, .int .i64 0]) w := fun _ => by kernel_rfl
  have hix1 : ∀ w, (Instr.index 56 (.agg #[.int .i64 0, .int .i64 0, .int .i64 1, .int .i64 0, .int .i64 1, .int .i64 1, .int .i64 0, .int .i64 1]) (.int .i64 1)).run Tryd.prog w = .ok (.agg #[.int .i64 1, .int .i64 0]) w := fun _ => by kernel_rfl
  have hix2 : ∀ w, (Instr.index 56 (.agg #[.int .i64 0, .int .i64 0, .int .i64 1, .int .i64 0, .int .i64 1, .int .i64 1, .int .i64 0, .int .i64 1]) (.int .i64 2)).run Tryd.prog w = .ok (.agg #[.int .i64 1, .int .i64 1]) w := fun _ => by kernel_rfl
  have hix3 : ∀ w, (Instr.index 56 (.agg #[.int .i64 0, .int .i64 0, .int .i64 1, .int .i64 0, .int .i64 1, .int .i64 1, .int .i64 0, .int .i64 1]) (.int .i64 3)).run Tryd.prog w = .ok (.agg #[.int .i64 0, .int .i64 1]) w := fun _ => by kernel_rfl
  have HIQ := Lib.hid (fun w => IsQuad_any x0 y0 x1 y1 x2 y2 x3 y3 w)
  have HAS := Lib.hid (fun b cp w hb hc => areSpots_any b cp 4 [x0, y0, x1, y1, x2, y2, x3, y3] w hb hc (by decide))
  rw [show spotsB [x0, y0, x1, y1, x2, y2, x3, y3] 4 = (spotB x0 y0 && (spotB x1 y1 && (spotB x2 y2 && spotB x3 y3))) by simp [spotsB, List.range, List.range.loop, nth]] at HAS
  go_enter Tryd.func13, Tryd.ntmps13
  go_wp2_with fail
  (go_at_call 15; with_reducible refine (HI.out _).mono ?_; rintro e1 w1 ⟨rfl, hb1⟩; obtain ⟨hc1, hf1⟩ := bcell hb1; have hB1 : Below w.heap.size w w1 := (below_then (by first | (go_grown; done) | (repeat (first | (with_reducible assumption) | (with_reducible exact Below.refl _ _) | (with_reducible refine below_drewN' ?_ _) | (with_reducible refine Below.drew ?_) | ((with_reducible refine Below.alloc ?_ ?_ _); rotate_left; focus (first | (simp; done) | (simp; omega) | omega)) | ((with_reducible refine Below.setCell ?_ ?_ _); rotate_left; focus (first | (simp; done) | (simp; omega) | omega))))) (by first | omega | (simp; done) | (simp; omega)) hb1); have hz1a : w.heap.size < w1.heap.size := (by have := hb1.size; first | omega | (simp at this; omega)); have hz1b : w.heap.size + 1 < w1.heap.size := (by have := hb1.size; first | omega | (simp at this; omega)))
  have HP1 := Lib.hid (show QMP w 25 33 51 w1.heap.size a b c d e f g h i 0 0 0 0 0 0 0 0 (w1.alloc (.cells #[.int .i64 0, .int .i64 0, .int .i64 0, .int .i64 0, .int .i64 0, .int .i64 0, .int .i64 0, .int .i64 0] 51)) from
    ⟨⟨hz1b, by simp⟩, hB1.alloc (by omega) _, blk_alloc (blk_below (blk_alloc (heap_alloc_new w (.cells #[.int .i64 a, .int .i64 b, .int .i64 c, .int .i64 d, .int .i64 e, .int .i64 f, .int .i64 g, .int .i64 h, .int .i64 i] 25)) (by simp)) hb1 (by simp; try omega)) hz1a, blk_alloc (blk_below (heap_alloc_at (w := w.alloc (.cells #[.int .i64 a, .int .i64 b, .int .i64 c, .int .i64 d, .int .i64 e, .int .i64 f, .int .i64 g, .int .i64 h, .int .i64 i] 25)) (b := w.heap.size + 1) (o := .cells #[.int .i64 0, .int .i64 0, .int .i64 0, .int .i64 0, .int .i64 0, .int .i64 0, .int .i64 0, .int .i64 0] 33) (by simp)) hb1 (by simp)) hz1b, heap_alloc_new _ _⟩)
  clear hc1 hf1 hb1 hB1
  go_wp2_with fail
  generalize w1.alloc (.cells #[.int .i64 0, .int .i64 0, .int .i64 0, .int .i64 0, .int .i64 0, .int .i64 0, .int .i64 0, .int .i64 0] 51) = w2 at *
  go_loopw [20] (fun q wr => ∃ k : Nat, k ≤ 4 ∧ q = .int .i64 k ∧ Hid ((k = 0 ∧ QMP w 25 33 51 w1.heap.size a b c d e f g h i 0 0 0 0 0 0 0 0 wr) ∨ (k = 1 ∧ 0 < z0 ∧ QMP w 25 33 51 w1.heap.size a b c d e f g h i x0 y0 0 0 0 0 0 0 wr) ∨ (k = 2 ∧ 0 < z0 ∧ 0 < z1 ∧ QMP w 25 33 51 w1.heap.size a b c d e f g h i x0 y0 x1 y1 0 0 0 0 wr) ∨ (k = 3 ∧ 0 < z0 ∧ 0 < z1 ∧ 0 < z2 ∧ QMP w 25 33 51 w1.heap.size a b c d e f g h i x0 y0 x1 y1 x2 y2 0 0 wr) ∨ (k = 4 ∧ 0 < z0 ∧ 0 < z1 ∧ 0 < z2 ∧ 0 < z3 ∧ QMP w 25 33 51 w1.heap.size a b c d e f g h i x0 y0 x1 y1 x2 y2 x3 y3 wr)))
    (fun q _ => 4 - (intOf q).toNat)
  case atStart => exact ⟨0, by decide, rfl, Lib.hid (.inl ⟨rfl, HP1.out⟩)⟩
  case round =>
    obtain ⟨k, hk, rfl, hh⟩ := hrel
    rcases hh.out with ⟨rfl, hp⟩ | ⟨rfl, g0, hp⟩ | ⟨rfl, g0, g1, hp⟩ | ⟨rfl, g0, g1, g2, hp⟩ | ⟨rfl, g0, g1, g2, g3, hp⟩
    · have HPk := Lib.hid hp
      clear hp hh
      have hsz := HPk.out.sz
      have hz0a : w.heap.size < wr.heap.size := by omega
      have hz0b : w.heap.size + 1 < wr.heap.size := by omega
      have hz0c : w1.heap.size < wr.heap.size := by omega
      obtain ⟨m0, m1, m2, m3, m4, m5, m6, m7, m8, -⟩ := blk9 HPk.out.kb
      obtain ⟨q0, q1, q2, q3, q4, q5, q6, q7, ff⟩ := blk8 HPk.out.kg
      by_cases hz : 0 < z0
      · have HSk : Hid (∀ w : World, Calls Tryd.prog 29 #[.agg #[.int .i64 a, .int .i64 b, .int .i64 c, .int .i64 d, .int .i64 e, .int .i64 f, .int .i64 g, .int .i64 h, .int .i64 i], .int .i64 0, .int .i64 0, .int .i64 1] w fun e' w' => e' = .returned (.tuple #[.agg #[.int .i64 x0, .int .i64 y0], .bool true]) ∧ Below w.heap.size w w') := Lib.hid (fun w => by have := HS0.out w; rwa [if_pos hz] at this)
        go_wp2_with fail
        go_at_call 29
        with_reducible refine (HSk.out _).mono ?_
        rintro e3 w3 ⟨rfl, hb3⟩
        have HP3 := Lib.hid ((HPk.out.alloc _).below hb3)
        have HP4 := Lib.hid ((HP3.out.set0 x0 y0).alloc (.cells #[.int .i64 x0, .int .i64 y0] 31))
        have hsz3 := HP3.out.sz
        have hz3a : w.heap.size < w3.heap.size := by omega
        have hz3b : w.heap.size + 1 < w3.heap.size := by omega
        have hz3c : w1.heap.size < w3.heap.size := by omega
        obtain ⟨h0, h1, h2, h3, h4, h5, h6, h7, hf⟩ := blk8 HP3.out.kg
        clear hb3 m0 m1 m2 m3 m4 m5 m6 m7 m8 q0 q1 q2 q3 q4 q5 q6 q7 ff
        go_wp2_with fail
        go_roundw
        case rel => exact ⟨1, by decide, by go_num, Lib.hid (.inr (.inl ⟨rfl, hz, HP4.out⟩))⟩
        case measure => simp [intOf]
      · have HSk : Hid (∀ w : World, Calls Tryd.prog 29 #[.agg #[.int .i64 a, .int .i64 b, .int .i64 c, .int .i64 d, .int .i64 e, .int .i64 f, .int .i64 g, .int .i64 h, .int .i64 i], .int .i64 0, .int .i64 0, .int .i64 1] w fun e' w' => e' = .returned (.tuple #[.agg #[.int .i64 0, .int .i64 0], .bool false]) ∧ Below w.heap.size w w') := Lib.hid (fun w => by have := HS0.out w; rwa [if_neg hz] at this)
        have HK5 : Hid (K = 5) := Lib.hid (by rw [← HK.out]; simp [qmC, hz])
        go_wp2_with fail
        go_at_call 29
        with_reducible refine (HSk.out _).mono ?_
        rintro e3 w3 ⟨rfl, hb3⟩
        have HP3 := Lib.hid ((HPk.out.alloc _).below hb3)
        have hsz3 := HP3.out.sz
        have hz3a : w.heap.size < w3.heap.size := by omega
        have hz3b : w.heap.size + 1 < w3.heap.size := by omega
        have hz3c : w1.heap.size < w3.heap.size := by omega
        clear hb3 m0 m1 m2 m3 m4 m5 m6 m7 m8 q0 q1 q2 q3 q4 q5 q6 q7 ff
        go_upto_region 9 with fail
        have HP4 := Lib.hid (HP3.out.alloc (.cells #[.int .i64 0, .int .i64 0] 31))
        generalize w3.alloc (.cells #[.int .i64 0, .int .i64 0] 31) = w4 at *
        have hsz4 := HP4.out.sz
        have hz4b : w.heap.size + 1 < w4.heap.size := by omega
        obtain ⟨z0', z1', z2', z3', z4', z5', z6', z7', zf'⟩ := blk8 HP4.out.kz
        clear HP3 hsz3 hz3a hz3b hz3c
        go_wp2_with fail
        obtain ⟨s0, s1, s2, s3, s4, s5, s6, s7, -⟩ := blk8 (res8 HP4.out.kz (.int .i64 0) (.int .i64 0) (.int .i64 0) (.int .i64 0) (.int .i64 0) (.int .i64 0) (.int .i64 0) (.int .i64 0))
        (try simp only [Exit.inBlock, Exit.then]); refine bodyPost_ret (by simp [results, Tryd.results13, go_sem, s0, s1, s2, s3, s4, s5, s6, s7]; try rfl) rfl ?_
        exact ⟨by rw [HK5.out]; simp only [qmV_no (show (5 : Int) ≠ 0 by decide)], by repeat (first | with_reducible exact HP4.out.bw | with_reducible refine Below.setCell ?_ (by simp; try omega) _ | with_reducible refine Below.alloc ?_ (by simp; try omega) _)⟩
    · have HPk := Lib.hid hp
      clear hp hh
      have hsz := HPk.out.sz
      have hz0a : w.heap.size < wr.heap.size := by omega
      have hz0b : w.heap.size + 1 < wr.heap.size := by omega
      have hz0c : w1.heap.size < wr.heap.size := by omega
      obtain ⟨m0, m1, m2, m3, m4, m5, m6, m7, m8, -⟩ := blk9 HPk.out.kb
      obtain ⟨q0, q1, q2, q3, q4, q5, q6, q7, ff⟩ := blk8 HPk.out.kg
      by_cases hz : 0 < z1
      · have HSk : Hid (∀ w : World, Calls Tryd.prog 29 #[.agg #[.int .i64 a, .int .i64 b, .int .i64 c, .int .i64 d, .int .i64 e, .int .i64 f, .int .i64 g, .int .i64 h, .int .i64 i], .int .i64 1, .int .i64 0, .int .i64 1] w fun e' w' => e' = .returned (.tuple #[.agg #[.int .i64 x1, .int .i64 y1], .bool true]) ∧ Below w.heap.size w w') := Lib.hid (fun w => by have := HS1.out w; rwa [if_pos hz] at this)
        go_wp2_with fail
        go_at_call 29
        with_reducible refine (HSk.out _).mono ?_
        rintro e3 w3 ⟨rfl, hb3⟩
        have HP3 := Lib.hid ((HPk.out.alloc _).below hb3)
        have HP4 := Lib.hid ((HP3.out.set1 x1 y1).alloc (.cells #[.int .i64 x1, .int .i64 y1] 31))
        have hsz3 := HP3.out.sz
        have hz3a : w.heap.size < w3.heap.size := by omega
        have hz3b : w.heap.size + 1 < w3.heap.size := by omega
        have hz3c : w1.heap.size < w3.heap.size := by omega
        obtain ⟨h0, h1, h2, h3, h4, h5, h6, h7, hf⟩ := blk8 HP3.out.kg
        clear hb3 m0 m1 m2 m3 m4 m5 m6 m7 m8 q0 q1 q2 q3 q4 q5 q6 q7 ff
        go_wp2_with fail
        go_roundw
        case rel => exact ⟨2, by decide, by go_num, Lib.hid (.inr (.inr (.inl ⟨rfl, g0, hz, HP4.out⟩)))⟩
        case measure => simp [intOf]
      · have HSk : Hid (∀ w : World, Calls Tryd.prog 29 #[.agg #[.int .i64 a, .int .i64 b, .int .i64 c, .int .i64 d, .int .i64 e, .int .i64 f, .int .i64 g, .int .i64 h, .int .i64 i], .int .i64 1, .int .i64 0, .int .i64 1] w fun e' w' => e' = .returned (.tuple #[.agg #[.int .i64 0, .int .i64 0], .bool false]) ∧ Below w.heap.size w w') := Lib.hid (fun w => by have := HS1.out w; rwa [if_neg hz] at this)
        have HK5 : Hid (K = 5) := Lib.hid (by rw [← HK.out]; simp [qmC, hz])
        go_wp2_with fail
        go_at_call 29
        with_reducible refine (HSk.out _).mono ?_
        rintro e3 w3 ⟨rfl, hb3⟩
        have HP3 := Lib.hid ((HPk.out.alloc _).below hb3)
        have hsz3 := HP3.out.sz
        have hz3a : w.heap.size < w3.heap.size := by omega
        have hz3b : w.heap.size + 1 < w3.heap.size := by omega
        have hz3c : w1.heap.size < w3.heap.size := by omega
        clear hb3 m0 m1 m2 m3 m4 m5 m6 m7 m8 q0 q1 q2 q3 q4 q5 q6 q7 ff
        go_upto_region 9 with fail
        have HP4 := Lib.hid (HP3.out.alloc (.cells #[.int .i64 0, .int .i64 0] 31))
        generalize w3.alloc (.cells #[.int .i64 0, .int .i64 0] 31) = w4 at *
        have hsz4 := HP4.out.sz
        have hz4b : w.heap.size + 1 < w4.heap.size := by omega
        obtain ⟨z0', z1', z2', z3', z4', z5', z6', z7', zf'⟩ := blk8 HP4.out.kz
        clear HP3 hsz3 hz3a hz3b hz3c
        go_wp2_with fail
        obtain ⟨s0, s1, s2, s3, s4, s5, s6, s7, -⟩ := blk8 (res8 HP4.out.kz (.int .i64 0) (.int .i64 0) (.int .i64 0) (.int .i64 0) (.int .i64 0) (.int .i64 0) (.int .i64 0) (.int .i64 0))
        (try simp only [Exit.inBlock, Exit.then]); refine bodyPost_ret (by simp [results, Tryd.results13, go_sem, s0, s1, s2, s3, s4, s5, s6, s7]; try rfl) rfl ?_
        exact ⟨by rw [HK5.out]; simp only [qmV_no (show (5 : Int) ≠ 0 by decide)], by repeat (first | with_reducible exact HP4.out.bw | with_reducible refine Below.setCell ?_ (by simp; try omega) _ | with_reducible refine Below.alloc ?_ (by simp; try omega) _)⟩
    · have HPk := Lib.hid hp
      clear hp hh
      have hsz := HPk.out.sz
      have hz0a : w.heap.size < wr.heap.size := by omega
      have hz0b : w.heap.size + 1 < wr.heap.size := by omega
      have hz0c : w1.heap.size < wr.heap.size := by omega
      obtain ⟨m0, m1, m2, m3, m4, m5, m6, m7, m8, -⟩ := blk9 HPk.out.kb
      obtain ⟨q0, q1, q2, q3, q4, q5, q6, q7, ff⟩ := blk8 HPk.out.kg
      by_cases hz : 0 < z2
      · have HSk : Hid (∀ w : World, Calls Tryd.prog 29 #[.agg #[.int .i64 a, .int .i64 b, .int .i64 c, .int .i64 d, .int .i64 e, .int .i64 f, .int .i64 g, .int .i64 h, .int .i64 i], .int .i64 1, .int .i64 1, .int .i64 1] w fun e' w' => e' = .returned (.tuple #[.agg #[.int .i64 x2, .int .i64 y2], .bool true]) ∧ Below w.heap.size w w') := Lib.hid (fun w => by have := HS2.out w; rwa [if_pos hz] at this)
        go_wp2_with fail
        go_at_call 29
        with_reducible refine (HSk.out _).mono ?_
        rintro e3 w3 ⟨rfl, hb3⟩
        have HP3 := Lib.hid ((HPk.out.alloc _).below hb3)
        have HP4 := Lib.hid ((HP3.out.set2 x2 y2).alloc (.cells #[.int .i64 x2, .int .i64 y2] 31))
        have hsz3 := HP3.out.sz
        have hz3a : w.heap.size < w3.heap.size := by omega
        have hz3b : w.heap.size + 1 < w3.heap.size := by omega
        have hz3c : w1.heap.size < w3.heap.size := by omega
        obtain ⟨h0, h1, h2, h3, h4, h5, h6, h7, hf⟩ := blk8 HP3.out.kg
        clear hb3 m0 m1 m2 m3 m4 m5 m6 m7 m8 q0 q1 q2 q3 q4 q5 q6 q7 ff
        go_wp2_with fail
        go_roundw
        case rel => exact ⟨3, by decide, by go_num, Lib.hid (.inr (.inr (.inr (.inl ⟨rfl, g0, g1, hz, HP4.out⟩))))⟩
        case measure => simp [intOf]
      · have HSk : Hid (∀ w : World, Calls Tryd.prog 29 #[.agg #[.int .i64 a, .int .i64 b, .int .i64 c, .int .i64 d, .int .i64 e, .int .i64 f, .int .i64 g, .int .i64 h, .int .i64 i], .int .i64 1, .int .i64 1, .int .i64 1] w fun e' w' => e' = .returned (.tuple #[.agg #[.int .i64 0, .int .i64 0], .bool false]) ∧ Below w.heap.size w w') := Lib.hid (fun w => by have := HS2.out w; rwa [if_neg hz] at this)
        have HK5 : Hid (K = 5) := Lib.hid (by rw [← HK.out]; simp [qmC, hz])
        go_wp2_with fail
        go_at_call 29
        with_reducible refine (HSk.out _).mono ?_
        rintro e3 w3 ⟨rfl, hb3⟩
        have HP3 := Lib.hid ((HPk.out.alloc _).below hb3)
        have hsz3 := HP3.out.sz
        have hz3a : w.heap.size < w3.heap.size := by omega
        have hz3b : w.heap.size + 1 < w3.heap.size := by omega
        have hz3c : w1.heap.size < w3.heap.size := by omega
        clear hb3 m0 m1 m2 m3 m4 m5 m6 m7 m8 q0 q1 q2 q3 q4 q5 q6 q7 ff
        go_upto_region 9 with fail
        have HP4 := Lib.hid (HP3.out.alloc (.cells #[.int .i64 0, .int .i64 0] 31))
        generalize w3.alloc (.cells #[.int .i64 0, .int .i64 0] 31) = w4 at *
        have hsz4 := HP4.out.sz
        have hz4b : w.heap.size + 1 < w4.heap.size := by omega
        obtain ⟨z0', z1', z2', z3', z4', z5', z6', z7', zf'⟩ := blk8 HP4.out.kz
        clear HP3 hsz3 hz3a hz3b hz3c
        go_wp2_with fail
        obtain ⟨s0, s1, s2, s3, s4, s5, s6, s7, -⟩ := blk8 (res8 HP4.out.kz (.int .i64 0) (.int .i64 0) (.int .i64 0) (.int .i64 0) (.int .i64 0) (.int .i64 0) (.int .i64 0) (.int .i64 0))
        (try simp only [Exit.inBlock, Exit.then]); refine bodyPost_ret (by simp [results, Tryd.results13, go_sem, s0, s1, s2, s3, s4, s5, s6, s7]; try rfl) rfl ?_
        exact ⟨by rw [HK5.out]; simp only [qmV_no (show (5 : Int) ≠ 0 by decide)], by repeat (first | with_reducible exact HP4.out.bw | with_reducible refine Below.setCell ?_ (by simp; try omega) _ | with_reducible refine Below.alloc ?_ (by simp; try omega) _)⟩
    · have HPk := Lib.hid hp
      clear hp hh
      have hsz := HPk.out.sz
      have hz0a : w.heap.size < wr.heap.size := by omega
      have hz0b : w.heap.size + 1 < wr.heap.size := by omega
      have hz0c : w1.heap.size < wr.heap.size := by omega
      obtain ⟨m0, m1, m2, m3, m4, m5, m6, m7, m8, -⟩ := blk9 HPk.out.kb
      obtain ⟨q0, q1, q2, q3, q4, q5, q6, q7, ff⟩ := blk8 HPk.out.kg
      by_cases hz : 0 < z3
      · have HSk : Hid (∀ w : World, Calls Tryd.prog 29 #[.agg #[.int .i64 a, .int .i64 b, .int .i64 c, .int .i64 d, .int .i64 e, .int .i64 f, .int .i64 g, .int .i64 h, .int .i64 i], .int .i64 0, .int .i64 1, .int .i64 1] w fun e' w' => e' = .returned (.tuple #[.agg #[.int .i64 x3, .int .i64 y3], .bool true]) ∧ Below w.heap.size w w') := Lib.hid (fun w => by have := HS3.out w; rwa [if_pos hz] at this)
        go_wp2_with fail
        go_at_call 29
        with_reducible refine (HSk.out _).mono ?_
        rintro e3 w3 ⟨rfl, hb3⟩
        have HP3 := Lib.hid ((HPk.out.alloc _).below hb3)
        have HP4 := Lib.hid ((HP3.out.set3 x3 y3).alloc (.cells #[.int .i64 x3, .int .i64 y3] 31))
        have hsz3 := HP3.out.sz
        have hz3a : w.heap.size < w3.heap.size := by omega
        have hz3b : w.heap.size + 1 < w3.heap.size := by omega
        have hz3c : w1.heap.size < w3.heap.size := by omega
        obtain ⟨h0, h1, h2, h3, h4, h5, h6, h7, hf⟩ := blk8 HP3.out.kg
        clear hb3 m0 m1 m2 m3 m4 m5 m6 m7 m8 q0 q1 q2 q3 q4 q5 q6 q7 ff
        go_wp2_with fail
        go_roundw
        case rel => exact ⟨4, by decide, by go_num, Lib.hid (.inr (.inr (.inr (.inr ⟨rfl, g0, g1, g2, hz, HP4.out⟩))))⟩
        case measure => simp [intOf]
      · have HSk : Hid (∀ w : World, Calls Tryd.prog 29 #[.agg #[.int .i64 a, .int .i64 b, .int .i64 c, .int .i64 d, .int .i64 e, .int .i64 f, .int .i64 g, .int .i64 h, .int .i64 i], .int .i64 0, .int .i64 1, .int .i64 1] w fun e' w' => e' = .returned (.tuple #[.agg #[.int .i64 0, .int .i64 0], .bool false]) ∧ Below w.heap.size w w') := Lib.hid (fun w => by have := HS3.out w; rwa [if_neg hz] at this)
        have HK5 : Hid (K = 5) := Lib.hid (by rw [← HK.out]; simp [qmC, hz])
        go_wp2_with fail
        go_at_call 29
        with_reducible refine (HSk.out _).mono ?_
        rintro e3 w3 ⟨rfl, hb3⟩
        have HP3 := Lib.hid ((HPk.out.alloc _).below hb3)
        have hsz3 := HP3.out.sz
        have hz3a : w.heap.size < w3.heap.size := by omega
        have hz3b : w.heap.size + 1 < w3.heap.size := by omega
        have hz3c : w1.heap.size < w3.heap.size := by omega
        clear hb3 m0 m1 m2 m3 m4 m5 m6 m7 m8 q0 q1 q2 q3 q4 q5 q6 q7 ff
        go_upto_region 9 with fail
        have HP4 := Lib.hid (HP3.out.alloc (.cells #[.int .i64 0, .int .i64 0] 31))
        generalize w3.alloc (.cells #[.int .i64 0, .int .i64 0] 31) = w4 at *
        have hsz4 := HP4.out.sz
        have hz4b : w.heap.size + 1 < w4.heap.size := by omega
        obtain ⟨z0', z1', z2', z3', z4', z5', z6', z7', zf'⟩ := blk8 HP4.out.kz
        clear HP3 hsz3 hz3a hz3b hz3c
        go_wp2_with fail
        obtain ⟨s0, s1, s2, s3, s4, s5, s6, s7, -⟩ := blk8 (res8 HP4.out.kz (.int .i64 0) (.int .i64 0) (.int .i64 0) (.int .i64 0) (.int .i64 0) (.int .i64 0) (.int .i64 0) (.int .i64 0))
        (try simp only [Exit.inBlock, Exit.then]); refine bodyPost_ret (by simp [results, Tryd.results13, go_sem, s0, s1, s2, s3, s4, s5, s6, s7]; try rfl) rfl ?_
        exact ⟨by rw [HK5.out]; simp only [qmV_no (show (5 : Int) ≠ 0 by decide)], by repeat (first | with_reducible exact HP4.out.bw | with_reducible refine Below.setCell ?_ (by simp; try omega) _ | with_reducible refine Below.alloc ?_ (by simp; try omega) _)⟩
    · have HPk := Lib.hid hp
      clear hp hh HS0 HS1 HS2 HS3
      have hsz := HPk.out.sz
      have hz0a : w.heap.size < wr.heap.size := by omega
      have hz0b : w.heap.size + 1 < wr.heap.size := by omega
      have hz0c : w1.heap.size < wr.heap.size := by omega
      have HKS : Hid (qmC true true ((spotB x0 y0 && (spotB x1 y1 && (spotB x2 y2 && spotB x3 y3)))) (quadB x0 y0 x1 y1 x2 y2 x3 y3) = K) := Lib.hid (by rw [← HK.out]; simp [qmC, g0, g1, g2, g3])
      clear g0 g1 g2 g3
      obtain ⟨q0, q1, q2, q3, q4, q5, q6, q7, ff⟩ := blk8 HPk.out.kg
      have HASk := Lib.hid (HAS.out w1.heap.size 4 wr (by omega) (fun k hk => by
        have h4 : k = 0 ∨ k = 1 ∨ k = 2 ∨ k = 3 := by omega
        rcases h4 with rfl | rfl | rfl | rfl
        · exact ⟨q0, q1⟩
        · exact ⟨q2, q3⟩
        · exact ⟨q4, q5⟩
        · exact ⟨q6, q7⟩))
      clear HAS
      cases hss : ((spotB x0 y0 && (spotB x1 y1 && (spotB x2 y2 && spotB x3 y3))))
      · rw [hss] at HASk
        have HK5 : Hid (K = 3) := Lib.hid (by rw [← HKS.out, hss]; rfl)
        go_wp2_with fail
        go_at_call 30
        with_reducible refine HASk.out.mono ?_
        rintro e3 w3 ⟨rfl, hb3⟩
        have HP3 := Lib.hid (HPk.out.below hb3)
        have hsz3 := HP3.out.sz
        have hz3a : w.heap.size < w3.heap.size := by omega
        have hz3b : w.heap.size + 1 < w3.heap.size := by omega
        have hz3c : w1.heap.size < w3.heap.size := by omega
        clear hb3 q0 q1 q2 q3 q4 q5 q6 q7 ff
        obtain ⟨z0', z1', z2', z3', z4', z5', z6', z7', zf'⟩ := blk8 HP3.out.kz
        go_wp2_with fail
        obtain ⟨s0, s1, s2, s3, s4, s5, s6, s7, -⟩ := blk8 (res8 HP3.out.kz (.int .i64 0) (.int .i64 0) (.int .i64 0) (.int .i64 0) (.int .i64 0) (.int .i64 0) (.int .i64 0) (.int .i64 0))
        (try simp only [Exit.inBlock, Exit.then]); refine bodyPost_ret (by simp [results, Tryd.results13, go_sem, s0, s1, s2, s3, s4, s5, s6, s7]; try rfl) rfl ?_

        exact ⟨by rw [HK5.out]; simp only [qmV_no (show (3 : Int) ≠ 0 by decide)], by repeat (first | with_reducible exact HP3.out.bw | with_reducible refine Below.setCell ?_ (by simp; try omega) _ | with_reducible refine Below.alloc ?_ (by simp; try omega) _)⟩
      · rw [hss] at HASk
        cases hqq : quadB x0 y0 x1 y1 x2 y2 x3 y3
        · rw [hqq] at HIQ
          have HK5 : Hid (K = 5) := Lib.hid (by rw [← HKS.out, hss, hqq]; rfl)
          go_wp2_with fail
          go_at_call 30
          with_reducible refine HASk.out.mono ?_
          rintro e3 w3 ⟨rfl, hb3⟩
          have HP3 := Lib.hid (HPk.out.below hb3)
          have hsz3 := HP3.out.sz
          have hz3a : w.heap.size < w3.heap.size := by omega
          have hz3b : w.heap.size + 1 < w3.heap.size := by omega
          have hz3c : w1.heap.size < w3.heap.size := by omega
          clear hb3 q0 q1 q2 q3 q4 q5 q6 q7 ff
          obtain ⟨q0, q1, q2, q3, q4, q5, q6, q7, ff⟩ := blk8 HP3.out.kg
          go_wp2_with fail
          go_at_call 12
          with_reducible refine (HIQ.out _).mono ?_
          rintro e4 w4 ⟨rfl, hb4⟩
          have HP4 := Lib.hid ((HP3.out.alloc _).below hb4)
          have hsz4 := HP4.out.sz
          have hz4b : w.heap.size + 1 < w4.heap.size := by omega
          clear hb4 q0 q1 q2 q3 q4 q5 q6 q7 ff
          obtain ⟨z0', z1', z2', z3', z4', z5', z6', z7', zf'⟩ := blk8 HP4.out.kz
          go_wp2_with fail
          obtain ⟨s0, s1, s2, s3, s4, s5, s6, s7, -⟩ := blk8 (res8 HP4.out.kz (.int .i64 0) (.int .i64 0) (.int .i64 0) (.int .i64 0) (.int .i64 0) (.int .i64 0) (.int .i64 0) (.int .i64 0))
          (try simp only [Exit.inBlock, Exit.then]); refine bodyPost_ret (by simp [results, Tryd.results13, go_sem, s0, s1, s2, s3, s4, s5, s6, s7]; try rfl) rfl ?_

          exact ⟨by rw [HK5.out]; simp only [qmV_no (show (5 : Int) ≠ 0 by decide)], by repeat (first | with_reducible exact HP4.out.bw | with_reducible refine Below.setCell ?_ (by simp; try omega) _ | with_reducible refine Below.alloc ?_ (by simp; try omega) _)⟩
        · rw [hqq] at HIQ
          have HK5 : Hid (K = 0) := Lib.hid (by rw [← HKS.out, hss, hqq]; rfl)
          go_wp2_with fail
          go_at_call 30
          with_reducible refine HASk.out.mono ?_
          rintro e3 w3 ⟨rfl, hb3⟩
          have HP3 := Lib.hid (HPk.out.below hb3)
          have hsz3 := HP3.out.sz
          have hz3a : w.heap.size < w3.heap.size := by omega
          have hz3b : w.heap.size + 1 < w3.heap.size := by omega
          have hz3c : w1.heap.size < w3.heap.size := by omega
          clear hb3 q0 q1 q2 q3 q4 q5 q6 q7 ff
          obtain ⟨q0, q1, q2, q3, q4, q5, q6, q7, ff⟩ := blk8 HP3.out.kg
          go_wp2_with fail
          go_at_call 12
          with_reducible refine (HIQ.out _).mono ?_
          rintro e4 w4 ⟨rfl, hb4⟩
          have HP4 := Lib.hid ((HP3.out.alloc _).below hb4)
          have hsz4 := HP4.out.sz
          have hz4b : w.heap.size + 1 < w4.heap.size := by omega
          obtain ⟨p0, p1, p2, p3, p4, p5, p6, p7, -⟩ := blk8 (blk_below (heap_alloc_new w3 (.cells #[.int .i64 x0, .int .i64 y0, .int .i64 x1, .int .i64 y1, .int .i64 x2, .int .i64 y2, .int .i64 x3, .int .i64 y3] 33)) hb4 (by simp))
          clear hb4 q0 q1 q2 q3 q4 q5 q6 q7 ff
          obtain ⟨z0', z1', z2', z3', z4', z5', z6', z7', zf'⟩ := blk8 HP4.out.kz
          go_wp2_with fail
          obtain ⟨s0, s1, s2, s3, s4, s5, s6, s7, -⟩ := blk8 (res8 HP4.out.kz (.int .i64 x0) (.int .i64 y0) (.int .i64 x1) (.int .i64 y1) (.int .i64 x2) (.int .i64 y2) (.int .i64 x3) (.int .i64 y3))
          (try simp only [Exit.inBlock, Exit.then]); refine bodyPost_ret (by simp [results, Tryd.results13, go_sem, s0, s1, s2, s3, s4, s5, s6, s7]; try rfl) rfl ?_

          exact ⟨by rw [HK5.out]; simp only [qmV_0], by repeat (first | with_reducible exact HP4.out.bw | with_reducible refine Below.setCell ?_ (by simp; try omega) _ | with_reducible refine Below.alloc ?_ (by simp; try omega) _)⟩
end Go.Proofs.YtnhhbpdjapccpaaDoor
