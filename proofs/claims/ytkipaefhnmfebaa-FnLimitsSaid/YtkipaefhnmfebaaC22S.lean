/-
  Contracts of chapter 22: SplitLimit, the program.
-/
import Derived.Test.YtkipaefhnmfebaaC22
namespace Go.Proofs.Ytkipaefhnmfebaa
set_option linter.unusedSimpArgs false
open Go.RowKit

def slC (r c : Int) (xs : List Int) : Int := bif rasB r c xs then 0 else 1
def slV (r c : Int) (xs : List Int) : Int := bif rasB r c xs then splS xs 20 (limL xs) else 0
theorem limL_b {xs : List Int} (h : ∀ k, k < xs.length → 0 ≤ nth xs k ∧ nth xs k ≤ 255) (h0 : 1 ≤ xs.length) : 0 ≤ limL xs ∧ limL xs ≤ 256 := by
  have h1 := loM_b h (xs.length - 1) (by omega)
  have h2 := hiM_b h (xs.length - 1) (by omega)
  unfold limL
  omega
set_option maxHeartbeats 400000 in
theorem take_any (g a s x : Nat) (w : World) (h : w.heap[g]? = some (.cells #[.int .i64 a, .int .i64 s] 63 (0, 0))) (ha : a ≤ 1000000) (hs : s ≤ 1000000000) (hx : x ≤ 255) :
    Calls Try.prog 34 #[.pointer (some ⟨g, 0, none⟩), .int .i64 x] w fun e w' => e = .returned (.tuple #[]) ∧ w' = (w.setCell ⟨g, 0, none⟩ (.int .i64 ((a + 1 : Nat) : Int))).setCell ⟨g, 1, none⟩ (.int .i64 ((s + x : Nat) : Int)) := by
  obtain ⟨h0, h1, hf⟩ := blk2 h
  obtain ⟨k0, k1, kf⟩ := blk2 (blk2_0 (u := .int .i64 ((a : Int) + 1)) h)
  clear h
  go_enter Try.func34, Try.ntmps34
  go_wp2_with fail
  first | go_ret | go_returns
  exact ⟨rfl, by simp⟩
theorem splS_stop {xs : List Int} {t : Nat} {l R : Int} (h : splS xs t l = R) (hs : nLo xs l xs.length = 0 ∨ nHi xs l xs.length = 0 ∨ (nxtL xs l : Int) = l) : l = R := by
  cases t with
  | zero => exact h
  | succ t => simp only [splS] at h; rw [if_pos hs] at h; exact h
theorem splS_next {xs : List Int} {t : Nat} {l R : Int} (h : splS xs (t + 1) l = R) (hs : ¬ (nLo xs l xs.length = 0 ∨ nHi xs l xs.length = 0 ∨ (nxtL xs l : Int) = l)) : splS xs t (nxtL xs l) = R := by
  simp only [splS] at h; rw [if_neg hs] at h; exact h
set_option maxRecDepth 20000 in
set_option maxHeartbeats 4000000 in
theorem SplitLimit_any (r c : Int) (A : Option Addr) (n cp : Nat) (xs : List Int) (w : World) (B : Nat) (hr : RI w B A n xs) (hB : B ≤ w.heap.size) (hn : n ≤ 1000000000000000) :
    Calls Try.prog 9 #[.agg #[.int .i64 r, .int .i64 c, .slice A n cp]] w fun e w' => e = .returned (.tuple #[.int .i64 (slV r c xs), .int .i64 (slC r c xs)]) ∧ Below w.heap.size w w' := by
  have hlen := hr.len
  have HR := Lib.hid (hr.more hB)
  have HC := Lib.hid (fun w' (hb : Below w.heap.size w w') => IsRaster_any r c A n cp xs w' w.heap.size (HR.out.below hb) hb.size hn)
  clear hr
  unfold slC slV
  cases hg : rasB r c xs
  · rw [hg] at HC
    go_enter Try.func9, Try.ntmps9
    go_wp2_with (go_at_call 32; go_call (HC.out _ (by go_grown)) as e1 w1 ⟨rfl, hb1⟩; obtain ⟨hc1, hf1⟩ := bcell hb1; have hB1 : Below w.heap.size w w1 := (below_then (by first | (go_grown; done) | (repeat (first | (with_reducible assumption) | (with_reducible exact Below.refl _ _) | (with_reducible refine below_drewN' ?_ _) | (with_reducible refine Below.drew ?_) | ((with_reducible refine Below.alloc ?_ ?_ _); rotate_left; focus (first | (simp; done) | (simp; omega) | omega)) | ((with_reducible refine Below.setCell ?_ ?_ _); rotate_left; focus (first | (simp; done) | (simp; omega) | omega))))) (by first | omega | (simp; done) | (simp; omega)) hb1); have hz1a : w.heap.size < w1.heap.size := (by have := hb1.size; first | omega | (simp at this; omega)))
    go_returns
    exact ⟨by simp, by (repeat (first | (with_reducible assumption) | (with_reducible exact Below.refl _ _) | (with_reducible refine below_drewN' ?_ _) | (with_reducible refine Below.drew ?_) | ((with_reducible refine Below.alloc ?_ ?_ _); rotate_left; focus (first | (simp; done) | (simp; omega) | omega)) | ((with_reducible refine Below.setCell ?_ ?_ _); rotate_left; focus (first | (simp; done) | (simp; omega) | omega))))⟩
  · rw [hg] at HC
    obtain ⟨hx0, hx1, hxb⟩ := rasB_true hg
    have HRL := Lib.hid (fun w' (hb : Below w.heap.size w w') => rangeLimit_any r c A n cp xs w' w.heap.size (HR.out.below hb) hb.size (by omega) (by omega) hxb)
    have HXB := Lib.hid hxb
    have HL := Lib.hid hlen
    have hlb := limL_b hxb hx0
    have hn0 : 1 ≤ n := by omega
    have hn1 : n ≤ 40000 := by omega
    simp only [cond_true]
    obtain ⟨R, hR⟩ : ∃ R, splS xs 20 (limL xs) = R := ⟨_, rfl⟩
    rw [hR]
    have HRR := Lib.hid hR
    generalize limL xs = l0 at HRL hlb HRR
    obtain ⟨b, o, rfl, hb, hc⟩ := HR.out.cells (by omega)
    clear hg hxb hlen hx0 hx1 hR hc hn
    go_enter Try.func9, Try.ntmps9
    go_wp2_with fail
    (go_at_call 32; go_call (HC.out _ (by go_grown)) as e1 w1 ⟨rfl, hb1⟩; obtain ⟨hc1, hf1⟩ := bcell hb1; have hB1 : Below w.heap.size w w1 := (below_then (by first | (go_grown; done) | (repeat (first | (with_reducible assumption) | (with_reducible exact Below.refl _ _) | (with_reducible refine below_drewN' ?_ _) | (with_reducible refine Below.drew ?_) | ((with_reducible refine Below.alloc ?_ ?_ _); rotate_left; focus (first | (simp; done) | (simp; omega) | omega)) | ((with_reducible refine Below.setCell ?_ ?_ _); rotate_left; focus (first | (simp; done) | (simp; omega) | omega))))) (by first | omega | (simp; done) | (simp; omega)) hb1); have hz1a : w.heap.size < w1.heap.size := (by have := hb1.size; first | omega | (simp at this; omega)))
    have HX1 := Lib.hid (blk_below (heap_alloc_new w (.cells #[.int .i64 r, .int .i64 c, .slice (some ⟨b, o, none⟩) n cp] 28)) hb1 (by simp))
    have hz1 : w.heap.size < w1.heap.size := hz1a
    obtain ⟨y0, y1, y2, -⟩ := blk3 HX1.out
    clear hc1 hf1 hb1
    go_wp2_with fail
    (go_at_call 33; go_call (HRL.out _ hB1) as e2 w2 ⟨rfl, hb2⟩; obtain ⟨hc2, hf2⟩ := bcell hb2; have hB2 : Below w.heap.size w w2 := (below_then (by first | (go_grown; done) | (repeat (first | (with_reducible assumption) | (with_reducible exact Below.refl _ _) | (with_reducible refine below_drewN' ?_ _) | (with_reducible refine Below.drew ?_) | ((with_reducible refine Below.alloc ?_ ?_ _); rotate_left; focus (first | (simp; done) | (simp; omega) | omega)) | ((with_reducible refine Below.setCell ?_ ?_ _); rotate_left; focus (first | (simp; done) | (simp; omega) | omega))))) (by first | omega | (simp; done) | (simp; omega)) hb2); have hz2a : w.heap.size < w2.heap.size := (by have := hb2.size; first | omega | (simp at this; omega)))
    have HX2 := Lib.hid (blk_below HX1.out hb2 hz1)
    have hz2 : w.heap.size < w2.heap.size := hz2a
    have HB2 := Lib.hid hB2
    clear hc2 hf2 hb2 y0 y1 y2 hB1 hB2
    go_wp2_with fail
    go_loopw [4, 5] (fun lv sv wr => ∃ (s : Nat) (l : Int), s ≤ 20 ∧ sv = .int .i64 s ∧ lv = .int .i64 l ∧ (0 ≤ l ∧ l ≤ 256) ∧ Hid (splS xs (20 - s) l = R) ∧ Hid (Below w2.heap.size w2 wr))
      (fun _ q _ => 20 - (intOf q).toNat)
    case atStart => exact ⟨0, l0, by omega, rfl, rfl, hlb, HRR, Lib.hid (Below.refl _ _)⟩
    case round =>
      rename World => wo
      obtain ⟨s, l, hs, rfl, rfl, hlb', hsp, hbel⟩ := hrel
      have hBr : Hid (Below w.heap.size w wo) := Lib.hid (HB2.out.trans (hbel.out.mono (Nat.le_of_lt hz2)))
      by_cases hlt : s < 20
      · obtain ⟨y0, y1, y2, -⟩ := blk3 ((hbel.out.block w.heap.size hz2).trans HX2.out)
        have hlt' : (s : Int) < 20 := by omega
        have hsr := hbel.out.size
        have hzr : w.heap.size < wo.heap.size := by omega
        have hbr : b < wo.heap.size := by omega
        have HD0 : Hid (((wo.alloc (.cells #[.int .i64 0, .int .i64 0] 63)).alloc (.cells #[.int .i64 0, .int .i64 0] 63)).heap[wo.heap.size]? = some (.cells #[.int .i64 ((nLo xs l 0 : Nat) : Int), .int .i64 ((sLo xs l 0 : Nat) : Int)] 63 (0, 0))) := Lib.hid (blk_alloc (heap_alloc_new wo _) (by simp))
        have HE0 : Hid (((wo.alloc (.cells #[.int .i64 0, .int .i64 0] 63)).alloc (.cells #[.int .i64 0, .int .i64 0] 63)).heap[wo.heap.size + 1]? = some (.cells #[.int .i64 ((nHi xs l 0 : Nat) : Int), .int .i64 ((sHi xs l 0 : Nat) : Int)] 63 (0, 0))) := Lib.hid (heap_alloc_at (by simp))
        have HB0 : Hid (Below wo.heap.size wo ((wo.alloc (.cells #[.int .i64 0, .int .i64 0] 63)).alloc (.cells #[.int .i64 0, .int .i64 0] 63))) := Lib.hid (by go_grown)
        have HRr := Lib.hid (HR.out.below hBr.out)
        go_wp2_with fail
        go_loopw [9, 10, 28] (fun x t q wq => ∃ k : Nat, k ≤ n ∧ q = .int .i64 k ∧ Hid (wq.heap[wo.heap.size]? = some (.cells #[.int .i64 ((nLo xs l k : Nat) : Int), .int .i64 ((sLo xs l k : Nat) : Int)] 63 (0, 0))) ∧
            Hid (wq.heap[wo.heap.size + 1]? = some (.cells #[.int .i64 ((nHi xs l k : Nat) : Int), .int .i64 ((sHi xs l k : Nat) : Int)] 63 (0, 0))) ∧ Hid (Below wo.heap.size wo wq))
          (fun _ _ q _ => n - (intOf q).toNat)
        case atStart => exact ⟨0, Nat.zero_le _, rfl, HD0, HE0, HB0⟩
        case round =>
          rename World => wq
          obtain ⟨k, hk, rfl, hd, he, hbq⟩ := hrel
          have hbds := spl_b (l := l) HXB.out k (by rw [HL.out]; exact hk)
          have hsq := hbq.out.size
          by_cases hkl : k < n
          · obtain ⟨b', o', e', -, hc'⟩ := HRr.out.cells (by omega)
            simp only [Option.some.injEq, Addr.mk.injEq, and_true] at e'
            obtain ⟨rfl, rfl⟩ := e'
            have hck := (hbq.out.cell (p := ⟨b, o + k, none⟩) hbr).trans (hc' k hkl)
            have hxk := HXB.out k (by rw [HL.out]; exact hkl)
            have e1 : nLo xs l (k + 1) = if nth xs k < l then nLo xs l k + 1 else nLo xs l k := rfl
            have e2 : sLo xs l (k + 1) = if nth xs k < l then sLo xs l k + (nth xs k).toNat else sLo xs l k := rfl
            have e3 : nHi xs l (k + 1) = if nth xs k < l then nHi xs l k else nHi xs l k + 1 := rfl
            have e4 : sHi xs l (k + 1) = if nth xs k < l then sHi xs l k else sHi xs l k + (nth xs k).toNat := rfl
            generalize nth xs k = x at hck hxk e1 e2 e3 e4
            obtain ⟨X, rfl⟩ := Int.eq_ofNat_of_zero_le hxk.1
            rw [Int.toNat_natCast] at e2 e4
            generalize nLo xs l k = a1 at hd hbds e1
            generalize sLo xs l k = a2 at hd hbds e2
            generalize nHi xs l k = a3 at he hbds e3
            generalize sHi xs l k = a4 at he hbds e4
            clear hc'
            by_cases hX : (X : Int) < l
            · rw [if_pos hX] at e1 e2 e3 e4
              have E1 := Lib.hid e1
              have E2 := Lib.hid e2
              have E3 := Lib.hid e3
              have E4 := Lib.hid e4
              clear e1 e2 e3 e4
              go_wp2_with (go_at_call 34; with_reducible refine (take_any wo.heap.size a1 a2 X _ hd.out (by omega) (by omega) (by omega)).mono ?_; rintro e5 w5 ⟨rfl, rfl⟩)
              go_roundw
              case rel => exact ⟨k + 1, by omega, by go_num, Lib.hid (by rw [E1.out, E2.out]; exact blk2_1 (blk2_0 hd.out)), Lib.hid (by rw [E3.out, E4.out]; exact blk_other (blk_other he.out (by omega)) (by omega)), Lib.hid ((hbq.out.setCell (Nat.le_refl _) _).setCell (Nat.le_refl _) _)⟩
              case measure => simp [intOf]; omega
            · rw [if_neg hX] at e1 e2 e3 e4
              have E1 := Lib.hid e1
              have E2 := Lib.hid e2
              have E3 := Lib.hid e3
              have E4 := Lib.hid e4
              clear e1 e2 e3 e4
              go_wp2_with (go_at_call 34; with_reducible refine (take_any (wo.heap.size + 1) a3 a4 X _ he.out (by omega) (by omega) (by omega)).mono ?_; rintro e5 w5 ⟨rfl, rfl⟩)
              go_roundw
              case rel => exact ⟨k + 1, by omega, by go_num, Lib.hid (by rw [E1.out, E2.out]; exact blk_other (blk_other hd.out (by omega)) (by omega)), Lib.hid (by rw [E3.out, E4.out]; exact blk2_1 (blk2_0 he.out)), Lib.hid ((hbq.out.setCell (Nat.le_succ _) _).setCell (Nat.le_succ _) _)⟩
              case measure => simp [intOf]; omega
          · obtain rfl : k = n := by omega
            obtain ⟨p0, p1, -⟩ := blk2 hd.out
            obtain ⟨q0, q1, -⟩ := blk2 he.out
            have hst := Lib.hid (fun h => splS_stop (xs := xs) hsp.out h)
            have hnx := Lib.hid (fun t (ht : 20 - s = t + 1) => splS_next (xs := xs) (t := t) (l := l) (R := R) (by rw [← ht]; exact hsp.out))
            have hnb := nxtL_b (l := l) HXB.out
            have hnd : nxtL xs l = (sLo xs l k / nLo xs l k + sHi xs l k / nHi xs l k + 1) / 2 := by unfold nxtL; rw [HL.out]
            have hBq : Hid (Below w2.heap.size w2 wq) := Lib.hid (hbel.out.trans (hbq.out.mono hsr))
            have hBw : Hid (Below w.heap.size w wq) := Lib.hid (hBr.out.trans (hbq.out.mono (Nat.le_of_lt hzr)))
            rw [HL.out] at hst hnx
            generalize nLo xs l k = a1 at *
            generalize sLo xs l k = a2 at *
            generalize nHi xs l k = a3 at *
            generalize sHi xs l k = a4 at *
            generalize nxtL xs l = Y at *
            have hwq : wo.heap.size + 1 < wq.heap.size := lt_of_block he.out
            clear hd he
            by_cases h1 : a1 = 0
            · subst h1
              have hR := Lib.hid (hst.out (.inl rfl))
              go_wp2_with fail
              go_returns
              exact ⟨by simp [hR.out], by first | exact hBw.out | (refine below_drewN' hBw.out _)⟩
            by_cases h3 : a3 = 0
            · subst h3
              have hR := Lib.hid (hst.out (.inr (.inl rfl)))
              go_wp2_with fail
              go_returns
              exact ⟨by simp [hR.out], by first | exact hBw.out | (refine below_drewN' hBw.out _)⟩
            obtain ⟨Q1, hQ1⟩ : ∃ Q, a2 / a1 = Q := ⟨_, rfl⟩
            obtain ⟨Q2, hQ2⟩ : ∃ Q, a4 / a3 = Q := ⟨_, rfl⟩
            have hq1 : Q1 ≤ 255 := by rw [← hQ1]; exact Nat.div_le_of_le_mul (by omega)
            have hq2 : Q2 ≤ 255 := by rw [← hQ2]; exact Nat.div_le_of_le_mul (by omega)
            rw [hQ1, hQ2] at hnd
            have d1 : (a2 : Int) / a1 = (Q1 : Int) := by rw [← hQ1]; exact (Int.natCast_ediv a2 a1).symm
            have d2 : (a4 : Int) / a3 = (Q2 : Int) := by rw [← hQ2]; exact (Int.natCast_ediv a4 a3).symm
            have d3 : ((Q1 : Int) + Q2 + 1) / 2 = (Y : Int) := by omega
            clear hQ1 hQ2 hnd
            by_cases h5 : (Y : Int) = l
            · have hR := Lib.hid (hst.out (.inr (.inr h5)))
              subst h5
              go_wp2_with fail
              go_quiet (fail)
              go_wp2_with fail
              go_returns
              exact ⟨by simp [hR.out], below_drewN' hBw.out _⟩
            · have hR := Lib.hid (fun t ht => hnx.out t ht (by omega))
              have h5' : ((Y : Int) == l) = false := by simpa using h5
              go_wp2_with fail
              go_quiet (fail)
              go_wp2_with fail
              go_roundw
              case rel => exact ⟨s + 1, Y, by omega, by go_num, by first | rfl | rw [d3], by omega, Lib.hid (hR.out (20 - (s + 1)) (by omega)), Lib.hid (below_drewN' hBq.out _)⟩
              case measure => simp [intOf]; omega
      · have hlt' : ¬ (s : Int) < 20 := by omega
        obtain rfl : s = 20 := by omega
        have hR := Lib.hid (show l = R from hsp.out)
        go_wp2_with fail
        go_returns
        exact ⟨by simp [hR.out], hBr.out⟩
end Go.Proofs.Ytkipaefhnmfebaa
