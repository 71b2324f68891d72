/-
  Contracts of chapter 22: SplitLimit, the reference.
-/
import Derived.Test.YtkipaefhnmfebaaC22S
namespace Go.Proofs.Ytkipaefhnmfebaa
set_option linter.unusedSimpArgs false
open Go.RowKit

set_option maxHeartbeats 4000000 in
theorem l22Ends_any (r c : Int) (A : Option Addr) (n cp : Nat) (xs : List Int) (w : World) (B : Nat) (hr : RI w B A n xs) (hB : B ≤ w.heap.size) (hn0 : 1 ≤ n) (hn : n ≤ 40000) :
    Calls Try.prog 38 #[.agg #[.int .i64 r, .int .i64 c, .slice A n cp]] w fun e w' => e = .returned (.tuple #[.int .i64 (loM xs (n - 1)), .int .i64 (hiM xs (n - 1))]) ∧ Below w.heap.size w w' := by
  obtain ⟨b, o, rfl, hb, hc⟩ := (hr.more hB).cells (by omega)
  have HC := Lib.hid hc
  have hck0 := hc 0 (by omega)
  rw [Nat.add_zero] at hck0
  have e1 : loM xs 0 = nth xs 0 := rfl
  have e2 : hiM xs 0 = nth xs 0 := rfl
  have E1 := Lib.hid e1
  have E2 := Lib.hid e2
  clear hc hr e1 e2
  generalize nth xs 0 = x0 at hck0 E1 E2
  go_enter Try.func38, Try.ntmps38
  go_wp2_with fail
  go_quiet (fail)
  go_wp2_with fail
  obtain ⟨W1, hW1⟩ : ∃ W1, W1 = (w.alloc (.cells #[.int .i64 r, .int .i64 c, .slice (some ⟨b, o, none⟩) n cp] 28)).drewN nq := ⟨_, rfl⟩
  rw [← hW1]
  have HX1 : Hid (W1.heap[w.heap.size]? = some (.cells #[.int .i64 r, .int .i64 c, .slice (some ⟨b, o, none⟩) n cp] 28 (0, 0))) := Lib.hid (by rw [hW1]; exact heap_alloc_new _ _)
  have HW : Hid (Below w.heap.size w W1) := Lib.hid (by rw [hW1]; exact below_drewN' ((Below.refl _ _).alloc (Nat.le_refl _) _) _)
  clear hW1 hck0
  obtain ⟨y0, y1, y2, -⟩ := blk3 HX1.out
  go_loopw [4, 5, 6] (fun lo hi i wr => ∃ k : Nat, k < n ∧ i = .int .i64 ((k : Int) + 1) ∧ lo = .int .i64 (loM xs k) ∧ hi = .int .i64 (hiM xs k) ∧ wr = W1) (fun _ _ i _ => n - (intOf i).toNat)
  case atStart => exact ⟨0, by omega, by go_num, by rw [E1.out], by rw [E2.out], rfl⟩
  case round =>
    obtain ⟨k, hk, rfl, rfl, rfl, rfl⟩ := hrel
    by_cases hlt : k + 1 < n
    · have hck := (HW.out.cell (p := ⟨b, o + (k + 1), none⟩) hb).trans (HC.out (k + 1) hlt)
      have hst := Lib.hid (show loM xs (k + 1) = min (loM xs k) (nth xs (k + 1)) from rfl)
      have hst2 := Lib.hid (show hiM xs (k + 1) = max (hiM xs k) (nth xs (k + 1)) from rfl)
      generalize nth xs (k + 1) = y at hck hst hst2
      generalize loM xs k = a at hst ⊢
      generalize hiM xs k = z at hst2 ⊢
      have key : ∃ p q, min a y = p ∧ max z y = q := ⟨_, _, rfl, rfl⟩
      rcases Int.lt_trichotomy a y with h | h | h <;> rcases Int.lt_trichotomy z y with h' | h' | h'
      all_goals
        have g1 := Lib.hid h
        have g2 := Lib.hid h'
        try subst h
        try subst h'
        go_wp2_with fail
        go_roundw
        case rel => exact ⟨k + 1, by omega, by go_num, by rw [hst.out]; first | rfl | (congr 1; have := g1.out; omega), by rw [hst2.out]; first | rfl | (congr 1; have := g2.out; omega), by first | rfl | trivial⟩
        case measure => simp [intOf]; omega
    · obtain rfl : k = n - 1 := by omega
      go_wp2_with fail
      go_returns
      exact ⟨by simp, HW.out⟩
set_option maxRecDepth 20000 in
set_option maxHeartbeats 4000000 in
theorem l22Split_any (r c : Int) (A : Option Addr) (n cp : Nat) (xs : List Int) (w : World) (B : Nat) (hr : RI w B A n xs) (hB : B ≤ w.heap.size) (hg : rasB r c xs = true) :
    Calls Try.prog 30 #[.agg #[.int .i64 r, .int .i64 c, .slice A n cp]] w fun e w' => e = .returned (.int .i64 (splS xs 20 (limL xs))) ∧ Below w.heap.size w w' := by
  have hlen := hr.len
  have HR := Lib.hid (hr.more hB)
  obtain ⟨hx0, hx1, hxb⟩ := rasB_true hg
  have HRL := Lib.hid (fun w' (hb : Below w.heap.size w w') => l22Ends_any r c A n cp xs w' w.heap.size (HR.out.below hb) hb.size (by omega) (by omega))
  have HXB := Lib.hid hxb
  have HL := Lib.hid hlen
  have hlb := limL_b hxb hx0
  have ha := loM_b hxb (n - 1) (by omega)
  have hb' := hiM_b hxb (n - 1) (by omega)
  have hn0 : 1 ≤ n := by omega
  have hn1 : n ≤ 40000 := by omega
  obtain ⟨R, hR⟩ : ∃ R, splS xs 20 (limL xs) = R := ⟨_, rfl⟩
  rw [hR]
  have HRR := Lib.hid hR
  have hlim : limL xs = (loM xs (n - 1) + hiM xs (n - 1) + 1) / 2 := by unfold limL; rw [hlen]
  generalize loM xs (n - 1) = lo at HRL ha hlim
  generalize hiM xs (n - 1) = hi at HRL hb' hlim
  generalize limL xs = l0 at hlb HRR hlim
  obtain ⟨p, rfl⟩ := Int.eq_ofNat_of_zero_le ha.1
  obtain ⟨q, rfl⟩ := Int.eq_ofNat_of_zero_le hb'.1
  have hsi : ((p : Int) + q + 1) / 2 = l0 := hlim.symm
  have HSI := Lib.hid hsi
  obtain ⟨b, o, rfl, hb, hc⟩ := HR.out.cells (by omega)
  clear hg hxb hlen hx0 hx1 hR hc hr hlim hsi
  go_enter Try.func30, Try.ntmps30
  go_wp2_with fail
  (go_at_call 38; go_call (HRL.out _ (by go_grown)) as e2 w2 ⟨rfl, hb2⟩; obtain ⟨hc2, hf2⟩ := bcell hb2; have hB2 : Below w.heap.size w w2 := (below_then (by first | (go_grown; done) | (repeat (first | (with_reducible assumption) | (with_reducible exact Below.refl _ _) | (with_reducible refine below_drewN' ?_ _) | (with_reducible refine Below.drew ?_) | ((with_reducible refine Below.alloc ?_ ?_ _); rotate_left; focus (first | (simp; done) | (simp; omega) | omega)) | ((with_reducible refine Below.setCell ?_ ?_ _); rotate_left; focus (first | (simp; done) | (simp; omega) | omega))))) (by first | omega | (simp; done) | (simp; omega)) hb2); have hz2a : w.heap.size < w2.heap.size := (by have := hb2.size; first | omega | (simp at this; omega)))
  have HX2 := Lib.hid (blk_below (heap_alloc_new w (.cells #[.int .i64 r, .int .i64 c, .slice (some ⟨b, o, none⟩) n cp] 28)) hb2 (by simp))
  have hz2 : w.heap.size < w2.heap.size := hz2a
  have HB2 := Lib.hid hB2
  clear hc2 hf2 hb2 hB2
  go_wp2_with fail
  go_loopw [5, 6] (fun lv sv wr => ∃ (s : Nat) (l : Int), s ≤ 20 ∧ sv = .int .i64 s ∧ lv = .int .i64 l ∧ (0 ≤ l ∧ l ≤ 256) ∧ Hid (splS xs (20 - s) l = R) ∧ Hid (Below w2.heap.size w2 wr))
    (fun _ q _ => 20 - (intOf q).toNat)
  case atStart => exact ⟨0, l0, by omega, rfl, by rw [← HSI.out], hlb, HRR, Lib.hid (Below.refl _ _)⟩
  case round =>
    rename World => wo
    obtain ⟨s, l, hs, rfl, rfl, hlb', hsp, hbel⟩ := hrel
    have hBr : Hid (Below w.heap.size w wo) := Lib.hid (HB2.out.trans (hbel.out.mono (Nat.le_of_lt hz2)))
    by_cases hlt : s < 20
    · have hlt' : (s : Int) < 20 := by omega
      have hsr := hbel.out.size
      have hzr : w.heap.size < wo.heap.size := by omega
      have hbr : b < wo.heap.size := by omega
      have HD0 : Hid (((wo.alloc (.cells #[.int .i64 0, .int .i64 0] 2)).alloc (.cells #[.int .i64 0, .int .i64 0] 2)).heap[wo.heap.size]? = some (.cells #[.int .i64 ((sHi xs l 0 : Nat) : Int), .int .i64 ((sLo xs l 0 : Nat) : Int)] 2 (0, 0))) := Lib.hid (blk_alloc (heap_alloc_new wo _) (by simp))
      have HE0 : Hid (((wo.alloc (.cells #[.int .i64 0, .int .i64 0] 2)).alloc (.cells #[.int .i64 0, .int .i64 0] 2)).heap[wo.heap.size + 1]? = some (.cells #[.int .i64 ((nHi xs l 0 : Nat) : Int), .int .i64 ((nLo xs l 0 : Nat) : Int)] 2 (0, 0))) := Lib.hid (heap_alloc_at (by simp))
      have HB0 : Hid (Below wo.heap.size wo ((wo.alloc (.cells #[.int .i64 0, .int .i64 0] 2)).alloc (.cells #[.int .i64 0, .int .i64 0] 2))) := Lib.hid (by go_grown)
      have HRr := Lib.hid (HR.out.below hBr.out)
      have HXo := Lib.hid ((hbel.out.block w.heap.size hz2).trans HX2.out)
      go_wp2_with fail
      go_loopw [9, 10] (fun q t wq => ∃ k : Nat, k ≤ n ∧ q = .int .i64 k ∧ Hid (wq.heap[wo.heap.size]? = some (.cells #[.int .i64 ((sHi xs l k : Nat) : Int), .int .i64 ((sLo xs l k : Nat) : Int)] 2 (0, 0))) ∧
          Hid (wq.heap[wo.heap.size + 1]? = some (.cells #[.int .i64 ((nHi xs l k : Nat) : Int), .int .i64 ((nLo xs l k : Nat) : Int)] 2 (0, 0))) ∧ Hid (Below wo.heap.size wo wq))
        (fun q _ _ => n - (intOf q).toNat)
      case atStart => exact ⟨0, Nat.zero_le _, rfl, HD0, HE0, HB0⟩
      case round =>
        rename World => wq
        obtain ⟨k, hk, rfl, hd, he, hbq⟩ := hrel
        have hbds := spl_b (l := l) HXB.out k (by rw [HL.out]; exact hk)
        have hsq := hbq.out.size
        obtain ⟨y0, y1, y2, -⟩ := blk3 ((hbq.out.block w.heap.size hzr).trans HXo.out)
        have hwq : wo.heap.size + 1 < wq.heap.size := lt_of_block he.out
        have hwq0 : wo.heap.size < wq.heap.size := by omega
        have hwq1 : w.heap.size < wq.heap.size := by omega
        have hwq2 : b < wq.heap.size := by omega
        by_cases hkl : k < n
        · obtain ⟨b', o', e', -, hc'⟩ := HRr.out.cells (by omega)
          simp only [Option.some.injEq, Addr.mk.injEq, and_true] at e'
          obtain ⟨rfl, rfl⟩ := e'
          have hck := (hbq.out.cell (p := ⟨b, o + k, none⟩) hbr).trans (hc' k hkl)
          have hxk := HXB.out k (by rw [HL.out]; exact hkl)
          have e1 : nLo xs l (k + 1) = if nth xs k < l then nLo xs l k + 1 else nLo xs l k := rfl
          have e2 : sLo xs l (k + 1) = if nth xs k < l then sLo xs l k + (nth xs k).toNat else sLo xs l k := rfl
          have e3 : nHi xs l (k + 1) = if nth xs k < l then nHi xs l k else nHi xs l k + 1 := rfl
          have e4 : sHi xs l (k + 1) = if nth xs k < l then sHi xs l k else sHi xs l k + (nth xs k).toNat := rfl
          generalize nth xs k = x at hck hxk e1 e2 e3 e4
          obtain ⟨X, rfl⟩ := Int.eq_ofNat_of_zero_le hxk.1
          rw [Int.toNat_natCast] at e2 e4
          generalize nLo xs l k = a1 at he hbds e1
          generalize sLo xs l k = a2 at hd hbds e2
          generalize nHi xs l k = a3 at he hbds e3
          generalize sHi xs l k = a4 at hd hbds e4
          obtain ⟨p0, p1, pf⟩ := blk2 hd.out
          obtain ⟨q0, q1, qf⟩ := blk2 he.out
          clear hc'
          by_cases hX : (X : Int) < l
          · rw [if_pos hX] at e1 e2 e3 e4
            have E1 := Lib.hid e1
            have E2 := Lib.hid e2
            have E3 := Lib.hid e3
            have E4 := Lib.hid e4
            have hf1 := pf 1
            have hf2 := qf 1
            clear e1 e2 e3 e4 pf qf
            go_wp2_with fail
            refine wp_region_qat [] 13 [] (by kernel_rfl) (by kernel_rfl) ?_
            intro hbc
            simp only [List.take_succ_cons, List.take_zero, List.drop_succ_cons, List.drop_zero]
            repeat (first
              | refine wpQ_pass rfl ?_
              | (refine wpQ_step rfl (fun K hK => ?_)
                 go_simp
                 first
                   | (refine hK _ ?_; clear hK K)))
            refine wpQ_nil ⟨?_, ?_⟩
            · exact rfl
            intro  w5 hb5 hF5
            clear hbc
            obtain ⟨hc5, hf5⟩ := bcell hb5
            clear hF5
            try simp only [Act.put, List.setIfInBounds_toArray, List.set_cons_succ, List.set_cons_zero]
            have HD5 := Lib.hid ((hb5.block wo.heap.size hwq0).trans hd.out)
            have HE5 := Lib.hid ((hb5.block (wo.heap.size + 1) hwq).trans he.out)
            have HB5 := Lib.hid (hbq.out.trans (hb5.mono hsq))
            go_wp2_with fail
            go_roundw
            case rel => exact ⟨k + 1, by omega, by go_num, Lib.hid (by rw [E2.out, E4.out]; exact blk_other (blk2_1 HD5.out) (by omega)), Lib.hid (by rw [E1.out, E3.out]; exact blk2_1 (blk_other HE5.out (by omega))), Lib.hid ((HB5.out.setCell (Nat.le_refl _) _).setCell (Nat.le_succ _) _)⟩
            case measure => simp [intOf]; omega
          · rw [if_neg hX] at e1 e2 e3 e4
            have E1 := Lib.hid e1
            have E2 := Lib.hid e2
            have E3 := Lib.hid e3
            have E4 := Lib.hid e4
            have hf1 := pf 0
            have hf2 := qf 0
            clear e1 e2 e3 e4 pf qf
            go_wp2_with fail
            refine wp_region_qat [] 13 [] (by kernel_rfl) (by kernel_rfl) ?_
            intro hbc
            simp only [List.take_succ_cons, List.take_zero, List.drop_succ_cons, List.drop_zero]
            repeat (first
              | refine wpQ_pass rfl ?_
              | (refine wpQ_step rfl (fun K hK => ?_)
                 go_simp
                 first
                   | (refine hK _ ?_; clear hK K)))
            refine wpQ_nil ⟨?_, ?_⟩
            · exact rfl
            intro  w5 hb5 hF5
            clear hbc
            obtain ⟨hc5, hf5⟩ := bcell hb5
            clear hF5
            try simp only [Act.put, List.setIfInBounds_toArray, List.set_cons_succ, List.set_cons_zero]
            have HD5 := Lib.hid ((hb5.block wo.heap.size hwq0).trans hd.out)
            have HE5 := Lib.hid ((hb5.block (wo.heap.size + 1) hwq).trans he.out)
            have HB5 := Lib.hid (hbq.out.trans (hb5.mono hsq))
            go_wp2_with fail
            go_roundw
            case rel => exact ⟨k + 1, by omega, by go_num, Lib.hid (by rw [E2.out, E4.out]; exact blk_other (blk2_0 HD5.out) (by omega)), Lib.hid (by rw [E1.out, E3.out]; exact blk2_0 (blk_other HE5.out (by omega))), Lib.hid ((HB5.out.setCell (Nat.le_refl _) _).setCell (Nat.le_succ _) _)⟩
            case measure => simp [intOf]; omega
        · obtain rfl : k = n := by omega
          obtain ⟨p0, p1, -⟩ := blk2 hd.out
          obtain ⟨q0, q1, -⟩ := blk2 he.out
          have hst := Lib.hid (fun h => splS_stop (xs := xs) hsp.out h)
          have hnx := Lib.hid (fun t (ht : 20 - s = t + 1) => splS_next (xs := xs) (t := t) (l := l) (R := R) (by rw [← ht]; exact hsp.out))
          have hnb := nxtL_b (l := l) HXB.out
          have hnd : nxtL xs l = (sLo xs l k / nLo xs l k + sHi xs l k / nHi xs l k + 1) / 2 := by unfold nxtL; rw [HL.out]
          have hBq : Hid (Below w2.heap.size w2 wq) := Lib.hid (hbel.out.trans (hbq.out.mono hsr))
          have hBw : Hid (Below w.heap.size w wq) := Lib.hid (hBr.out.trans (hbq.out.mono (Nat.le_of_lt hzr)))
          rw [HL.out] at hst hnx
          generalize nLo xs l k = a1 at *
          generalize sLo xs l k = a2 at *
          generalize nHi xs l k = a3 at *
          generalize sHi xs l k = a4 at *
          generalize nxtL xs l = Y at *
          clear hd he
          by_cases h3 : a3 = 0
          · subst h3
            have hR := Lib.hid (hst.out (.inr (.inl rfl)))
            go_wp2_with fail
            first | go_ret | go_returns
            exact ⟨by simp [hR.out], by first | exact hBw.out | (refine below_drewN' hBw.out _)⟩
          by_cases h1 : a1 = 0
          · subst h1
            have hR := Lib.hid (hst.out (.inl rfl))
            go_wp2_with fail
            first | go_ret | go_returns
            exact ⟨by simp [hR.out], by first | exact hBw.out | (refine below_drewN' hBw.out _)⟩
          obtain ⟨Q1, hQ1⟩ : ∃ Q, a2 / a1 = Q := ⟨_, rfl⟩
          obtain ⟨Q2, hQ2⟩ : ∃ Q, a4 / a3 = Q := ⟨_, rfl⟩
          have hq1 : Q1 ≤ 255 := by rw [← hQ1]; exact Nat.div_le_of_le_mul (by omega)
          have hq2 : Q2 ≤ 255 := by rw [← hQ2]; exact Nat.div_le_of_le_mul (by omega)
          rw [hQ1, hQ2] at hnd
          have d1 : (a2 : Int) / a1 = (Q1 : Int) := by rw [← hQ1]; exact (Int.natCast_ediv a2 a1).symm
          have d2 : (a4 : Int) / a3 = (Q2 : Int) := by rw [← hQ2]; exact (Int.natCast_ediv a4 a3).symm
          have d3 : ((Q2 : Int) + Q1 + 1) / 2 = (Y : Int) := by omega
          clear hQ1 hQ2 hnd
          by_cases h5 : (Y : Int) = l
          · have hR := Lib.hid (hst.out (.inr (.inr h5)))
            subst h5
            go_wp2_with fail
            go_quiet (fail)
            go_wp2_with fail
            first | go_ret | go_returns
            exact ⟨by simp [hR.out], below_drewN' hBw.out _⟩
          · have hR := Lib.hid (fun t ht => hnx.out t ht (by omega))
            have h5' : ((Y : Int) == l) = false := by simpa using h5
            go_wp2_with fail
            go_quiet (fail)
            go_wp2_with fail
            go_roundw
            case rel => exact ⟨s + 1, Y, by omega, by go_num, by first | rfl | rw [d3], by omega, Lib.hid (hR.out (20 - (s + 1)) (by omega)), Lib.hid (below_drewN' hBq.out _)⟩
            case measure => simp [intOf]; omega
    · have hlt' : ¬ (s : Int) < 20 := by omega
      obtain rfl : s = 20 := by omega
      have hR := Lib.hid (show l = R from hsp.out)
      go_wp2_with fail
      first | go_ret | go_returns
      exact ⟨by simp [hR.out], hBr.out⟩
set_option maxHeartbeats 1000000 in
theorem sSplitLimit_any (r c : Int) (A : Option Addr) (n cp : Nat) (xs : List Int) (w : World) (B : Nat) (hr : RI w B A n xs) (hB : B ≤ w.heap.size) (hn : n ≤ 1000000000000000) :
    Calls Try.prog 7 #[.agg #[.int .i64 r, .int .i64 c, .slice A n cp]] w fun e w' => e = .returned (.tuple #[.int .i64 (slV r c xs), .int .i64 (slC r c xs)]) ∧ Below w.heap.size w w' := by
  have HR := Lib.hid (hr.more hB)
  have HC := Lib.hid (fun w' (hb : Below w.heap.size w w') => sIsRaster_any r c A n cp xs w' w.heap.size (HR.out.below hb) hb.size hn)
  clear hr
  unfold slC slV
  cases hg : rasB r c xs
  · rw [hg] at HC
    go_enter Try.func7, Try.ntmps7
    go_wp2_with (go_at_call 29; go_call (HC.out _ (by go_grown)) as e1 w1 ⟨rfl, hb1⟩; obtain ⟨hc1, hf1⟩ := bcell hb1; have hB1 : Below w.heap.size w w1 := (below_then (by first | (go_grown; done) | (repeat (first | (with_reducible assumption) | (with_reducible exact Below.refl _ _) | (with_reducible refine below_drewN' ?_ _) | (with_reducible refine Below.drew ?_) | ((with_reducible refine Below.alloc ?_ ?_ _); rotate_left; focus (first | (simp; done) | (simp; omega) | omega)) | ((with_reducible refine Below.setCell ?_ ?_ _); rotate_left; focus (first | (simp; done) | (simp; omega) | omega))))) (by first | omega | (simp; done) | (simp; omega)) hb1); have hz1a : w.heap.size < w1.heap.size := (by have := hb1.size; first | omega | (simp at this; omega)))
    go_returns
    exact ⟨by simp, by (repeat (first | (with_reducible assumption) | (with_reducible exact Below.refl _ _) | (with_reducible refine below_drewN' ?_ _) | (with_reducible refine Below.drew ?_) | ((with_reducible refine Below.alloc ?_ ?_ _); rotate_left; focus (first | (simp; done) | (simp; omega) | omega)) | ((with_reducible refine Below.setCell ?_ ?_ _); rotate_left; focus (first | (simp; done) | (simp; omega) | omega))))⟩
  · rw [hg] at HC
    have HS := Lib.hid (fun w' (hb : Below w.heap.size w w') => l22Split_any r c A n cp xs w' w.heap.size (HR.out.below hb) hb.size hg)
    simp only [cond_true]
    generalize splS xs 20 (limL xs) = R at HS ⊢
    go_enter Try.func7, Try.ntmps7
    go_wp2_with fail
    (go_at_call 29; go_call (HC.out _ (by go_grown)) as e1 w1 ⟨rfl, hb1⟩; obtain ⟨hc1, hf1⟩ := bcell hb1; have hB1 : Below w.heap.size w w1 := (below_then (by first | (go_grown; done) | (repeat (first | (with_reducible assumption) | (with_reducible exact Below.refl _ _) | (with_reducible refine below_drewN' ?_ _) | (with_reducible refine Below.drew ?_) | ((with_reducible refine Below.alloc ?_ ?_ _); rotate_left; focus (first | (simp; done) | (simp; omega) | omega)) | ((with_reducible refine Below.setCell ?_ ?_ _); rotate_left; focus (first | (simp; done) | (simp; omega) | omega))))) (by first | omega | (simp; done) | (simp; omega)) hb1); have hz1a : w.heap.size < w1.heap.size := (by have := hb1.size; first | omega | (simp at this; omega)))
    have HX1 := Lib.hid (blk_below (heap_alloc_new w (.cells #[.int .i64 r, .int .i64 c, .slice A n cp] 28)) hb1 (by simp))
    obtain ⟨y0, y1, y2, -⟩ := blk3 HX1.out
    clear hc1 hf1
    go_wp2_with fail
    (go_at_call 30; go_call (HS.out _ hB1) as e2 w2 ⟨rfl, hb2⟩; obtain ⟨hc2, hf2⟩ := bcell hb2; have hB2 : Below w.heap.size w w2 := (below_then (by first | (go_grown; done) | (repeat (first | (with_reducible assumption) | (with_reducible exact Below.refl _ _) | (with_reducible refine below_drewN' ?_ _) | (with_reducible refine Below.drew ?_) | ((with_reducible refine Below.alloc ?_ ?_ _); rotate_left; focus (first | (simp; done) | (simp; omega) | omega)) | ((with_reducible refine Below.setCell ?_ ?_ _); rotate_left; focus (first | (simp; done) | (simp; omega) | omega))))) (by first | omega | (simp; done) | (simp; omega)) hb2))
    go_wp2_with fail
    go_returns
    exact ⟨by simp, hB2⟩
end Go.Proofs.Ytkipaefhnmfebaa
