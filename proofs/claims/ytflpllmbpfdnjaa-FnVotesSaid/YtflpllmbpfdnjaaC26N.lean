/-
  Contracts of chapter 26: the reference's grid of the votes of several lines. Printed by gen/c26n.py.
-/
import Derived.Test.YtflpllmbpfdnjaaC26K
import Derived.Test.YtflpllmbpfdnjaaC26S
namespace Go.Proofs.Ytflpllmbpfdnjaa
set_option linter.unusedSimpArgs false
open Go.RowKit

set_option maxRecDepth 20000 in
set_option maxHeartbeats 8000000 in
theorem l26Stack_any (PR PC : Nat) (A : Option Addr) (n cp : Nat) (xs : List Int) (m0 m1 m2 m3 m4 m5 m6 m7 m8 : Int) (R C : Nat) (lim mar : Int) (L : Nat) (w : World) (B : Nat) (hr : RI w B A n xs) (hB : B ≤ w.heap.size) (hn : n = PR * PC) (hn2 : PR * PC ≤ 40000) (hPR : PR ≤ 400) (hPC : PC ≤ 400) (hxs : ∀ k, k < n → 0 ≤ nth xs k ∧ nth xs k ≤ 255)
    (hmap : isMapB [m0, m1, m2, m3, m4, m5, m6, m7, m8] = true) (hlim : 0 ≤ lim ∧ lim ≤ 256) (hmar : 0 ≤ mar ∧ mar ≤ 256) (hR : R ≤ 3500) (hC : C ≤ 3500) (hRC : R * C ≤ 3500) (hL7 : L ≤ 7) :
    Calls Try.prog 55 #[.agg #[.int .i64 PR, .int .i64 PC, .slice A n cp], .agg #[.int .i64 m0, .int .i64 m1, .int .i64 m2, .int .i64 m3, .int .i64 m4, .int .i64 m5, .int .i64 m6, .int .i64 m7, .int .i64 m8], .agg #[.int .i64 R, .int .i64 C, .int .i64 lim, .int .i64 mar], .int .i64 L] w fun e w' => ∃ v, e = .returned (.agg #[.int .i64 R, .int .i64 C, v]) ∧ Own w' w.heap.size v (grdL R C (fun r c => voteV (stkL (tkF PR PC xs m0 m1 m2 m3 m4 m5 m6 m7 m8 lim mar) R C L r c))) ∧ Below w.heap.size w w' := by
  obtain ⟨i0, hi⟩ := info_own' info_i64s
  have HI := Lib.hid (And.intro i0.bytes.le_refl hi)
  clear hi
  obtain ⟨SL, hSLe⟩ : ∃ SL : Nat → Nat → List Int, SL = stkL (tkF PR PC xs m0 m1 m2 m3 m4 m5 m6 m7 m8 lim mar) R C L := ⟨_, rfl⟩
  obtain ⟨f, hf⟩ : ∃ f : Nat → Nat → Int, f = fun r c => voteV (SL r c) := ⟨_, rfl⟩
  have HSL : Hid (∀ r c : Nat, (SL r c).length = L) := Lib.hid (fun r c => by rw [hSLe, stkL_len])
  have HFV : Hid (∀ r c : Nat, f r c = voteV (SL r c)) := Lib.hid (fun r c => by rw [hf])
  have HF : Hid (∀ r c l : Nat, r < R → c < C → l < L → ∀ w', Below w.heap.size w w' → Calls Try.prog 82 #[.agg #[.int .i64 PR, .int .i64 PC, .slice A n cp], .agg #[.int .i64 m0, .int .i64 m1, .int .i64 m2, .int .i64 m3, .int .i64 m4, .int .i64 m5, .int .i64 m6, .int .i64 m7, .int .i64 m8], .agg #[.int .i64 R, .int .i64 C, .int .i64 lim, .int .i64 mar], .int .i64 ((2 * c + 1 : Nat) : Int), .int .i64 ((2 * C : Nat) : Int), .int .i64 ((2 * (r * L + l) + 1 : Nat) : Int), .int .i64 ((2 * R * L : Nat) : Int)] w' fun e w'' => e = .returned (.int .i64 (nth (SL r c) l)) ∧ Below w'.heap.size w' w'') := Lib.hid (fun r c l h1 h2 h3 w' hb => by
    obtain ⟨b1, b2, b3, b4⟩ := stk_bd hRC hL7 h1 h2 h3
    have := l26Sample_any PR PC A n cp xs m0 m1 m2 m3 m4 m5 m6 m7 m8 R C lim mar (2 * c + 1) (2 * C) (2 * (r * L + l) + 1) (2 * R * L) w' w.heap.size ((hr.more hB).below hb) hb.size hn hn2 hPR hPC hxs hmap hlim hmar (by omega) (by omega) (by omega) (by omega) (by omega) (by rw [Nat.mul_assoc] at b4; have := Nat.mul_le_mul hR hL7; omega) (by rw [Nat.mul_assoc]; have := Nat.mul_le_mul hR hL7; omega)
    rw [hSLe, stkL_nth h3]
    exact this)
  rw [show (fun r c => voteV (stkL (tkF PR PC xs m0 m1 m2 m3 m4 m5 m6 m7 m8 lim mar) R C L r c)) = f by rw [hf, hSLe]]
  have hbR := Nat.mul_le_mul hR hL7
  obtain ⟨M, hM⟩ : ∃ X : Nat, 2 * C = X := ⟨_, rfl⟩
  obtain ⟨R2, hR2⟩ : ∃ X : Nat, 2 * R = X := ⟨_, rfl⟩
  obtain ⟨KK, hKK⟩ : ∃ X : Nat, R2 * L = X := ⟨_, rfl⟩
  have hKb : KK ≤ 49000 := by rw [← hKK, ← hR2, Nat.mul_assoc]; omega
  rw [hM, hR2, hKK] at HF
  have e2 : 2 * (C : Int) = (M : Int) := by omega
  have e4 : 2 * (R : Int) = (R2 : Int) := by omega
  have e5 : (R2 : Int) * (L : Int) = (KK : Int) := by rw [← hKK]; simp
  have hMb : M ≤ 7000 := by omega
  have hR2b : R2 ≤ 7000 := by omega
  clear hf hSLe hr hxs hmap hn hM hR2 hKK hbR
  obtain ⟨N, hN⟩ : ∃ N, N = R * C := ⟨_, rfl⟩
  have HN := Lib.hid hN
  have hNb : N ≤ 3500 := by omega
  have hGl : Hid ((grdL R C f).length = N) := Lib.hid ((grdL_len R C f).trans hN.symm)
  clear hN hRC
  go_enter Try.func55, Try.ntmps55
  go_wp2_with fail
  have HW : Hid (Below w.heap.size w ((((w.alloc (.cells #[.int .i64 PR, .int .i64 PC, .slice A n cp] 32)).alloc (.cells #[.int .i64 m0, .int .i64 m1, .int .i64 m2, .int .i64 m3, .int .i64 m4, .int .i64 m5, .int .i64 m6, .int .i64 m7, .int .i64 m8] 34)).alloc (.cells #[.int .i64 R, .int .i64 C, .int .i64 lim, .int .i64 mar] 36)).alloc (.cells #[.int .i64 0, .int .i64 0, .slice none 0 0] 41))) := Lib.hid (by go_grown)
  have HX0 : Hid (BxG w.heap.size PR PC A n cp m0 m1 m2 m3 m4 m5 m6 m7 m8 R C lim mar 32 34 36 ((((w.alloc (.cells #[.int .i64 PR, .int .i64 PC, .slice A n cp] 32)).alloc (.cells #[.int .i64 m0, .int .i64 m1, .int .i64 m2, .int .i64 m3, .int .i64 m4, .int .i64 m5, .int .i64 m6, .int .i64 m7, .int .i64 m8] 34)).alloc (.cells #[.int .i64 R, .int .i64 C, .int .i64 lim, .int .i64 mar] 36)).alloc (.cells #[.int .i64 0, .int .i64 0, .slice none 0 0] 41))) := Lib.hid ⟨blk_alloc (blk_alloc (blk_alloc (heap_alloc_new _ _) (by simp)) (by simp; try omega)) (by simp; try omega), blk_alloc (blk_alloc (heap_alloc_at (by simp)) (by simp; try omega)) (by simp; try omega), blk_alloc (heap_alloc_at (by simp)) (by simp; try omega)⟩
  have HR0 : Hid (((((w.alloc (.cells #[.int .i64 PR, .int .i64 PC, .slice A n cp] 32)).alloc (.cells #[.int .i64 m0, .int .i64 m1, .int .i64 m2, .int .i64 m3, .int .i64 m4, .int .i64 m5, .int .i64 m6, .int .i64 m7, .int .i64 m8] 34)).alloc (.cells #[.int .i64 R, .int .i64 C, .int .i64 lim, .int .i64 mar] 36)).alloc (.cells #[.int .i64 0, .int .i64 0, .slice none 0 0] 41)).heap[w.heap.size + 1 + 1 + 1]? = some (.cells #[.int .i64 0, .int .i64 0, .slice none 0 0] 41 (0, 0))) := Lib.hid (heap_alloc_at (by simp))
  have hsz : ((((w.alloc (.cells #[.int .i64 PR, .int .i64 PC, .slice A n cp] 32)).alloc (.cells #[.int .i64 m0, .int .i64 m1, .int .i64 m2, .int .i64 m3, .int .i64 m4, .int .i64 m5, .int .i64 m6, .int .i64 m7, .int .i64 m8] 34)).alloc (.cells #[.int .i64 R, .int .i64 C, .int .i64 lim, .int .i64 mar] 36)).alloc (.cells #[.int .i64 0, .int .i64 0, .slice none 0 0] 41)).heap.size = w.heap.size + 1 + 1 + 1 + 1 := by simp
  have hHE : Own (((((w.alloc (.cells #[.int .i64 PR, .int .i64 PC, .slice A n cp] 32)).alloc (.cells #[.int .i64 m0, .int .i64 m1, .int .i64 m2, .int .i64 m3, .int .i64 m4, .int .i64 m5, .int .i64 m6, .int .i64 m7, .int .i64 m8] 34)).alloc (.cells #[.int .i64 R, .int .i64 C, .int .i64 lim, .int .i64 mar] 36)).alloc (.cells #[.int .i64 0, .int .i64 0, .slice none 0 0] 41)).alloc (.cells #[] 2)) ((((w.alloc (.cells #[.int .i64 PR, .int .i64 PC, .slice A n cp] 32)).alloc (.cells #[.int .i64 m0, .int .i64 m1, .int .i64 m2, .int .i64 m3, .int .i64 m4, .int .i64 m5, .int .i64 m6, .int .i64 m7, .int .i64 m8] 34)).alloc (.cells #[.int .i64 R, .int .i64 C, .int .i64 lim, .int .i64 mar] 36)).alloc (.cells #[.int .i64 0, .int .i64 0, .slice none 0 0] 41)).heap.size (.slice (some ⟨((((w.alloc (.cells #[.int .i64 PR, .int .i64 PC, .slice A n cp] 32)).alloc (.cells #[.int .i64 m0, .int .i64 m1, .int .i64 m2, .int .i64 m3, .int .i64 m4, .int .i64 m5, .int .i64 m6, .int .i64 m7, .int .i64 m8] 34)).alloc (.cells #[.int .i64 R, .int .i64 C, .int .i64 lim, .int .i64 mar] 36)).alloc (.cells #[.int .i64 0, .int .i64 0, .slice none 0 0] 41)).heap.size, 0, none⟩) 0 0) [] := by
    have := World.ownsRow_made (e := 2) (size := 1) (base := ((((w.alloc (.cells #[.int .i64 PR, .int .i64 PC, .slice A n cp] 32)).alloc (.cells #[.int .i64 m0, .int .i64 m1, .int .i64 m2, .int .i64 m3, .int .i64 m4, .int .i64 m5, .int .i64 m6, .int .i64 m7, .int .i64 m8] 34)).alloc (.cells #[.int .i64 R, .int .i64 C, .int .i64 lim, .int .i64 mar] 36)).alloc (.cells #[.int .i64 0, .int .i64 0, .slice none 0 0] 41)).heap.size) ((((w.alloc (.cells #[.int .i64 PR, .int .i64 PC, .slice A n cp] 32)).alloc (.cells #[.int .i64 m0, .int .i64 m1, .int .i64 m2, .int .i64 m3, .int .i64 m4, .int .i64 m5, .int .i64 m6, .int .i64 m7, .int .i64 m8] 34)).alloc (.cells #[.int .i64 R, .int .i64 C, .int .i64 lim, .int .i64 mar] 36)).alloc (.cells #[.int .i64 0, .int .i64 0, .slice none 0 0] 41)) #[] 0 (by simp) (by unfold maxLen; omega) rfl
    unfold Own
    simpa using this
  rw [hsz] at hHE
  have HE := Lib.hid hHE
  clear hHE
  have hW4 := HW.out
  obtain ⟨W4, hW4e⟩ : ∃ W, W = ((((w.alloc (.cells #[.int .i64 PR, .int .i64 PC, .slice A n cp] 32)).alloc (.cells #[.int .i64 m0, .int .i64 m1, .int .i64 m2, .int .i64 m3, .int .i64 m4, .int .i64 m5, .int .i64 m6, .int .i64 m7, .int .i64 m8] 34)).alloc (.cells #[.int .i64 R, .int .i64 C, .int .i64 lim, .int .i64 mar] 36)).alloc (.cells #[.int .i64 0, .int .i64 0, .slice none 0 0] 41)) := ⟨_, rfl⟩
  rw [← hW4e] at HW HX0 HR0 hsz HE hW4 ⊢
  clear hW4e hW4
  have hszW := hsz
  go_loopw [9, 10] (fun out row wr => ∃ k : Nat, k ≤ R ∧ row = .int .i64 k ∧ Hid (Own wr (w.heap.size + 1 + 1 + 1 + 1) out ((grdL R C f).take (k * C))) ∧ Hid (Below (w.heap.size + 1 + 1 + 1 + 1) W4 wr))
    (fun _ row _ => R - (intOf row).toNat)
  case atStart => exact ⟨0, Nat.zero_le _, rfl, Lib.hid (by simpa using HE.out), Lib.hid (by have := (Below.refl (w.heap.size + 1 + 1 + 1 + 1) W4).alloc (by omega) (.cells #[] 2); simpa using this)⟩
  case round =>
    obtain ⟨k, hk, rfl, hown0, hbel0⟩ := hrel
    obtain ⟨ya, yb, yc, yd, ye, yf, yg, yh, yi, yj, yk, yl, ym, yn, yo, yp⟩ := (HX0.out.below hbel0.out (by omega)).cells
    by_cases hlt : k < R
    · go_wp2_with fail
      go_loopw [9, 11] (fun out col wr => ∃ j : Nat, j ≤ C ∧ col = .int .i64 j ∧ Hid (Own wr (w.heap.size + 1 + 1 + 1 + 1) out ((grdL R C f).take (k * C + j))) ∧ Hid (Below (w.heap.size + 1 + 1 + 1 + 1) W4 wr))
        (fun _ col _ => C - (intOf col).toNat)
      case atStart => exact ⟨0, Nat.zero_le _, rfl, hown0, hbel0⟩
      case round =>
        clear ya yb yc yd ye yf yg yh yi yj yk yl ym yn yo yp
        rename World => wo
        obtain ⟨j, hj, rfl, hown, hbel⟩ := hrel
        obtain ⟨ya, yb, yc, yd, ye, yf, yg, yh, yi, yj, yk, yl, ym, yn, yo, yp⟩ := (HX0.out.below hbel.out (by omega)).cells
        by_cases hlt2 : j < C
        · have hszo := hbel.out.size
          have hBo : Below w.heap.size w wo := HW.out.trans (hbel.out.mono (by omega))
          have HBo := Lib.hid hBo
          have hst := grdL_nth (f := f) hlt hlt2
          have hlen : k * C + j < (grdL R C f).length := by rw [grdL_len]; exact cell_lt2 hlt hlt2
          have htk := take_nth hlen
          rw [hst, HFV.out k j] at htk
          have HT0 := Lib.hid htk
          have HL : Hid (((grdL R C f).take (k * C + j)).length ≤ 3500) := Lib.hid (by
            rw [List.length_take, hGl.out]; omega)
          have HFK := Lib.hid (fun l w' hl hb => HF.out k j l hlt hlt2 hl w' hb)
          have HXo := Lib.hid (HX0.out.below hbel.out (by omega))
          have HSl := Lib.hid (HSL.out k j)
          clear hst hlen htk hBo
          generalize SL k j = G at HFK HT0 HSl
          have hkL : k * L ≤ 24500 := Nat.mul_le_mul (show k ≤ 3500 by omega) hL7
          obtain ⟨X, hX⟩ : ∃ X : Nat, 2 * j + 1 = X := ⟨_, rfl⟩
          obtain ⟨RL, hRL⟩ : ∃ X : Nat, k * L = X := ⟨_, rfl⟩
          rw [hX, hRL] at HFK
          rw [hRL] at hkL
          have e1 : 2 * (j : Int) + 1 = (X : Int) := by omega
          have e3 : (k : Int) * (L : Int) = (RL : Int) := by rw [← hRL]; simp
          have hXb : X ≤ 7001 := by omega
          have HE1 : Hid (Own (wo.alloc (.cells #[] 2)) wo.heap.size (.slice (some ⟨wo.heap.size, 0, none⟩) 0 0) []) := Lib.hid (by
            have := World.ownsRow_made (e := 2) (size := 1) (base := wo.heap.size) wo #[] 0 (Nat.le_refl _) (by unfold maxLen; omega) rfl
            simpa [Own] using this)
          have hwz4 : w.heap.size + 1 + 1 < wo.heap.size := by omega
          clear hX hRL
          go_wp2_with fail
          clear ya yb yc yd ye yf yg yh yi yj yk yl ym yn yo yp
          go_loopw [12, 13] (fun lv q wr => ∃ l : Nat, l ≤ L ∧ q = .int .i64 l ∧ Hid (Own wr wo.heap.size lv (G.take l)) ∧ Hid (Below wo.heap.size wo wr))
            (fun _ q _ => L - (intOf q).toNat)
          case atStart => exact ⟨0, Nat.zero_le _, rfl, Lib.hid (by simpa using HE1.out), Lib.hid ((Below.refl _ _).alloc (Nat.le_refl _) _)⟩
          case round =>
            obtain ⟨l, hl, rfl, hownl, hbell⟩ := hrel
            have hszr := hbell.out.size
            by_cases hlt3 : l < L
            · obtain ⟨ya, yb, yc, yd, ye, yf, yg, yh, yi, yj, yk, yl, ym, yn, yo, yp⟩ := (HXo.out.below hbell.out (by omega)).cells
              have hBw : Below w.heap.size w wr := HBo.out.trans (hbell.out.mono (by omega))
              have htl := take_nth (xs := G) (k := l) (by rw [HSl.out]; exact hlt3)
              have HTL := Lib.hid htl
              have hll : (G.take l).length ≤ 7 := by rw [List.length_take]; omega
              have HLL := Lib.hid hll
              have HFl := Lib.hid (fun w' hb => HFK.out l w' hlt3 hb)
              clear htl hll
              generalize nth G l = V at *
              obtain ⟨Y, hY⟩ : ∃ Y : Nat, 2 * (RL + l) + 1 = Y := ⟨_, rfl⟩
              rw [hY] at HFl
              have e6 : 2 * ((RL : Int) + (l : Int)) + 1 = (Y : Int) := by omega
              have hYb : Y ≤ 50000 := by omega
              have hli : (l : Int) < (L : Int) := by omega
              clear hY
              go_wp2_with fail
              (go_at_call 82; go_call (HFl.out _ (by (repeat (first | (with_reducible assumption) | (with_reducible exact Below.refl _ _) | (with_reducible refine below_drewN' ?_ _) | (with_reducible refine Below.drew ?_) | ((with_reducible refine Below.alloc ?_ ?_ _); rotate_left; focus (first | (simp; done) | (simp; omega) | omega)) | ((with_reducible refine Below.setCell ?_ ?_ _); rotate_left; focus (first | (simp; done) | (simp; omega) | omega)))))) as e1 w1 ⟨rfl, hb1⟩; obtain ⟨hc1, hf1⟩ := bcell hb1; have hB1 : Below w.heap.size w w1 := (below_then (by first | (go_grown; done) | (repeat (first | (with_reducible assumption) | (with_reducible exact Below.refl _ _) | (with_reducible refine below_drewN' ?_ _) | (with_reducible refine Below.drew ?_) | ((with_reducible refine Below.alloc ?_ ?_ _); rotate_left; focus (first | (simp; done) | (simp; omega) | omega)) | ((with_reducible refine Below.setCell ?_ ?_ _); rotate_left; focus (first | (simp; done) | (simp; omega) | omega))))) (by first | omega | (simp; done) | (simp; omega)) hb1); have hz1a : w.heap.size < w1.heap.size := (by have := hb1.size; first | omega | (simp at this; omega)))
              have ho1 := Lib.hid (hownl.out.keep hb1)
              have hs1 : Hid (wo.heap.size ≤ w1.heap.size) := Lib.hid (by have := hb1.size; omega)
              have hBe : Hid (Below wo.heap.size wo w1) := Lib.hid (hbell.out.trans (hb1.mono (by omega)))
              clear hc1 hf1 hb1 hB1 hBw ya yb yc yd ye yf yg yh yi yj yk yl ym yn yo yp
              have hLL := HLL.out
              go_wp2_with (at_builtin; refine wpList_append_own _ rfl _ _ 22 rfl (wo.heap.size) 2 i0 (.int .i64 0) 1 8 Try.underlying22 HI.out.2.1 HI.out.2.2.1 HI.out.2.2.2.1 HI.out.2.2.2.2 rfl (by decide) _ _ _ rfl (Own.alloc ho1.out _) ⟨w1.heap.size, 0, none⟩ 1 1 [.int .i64 (V)] rfl rfl (cell_one_new _ _ _) (one_ok _) (own_max ho1.out (by omega)) (own_bytes ho1.out (by omega)) (own_base hs1.out) ?_; intro va wa howna hgrowa _; have hoa := Lib.hid (Own.snoc howna); have hga := Lib.hid hgrowa; clear howna hgrowa)
              go_roundw
              case rel => exact ⟨l + 1, by omega, by go_num, Lib.hid (by have := hoa.out; rw [← HTL.out] at this; exact this), Lib.hid (Own.below_grown ho1.out hBe.out hs1.out hga.out)⟩
              case measure => simp [intOf]; omega
            · have hli : ¬ ((l : Int) < (L : Int)) := by omega
              have hlL : l = L := by omega
              have hGf := hownl.out
              rw [List.take_of_length_le (by rw [HSl.out]; omega)] at hGf
              obtain ⟨A9, c9, rfl, hr9⟩ := hGf.shape
              have HR9 := Lib.hid hr9
              have hG9 : G.length ≤ 1000 := by rw [HSl.out]; omega
              have ho1 := Lib.hid (hown.out.keep hbell.out)
              have hs1 : Hid (w.heap.size + 1 + 1 + 1 + 1 ≤ wr.heap.size) := Lib.hid (by omega)
              have hBe : Hid (Below (w.heap.size + 1 + 1 + 1 + 1) W4 wr) := Lib.hid (hbel.out.trans (hbell.out.mono (by omega)))
              have hLL := HL.out
              clear hGf hr9 hlL
              go_wp2_with first | (go_at_call 87; with_reducible refine (l26Vote_any A9 G.length c9 G _ _ HR9.out hG9).mono ?_; rintro e9 w9 ⟨rfl, rfl⟩) | (at_builtin; refine wpList_append_own _ rfl _ _ 22 rfl (w.heap.size + 1 + 1 + 1 + 1) 2 i0 (.int .i64 0) 1 8 Try.underlying22 HI.out.2.1 HI.out.2.2.1 HI.out.2.2.2.1 HI.out.2.2.2.2 rfl (by decide) _ _ _ rfl (Own.alloc ho1.out _) ⟨wr.heap.size, 0, none⟩ 1 1 [.int .i64 ((voteV G))] rfl rfl (cell_one_new _ _ _) (one_ok _) (own_max ho1.out (by omega)) (own_bytes ho1.out (by omega)) (own_base hs1.out) ?_; intro va wa howna hgrowa _; have hoa := Lib.hid (Own.snoc howna); have hga := Lib.hid hgrowa; clear howna hgrowa)
              go_roundw
              case rel => exact ⟨j + 1, by omega, by go_num, Lib.hid (by have := hoa.out; rw [← HT0.out] at this; exact this), Lib.hid (Own.below_grown ho1.out hBe.out hs1.out hga.out)⟩
              case measure => simp [intOf]; omega
        · have hjn : j = C := by omega
          subst hjn
          go_wp2_with fail
          go_roundw
          case rel => exact ⟨k + 1, by omega, by go_num, Lib.hid (by have := hown.out; rwa [show k * j + j = (k + 1) * j from by rw [Nat.add_mul, Nat.one_mul]] at this), hbel⟩
          case measure => simp [intOf]; omega
    · have hkn : k = R := by omega
      subst hkn
      have hfin := hown0.out
      rw [List.take_of_length_le (by rw [grdL_len]; exact Nat.le_refl _)] at hfin
      obtain ⟨A', c', hv, hr'⟩ := hfin.shape
      subst hv
      have HFN := Lib.hid hfin
      clear hfin hr'
      have hR1 : wr.heap[w.heap.size + 1 + 1 + 1]? = some (.cells #[.int .i64 0, .int .i64 0, .slice none 0 0] 41 (0, 0)) := blk_below HR0.out hbel0.out (by omega)
      obtain ⟨z0, z1, z2, zf⟩ := blk3 hR1
      obtain ⟨s0, s1, s2⟩ := res3 hR1 (.int .i64 (k : Int)) (.int .i64 (C : Int)) (.slice A' (grdL k C f).length c')
      clear hR1
      have HBW : Hid (Below w.heap.size w wr) := Lib.hid (HW.out.trans (hbel0.out.mono (by omega)))
      go_wp2_with fail
      (try simp only [Exit.inBlock, Exit.then]); refine bodyPost_ret (by simp [results, Try.results55, go_sem, s0, s1, s2]; try rfl) rfl ?_
      exact ⟨_, rfl, ((((HFN.out.setLt (Nat.lt_succ_self _) _).setLt (Nat.lt_succ_self _) _).setLt (Nat.lt_succ_self _) _)).more (by omega), ((HBW.out.setCell (show w.heap.size ≤ w.heap.size + 1 + 1 + 1 by omega) _).setCell (show w.heap.size ≤ w.heap.size + 1 + 1 + 1 by omega) _).setCell (show w.heap.size ≤ w.heap.size + 1 + 1 + 1 by omega) _⟩
end Go.Proofs.Ytflpllmbpfdnjaa
