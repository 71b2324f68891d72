/-
  Grids that are told by a function of row and column; the reference's grid of all middles. Printed by gen/l26map.py.
-/
import Derived.Test.YtflpllmbpfdnjaaC26M
import Derived.Test.YtflpllmbpfdnjaaFix
import Derived.Test.YtflpllmbpfdnjaaArgG
namespace Go.Proofs.Ytflpllmbpfdnjaa
set_option linter.unusedSimpArgs false
open Go.RowKit

/-- The cells of a grid, row by row. -/
def grdL (R C : Nat) (f : Nat → Nat → Int) : List Int := (List.range (R * C)).map fun i => f (i / C) (i % C)
theorem grdL_len (R C : Nat) (f : Nat → Nat → Int) : (grdL R C f).length = R * C := by simp [grdL]
theorem cell_lt2 {R C r c : Nat} (hr : r < R) (hc : c < C) : r * C + c < R * C := by
  have := Nat.mul_le_mul_right C (show r + 1 ≤ R by omega)
  rw [Nat.add_mul] at this
  omega
theorem cell_div2 {N r c : Nat} (hc : c < N) : (r * N + c) / N = r ∧ (r * N + c) % N = c := by
  constructor
  · rw [Nat.add_comm, Nat.add_mul_div_right _ _ (by omega), Nat.div_eq_of_lt hc, Nat.zero_add]
  · rw [Nat.add_comm, Nat.add_mul_mod_self_right, Nat.mod_eq_of_lt hc]
theorem grdL_nth {R C r c : Nat} {f : Nat → Nat → Int} (hr : r < R) (hc : c < C) : nth (grdL R C f) (r * C + c) = f r c := by
  have h := cell_lt2 hr hc
  rw [nth_lt (by rw [grdL_len]; exact h)]
  simp only [grdL, List.getElem_map, List.getElem_range, (cell_div2 hc).1, (cell_div2 hc).2]
/-- The boxes of a raster, a map and a sampling. -/
def BxG (g : Nat) (r c : Int) (A : Option Addr) (n cp : Nat) (m0 m1 m2 m3 m4 m5 m6 m7 m8 : Int) (R C lim mar : Int) (t1 t2 t3 : Nat) (w : World) : Prop :=
  w.heap[g]? = some (.cells #[.int .i64 r, .int .i64 c, .slice A n cp] t1 (0, 0)) ∧ w.heap[g + 1]? = some (.cells #[.int .i64 m0, .int .i64 m1, .int .i64 m2, .int .i64 m3, .int .i64 m4, .int .i64 m5, .int .i64 m6, .int .i64 m7, .int .i64 m8] t2 (0, 0)) ∧ w.heap[g + 1 + 1]? = some (.cells #[.int .i64 R, .int .i64 C, .int .i64 lim, .int .i64 mar] t3 (0, 0))
theorem BxG.below {g : Nat} {r c : Int} {A : Option Addr} {n cp : Nat} {m0 m1 m2 m3 m4 m5 m6 m7 m8 R C lim mar : Int} {t1 t2 t3 : Nat} {w1 w2 : World} {B : Nat} (h : BxG g r c A n cp m0 m1 m2 m3 m4 m5 m6 m7 m8 R C lim mar t1 t2 t3 w1) (hb : Below B w1 w2) (hB : g + 1 + 1 < B) : BxG g r c A n cp m0 m1 m2 m3 m4 m5 m6 m7 m8 R C lim mar t1 t2 t3 w2 :=
  ⟨blk_below h.1 hb (by omega), blk_below h.2.1 hb (by omega), blk_below h.2.2 hb hB⟩
theorem BxG.cells {g : Nat} {r c : Int} {A : Option Addr} {n cp : Nat} {m0 m1 m2 m3 m4 m5 m6 m7 m8 R C lim mar : Int} {t1 t2 t3 : Nat} {w' : World} (h : BxG g r c A n cp m0 m1 m2 m3 m4 m5 m6 m7 m8 R C lim mar t1 t2 t3 w') : w'.cell? ⟨g, 0, none⟩ = some (.int .i64 r) ∧ w'.cell? ⟨g, 1, none⟩ = some (.int .i64 c) ∧ w'.cell? ⟨g, 2, none⟩ = some (.slice A n cp) ∧ w'.cell? ⟨g + 1, 0, none⟩ = some (.int .i64 m0) ∧ w'.cell? ⟨g + 1, 1, none⟩ = some (.int .i64 m1) ∧ w'.cell? ⟨g + 1, 2, none⟩ = some (.int .i64 m2) ∧ w'.cell? ⟨g + 1, 3, none⟩ = some (.int .i64 m3) ∧ w'.cell? ⟨g + 1, 4, none⟩ = some (.int .i64 m4) ∧ w'.cell? ⟨g + 1, 5, none⟩ = some (.int .i64 m5) ∧ w'.cell? ⟨g + 1, 6, none⟩ = some (.int .i64 m6) ∧ w'.cell? ⟨g + 1, 7, none⟩ = some (.int .i64 m7) ∧ w'.cell? ⟨g + 1, 8, none⟩ = some (.int .i64 m8) ∧ w'.cell? ⟨g + 1 + 1, 0, none⟩ = some (.int .i64 R) ∧ w'.cell? ⟨g + 1 + 1, 1, none⟩ = some (.int .i64 C) ∧ w'.cell? ⟨g + 1 + 1, 2, none⟩ = some (.int .i64 lim) ∧ w'.cell? ⟨g + 1 + 1, 3, none⟩ = some (.int .i64 mar) := by
  obtain ⟨a0, a1, a2, -⟩ := blk3 h.1
  obtain ⟨b0, b1, b2, b3, b4, b5, b6, b7, b8, -⟩ := blk9 h.2.1
  obtain ⟨c0, c1, c2, c3, -⟩ := blk4 h.2.2
  exact ⟨a0, a1, a2, b0, b1, b2, b3, b4, b5, b6, b7, b8, c0, c1, c2, c3⟩
set_option maxRecDepth 20000 in
set_option maxHeartbeats 4000000 in
theorem l26Map_any (PR PC : Nat) (A : Option Addr) (n cp : Nat) (xs : List Int) (m0 m1 m2 m3 m4 m5 m6 m7 m8 : Int) (R C : Nat) (lim mar : Int) (w : World) (B : Nat) (hr : RI w B A n xs) (hB : B ≤ w.heap.size) (hn : n = PR * PC) (hn2 : PR * PC ≤ 40000) (hPR : PR ≤ 400) (hPC : PC ≤ 400) (hxs : ∀ k, k < n → 0 ≤ nth xs k ∧ nth xs k ≤ 255)
    (hmap : isMapB [m0, m1, m2, m3, m4, m5, m6, m7, m8] = true) (hlim : 0 ≤ lim ∧ lim ≤ 256) (hmar : 0 ≤ mar ∧ mar ≤ 256) (hR : R ≤ 3500) (hC : C ≤ 3500) (hRC : R * C ≤ 3500) :
    Calls Try.prog 51 #[.agg #[.int .i64 PR, .int .i64 PC, .slice A n cp], .agg #[.int .i64 m0, .int .i64 m1, .int .i64 m2, .int .i64 m3, .int .i64 m4, .int .i64 m5, .int .i64 m6, .int .i64 m7, .int .i64 m8], .agg #[.int .i64 R, .int .i64 C, .int .i64 lim, .int .i64 mar]] w fun e w' => ∃ v, e = .returned (.agg #[.int .i64 R, .int .i64 C, v]) ∧ Own w' w.heap.size v (grdL R C (fun r c => samV PR PC xs m0 m1 m2 m3 m4 m5 m6 m7 m8 R C lim mar r c)) ∧ Below w.heap.size w w' := by
  obtain ⟨i0, hi⟩ := info_own' info_i64s
  have HI := Lib.hid (And.intro i0.bytes.le_refl hi)
  clear hi
  have HMD := Lib.hid (fun (r c : Nat) (h1 : r < R) (h2 : c < C) (w' : World) (hb : Below w.heap.size w w') => l26Middle_any PR PC A n cp xs m0 m1 m2 m3 m4 m5 m6 m7 m8 R C lim mar r c w' w.heap.size ((hr.more hB).below hb) hb.size hn hn2 hPR hPC hxs hmap hlim hmar hR hC hRC h1 h2)
  obtain ⟨f, hf⟩ : ∃ f : Nat → Nat → Int, f = fun r c => samV PR PC xs m0 m1 m2 m3 m4 m5 m6 m7 m8 R C lim mar r c := ⟨_, rfl⟩
  have HF : Hid (∀ r c : Nat, r < R → c < C → ∀ w', Below w.heap.size w w' → Calls Try.prog 45 #[.agg #[.int .i64 PR, .int .i64 PC, .slice A n cp], .agg #[.int .i64 m0, .int .i64 m1, .int .i64 m2, .int .i64 m3, .int .i64 m4, .int .i64 m5, .int .i64 m6, .int .i64 m7, .int .i64 m8], .agg #[.int .i64 R, .int .i64 C, .int .i64 lim, .int .i64 mar], .int .i64 r, .int .i64 c] w' fun e w'' => e = .returned (.int .i64 (f r c)) ∧ Below w'.heap.size w' w'') := Lib.hid (by rw [hf]; exact HMD.out)
  rw [← hf]
  clear hf HMD hr hxs hmap hn
  obtain ⟨N, hN⟩ : ∃ N, N = R * C := ⟨_, rfl⟩
  have HN := Lib.hid hN
  have hNb : N ≤ 3500 := by omega
  have hGl : Hid ((grdL R C f).length = N) := Lib.hid ((grdL_len R C f).trans hN.symm)
  clear hN hRC
  go_enter Try.func51, Try.ntmps51
  go_wp2_with fail
  have HW : Hid (Below w.heap.size w ((((w.alloc (.cells #[.int .i64 PR, .int .i64 PC, .slice A n cp] 32)).alloc (.cells #[.int .i64 m0, .int .i64 m1, .int .i64 m2, .int .i64 m3, .int .i64 m4, .int .i64 m5, .int .i64 m6, .int .i64 m7, .int .i64 m8] 34)).alloc (.cells #[.int .i64 R, .int .i64 C, .int .i64 lim, .int .i64 mar] 36)).alloc (.cells #[.int .i64 0, .int .i64 0, .slice none 0 0] 41))) := Lib.hid (by go_grown)
  have HX0 : Hid (BxG w.heap.size PR PC A n cp m0 m1 m2 m3 m4 m5 m6 m7 m8 R C lim mar 32 34 36 ((((w.alloc (.cells #[.int .i64 PR, .int .i64 PC, .slice A n cp] 32)).alloc (.cells #[.int .i64 m0, .int .i64 m1, .int .i64 m2, .int .i64 m3, .int .i64 m4, .int .i64 m5, .int .i64 m6, .int .i64 m7, .int .i64 m8] 34)).alloc (.cells #[.int .i64 R, .int .i64 C, .int .i64 lim, .int .i64 mar] 36)).alloc (.cells #[.int .i64 0, .int .i64 0, .slice none 0 0] 41))) := Lib.hid ⟨blk_alloc (blk_alloc (blk_alloc (heap_alloc_new _ _) (by simp)) (by simp; try omega)) (by simp; try omega), blk_alloc (blk_alloc (heap_alloc_at (by simp)) (by simp; try omega)) (by simp; try omega), blk_alloc (heap_alloc_at (by simp)) (by simp; try omega)⟩
  have HR0 : Hid (((((w.alloc (.cells #[.int .i64 PR, .int .i64 PC, .slice A n cp] 32)).alloc (.cells #[.int .i64 m0, .int .i64 m1, .int .i64 m2, .int .i64 m3, .int .i64 m4, .int .i64 m5, .int .i64 m6, .int .i64 m7, .int .i64 m8] 34)).alloc (.cells #[.int .i64 R, .int .i64 C, .int .i64 lim, .int .i64 mar] 36)).alloc (.cells #[.int .i64 0, .int .i64 0, .slice none 0 0] 41)).heap[w.heap.size + 1 + 1 + 1]? = some (.cells #[.int .i64 0, .int .i64 0, .slice none 0 0] 41 (0, 0))) := Lib.hid (heap_alloc_at (by simp))
  have hsz : ((((w.alloc (.cells #[.int .i64 PR, .int .i64 PC, .slice A n cp] 32)).alloc (.cells #[.int .i64 m0, .int .i64 m1, .int .i64 m2, .int .i64 m3, .int .i64 m4, .int .i64 m5, .int .i64 m6, .int .i64 m7, .int .i64 m8] 34)).alloc (.cells #[.int .i64 R, .int .i64 C, .int .i64 lim, .int .i64 mar] 36)).alloc (.cells #[.int .i64 0, .int .i64 0, .slice none 0 0] 41)).heap.size = w.heap.size + 1 + 1 + 1 + 1 := by simp
  have hHE : Own (((((w.alloc (.cells #[.int .i64 PR, .int .i64 PC, .slice A n cp] 32)).alloc (.cells #[.int .i64 m0, .int .i64 m1, .int .i64 m2, .int .i64 m3, .int .i64 m4, .int .i64 m5, .int .i64 m6, .int .i64 m7, .int .i64 m8] 34)).alloc (.cells #[.int .i64 R, .int .i64 C, .int .i64 lim, .int .i64 mar] 36)).alloc (.cells #[.int .i64 0, .int .i64 0, .slice none 0 0] 41)).alloc (.cells #[] 2)) ((((w.alloc (.cells #[.int .i64 PR, .int .i64 PC, .slice A n cp] 32)).alloc (.cells #[.int .i64 m0, .int .i64 m1, .int .i64 m2, .int .i64 m3, .int .i64 m4, .int .i64 m5, .int .i64 m6, .int .i64 m7, .int .i64 m8] 34)).alloc (.cells #[.int .i64 R, .int .i64 C, .int .i64 lim, .int .i64 mar] 36)).alloc (.cells #[.int .i64 0, .int .i64 0, .slice none 0 0] 41)).heap.size (.slice (some ⟨((((w.alloc (.cells #[.int .i64 PR, .int .i64 PC, .slice A n cp] 32)).alloc (.cells #[.int .i64 m0, .int .i64 m1, .int .i64 m2, .int .i64 m3, .int .i64 m4, .int .i64 m5, .int .i64 m6, .int .i64 m7, .int .i64 m8] 34)).alloc (.cells #[.int .i64 R, .int .i64 C, .int .i64 lim, .int .i64 mar] 36)).alloc (.cells #[.int .i64 0, .int .i64 0, .slice none 0 0] 41)).heap.size, 0, none⟩) 0 0) [] := by
    have := World.ownsRow_made (e := 2) (size := 1) (base := ((((w.alloc (.cells #[.int .i64 PR, .int .i64 PC, .slice A n cp] 32)).alloc (.cells #[.int .i64 m0, .int .i64 m1, .int .i64 m2, .int .i64 m3, .int .i64 m4, .int .i64 m5, .int .i64 m6, .int .i64 m7, .int .i64 m8] 34)).alloc (.cells #[.int .i64 R, .int .i64 C, .int .i64 lim, .int .i64 mar] 36)).alloc (.cells #[.int .i64 0, .int .i64 0, .slice none 0 0] 41)).heap.size) ((((w.alloc (.cells #[.int .i64 PR, .int .i64 PC, .slice A n cp] 32)).alloc (.cells #[.int .i64 m0, .int .i64 m1, .int .i64 m2, .int .i64 m3, .int .i64 m4, .int .i64 m5, .int .i64 m6, .int .i64 m7, .int .i64 m8] 34)).alloc (.cells #[.int .i64 R, .int .i64 C, .int .i64 lim, .int .i64 mar] 36)).alloc (.cells #[.int .i64 0, .int .i64 0, .slice none 0 0] 41)) #[] 0 (by simp) (by unfold maxLen; omega) rfl
    unfold Own
    simpa using this
  rw [hsz] at hHE
  have HE := Lib.hid hHE
  clear hHE
  have hW4 := HW.out
  obtain ⟨W4, hW4e⟩ : ∃ W, W = ((((w.alloc (.cells #[.int .i64 PR, .int .i64 PC, .slice A n cp] 32)).alloc (.cells #[.int .i64 m0, .int .i64 m1, .int .i64 m2, .int .i64 m3, .int .i64 m4, .int .i64 m5, .int .i64 m6, .int .i64 m7, .int .i64 m8] 34)).alloc (.cells #[.int .i64 R, .int .i64 C, .int .i64 lim, .int .i64 mar] 36)).alloc (.cells #[.int .i64 0, .int .i64 0, .slice none 0 0] 41)) := ⟨_, rfl⟩
  rw [← hW4e] at HW HX0 HR0 hsz HE hW4 ⊢
  clear hW4e hW4
  have hszW := hsz
  go_loopw [7, 8] (fun out row wr => ∃ k : Nat, k ≤ R ∧ row = .int .i64 k ∧ Hid (Own wr (w.heap.size + 1 + 1 + 1 + 1) out ((grdL R C f).take (k * C))) ∧ Hid (Below (w.heap.size + 1 + 1 + 1 + 1) W4 wr))
    (fun _ row _ => R - (intOf row).toNat)
  case atStart => exact ⟨0, Nat.zero_le _, rfl, Lib.hid (by simpa using HE.out), Lib.hid (by have := (Below.refl (w.heap.size + 1 + 1 + 1 + 1) W4).alloc (by omega) (.cells #[] 2); simpa using this)⟩
  case round =>
    obtain ⟨k, hk, rfl, hown0, hbel0⟩ := hrel
    obtain ⟨ya, yb, yc, yd, ye, yf, yg, yh, yi, yj, yk, yl, ym, yn, yo, yp⟩ := (HX0.out.below hbel0.out (by omega)).cells
    by_cases hlt : k < R
    · go_wp2_with fail
      go_loopw [7, 9] (fun out col wr => ∃ j : Nat, j ≤ C ∧ col = .int .i64 j ∧ Hid (Own wr (w.heap.size + 1 + 1 + 1 + 1) out ((grdL R C f).take (k * C + j))) ∧ Hid (Below (w.heap.size + 1 + 1 + 1 + 1) W4 wr))
        (fun _ col _ => C - (intOf col).toNat)
      case atStart => exact ⟨0, Nat.zero_le _, rfl, hown0, hbel0⟩
      case round =>
        clear ya yb yc yd ye yf yg yh yi yj yk yl ym yn yo yp
        obtain ⟨j, hj, rfl, hown, hbel⟩ := hrel
        obtain ⟨ya, yb, yc, yd, ye, yf, yg, yh, yi, yj, yk, yl, ym, yn, yo, yp⟩ := (HX0.out.below hbel.out (by omega)).cells
        by_cases hlt2 : j < C
        · have hszr := hbel.out.size
          have hBw : Below w.heap.size w wr := HW.out.trans (hbel.out.mono (by omega))
          have hst := grdL_nth (f := f) hlt hlt2
          have hlen : k * C + j < (grdL R C f).length := by rw [grdL_len]; exact cell_lt2 hlt hlt2
          have htk := take_nth hlen
          rw [hst] at htk
          have HT := Lib.hid htk
          have HL : Hid (((grdL R C f).take (k * C + j)).length ≤ 3500) := Lib.hid (by
            rw [List.length_take, hGl.out]; omega)
          clear hst hlen htk
          have HFK := Lib.hid (fun w' hb => HF.out k j hlt hlt2 w' hb)
          generalize f k j = V at HFK HT
          go_wp2_with fail
          (go_at_call 45; go_call (HFK.out _ (by (repeat (first | (with_reducible assumption) | (with_reducible exact Below.refl _ _) | (with_reducible refine below_drewN' ?_ _) | (with_reducible refine Below.drew ?_) | ((with_reducible refine Below.alloc ?_ ?_ _); rotate_left; focus (first | (simp; done) | (simp; omega) | omega)) | ((with_reducible refine Below.setCell ?_ ?_ _); rotate_left; focus (first | (simp; done) | (simp; omega) | omega)))))) as e1 w1 ⟨rfl, hb1⟩; obtain ⟨hc1, hf1⟩ := bcell hb1; have hB1 : Below w.heap.size w w1 := (below_then (by first | (go_grown; done) | (repeat (first | (with_reducible assumption) | (with_reducible exact Below.refl _ _) | (with_reducible refine below_drewN' ?_ _) | (with_reducible refine Below.drew ?_) | ((with_reducible refine Below.alloc ?_ ?_ _); rotate_left; focus (first | (simp; done) | (simp; omega) | omega)) | ((with_reducible refine Below.setCell ?_ ?_ _); rotate_left; focus (first | (simp; done) | (simp; omega) | omega))))) (by first | omega | (simp; done) | (simp; omega)) hb1); have hz1a : w.heap.size < w1.heap.size := (by have := hb1.size; first | omega | (simp at this; omega)))
          have ho1 := Lib.hid (hown.out.keep hb1)
          have hs1 : Hid (w.heap.size + 1 + 1 + 1 + 1 ≤ w1.heap.size) := Lib.hid (by have := hb1.size; omega)
          have hBe : Hid (Below (w.heap.size + 1 + 1 + 1 + 1) W4 w1) := Lib.hid (hbel.out.trans (hb1.mono (by omega)))
          clear hc1 hf1 hb1 hB1 hBw ya yb yc yd ye yf yg yh yi yj yk yl ym yn yo yp
          have hLL := HL.out
          go_wp2_with (at_builtin; refine wpList_append_own _ rfl _ _ 22 rfl (w.heap.size + 1 + 1 + 1 + 1) 2 i0 (.int .i64 0) 1 8 Try.underlying22 HI.out.2.1 HI.out.2.2.1 HI.out.2.2.2.1 HI.out.2.2.2.2 rfl (by decide) _ _ _ rfl (Own.alloc ho1.out _) ⟨w1.heap.size, 0, none⟩ 1 1 [.int .i64 (V)] rfl rfl (cell_one_new _ _ _) (one_ok _) (own_max ho1.out (by omega)) (own_bytes ho1.out (by omega)) (own_base hs1.out) ?_; intro va wa howna hgrowa _; have hoa := Lib.hid (Own.snoc howna); have hga := Lib.hid hgrowa; clear howna hgrowa)
          go_roundw
          case rel => exact ⟨j + 1, by omega, by go_num, Lib.hid (by have := hoa.out; rw [← HT.out] at this; exact this), Lib.hid (Own.below_grown ho1.out hBe.out hs1.out hga.out)⟩
          case measure => simp [intOf]; omega
        · have hjn : j = C := by omega
          subst hjn
          go_wp2_with fail
          go_roundw
          case rel => exact ⟨k + 1, by omega, by go_num, Lib.hid (by have := hown.out; rwa [show k * j + j = (k + 1) * j from by rw [Nat.add_mul, Nat.one_mul]] at this), hbel⟩
          case measure => simp [intOf]; omega
    · have hkn : k = R := by omega
      subst hkn
      have hfin := hown0.out
      rw [List.take_of_length_le (by rw [grdL_len]; exact Nat.le_refl _)] at hfin
      obtain ⟨A', c', hv, hr'⟩ := hfin.shape
      subst hv
      have HFN := Lib.hid hfin
      clear hfin hr'
      have hR1 : wr.heap[w.heap.size + 1 + 1 + 1]? = some (.cells #[.int .i64 0, .int .i64 0, .slice none 0 0] 41 (0, 0)) := blk_below HR0.out hbel0.out (by omega)
      obtain ⟨z0, z1, z2, zf⟩ := blk3 hR1
      obtain ⟨s0, s1, s2⟩ := res3 hR1 (.int .i64 (k : Int)) (.int .i64 (C : Int)) (.slice A' (grdL k C f).length c')
      clear hR1
      have HBW : Hid (Below w.heap.size w wr) := Lib.hid (HW.out.trans (hbel0.out.mono (by omega)))
      go_wp2_with fail
      (try simp only [Exit.inBlock, Exit.then]); refine bodyPost_ret (by simp [results, Try.results51, go_sem, s0, s1, s2]; try rfl) rfl ?_
      exact ⟨_, rfl, ((((HFN.out.setLt (Nat.lt_succ_self _) _).setLt (Nat.lt_succ_self _) _).setLt (Nat.lt_succ_self _) _)).more (by omega), ((HBW.out.setCell (show w.heap.size ≤ w.heap.size + 1 + 1 + 1 by omega) _).setCell (show w.heap.size ≤ w.heap.size + 1 + 1 + 1 by omega) _).setCell (show w.heap.size ≤ w.heap.size + 1 + 1 + 1 by omega) _⟩
end Go.Proofs.Ytflpllmbpfdnjaa
