/-
  What the laws of printing draw: grids. Printed by gen/drb.py.
-/
import Derived.Test.YtkipaefhnmfebaaBx
import Derived.Test.YtkipaefhnmfebaaLst
import Derived.Test.YtkipaefhnmfebaaToS
import Derived.Test.YtkipaefhnmfebaaC14B
import Derived.Deep.RegionHeld3
namespace Go.Proofs.Ytkipaefhnmfebaa
set_option linter.unusedSimpArgs false
open Go.RowKit

theorem pick_lit {W : World} {g t k : Nat} {cs : Array Value} {v : Value} (hh : W.heap[g]? = some (.cells cs t (0, 0))) (h : cs[k]? = some v) : W.cell? ⟨g, k, none⟩ = some v := (blk_cell hh k).trans h
theorem Own.bx {s : SP} {B : Nat} {v : Value} {xs : List Int} {w w' : World} (h : Own w B v xs) (hb : BX s w.heap.size w w') (hs : s.b < B) : Own w' B v xs := by
  refine ⟨h.1, ?_⟩
  rcases h.2 with h' | ⟨g, cap, cur, rfl, hB, hg, hr⟩
  · exact .inl h'
  · exact .inr ⟨g, cap, cur, rfl, hB, (hb.block g (lt_of_block hg) (by omega)).trans hg, hr⟩

theorem pick_in {xs : List Int} {lo hi : Int} (hx : allIn lo hi xs = true) {r : Int} (h0 : 0 ≤ r) (h1 : r < xs.length) : ∃ (R : Nat) (v : Int), r = R ∧ R < xs.length ∧ (xs.map (Value.int .i64)).toArray[R]? = some (.int .i64 v) ∧ lo ≤ v ∧ v ≤ hi := by
  obtain ⟨R, rfl⟩ := Int.eq_ofNat_of_zero_le h0
  have hR : R < xs.length := by omega
  have := allIn_nth hx hR
  exact ⟨R, nth xs R, rfl, hR, by simpa using nth_map xs R hR, this.1, this.2⟩

/-- What a grid that is drawn looks like. -/
def DGB (w : World) (B : Nat) (u : Value) : Prop := ∃ (r c : Int) (v : Value) (xs : List Int), u = .agg #[.int .i64 r, .int .i64 c, v] ∧ 1 ≤ xs.length ∧ xs.length ≤ 1700 ∧ Own w B v xs ∧ -2 ≤ r ∧ r ≤ 40001 ∧ -2 ≤ c ∧ c ≤ 40001
set_option maxRecDepth 20000 in
set_option maxHeartbeats 4000000 in
theorem l14DrawGrid_any (b : Nat) (A : Option Addr) (n c : Nat) (bs : List Int) (B : Nat) (w : World) (hI : (srcP 97 b A n c bs B).I w) :
    Calls Try.prog 64 #[.pointer (some ⟨b, 0, none⟩)] w fun e w' =>
      ∃ u, e = .returned u ∧ DGB w' w.heap.size u ∧ BX (srcP 97 b A n c bs B) w.heap.size w w' := by
  obtain ⟨i0, hi⟩ := info_own' info_i64s
  have HI0 := Lib.hid (And.intro i0.bytes.le_refl hi)
  have hbw := srcP_lt hI
  have hbw0 : b < w.heap.size + 1 := by omega
  have HI := Lib.hid hI
  clear hI hi
  go_enter Try.func64, Try.ntmps64
  go_wp2_with fail
  (go_at_call 62; with_reducible refine (draw_any b A n c bs B (6) _ (bxinv (B := w.heap.size) ?_ HI) (by omega)).mono ?_; (focus (repeat (first | (with_reducible assumption) | (with_reducible exact BX.refl _ _ _) | (with_reducible refine BX.drewN ?_ _) | (with_reducible refine BX.drew ?_) | ((with_reducible refine BX.alloc ?_ ?_ _); rotate_left; (focus (first | (simp; done) | omega | (simp; omega) | (simp [srcP]; done) | (simp [srcP]; omega)))) | ((with_reducible refine BX.setCell ?_ ?_ ?_ _); rotate_left; (focus (first | (simp; done) | omega | (simp; omega) | (simp [srcP]; done) | (simp [srcP]; omega))); (focus (first | (simp; done) | omega | (simp; omega) | (simp [srcP]; done) | (simp [srcP]; omega))))))); rintro e1 w1 ⟨u1, rfl, ⟨r1, rfl, hr1a, hr1b⟩, hb1⟩; have hB1 : BX (srcP 97 b A n c bs B) w.heap.size w w1 := BX.then (by (repeat (first | (with_reducible assumption) | (with_reducible exact BX.refl _ _ _) | (with_reducible refine BX.drewN ?_ _) | (with_reducible refine BX.drew ?_) | ((with_reducible refine BX.alloc ?_ ?_ _); rotate_left; (focus (first | (simp; done) | omega | (simp; omega) | (simp [srcP]; done) | (simp [srcP]; omega)))) | ((with_reducible refine BX.setCell ?_ ?_ ?_ _); rotate_left; (focus (first | (simp; done) | omega | (simp; omega) | (simp [srcP]; done) | (simp [srcP]; omega))); (focus (first | (simp; done) | omega | (simp; omega) | (simp [srcP]; done) | (simp [srcP]; omega))))))) (by first | omega | (simp; done) | (simp; omega)) hb1; have hc1 := bxcell hb1; have hf1 := bxfrozen hb1; simp only [srcP_b] at hc1 hf1; have hz1a : w.heap.size < w1.heap.size := (by have := hb1.size; first | omega | (simp at this; omega)))
  (have hh1 := Lib.hid (show w1.heap[w.heap.size]? = some (.cells #[.int .i64 0, .int .i64 0, .slice none 0 0] 41 (0, 0)) from (hb1.block (w.heap.size) (by first | omega | (simp; done) | (simp; omega) | (simp [srcP]; omega)) (by first | omega | (simp; done) | (simp; omega) | (simp [srcP]; omega))).trans (by repeat (first | (with_reducible exact rfl) | (with_reducible exact heap_alloc_new _ _) | (rw [heap_drew1]) | (rw [heap_drewN1]) | (rw [Below.heap_setCell _ _ _ _ (by first | omega | (simp; done) | (simp; omega) | (simp [srcP]; omega))]) | (rw [Below.heap_alloc _ _ _ (by first | omega | (simp; done) | (simp; omega) | (simp [srcP]; omega))])))))
  have hs1 := hb1.size
  simp only [World.size_alloc] at hs1
  have hbw1 : b < w1.heap.size := by omega
  clear hc1 hf1
  go_wp2_with fail
  (go_at_call 62; with_reducible refine (draw_any b A n c bs B (6) _ (bxinv (B := w.heap.size) ?_ HI) (by omega)).mono ?_; (focus (repeat (first | (with_reducible assumption) | (with_reducible exact BX.refl _ _ _) | (with_reducible refine BX.drewN ?_ _) | (with_reducible refine BX.drew ?_) | ((with_reducible refine BX.alloc ?_ ?_ _); rotate_left; (focus (first | (simp; done) | omega | (simp; omega) | (simp [srcP]; done) | (simp [srcP]; omega)))) | ((with_reducible refine BX.setCell ?_ ?_ ?_ _); rotate_left; (focus (first | (simp; done) | omega | (simp; omega) | (simp [srcP]; done) | (simp [srcP]; omega))); (focus (first | (simp; done) | omega | (simp; omega) | (simp [srcP]; done) | (simp [srcP]; omega))))))); rintro e2 w2 ⟨u2, rfl, ⟨r2, rfl, hr2a, hr2b⟩, hb2⟩; have hB2 : BX (srcP 97 b A n c bs B) w.heap.size w w2 := BX.then (by (repeat (first | (with_reducible assumption) | (with_reducible exact BX.refl _ _ _) | (with_reducible refine BX.drewN ?_ _) | (with_reducible refine BX.drew ?_) | ((with_reducible refine BX.alloc ?_ ?_ _); rotate_left; (focus (first | (simp; done) | omega | (simp; omega) | (simp [srcP]; done) | (simp [srcP]; omega)))) | ((with_reducible refine BX.setCell ?_ ?_ ?_ _); rotate_left; (focus (first | (simp; done) | omega | (simp; omega) | (simp [srcP]; done) | (simp [srcP]; omega))); (focus (first | (simp; done) | omega | (simp; omega) | (simp [srcP]; done) | (simp [srcP]; omega))))))) (by first | omega | (simp; done) | (simp; omega)) hb2; have hc2 := bxcell hb2; have hf2 := bxfrozen hb2; simp only [srcP_b] at hc2 hf2; have hz2a : w.heap.size < w2.heap.size := (by have := hb2.size; first | omega | (simp at this; omega)))
  (have hh2 := Lib.hid (show w2.heap[w.heap.size]? = some (.cells #[.int .i64 0, .int .i64 0, .slice none 0 0] 41 (0, 0)) from (hb2.block (w.heap.size) (by first | omega | (simp; done) | (simp; omega) | (simp [srcP]; omega)) (by first | omega | (simp; done) | (simp; omega) | (simp [srcP]; omega))).trans (by repeat (first | (with_reducible exact hh1.out) | (with_reducible exact heap_alloc_new _ _) | (rw [heap_drew1]) | (rw [heap_drewN1]) | (rw [Below.heap_setCell _ _ _ _ (by first | omega | (simp; done) | (simp; omega) | (simp [srcP]; omega))]) | (rw [Below.heap_alloc _ _ _ (by first | omega | (simp; done) | (simp; omega) | (simp [srcP]; omega))])))))
  have hs2 := hb2.size
  have hbw2 : b < w2.heap.size := by omega
  have hbw3 : b < w2.heap.size + 1 := by omega
  have hbw4 : b < w2.heap.size + 1 + 1 := by omega
  obtain ⟨P, hP, hP1, hP2⟩ : ∃ P : Nat, (1 + r1) * (1 + r2) = (P : Int) ∧ 1 ≤ P ∧ P ≤ 36 := by
    have h1 := mul_bd1 (a := 1 + r1) (b := 1 + r2) (by omega) (by omega)
    have h2 := mul_bd (a := 1 + r1) (b := 1 + r2) (A := 6) (B := 6) (by omega) (by omega) (by omega) (by omega)
    exact ⟨((1 + r1) * (1 + r2)).toNat, by omega, by omega, by omega⟩
  have HB2 := Lib.hid hB2
  have hh2' := hh2
  have HO3 : Hid (Own ((w2.alloc (.cells #[.int .i64 (1 + r1), .int .i64 (1 + r2), .slice none 0 0] 41)).alloc (.cells #[] 2)) (w2.heap.size + 1) (.slice (some ⟨w2.heap.size + 1, 0, none⟩) 0 0) []) := Lib.hid (by
    have := World.ownsRow_made (e := 2) (size := 1) (base := w2.heap.size + 1) (w2.alloc (.cells #[.int .i64 (1 + r1), .int .i64 (1 + r2), .slice none 0 0] 41)) #[] 0 (by simp) (by unfold maxLen; omega) rfl
    simpa [Own] using this)
  have HBA : Hid (BX (srcP 97 b A n c bs B) w.heap.size w ((w2.alloc (.cells #[.int .i64 (1 + r1), .int .i64 (1 + r2), .slice none 0 0] 41)).alloc (.cells #[] 2))) := Lib.hid ((hB2.alloc (by omega) _).alloc (by simp; omega) _)
  have HZA : Hid (((w2.alloc (.cells #[.int .i64 (1 + r1), .int .i64 (1 + r2), .slice none 0 0] 41)).alloc (.cells #[] 2)).heap[w.heap.size]? = some (.cells #[.int .i64 0, .int .i64 0, .slice none 0 0] 41 (0, 0))) := Lib.hid (blk_alloc (blk_alloc hh2.out (by omega)) (by simp; omega))
  have HGA : Hid (((w2.alloc (.cells #[.int .i64 (1 + r1), .int .i64 (1 + r2), .slice none 0 0] 41)).alloc (.cells #[] 2)).heap[w2.heap.size]? = some (.cells #[.int .i64 (1 + r1), .int .i64 (1 + r2), .slice none 0 0] 41 (0, 0))) := Lib.hid (blk_alloc (heap_alloc_new _ _) (by simp))
  have hwG : w.heap.size < w2.heap.size := by omega
  clear hc2 hf2 hb2 hB2 hb1 hB1
  go_wp2_with fail
  go_loopw [4, 5] (fun ov i wr => ∃ k : Nat, k ≤ P ∧ i = .int .i64 k ∧ Hid (∃ ys : List Int, ys.length = k ∧ Own wr (w2.heap.size + 1) ov ys) ∧ Hid (BX (srcP 97 b A n c bs B) w.heap.size w wr) ∧
      Hid (w2.heap.size + 1 ≤ wr.heap.size ∧ wr.heap[w.heap.size]? = some (.cells #[.int .i64 0, .int .i64 0, .slice none 0 0] 41 (0, 0)) ∧ wr.heap[w2.heap.size]? = some (.cells #[.int .i64 (1 + r1), .int .i64 (1 + r2), .slice none 0 0] 41 (0, 0))))
    (fun _ i _ => P - (intOf i).toNat)
  case atStart => exact ⟨0, Nat.zero_le _, rfl, Lib.hid ⟨[], rfl, HO3.out⟩, HBA, Lib.hid ⟨by simp, HZA.out, HGA.out⟩⟩
  case round =>
    rename World => wo
    obtain ⟨k, hk, rfl, hown, hbx, hsz⟩ := hrel
    obtain ⟨ys, hyl, hoy⟩ := hown.out
    have HOY := Lib.hid hoy
    have HYL := Lib.hid hyl
    have hBo := hbx.out
    have hso := hsz.out.1
    have HZo := Lib.hid hsz.out.2.1
    have HGo := Lib.hid hsz.out.2.2
    have hbo : b < wo.heap.size := by omega
    have hwo : w.heap.size < wo.heap.size := by omega
    obtain ⟨y0, y1, y2, yf⟩ := blk3 HGo.out
    clear hown hoy hyl hsz
    by_cases hkP : k < P
    · have hkP' : (k : Int) < P := by omega
      go_wp2_with fail
      (go_at_call 62; with_reducible refine (draw_any b A n c bs B (3) _ (bxinv (B := w.heap.size) ?_ HI) (by omega)).mono ?_; (focus (repeat (first | (with_reducible assumption) | (with_reducible exact BX.refl _ _ _) | (with_reducible refine BX.drewN ?_ _) | (with_reducible refine BX.drew ?_) | ((with_reducible refine BX.alloc ?_ ?_ _); rotate_left; (focus (first | (simp; done) | omega | (simp; omega) | (simp [srcP]; done) | (simp [srcP]; omega)))) | ((with_reducible refine BX.setCell ?_ ?_ ?_ _); rotate_left; (focus (first | (simp; done) | omega | (simp; omega) | (simp [srcP]; done) | (simp [srcP]; omega))); (focus (first | (simp; done) | omega | (simp; omega) | (simp [srcP]; done) | (simp [srcP]; omega))))))); rintro e4 w4 ⟨u4, rfl, ⟨r4, rfl, hr4a, hr4b⟩, hb4⟩; have hB4 : BX (srcP 97 b A n c bs B) w.heap.size w w4 := BX.then (by (repeat (first | (with_reducible assumption) | (with_reducible exact BX.refl _ _ _) | (with_reducible refine BX.drewN ?_ _) | (with_reducible refine BX.drew ?_) | ((with_reducible refine BX.alloc ?_ ?_ _); rotate_left; (focus (first | (simp; done) | omega | (simp; omega) | (simp [srcP]; done) | (simp [srcP]; omega)))) | ((with_reducible refine BX.setCell ?_ ?_ ?_ _); rotate_left; (focus (first | (simp; done) | omega | (simp; omega) | (simp [srcP]; done) | (simp [srcP]; omega))); (focus (first | (simp; done) | omega | (simp; omega) | (simp [srcP]; done) | (simp [srcP]; omega))))))) (by first | omega | (simp; done) | (simp; omega)) hb4; have hc4 := bxcell hb4; have hf4 := bxfrozen hb4; simp only [srcP_b] at hc4 hf4)
      have hs4 := hb4.size
      have HO4 := Lib.hid (HOY.out.bx hb4 (show b < w2.heap.size + 1 by omega))
      have hs4' : Hid (w2.heap.size + 1 ≤ w4.heap.size) := Lib.hid (by omega)
      (have hh4 := Lib.hid (show w4.heap[w.heap.size]? = some (.cells #[.int .i64 0, .int .i64 0, .slice none 0 0] 41 (0, 0)) from (hb4.block (w.heap.size) (by first | omega | (simp; done) | (simp; omega) | (simp [srcP]; omega)) (by first | omega | (simp; done) | (simp; omega) | (simp [srcP]; omega))).trans (by repeat (first | (with_reducible exact HZo.out) | (with_reducible exact heap_alloc_new _ _) | (rw [heap_drew1]) | (rw [heap_drewN1]) | (rw [Below.heap_setCell _ _ _ _ (by first | omega | (simp; done) | (simp; omega) | (simp [srcP]; omega))]) | (rw [Below.heap_alloc _ _ _ (by first | omega | (simp; done) | (simp; omega) | (simp [srcP]; omega))])))))
      (have hg4 := Lib.hid (show w4.heap[w2.heap.size]? = some (.cells #[.int .i64 (1 + r1), .int .i64 (1 + r2), .slice none 0 0] 41 (0, 0)) from (hb4.block (w2.heap.size) (by first | omega | (simp; done) | (simp; omega) | (simp [srcP]; omega)) (by first | omega | (simp; done) | (simp; omega) | (simp [srcP]; omega))).trans (by repeat (first | (with_reducible exact HGo.out) | (with_reducible exact heap_alloc_new _ _) | (rw [heap_drew1]) | (rw [heap_drewN1]) | (rw [Below.heap_setCell _ _ _ _ (by first | omega | (simp; done) | (simp; omega) | (simp [srcP]; omega))]) | (rw [Below.heap_alloc _ _ _ (by first | omega | (simp; done) | (simp; omega) | (simp [srcP]; omega))])))))
      have HI := HI0
      have hyl := HYL.out
      clear hc4 hf4 hb4 y0 y1 y2 yf
      go_wp2_with (at_builtin; refine wpList_append_own _ rfl _ _ 22 rfl ((w2.heap.size + 1)) 2 i0 (.int .i64 0) 1 8 Try.underlying22 HI.out.2.1 HI.out.2.2.1 HI.out.2.2.2.1 HI.out.2.2.2.2 rfl (by decide) _ _ _ rfl (Own.alloc HO4.out _) ⟨w4.heap.size, 0, none⟩ 1 1 [.int .i64 ((r4 - 1))] rfl rfl (cell_one_new _ _ _) (one_ok _) (own_max HO4.out (by omega)) (own_bytes HO4.out (by omega)) (own_base hs4'.out) ?_; intro va wa howna hgrowa _; have hoa := Lib.hid (Own.snoc howna); have hga := Lib.hid hgrowa; clear howna hgrowa)
      have hnb : ∀ j, j ≤ w2.heap.size → some j ≠ Value.ownBlock u4 := fun j hj e => by have := (World.ownsRow.lt HO4.out j e.symm).1; omega
      go_roundw
      case rel => exact ⟨k + 1, by omega, by go_num, Lib.hid ⟨ys ++ [r4 - 1], by simp [HYL.out], hoa.out⟩, Lib.hid ((BX.alloc hB4 (by omega) _).grown hga.out (by simp; omega) (fun j hj => by have := (World.ownsRow.lt HO4.out j hj).1; simp; omega)),
        Lib.hid ⟨by have := hga.out.size; simp at this; omega, (hga.out.block _ (by simp; omega) (hnb _ (by omega))).trans (blk_alloc hh4.out (by omega)), (hga.out.block _ (by simp; omega) (hnb _ (Nat.le_refl _))).trans (blk_alloc hg4.out (by omega))⟩⟩
      case measure => simp [intOf]; omega
    · obtain rfl : k = P := by omega
      have hkP' : ¬ ((k : Int) < (k : Int)) := by omega
      go_wp2_with fail
      (go_at_call 62; with_reducible refine (draw_any b A n c bs B (20) _ (bxinv (B := w.heap.size) ?_ HI) (by omega)).mono ?_; (focus (repeat (first | (with_reducible assumption) | (with_reducible exact BX.refl _ _ _) | (with_reducible refine BX.drewN ?_ _) | (with_reducible refine BX.drew ?_) | ((with_reducible refine BX.alloc ?_ ?_ _); rotate_left; (focus (first | (simp; done) | omega | (simp; omega) | (simp [srcP]; done) | (simp [srcP]; omega)))) | ((with_reducible refine BX.setCell ?_ ?_ ?_ _); rotate_left; (focus (first | (simp; done) | omega | (simp; omega) | (simp [srcP]; done) | (simp [srcP]; omega))); (focus (first | (simp; done) | omega | (simp; omega) | (simp [srcP]; done) | (simp [srcP]; omega))))))); rintro e5 w5 ⟨u5, rfl, ⟨r5, rfl, hr5a, hr5b⟩, hb5⟩; have hB5 : BX (srcP 97 b A n c bs B) w.heap.size w w5 := BX.then (by (repeat (first | (with_reducible assumption) | (with_reducible exact BX.refl _ _ _) | (with_reducible refine BX.drewN ?_ _) | (with_reducible refine BX.drew ?_) | ((with_reducible refine BX.alloc ?_ ?_ _); rotate_left; (focus (first | (simp; done) | omega | (simp; omega) | (simp [srcP]; done) | (simp [srcP]; omega)))) | ((with_reducible refine BX.setCell ?_ ?_ ?_ _); rotate_left; (focus (first | (simp; done) | omega | (simp; omega) | (simp [srcP]; done) | (simp [srcP]; omega))); (focus (first | (simp; done) | omega | (simp; omega) | (simp [srcP]; done) | (simp [srcP]; omega))))))) (by first | omega | (simp; done) | (simp; omega)) hb5; have hc5 := bxcell hb5; have hf5 := bxfrozen hb5; simp only [srcP_b] at hc5 hf5)
      (have hh5 := Lib.hid (show w5.heap[w.heap.size]? = some (.cells #[.int .i64 0, .int .i64 0, .slice none 0 0] 41 (0, 0)) from (hb5.block (w.heap.size) (by first | omega | (simp; done) | (simp; omega) | (simp [srcP]; omega)) (by first | omega | (simp; done) | (simp; omega) | (simp [srcP]; omega))).trans (by repeat (first | (with_reducible exact HZo.out) | (with_reducible exact heap_alloc_new _ _) | (rw [heap_drew1]) | (rw [heap_drewN1]) | (rw [Below.heap_setCell _ _ _ _ (by first | omega | (simp; done) | (simp; omega) | (simp [srcP]; omega))]) | (rw [Below.heap_alloc _ _ _ (by first | omega | (simp; done) | (simp; omega) | (simp [srcP]; omega))])))))
      (have hg5 := Lib.hid (show w5.heap[w2.heap.size]? = some (.cells #[.int .i64 (1 + r1), .int .i64 (1 + r2), .slice none 0 0] 41 (0, 0)) from (hb5.block (w2.heap.size) (by first | omega | (simp; done) | (simp; omega) | (simp [srcP]; omega)) (by first | omega | (simp; done) | (simp; omega) | (simp [srcP]; omega))).trans (by repeat (first | (with_reducible exact HGo.out) | (with_reducible exact heap_alloc_new _ _) | (rw [heap_drew1]) | (rw [heap_drewN1]) | (rw [Below.heap_setCell _ _ _ _ (by first | omega | (simp; done) | (simp; omega) | (simp [srcP]; omega))]) | (rw [Below.heap_alloc _ _ _ (by first | omega | (simp; done) | (simp; omega) | (simp [srcP]; omega))])))))
      have hs5 := hb5.size
      have hbo5 : b < w5.heap.size := by omega
      have HO5 := Lib.hid (HOY.out.bx hb5 (show b < w2.heap.size + 1 by omega))
      have hs5' : Hid (w2.heap.size + 1 ≤ w5.heap.size) := Lib.hid (by omega)
      have HB5 := Lib.hid hB5
      clear hc5 hf5 hb5 y0 y1 y2 yf
      have hwG1 : w.heap.size < w2.heap.size + 1 := by omega
      by_cases e0 : r5 = 0
      · subst e0
        have HI := HI0
        have hyl := HYL.out
        have hnb : ∀ j, j ≤ w2.heap.size → some j ≠ Value.ownBlock u4 := fun j hj e => by have := (World.ownsRow.lt HO5.out j e.symm).1; omega
        have HB5' := HB5
        go_wp2_with ((at_builtin; refine wpList_append_own _ rfl _ _ 22 rfl ((w2.heap.size + 1)) 2 i0 (.int .i64 0) 1 8 Try.underlying22 HI.out.2.1 HI.out.2.2.1 HI.out.2.2.2.1 HI.out.2.2.2.2 rfl (by decide) _ _ _ rfl (Own.alloc HO5.out _) ⟨w5.heap.size, 0, none⟩ 1 1 [.int .i64 (0)] rfl rfl (cell_one_new _ _ _) (one_ok _) (own_max HO5.out (by omega)) (own_bytes HO5.out (by omega)) (own_base hs5'.out) ?_; intro va wa howna hgrowa _; have hoa := Lib.hid (Own.snoc howna); have hga := Lib.hid hgrowa; clear howna hgrowa); have hB6 := Lib.hid ((BX.alloc HB5'.out (show w.heap.size ≤ w5.heap.size by omega) (.cells #[.int .i64 0] 2)).grown hga.out (by simp; omega) (fun j hj => by have := (World.ownsRow.lt HO5.out j hj).1; simp; omega)); have HZ6 := Lib.hid ((hga.out.block _ (by simp; omega) (hnb _ (by omega))).trans (blk_alloc hh5.out (by omega))); have HG6 := Lib.hid ((hga.out.block _ (by simp; omega) (hnb _ (Nat.le_refl _))).trans (blk_alloc hg5.out (by omega))); have hlen9 : (ys ++ [0]).length = k + 1 := (by simp [HYL.out]); have HOA := hoa.out; obtain ⟨Aa, ca, rfl, -⟩ := hoa.out.shape; rw [hlen9] at HOA ⊢; have HOA := Lib.hid HOA; obtain ⟨y0, y1, y2, -⟩ := blk3 HG6.out; obtain ⟨z0, z1, z2, zf⟩ := blk3 HZ6.out; obtain ⟨s0, s1, s2⟩ := res3 HZ6.out (.int .i64 (1 + r1)) (.int .i64 (1 + r2)) (.slice Aa (k + 1) ca))
        (try simp only [Exit.inBlock, Exit.then]); refine bodyPost_ret (by simp [results, Try.results64, go_sem, s0, s1, s2]; try rfl) rfl ?_
        exact ⟨_, rfl, ⟨_, _, _, ys ++ [0], rfl, by simp, by simp; omega, ((((HOA.out.setLt (p := ⟨w.heap.size, 0, none⟩) hwG1 _).setLt (p := ⟨w.heap.size, 1, none⟩) hwG1 _).setLt (p := ⟨w.heap.size, 2, none⟩) hwG1 _)).more (Nat.le_of_lt hwG1), by omega, by omega, by omega, by omega⟩, ((hB6.out.setCell (p := ⟨w.heap.size, 0, none⟩) (Nat.le_refl _) hbw _).setCell (p := ⟨w.heap.size, 1, none⟩) (Nat.le_refl _) hbw _).setCell (p := ⟨w.heap.size, 2, none⟩) (Nat.le_refl _) hbw _⟩
      · have e0' : (r5 == 0) = false := by simpa using e0
        obtain ⟨g8, c8, rfl, hg8, hg8w, hcc, hff⟩ := HO5.out.row (by rw [HYL.out]; omega)
        have hyl := HYL.out
        rw [hyl] at hcc
        have HO5' : Hid (Own w5 (w2.heap.size + 1) (.slice (some ⟨g8, 0, none⟩) k c8) ys) := Lib.hid (by have := HO5.out; rwa [hyl] at this)
        rw [hyl]
        have hb8 : b < g8 := by omega
        have hz8 : w.heap.size < g8 := by omega
        by_cases e1 : r5 = 1
        · subst e1
          have hck := hcc 0 (by omega)
          have hfk := hff 0
          have HZ6 : Hid ((w5.setCell ⟨g8, 0, none⟩ (.int .i64 2)).heap[w.heap.size]? = _) := Lib.hid (blk_other hh5.out (by omega))
          have HG6 : Hid ((w5.setCell ⟨g8, 0, none⟩ (.int .i64 2)).heap[w2.heap.size]? = _) := Lib.hid (blk_other hg5.out (by omega))
          have HO6 := Lib.hid (Own.setn (k := 0) (u := 2) hyl HO5'.out)
          have hB6 := Lib.hid (HB5.out.setCell (p := ⟨g8, 0, none⟩) (show w.heap.size ≤ g8 by omega) hb8 (.int .i64 2))
          obtain ⟨y0, y1, y2, -⟩ := blk3 HG6.out
          obtain ⟨z0, z1, z2, zf⟩ := blk3 HZ6.out
          obtain ⟨s0, s1, s2⟩ := res3 HZ6.out (.int .i64 (1 + r1)) (.int .i64 (1 + r2)) (.slice (some ⟨g8, 0, none⟩) k c8)
          clear hcc hff hyl
          go_wp2_with fail
          (try simp only [Exit.inBlock, Exit.then]); refine bodyPost_ret (by simp [results, Try.results64, go_sem, s0, s1, s2]; try rfl) rfl ?_
          exact ⟨_, rfl, ⟨_, _, _, ys.set 0 2, rfl, by rw [List.length_set, HYL.out]; omega, by rw [List.length_set, HYL.out]; omega, ((((HO6.out.setLt (p := ⟨w.heap.size, 0, none⟩) hwG1 _).setLt (p := ⟨w.heap.size, 1, none⟩) hwG1 _).setLt (p := ⟨w.heap.size, 2, none⟩) hwG1 _)).more (Nat.le_of_lt hwG1), by omega, by omega, by omega, by omega⟩, ((hB6.out.setCell (p := ⟨w.heap.size, 0, none⟩) (Nat.le_refl _) hbw _).setCell (p := ⟨w.heap.size, 1, none⟩) (Nat.le_refl _) hbw _).setCell (p := ⟨w.heap.size, 2, none⟩) (Nat.le_refl _) hbw _⟩
        · have e1' : (r5 == 1) = false := by simpa using e1
          by_cases e2 : r5 = 2
          · subst e2
            clear hcc hff hyl
            go_wp2_with fail
            (go_at_call 62; with_reducible refine (draw_any b A n c bs B (3) _ (bxinv (B := w.heap.size) ?_ HI) (by omega)).mono ?_; (focus (repeat (first | (with_reducible assumption) | (with_reducible exact BX.refl _ _ _) | (with_reducible refine BX.drewN ?_ _) | (with_reducible refine BX.drew ?_) | ((with_reducible refine BX.alloc ?_ ?_ _); rotate_left; (focus (first | (simp; done) | omega | (simp; omega) | (simp [srcP]; done) | (simp [srcP]; omega)))) | ((with_reducible refine BX.setCell ?_ ?_ ?_ _); rotate_left; (focus (first | (simp; done) | omega | (simp; omega) | (simp [srcP]; done) | (simp [srcP]; omega))); (focus (first | (simp; done) | omega | (simp; omega) | (simp [srcP]; done) | (simp [srcP]; omega))))))); rintro e6 w6 ⟨u6, rfl, ⟨r6, rfl, hr6a, hr6b⟩, hb6⟩; have hB6 : BX (srcP 97 b A n c bs B) w.heap.size w w6 := BX.then (by (repeat (first | (with_reducible assumption) | (with_reducible exact BX.refl _ _ _) | (with_reducible refine BX.drewN ?_ _) | (with_reducible refine BX.drew ?_) | ((with_reducible refine BX.alloc ?_ ?_ _); rotate_left; (focus (first | (simp; done) | omega | (simp; omega) | (simp [srcP]; done) | (simp [srcP]; omega)))) | ((with_reducible refine BX.setCell ?_ ?_ ?_ _); rotate_left; (focus (first | (simp; done) | omega | (simp; omega) | (simp [srcP]; done) | (simp [srcP]; omega))); (focus (first | (simp; done) | omega | (simp; omega) | (simp [srcP]; done) | (simp [srcP]; omega))))))) (by first | omega | (simp; done) | (simp; omega)) hb6; have hc6 := bxcell hb6; have hf6 := bxfrozen hb6; simp only [srcP_b] at hc6 hf6)
            have hs6 := hb6.size
            simp only [World.size_alloc] at hs6
            have hh6 : w6.heap[w5.heap.size]? = some (.cells ([0, -1, 40001].map (Value.int .i64)).toArray 2 (0, 0)) := (hb6.block w5.heap.size (by simp) (by simp; omega)).trans (heap_alloc_new _ _)
            obtain ⟨R, v, rfl, hR, hv, hv1, hv2⟩ := pick_in (xs := [0, -1, 40001]) (lo := -1) (hi := 40001) (by decide) hr6a (by simp; omega)
            have hck := pick_lit hh6 hv
            have hR' : R < 3 := hR
            have HO6 := Lib.hid (Own.bx (w := w5.alloc (.cells ([0, -1, 40001].map (Value.int .i64)).toArray 2)) (HO5'.out.keep ((Below.refl _ _).alloc (Nat.le_refl _) _)) hb6 (show b < w2.heap.size + 1 by omega))
            have HZ6 := Lib.hid ((hb6.block w.heap.size (by simp; omega) (by simp; omega)).trans (blk_alloc hh5.out (by omega)))
            have HG6 := Lib.hid ((hb6.block w2.heap.size (by simp; omega) (by simp; omega)).trans (blk_alloc hg5.out (by omega)))
            have HB6 := Lib.hid (hB6.setCell (p := ⟨w2.heap.size, 0, none⟩) (show w.heap.size ≤ w2.heap.size by omega) (show b < w2.heap.size by omega) (.int .i64 v))
            have HZ7 : Hid ((w6.setCell ⟨w2.heap.size, 0, none⟩ (.int .i64 v)).heap[w.heap.size]? = _) := Lib.hid (blk_other HZ6.out (by omega))
            obtain ⟨y0, y1, y2, yf⟩ := blk3 HG6.out
            obtain ⟨x0, x1, x2, -⟩ := blk3 (blk3_0 (u := .int .i64 v) HG6.out)
            obtain ⟨z0, z1, z2, zf⟩ := blk3 HZ7.out
            obtain ⟨s0, s1, s2⟩ := res3 HZ7.out (.int .i64 v) (.int .i64 (1 + r2)) (.slice (some ⟨g8, 0, none⟩) k c8)
            have HO7 := Lib.hid (HO6.out.setLt (p := ⟨w2.heap.size, 0, none⟩) (Nat.lt_succ_self _) (.int .i64 v))
            clear hh6 hv hc6 hf6 hb6 hB6
            go_wp2_with fail
            (try simp only [Exit.inBlock, Exit.then]); refine bodyPost_ret (by simp [results, Try.results64, go_sem, s0, s1, s2]; try rfl) rfl ?_
            exact ⟨_, rfl, ⟨_, _, _, ys, rfl, by rw [HYL.out]; omega, by rw [HYL.out]; omega, ((((HO7.out.setLt (p := ⟨w.heap.size, 0, none⟩) hwG1 _).setLt (p := ⟨w.heap.size, 1, none⟩) hwG1 _).setLt (p := ⟨w.heap.size, 2, none⟩) hwG1 _)).more (Nat.le_of_lt hwG1), by omega, by omega, by omega, by omega⟩, ((HB6.out.setCell (p := ⟨w.heap.size, 0, none⟩) (Nat.le_refl _) hbw _).setCell (p := ⟨w.heap.size, 1, none⟩) (Nat.le_refl _) hbw _).setCell (p := ⟨w.heap.size, 2, none⟩) (Nat.le_refl _) hbw _⟩
          · have e2' : (r5 == 2) = false := by simpa using e2
            obtain ⟨y0, y1, y2, yf⟩ := blk3 hg5.out
            obtain ⟨z0, z1, z2, zf⟩ := blk3 hh5.out
            obtain ⟨s0, s1, s2⟩ := res3 hh5.out (.int .i64 (1 + r1)) (.int .i64 (1 + r2)) (.slice (some ⟨g8, 0, none⟩) k c8)
            clear hcc hff hyl
            go_wp2_with fail
            (try simp only [Exit.inBlock, Exit.then]); refine bodyPost_ret (by simp [results, Try.results64, go_sem, s0, s1, s2]; try rfl) rfl ?_
            exact ⟨_, rfl, ⟨_, _, _, ys, rfl, by rw [HYL.out]; omega, by rw [HYL.out]; omega, ((((HO5'.out.setLt (p := ⟨w.heap.size, 0, none⟩) hwG1 _).setLt (p := ⟨w.heap.size, 1, none⟩) hwG1 _).setLt (p := ⟨w.heap.size, 2, none⟩) hwG1 _)).more (Nat.le_of_lt hwG1), by omega, by omega, by omega, by omega⟩, ((HB5.out.setCell (p := ⟨w.heap.size, 0, none⟩) (Nat.le_refl _) hbw _).setCell (p := ⟨w.heap.size, 1, none⟩) (Nat.le_refl _) hbw _).setCell (p := ⟨w.heap.size, 2, none⟩) (Nat.le_refl _) hbw _⟩

end Go.Proofs.Ytkipaefhnmfebaa
